import Derived.RangeFuncFrom
import Derived.Test.YtmnjakejhbpkoaaGreatDoorVShelf1
set_option linter.unusedSimpArgs false
set_option linter.unusedVariables false
set_option maxRecDepth 100000
set_option maxHeartbeats 2000000
namespace Go.Proofs.YtmnjakejhbpkoaaGreatDoor
open Go Go.RowKit Go.Shelf
def wl (k x:Nat):List Nat:=((List.range 64).filter (fun j=>x.testBit j)).map (fun j=>64*k+j+1)
theorem ZdH(p:Nat→Bool)(n k:Nat)(hk:k<n)(hp:p k=true)(h0:∀j,j<k→p j=false) :
  (List.range n).filter p=k :: (List.range n).filter (fun j=>p j && decide (j≠k)):=by
 obtain⟨m,rfl⟩:∃m,n=k+(m+1):=⟨n - k - 1,by omega⟩;rw[List.range_add,List.filter_append,List.filter_append,List.range_succ_eq_map]
 have e1:(List.range k).filter p=[]:=by
  rw[List.filter_eq_nil_iff];intro j hj;simp at hj;simp[h0 j hj]
 have e2:(List.range k).filter (fun j=>p j && decide (j≠k))=[]:=by
  rw[List.filter_eq_nil_iff];intro j hj;simp at hj;simp[h0 j hj]
 rw[e1,e2];simp only[List.nil_append,List.map_cons,Nat.add_zero,List.filter_cons,hp,if_true,ne_eq,not_true_eq_false,decide_false,Bool.and_false,Bool.false_eq_true,if_false]
 congr 1
 apply List.filter_congr
 intro x hx;simp at hx;obtain⟨y,_,rfl⟩:=hx;simp
theorem ZlQ(k:Nat):wl k 0=[]:=by simp[wl]
theorem ZlP(k x:Nat)(h0:x≠0)(h:x<2 ^ 64):wl k x=(64*k+Lib.ctz 64 x+1) :: wl k (x &&& (x - 1)):=by
 obtain⟨m,hm,hk⟩:=Lib.ctzFrom_spec 64 x (by omega) h;have e:Lib.ctz 64 x=Lib.ctzFrom 64 x:=by simp[Lib.ctz,h0]
 rw[e];generalize Lib.ctzFrom 64 x=c at *;have ef:=Nat.two_pow_pos c
 have t1:∀j,x.testBit j=if j<c then false else (2*m+1).testBit (j - c):=fun j=>by
  have:=Nat.testBit_two_pow_mul_add (2*m+1) (i:=c) (b:=0) ef j;rw[Nat.add_zero,←hm]at this;rw[this];simp
 have e2:x - 1=2 ^ c*(2*m)+(2 ^ c - 1):=by
  rw[hm,Nat.mul_add];omega
 have t2:∀j,(x - 1).testBit j=if j<c then true else (2*m).testBit (j - c):=fun j=>by
  rw[e2,Nat.testBit_two_pow_mul_add (2*m) (i:=c) (b:=2 ^ c - 1) (by omega) j]
  by_cases hj:j<c <;> simp[hj]
 have t3:∀j,(2*m+1).testBit j=if j=0 then true else (2*m).testBit j:=fun j=>by
  cases j with
  | zero=>simp
  | succ j=>simp[Nat.testBit_succ];congr 1;omega
 unfold wl;rw[ZdH (fun j=>x.testBit j) 64 c hk (by simp[t1]) (fun j hj=>by simp[t1,hj])];simp only[List.map_cons]
 congr 2
 apply List.filter_congr
 intro j _;rw[Nat.testBit_and,t1,t2]
 by_cases hj:j<c
 ·simp[hj]
 ·simp only[hj,if_false,t3]
  by_cases iu:j=c
  ·subst iu;simp
  ·simp[iu,show ¬ j - c=0 from by omega]
def ZdS (s:Zak):List Nat:=((List.range 128).filter (fun i=>s.getLsbD i)).map (·+1)
theorem Zh1(s:Zak):ZdS s=wl 0 (s.setWidth 64).toNat++wl 1 ((s >>> 64).setWidth 64).toNat:=by
 unfold ZdS wl;rw[show List.range 128=List.range 64++(List.range 64).map (fun x=>64+x) from by rw[←List.range_add],List.filter_append,List.map_append,List.filter_map,List.map_map]
 congr 1
 ·have:(List.range 64).filter (fun i=>s.getLsbD i)=(List.range 64).filter (fun j=>(s.setWidth 64).toNat.testBit j):=by
   apply List.filter_congr
   intro j hj;simp at hj;rw[BitVec.testBit_toNat,BitVec.getLsbD_setWidth];simp[hj]
  rw[this]
  apply List.map_congr_left;intro j _;omega
 ·have:(List.range 64).filter ((fun i=>s.getLsbD i) ∘ fun x=>64+x)=(List.range 64).filter (fun j=>((s >>> 64).setWidth 64).toNat.testBit j):=by
   apply List.filter_congr
   intro j hj;simp at hj;rw[BitVec.testBit_toNat,BitVec.getLsbD_setWidth,BitVec.getLsbD_ushiftRight];simp[hj]
  rw[this]
  apply List.map_congr_left;intro j _;simp[Nat.add_assoc]
theorem ZeL(s:Zak):ZbL s=(ZdS s).headD 0:=by
 unfold ZbL ZdS;rw[←List.head?_filter]
 cases (List.range 128).filter (fun i=>s.getLsbD i) <;> simp
theorem ZoD(k x:Nat):(wl k x).length≤64:=by
 unfold wl;rw[List.length_map];exact Zpp (List.length_filter_le _ _) (by simp)
theorem Zk5(s:Zak):(ZdS s).length≤128:=by
 unfold ZdS;rw[List.length_map];exact Zpp (List.length_filter_le _ _) (by simp)
attribute [local go_sem] Oper.semAt_some
def wlo (s:Zak):Nat:=(s.setWidth 64).toNat
def whi (s:Zak):Nat:=((s >>> 64).setWidth 64).toNat
theorem Zm3(s:Zak):wlo s<18446744073709551616:=BitVec.isLt _
theorem Zm2(s:Zak):whi s<18446744073709551616:=BitVec.isLt _
theorem Zk6(s:Zak):ZdS s=wl 0 (wlo s)++wl 1 (whi s):=Zh1 s
theorem Zh2(n:Nat)(hn:1≤n)(l Bn n₀:Nat)(s:Zak)(J Jx:List Nat→World→Prop)
  (hY:∀pre x W,J pre W→pre.length<128→YieldAt Fence.wide (n - 1) Tryz.prog l #[.int .i64 (x:Nat)] W fun e W' =>
    (e= .returned (.bool true)∧J (pre++[x]) W'∧Below n₀ W W')∨(e= .returned (.bool false)∧Jx (pre++[x]) W'))
  (W:World) (fQ:W.cell? ⟨Bn,0,none⟩=some (.int .u64 (lo s))) (eC:W.cell? ⟨Bn,1,none⟩=some (.int .u64 (hi s))) (hT:ZaX W) (hn₀:1<n₀) (h0:J [] W) :
  CallsIn Fence.wide n Tryz.prog 200 #[.func (.yield l) #[] #[],.pointer (some ⟨Bn,0,none⟩)] W fun e W'=>(∃v,e= .returned v) ∧
   ((∃ys,ys=ZdS s∧J ys W')∨(∃pre,pre <+: ZdS s∧Jx pre W')):=by
 refine callsIn_of_wp Tryz.func200 rfl trivial ?_ rfl;simp only[Tryz.ntmps200,List.size_toArray,ZpC,List.length_nil,Nat.reduceAdd,Nat.reduceSub,Array.replicate_succ,Array.replicate_zero,List.push_toArray,List.append_toArray,List.nil_append,List.cons_append];have i0:∀w,(Instr.index 41 (Value.agg #[Value.int IntKind.u64 (lo s),Value.int IntKind.u64 (hi s)]) (Value.int IntKind.i64 0)).run Tryz.prog w= .ok (.int .u64 (wlo s:Int)) w:=fun _=>by kernel_rfl
 have i1:∀w,(Instr.index 41 (Value.agg #[Value.int IntKind.u64 (lo s),Value.int IntKind.u64 (hi s)]) (Value.int IntKind.i64 1)).run Tryz.prog w= .ok (.int .u64 (whi s:Int)) w:=fun _=>by kernel_rfl
 gi_wp2
 gi_loopw [6] (fun i wr=>∃(k:Nat) (pre:List Nat),k≤2∧i= .int .i64 k∧Hid (pre=(if k=0 then [] else if k=1 then wl 0 (wlo s) else ZdS s))∧J pre wr∧Hid (ZaX wr))
  (fun i wr=>2 - (intOf i).toNat)
 case atStart=>exact⟨0,[],by omega,rfl,Zpe (by simp),h0,Zpe hT⟩
 case round =>
  obtain⟨k,pre,hk,rfl,lG,hJ,hT1⟩:=hrel;obtain mW|rfl:k<2∨k=2:=by omega
  ·obtain rfl|rfl:k=0∨k=1:=by omega
   ·gi_wp2
    gi_loopw [4] (fun v wr=>∃(x:Nat) (pr:List Nat),v= .int .u64 x∧x<18446744073709551616∧Hid (pr++wl 0 x=wl 0 (wlo s))∧J pr wr∧Hid (ZaX wr))
     (fun v wr=>(intOf v).toNat)
    case atStart=>exact⟨_,pre,rfl,by first|exact Zm3 s|exact Zm2 s,Zpe (by rw[lG.out];simp),hJ,hT1⟩
    case round =>
     obtain⟨x,pr,rfl,hx,jl,rF,oX⟩:=hrel
     by_cases aV:x=0
     ·have aH:((x:Int) !=0)=false:=by simp[aV]
      gi_wp2
      go_roundw
      case rel=>exact⟨0+1,pr,by omega,rfl,Zpe (by have:=jl.out;rw[aV,ZlQ,List.append_nil]at this;rw[this];simp),rF,oX⟩
      case measure=>simp[intOf]
     ·have aH:((x:Int) !=0)=true:=by simp[aV]
      have hc:=ZmU x aV hx;have aW:=Zpe (ZlP 0 x aV hx)
      have gG:pr.length<128:=by
       have:=congrArg List.length (jl.out);rw[aW.out]at this;simp at this;have:=(ZoD 0 (wlo s));omega
      have wM:bits .and .u64 (x:Int) ((x:Int) - 1)=((x &&& (x - 1):Nat):Int):=by
       rw[show ((x:Int) - 1)=((x - 1:Nat):Int) from by omega,bits_and_u64_nat _ _ hx (by omega)]
      have aE:x &&& (x - 1)≤x - 1:=Nat.and_le_right;have aC:1≤(x:Int):=by omega
      clear aV;have mq:=Zpe (Zm1 x hx wr oX.out);generalize rr:Lib.ctz 64 x=c at *;replace rr:=Zpe rr;obtain⟨fn,tmps,assign,body,hy,hR⟩:=hY pr (64*0+c+1) wr rF gG;rw[show ((64*0+c+1:Nat):Int)=(c:Int)+1 from by omega]at hy
      gi_wp2_with (refine⟨trivial,?_⟩;gi_at_call 201;refine(callsIn_wide.2 mq.out).mono ?_;rintro e w' ⟨rfl,rfl⟩)
      refine hR.mono ?_;clear hR hy;rintro e W3 (⟨rfl,vW,ou⟩|⟨rfl,oM⟩)
      ·have vx:=Zpe (oX.out.below hn₀ ou)
       gi_wp2
       go_roundw
       case rel=>exact⟨_,_,rfl,by omega,Zpe (by rw[←jl.out,aW.out];simp),vW,vx⟩
       case measure=>simp[intOf];omega
      ·gi_wp2
       refine bodyPost_ret (results_none rfl _ _ _) rfl ?_;exact⟨⟨_,rfl⟩,.inr ⟨_,⟨wl 0 (x &&& (x - 1))++wl 1 (whi s),by rw[Zk6,←jl.out,aW.out];simp⟩,oM⟩⟩
   ·gi_wp2
    gi_loopw [4] (fun v wr=>∃(x:Nat) (pr:List Nat),v= .int .u64 x∧x<18446744073709551616∧Hid (pr++wl 1 x=ZdS s)∧J pr wr∧Hid (ZaX wr))
     (fun v wr=>(intOf v).toNat)
    case atStart=>exact⟨_,pre,rfl,by first|exact Zm3 s|exact Zm2 s,Zpe (by rw[lG.out,Zk6];simp),hJ,hT1⟩
    case round =>
     obtain⟨x,pr,rfl,hx,jl,rF,oX⟩:=hrel
     by_cases aV:x=0
     ·have aH:((x:Int) !=0)=false:=by simp[aV]
      gi_wp2
      go_roundw
      case rel=>exact⟨1+1,pr,by omega,rfl,Zpe (by have:=jl.out;rw[aV,ZlQ,List.append_nil]at this;rw[this];simp),rF,oX⟩
      case measure=>simp[intOf]
     ·have aH:((x:Int) !=0)=true:=by simp[aV]
      have hc:=ZmU x aV hx;have aW:=Zpe (ZlP 1 x aV hx)
      have gG:pr.length<128:=by
       have:=congrArg List.length (jl.out);rw[aW.out]at this;simp at this;have:=(Zk5 s);omega
      have wM:bits .and .u64 (x:Int) ((x:Int) - 1)=((x &&& (x - 1):Nat):Int):=by
       rw[show ((x:Int) - 1)=((x - 1:Nat):Int) from by omega,bits_and_u64_nat _ _ hx (by omega)]
      have aE:x &&& (x - 1)≤x - 1:=Nat.and_le_right;have aC:1≤(x:Int):=by omega
      clear aV;have mq:=Zpe (Zm1 x hx wr oX.out);generalize rr:Lib.ctz 64 x=c at *;replace rr:=Zpe rr;obtain⟨fn,tmps,assign,body,hy,hR⟩:=hY pr (64*1+c+1) wr rF gG;rw[show ((64*1+c+1:Nat):Int)=64+(c:Int)+1 from by omega]at hy
      gi_wp2_with (refine⟨trivial,?_⟩;gi_at_call 201;refine(callsIn_wide.2 mq.out).mono ?_;rintro e w' ⟨rfl,rfl⟩)
      refine hR.mono ?_;clear hR hy;rintro e W3 (⟨rfl,vW,ou⟩|⟨rfl,oM⟩)
      ·have vx:=Zpe (oX.out.below hn₀ ou)
       gi_wp2
       go_roundw
       case rel=>exact⟨_,_,rfl,by omega,Zpe (by rw[←jl.out,aW.out];simp),vW,vx⟩
       case measure=>simp[intOf];omega
      ·gi_wp2
       refine bodyPost_ret (results_none rfl _ _ _) rfl ?_;exact⟨⟨_,rfl⟩,.inr ⟨_,⟨wl 1 (x &&& (x - 1)),by rw[←jl.out,aW.out];simp⟩,oM⟩⟩
  ·gi_wp2
   go_end0
   have:=lG.out;simp at this;subst this;exact⟨⟨_,rfl⟩,.inl ⟨_,rfl,hJ⟩⟩
theorem ZjI(n:Nat)(s:Zak)(w:World) :
  CallsIn Fence.wide n Tryz.prog 165 #[.agg #[.int .u64 (lo s),.int .u64 (hi s)]] w fun e w'=>e= .returned (.func (.func 200) #[] #[.pointer (some ⟨w.heap.size,0,none⟩)])∧w.alloc (.cells #[.int .u64 (lo s),.int .u64 (hi s)] 41)=w':=by
 refine callsIn_of_wp Tryz.func165 rfl trivial ?_ rfl;simp only[Tryz.ntmps165,List.size_toArray,ZpC,List.length_nil,Nat.reduceAdd,Nat.reduceSub,Array.replicate_succ,Array.replicate_zero,List.push_toArray,List.append_toArray,List.nil_append,List.cons_append]
 gi_wp2
 go_ret;exact⟨rfl,rfl⟩
theorem Za8{W:World}{B:Nat}{v:Value}{t:TypeId}(h:W.heap[B]? =some (.cells #[v] t (0,0))):W.cell? ⟨B,0,none⟩=some v∧W.frozen? ⟨B,0,none⟩=false:=by
 constructor <;> simp[World.cell?,World.frozen?,h]
theorem ZbG{a w:World}(h:Ext a w)(l:Nat)(o:Obj)(hl:a.heap.size≤l):Ext a (w.putObj l o) :=
 ⟨h.below.trans ⟨rfl,rfl,rfl,by simp,fun k hk=>World.putObj_heap_other (by omega)⟩,h.drawn⟩
theorem Zfl{g:Operand}{p:Tmp}{assign body:Code}{Q:Exit→Act→World→Prop}{tmps:Array Value}{w0 W0:World}{s:Zak}{Bn:Nat}
  (hg:({ tmps:=tmps,defers:=[] }:Act).eval g= .func (.func 200) #[] #[.pointer (some ⟨Bn,0,none⟩)])
  (aV:Ext w0 W0) (hT:ZaX w0) (hb:W0.heap[Bn]? =some (.cells #[.int .u64 (lo s),.int .u64 (hi s)] 41 (0,0)))
  (rb:Nat) (rv:Value) (rt:TypeId) (hr:W0.heap[rb]? =some (.cells #[rv] rt (0,0))) (A1:Nat→Act)
  (mM:∀(l:Nat) (x:Nat) (W:World) (K:Act→World→Prop),K (A1 x) W→assign.wpIn (Fence.wide.inRound l) 1 Tryz.prog (Exit.then K (fun _ _ _=>False)) { tmps:=tmps.setIfInBounds p (.int .i64 x),defers:=[] } W)
  (rc:∀(l:Nat) (x:Nat) (W:World),W.heap[rb]? =some (.cells #[rv] rt (0,0))→body.wpIn (Fence.wide.inRound l) 1 Tryz.prog (fun e _ W'=>e= .ret∧W'=W.setCell ⟨rb,0,none⟩ (.int .i64 x)) (A1 x) W)
  (sZ:∀W,ZdS s=[]→Ext w0 W→W.heap[rb]? =some (.cells #[rv] rt (0,0))→W.heap[W0.heap.size]? =some (.deferred (some []))→Q .normal { tmps:=tmps,defers:=[{ target:=.collected W0.heap.size,args:=#[] }] } W)
  (tJ:∀x W,[x] <+: ZdS s→w0.heap.size≤rb→(∃W',Ext w0 W'∧W'.heap[rb]? =some (.cells #[rv] rt (0,0))∧W'.heap[W0.heap.size]? =some (.deferred (some []))∧W=W'.setCell ⟨rb,0,none⟩ (.int .i64 (x:Nat)))→Q .ret { tmps:=tmps,defers:=[{ target:=.collected W0.heap.size,args:=#[] }] } W)
  (hrb:w0.heap.size≤rb) :
  (Code.rangeFunc g #[p] assign body).wpIn Fence.wide 3 Tryz.prog Q { tmps:=tmps,defers:=[] } W0:=by
 refine wpIn_rangeFunc ?_;intro fn fU;have jn:rb<W0.heap.size:=(Zpi hr).1;have iP:Bn<W0.heap.size:=(Zpi hb).1;have bW:=aV.size;obtain⟨R,hR⟩:∃R:LoopState→Option Code→Loop,R=fun st pe=>{ state:=st,pending:=pe,fn,tmps:=tmps,params:=#[p],assign:=assign,body:=body,defers:=W0.heap.size }:=⟨_,rfl⟩
 obtain⟨W1,qI⟩:∃W1,(W0.alloc (.deferred (some []))).alloc (.loop (R .ready none))=W1:=⟨_,rfl⟩;have aC:Ext w0 W1:=by rw[←qI];exact(aV.alloc _).alloc _
 have cM:W1.heap.size=W0.heap.size+2:=by rw[←qI];simp
 have vY:W1.heap[W0.heap.size+1]? =some (.loop (R .ready none)):=by
  rw[←qI];have:=World.alloc_heap_new (W0.alloc (.deferred (some []))) (.loop (R .ready none));rwa [World.size_alloc]at this
 have kB:W1.heap[W0.heap.size]? =some (.deferred (some [])):=by
  rw[←qI];exact(Below.heap_alloc _ _ _ (by simp)).trans (World.alloc_heap_new W0 _)
 have cH:∀k,k<W0.heap.size→W1.heap[k]? =W0.heap[k]?:=fun k hk=>by
  rw[←qI];exact(Below.heap_alloc _ _ _ (by simp;omega)).trans (Below.heap_alloc _ _ _ hk)
 have aS:=(cH Bn iP).trans hb;have iE:=(cH rb jn).trans hr
 refine⟨W0.heap.size+1,[{ target:=.collected W0.heap.size,args:=#[] }],W1,{ target:=.fn (.func 200) #[.pointer (some ⟨Bn,0,none⟩)],args:=#[.func (.yield (W0.heap.size+1)) #[] #[]] },W1,200,
  #[.func (.yield (W0.heap.size+1)) #[] #[]]++#[.pointer (some ⟨Bn,0,none⟩)],W1,?_,?_,fun _ _=>trivial,?_,fun _=>by omega,?_⟩
 ·rw[←qI,hR];exact run_enterLoop_outer _ _ _ _ _
 ·simp only[resolve,rangeCall,hg]
  simp[go_sem]
 ·simp[invoke,go_sem,enters_of Tryz.func200 (by kernel_rfl) rfl]
 ·refine(Zh2 2 (by omega) (W0.heap.size+1) Bn w0.heap.size s (fun pre W=>pre=[]∧W=W1)
   (fun pre W=>∃x:Nat,pre=[x]∧W=((W1.putObj (W0.heap.size+1) (.loop (R .busy none))).setCell ⟨rb,0,none⟩ (.int .i64 x)).putObj (W0.heap.size+1) (.loop (R .done (some .ret))))
   ?round W1 (by simp[World.cell?,aS]) (by simp[World.cell?,aS]) (hT.ext aC) hT.lt ⟨rfl,rfl⟩).mono ?post
  case round =>
   rintro pre x W ⟨rfl,rfl⟩ -
   have hy:(Instr.yield (W0.heap.size+1) #[.int .i64 (x:Nat)]).run Tryz.prog W= .ok (.round (W0.heap.size+1) fn (tmps.setIfInBounds p (.int .i64 x)) assign body) W:=by
    have:=run_yield (P:=Tryz.prog) (args:=#[.int .i64 (x:Nat)]) vY (by rw[hR];rfl);rw[hR]at this;simpa using this
   have hbg:(Instr.beginRound (W0.heap.size+1)).run Tryz.prog W= .ok () (W.putObj (W0.heap.size+1) (.loop (R .busy none))):=by
    have:=run_beginRound (P:=Tryz.prog) vY (by rw[hR]);rw[hR]at this ⊢;exact this
   refine⟨_,_,_,_,hy,roundIn_of_wpIn trivial (mM _ x W _ ⟨_,hbg,?_⟩)⟩;refine wpIn_mono (rc _ x _ ((World.putObj_heap_other (by omega)).trans iE)) ?_;rintro e a3 W3 ⟨rfl,rfl⟩
   have xM:((W.putObj (W0.heap.size+1) (.loop (R .busy none))).setCell ⟨rb,0,none⟩ (.int .i64 x)).heap[W0.heap.size+1]? =some (.loop (R .busy none)) :=
    (Below.heap_setCell _ _ _ _ (by simp;omega)).trans (World.putObj_heap_same (by omega))
   have he:=run_endRound (P:=Tryz.prog) (some .ret) xM;rw[hR]at he ⊢;exact⟨_,_,he,.inr ⟨rfl,x,rfl,rfl⟩⟩
  case post =>
   rintro e W2 ⟨⟨v,rfl⟩,(⟨ys,uh,rfl,rfl⟩|⟨pre,lG,x,rfl,rfl⟩)⟩
   ·have he:=run_endLoop (P:=Tryz.prog) vY (by rw[hR];simp)
    rw[show (R .ready none).pending=none from by rw[hR]]at he;refine⟨none,_,he,sZ _ uh.symm (ZbG aC _ _ (by omega)) ((World.putObj_heap_other (by omega)).trans iE) ((World.putObj_heap_other (by omega)).trans kB)⟩
   ·have xM:(((W1.putObj (W0.heap.size+1) (.loop (R .busy none))).setCell ⟨rb,0,none⟩ (.int .i64 x)).putObj (W0.heap.size+1) (.loop (R .done (some .ret)))).heap[W0.heap.size+1]? =some (.loop (R .done (some .ret))) :=
     World.putObj_heap_same (by simp[World.setCell];omega)
    have he:(Instr.endLoop (W0.heap.size+1)).run Tryz.prog (((W1.putObj (W0.heap.size+1) (.loop (R .busy none))).setCell ⟨rb,0,none⟩ (.int .i64 x)).putObj (W0.heap.size+1) (.loop (R .done (some .ret))))= .ok (some .ret) ((((W1.putObj (W0.heap.size+1) (.loop (R .busy none))).setCell ⟨rb,0,none⟩ (.int .i64 x)).putObj (W0.heap.size+1) (.loop (R .done (some .ret)))).putObj (W0.heap.size+1) (.loop (R .exhausted (some .ret)))):=by
     have:=run_endLoop (P:=Tryz.prog) xM (by rw[hR];simp);rw[hR]at this ⊢;exact this
    refine⟨some .ret,_,he,wpIn_ret ?_⟩;refine tJ x _ lG hrb ⟨((W1.putObj (W0.heap.size+1) (.loop (R .busy none))).putObj (W0.heap.size+1) (.loop (R .done (some .ret)))).putObj (W0.heap.size+1) (.loop (R .exhausted (some .ret))),ZbG (ZbG (ZbG aC _ _ (by omega)) _ _ (by omega)) _ _ (by omega),?_,?_,?_⟩
    ·exact((World.putObj_heap_other (by omega)).trans ((World.putObj_heap_other (by omega)).trans (World.putObj_heap_other (by omega)))).trans iE
    ·exact((World.putObj_heap_other (by omega)).trans ((World.putObj_heap_other (by omega)).trans (World.putObj_heap_other (by omega)))).trans kB
    ·have hc:∀(A:World) (o:Obj),(A.putObj (W0.heap.size+1) o).setCell ⟨rb,0,none⟩ (.int .i64 x)=(A.setCell ⟨rb,0,none⟩ (.int .i64 x)).putObj (W0.heap.size+1) o:=fun A o=>by
      simp only[World.putObj,World.setCell]
      congr 1
      apply Array.ext_getElem?
      intro k;simp only[Array.getElem?_modify,Array.getElem?_setIfInBounds,Array.size_modify]
      by_cases h1:rb=k <;> by_cases h2:W0.heap.size+1=k <;> simp[h1,h2] <;> omega
     simp only[hc]
theorem ZkB(s:Zak)(w:World)(hT:ZaX w) :
  Calls Tryz.prog 231 #[ZaT s] w fun e w'=>e= .returned (.int .i64 (ZbL s))∧Ext w w':=by
 unfold ZaT;refine(callsIn_wide (n:=3)).1 ?_;refine callsIn_of_wp_marks Tryz.func231 rfl trivial ?_;simp only[Tryz.ntmps231,List.size_toArray,ZpC,List.length_nil,Nat.reduceAdd,Nat.reduceSub,Array.replicate_succ,Array.replicate_zero,List.push_toArray,List.append_toArray,List.nil_append,List.cons_append]
 gi_wp2_with (refine⟨trivial,?_⟩;gi_at_call 165;refine(ZjI _ _ _).mono ?_;rintro e w' ⟨rfl,rfl⟩)
 -- the blocks: the set's box,the result's,the iterator's
 have aV:Ext w (((w.alloc (.cells #[.int .u64 (lo s),.int .u64 (hi s)] 41)).alloc (.cells #[.int .i64 0] 3)).alloc (.cells #[.int .u64 (lo s),.int .u64 (hi s)] 41)):=(((Ext.refl w).alloc _).alloc _).alloc _
 have hr0:(((w.alloc (.cells #[.int .u64 (lo s),.int .u64 (hi s)] 41)).alloc (.cells #[.int .i64 0] 3)).alloc (.cells #[.int .u64 (lo s),.int .u64 (hi s)] 41)).heap[w.heap.size+1]? =some (.cells #[.int .i64 0] 3 (0,0)):=by
  refine(Below.heap_alloc _ _ _ (by simp)).trans ?_;have:=World.alloc_heap_new (w.alloc (.cells #[.int .u64 (lo s),.int .u64 (hi s)] 41)) (.cells #[.int .i64 0] 3);rwa [World.size_alloc]at this
 have kD:(((w.alloc (.cells #[.int .u64 (lo s),.int .u64 (hi s)] 41)).alloc (.cells #[.int .i64 0] 3)).alloc (.cells #[.int .u64 (lo s),.int .u64 (hi s)] 41)).heap[w.heap.size+1+1]? =some (.cells #[.int .u64 (lo s),.int .u64 (hi s)] 41 (0,0)):=by
  have:=World.alloc_heap_new ((w.alloc (.cells #[.int .u64 (lo s),.int .u64 (hi s)] 41)).alloc (.cells #[.int .i64 0] 3)) (.cells #[.int .u64 (lo s),.int .u64 (hi s)] 41);rwa [World.size_alloc,World.size_alloc]at this
 have eI:(((w.alloc (.cells #[.int .u64 (lo s),.int .u64 (hi s)] 41)).alloc (.cells #[.int .i64 0] 3)).alloc (.cells #[.int .u64 (lo s),.int .u64 (hi s)] 41)).heap.size=w.heap.size+3:=by simp
 generalize (((w.alloc (.cells #[.int .u64 (lo s),.int .u64 (hi s)] 41)).alloc (.cells #[.int .i64 0] 3)).alloc (.cells #[.int .u64 (lo s),.int .u64 (hi s)] 41))=W0 at *;have hT0:=hT.ext aV;refine Zfl (s:=s) (Bn:=w.heap.size+1+1) rfl aV hT kD (w.heap.size+1) _ _ hr0 (fun x=>{ tmps:=#[.agg #[.int .u64 (lo s),.int .u64 (hi s)],.pointer (some ⟨w.heap.size,0,none⟩),.pointer (some ⟨w.heap.size+1,0,none⟩),.int .i64 x,.agg #[.int .u64 (lo s),.int .u64 (hi s)],.func (.func 200) #[] #[.pointer (some ⟨w.heap.size+1+1,0,none⟩)],.int .i64 x,undef],defers:=[] }) ?assign ?body ?none ?some (by omega)
 case assign =>
  intro l x W K hK
  gi_wp2
  exact hK
 case body =>
  intro l x W hr;have aT:=(Za8 hr).1;have sA:=(Za8 hr).2
  gi_wp2
 case none =>
  intro W hl hx hr hK;have hf:ZbL s=0:=by rw[ZeL,hl];rfl
  have aT:=(Za8 hr).1;have sA:=(Za8 hr).2;clear hl;have hf:=Zpe hf;have hK:=Zpe hK;have hx:=Zpe hx
  gi_wp2
  have vX:(W.setCell ⟨w.heap.size+1,0,none⟩ (.int .i64 0)).heap[W0.heap.size]? =some (.deferred (some [])):=(Below.heap_setCell _ _ _ _ (by simp;omega)).trans hK.out;refine⟨by simp,.inl ⟨_,_,rfl,run_takeDeferred vX,?_⟩⟩
  have wU:((W.setCell ⟨w.heap.size+1,0,none⟩ (.int .i64 0)).putObj W0.heap.size (.deferred none)).cell? ⟨w.heap.size+1,0,none⟩=some (.int .i64 0):=by
   rw[World.cell?,World.putObj_heap_other (by simp;omega)];exact World.cell?_setCell_same' W ⟨w.heap.size+1,0,none⟩ (.int .i64 0) (by rw[aT];rfl)
  refine⟨.int .i64 0,?_,by rw[hf.out];rfl,ZbG (hx.out.setCell (p:=⟨w.heap.size+1,0,none⟩) (by simp) _) _ _ (by omega)⟩;simp[results,Tryz.f231,go_sem,wU]
 case some =>
  intro x W hp hrb hW
  have hf:ZbL s=x:=by
   obtain⟨t,ht⟩:=hp;rw[ZeL,←ht];rfl
  obtain⟨W',hx,hr,hK,rfl⟩:=hW;have aT:=(Za8 hr).1
  gi_wp2
  have vX:(W'.setCell ⟨w.heap.size+1,0,none⟩ (.int .i64 x)).heap[W0.heap.size]? =some (.deferred (some [])):=(Below.heap_setCell _ _ _ _ (by simp;omega)).trans hK;refine⟨by simp,.inl ⟨_,_,rfl,run_takeDeferred vX,?_⟩⟩
  have wU:((W'.setCell ⟨w.heap.size+1,0,none⟩ (.int .i64 x)).putObj W0.heap.size (.deferred none)).cell? ⟨w.heap.size+1,0,none⟩=some (.int .i64 x):=by
   rw[World.cell?,World.putObj_heap_other (by simp;omega)];exact World.cell?_setCell_same' W' ⟨w.heap.size+1,0,none⟩ (.int .i64 x) (by rw[aT];rfl)
  refine⟨.int .i64 x,?_,by rw[hf],ZbG (hx.setCell (p:=⟨w.heap.size+1,0,none⟩) (by simp) _) _ _ (by omega)⟩;simp[results,Tryz.f231,go_sem,wU]
end Go.Proofs.YtmnjakejhbpkoaaGreatDoor
namespace Go.Proofs.YtmnjakejhbpkoaaGreatDoor
open Go Go.RowKit
theorem Zfj(a b:Zak)(w:World) :
  Calls Tryz.prog 138 #[ZaT a,ZaT b] w fun e w'=>e= .returned (ZaT (a ||| b))∧Ext w w':=by
 unfold ZaT
 go_enter Tryz.func138,Tryz.ntmps138
 go_wp2
 go_returns
 exact⟨by simp[ZoX,ZoW],⟨by go_grown,ZpD _⟩⟩
theorem Zg7(a b:Zak)(w:World) :
  Calls Tryz.prog 172 #[ZaT a,ZaT b] w fun e w'=>e= .returned (ZaT (a &&& ~~~b))∧Ext w w':=by
 unfold ZaT
 go_enter Tryz.func172,Tryz.ntmps172
 go_wp2
 go_returns
 exact⟨by simp[Zkf,Zke],⟨by go_grown,ZpD _⟩⟩
theorem ZiV(v:Int)(w:World)(h:v<1∨128<v) :
  Calls Tryz.prog 174 #[.int .i64 v] w fun e w'=>e= .returned (.tuple #[.int .i64 0,.int .u64 0,.bool false])∧w=w':=by
 have hb:(decide (v<1) || decide (128<v))=true:=by simpa using h
 go_enter Tryz.func174,Tryz.ntmps174
 go_wp2
 all_goals go_returns
 all_goals exact⟨rfl,rfl⟩
def ZdG (v:Int):Int:=IntKind.u64.wrap (2 ^ ((v - 1) % 64).toNat)
theorem Zhb(v:Int)(w:World)(h1:1≤v)(h2:v≤128) :
  Calls Tryz.prog 174 #[.int .i64 v] w fun e w'=>e= .returned (.tuple #[.int .i64 ((v - 1) / 64),.int .u64 (ZdG v),.bool true])∧w=w':=by
 go_enter Tryz.func174,Tryz.ntmps174
 go_wp2
 all_goals go_returns
 all_goals exact⟨rfl,rfl⟩
theorem ZiU(v:Int)(w:World)(h1:1≤v)(h2:v≤64) :
  Calls Tryz.prog 174 #[.int .i64 v] w fun e w'=>e= .returned (.tuple #[.int .i64 0,.int .u64 (ZdG v),.bool true])∧w=w':=by
 have:=Zhb v w h1 (by omega)
 rwa [show (v - 1) / 64=0 from by omega]at this
theorem ZiT(v:Int)(w:World)(h1:65≤v)(h2:v≤128) :
  Calls Tryz.prog 174 #[.int .i64 v] w fun e w'=>e= .returned (.tuple #[.int .i64 1,.int .u64 (ZdG v),.bool true])∧w=w':=by
 have:=Zhb v w (by omega) (by omega)
 rwa [show (v - 1) / 64=1 from by omega]at this
theorem Zen(v:Int)(h1:1≤v):ZdG v=((BitVec.twoPow 64 ((v - 1) % 64).toNat).toNat:Int):=by
 have hb:((v - 1) % 64).toNat<64:=by omega
 unfold ZdG;rw[IntKind.wrap_u64,BitVec.toNat_twoPow];have:(2:Nat) ^ ((v - 1) % 64).toNat<2 ^ 64:=Nat.pow_lt_pow_right (by omega) hb;rw[Nat.mod_eq_of_lt this];have h3:((2:Int) ^ ((v - 1) % 64).toNat)=(((2:Nat) ^ ((v - 1) % 64).toNat:Nat):Int):=by simp
 rw[h3];generalize 2 ^ ((v - 1) % 64).toNat=m at *;omega
theorem Zkg(x:BitVec 64)(n:Nat)(hn:n<64):(bits .and .u64 (x.toNat:Int) ((BitVec.twoPow 64 n).toNat:Int) !=0)=x.getLsbD n:=by
 rw[ZhI,BitVec.and_twoPow]
 cases x.getLsbD n
 ·simp
 ·have:(BitVec.twoPow 64 n).toNat≠0:=by
   rw[BitVec.toNat_twoPow,Nat.mod_eq_of_lt (Nat.pow_lt_pow_right (by omega) hn)];exact Nat.pos_iff_ne_zero.1 (Nat.two_pow_pos n)
  simp only[if_true,bne_iff_ne,ne_eq,Int.natCast_eq_zero];exact this
theorem Zol(a:Zak)(v:Int)(h1:1≤v)(h2:v≤64):(bits .and .u64 (lo a) (ZdG v) !=0)=Zau a v:=by
 rw[Zen v h1,lo,Zkg _ _ (by omega)];have e1:((v - 1) % 64).toNat=(v - 1).toNat:=by omega
 rw[e1,BitVec.getLsbD_setWidth];simp only[Zau,h1,show v≤128 from by omega,show (v-1).toNat<64 from by omega,decide_true,Bool.true_and]
theorem Zok(a:Zak)(v:Int)(h1:65≤v)(h2:v≤128):(bits .and .u64 (hi a) (ZdG v) !=0)=Zau a v:=by
 rw[Zen v (by omega),hi,Zkg _ _ (by omega)];have e1:64+((v - 1) % 64).toNat=(v - 1).toNat:=by omega
 rw[BitVec.getLsbD_setWidth,BitVec.getLsbD_ushiftRight,e1];simp only[Zau,h2,show 1≤v from by omega,show ((v - 1) % 64).toNat<64 from by omega,decide_true,Bool.true_and]
theorem ZdM(a:Zak)(v:Int)(w:World)(h1:-9223372036854775808≤v)(h2:v≤9223372036854775807) :
  Calls Tryz.prog 114 #[ZaT a,.int .i64 v] w fun e w'=>e= .returned (.bool (Zau a v))∧Ext w w':=by
 unfold ZaT
 by_cases h:v<1∨128<v
 ·have hv:Zau a v=false:=by simp[Zau];omega
  rw[hv];clear hv
  go_enter Tryz.func114,Tryz.ntmps114
  go_wp2_with (go_at_call 174;refine(ZiV _ _ h).mono ?_;rintro e w' ⟨rfl,rfl⟩)
  go_returns
  exact⟨rfl,⟨by go_grown,ZpD _⟩⟩
 ·by_cases hs:v≤64
  ·rw[←Zol a v (by omega) hs]
   go_enter Tryz.func114,Tryz.ntmps114
   go_wp2_with (go_at_call 174;refine(ZiU _ _ (by omega) hs).mono ?_;rintro e w' ⟨rfl,rfl⟩)
   go_returns
   exact⟨rfl,⟨by go_grown,ZpD _⟩⟩
  ·rw[←Zok a v (by omega) (by omega)]
   go_enter Tryz.func114,Tryz.ntmps114
   go_wp2_with (go_at_call 174;refine(ZiT _ _ (by omega) (by omega)).mono ?_;rintro e w' ⟨rfl,rfl⟩)
   go_returns
   exact⟨rfl,⟨by go_grown,ZpD _⟩⟩
theorem ZiH(a b:Zak)(w:World)(hT:ZaX w) :
  Calls Tryz.prog 206 #[ZaT a,ZaT b] w fun e w'=>e= .returned (.bool (ZaM a b))∧Ext w w':=by
 unfold ZaT
 go_enter Tryz.func206,Tryz.ntmps206
 go_wp2_with fail
 have F1:∀w':World,Ext ((w.alloc (Obj.cells #[Value.int IntKind.u64 (lo a),Value.int IntKind.u64 (hi a)] 41)).alloc (Obj.cells #[Value.int IntKind.u64 (lo b),Value.int IntKind.u64 (hi b)] 41)) w' →
   w'.cell? ⟨w.heap.size,0,none⟩=some (.int .u64 (lo a))∧w'.cell? ⟨w.heap.size,1,none⟩=some (.int .u64 (hi a))∧w'.cell? ⟨w.heap.size+1,0,none⟩=some (.int .u64 (lo b))∧w'.cell? ⟨w.heap.size+1,1,none⟩=some (.int .u64 (hi b)) :=
  fun w' h=>⟨h.cell (by go_simp),h.cell (by go_simp),h.cell (by go_simp),h.cell (by go_simp)⟩
 (refine Zah (by kernel_rfl) (by kernel_rfl) ?_
  repeat (refine wpQuiet_step (fun K hK=>?_)
          go_simp
          first
           | (refine hK _ ?_;clear hK K)
           | (replace hK:=Zpe hK
              apply Exists.intro
              refine⟨fun wq hq=>?_,hK.out _ ?_⟩
              ·(obtain⟨f1,f2,f3,f4⟩:=F1 wq hq)
               go_simp
               first
                | done
                | rfl
                | exact⟨rfl,rfl⟩
                | (refine(Zg7 _ _ _).mono ?_;rintro e w' ⟨rfl,hb⟩;exact⟨rfl,hq.trans hb⟩)|(refine(Zfj _ _ _).mono ?_;rintro e w' ⟨rfl,hb⟩;exact⟨rfl,hq.trans hb⟩)|(refine(ZkB _ _ (hT.ext (((Ext.refl w).alloc _).alloc _) |>.ext hq)).mono ?_;rintro e w' ⟨rfl,hb⟩;exact⟨rfl,hq.trans hb⟩)
              clear hK K))
  refine wpQuiet_nil ?_)
 intro w1 aD;obtain⟨f1,f2,f3,f4⟩:=F1 w1 aD;have hB:Ext w w1:=(((Ext.refl w).alloc _).alloc _).trans aD;have gG:=ZkA (a &&& ~~~b ||| b &&& ~~~a);clear aD F1;have hl:=Zpe (show ZaM a b=(decide (0<ZbL (a &&& ~~~b ||| b &&& ~~~a)) && !Zau a (ZbL (a &&& ~~~b ||| b &&& ~~~a))) from rfl);generalize ZbL (a &&& ~~~b ||| b &&& ~~~a)=o at *
 by_cases ho:0<o
 ·go_wp2_with (go_at_call 114;refine(ZdM a _ _ (by omega) (by omega)).mono ?_;rintro e w' ⟨rfl,hb⟩)
  go_returns
  exact⟨by rw[hl.out];simp[ho],hB.trans hb⟩
 ·go_wp2_with fail
  go_returns
  exact⟨by rw[hl.out];simp[ho],hB⟩
theorem ZlO(a:Zak)(v:Int)(h1:1≤v)(h2:v≤64):bits .or .u64 (lo a) (ZdG v)=lo (ZaA a v)∧hi (ZaA a v)=hi a:=by
 rw[Zen v h1];unfold lo hi ZaA;rw[if_pos ⟨h1,by omega⟩,ZcO];have e:((v - 1) % 64).toNat=(v - 1).toNat:=by omega
 rw[e]
 constructor
 ·congr 2
  apply BitVec.eq_of_getLsbD_eq
  intro i hi;simp only[BitVec.getLsbD_or,BitVec.getLsbD_setWidth,BitVec.getLsbD_twoPow,hi,decide_true,Bool.true_and];rw[show decide ((v - 1).toNat<64)=true from by simp;omega,show decide ((v - 1).toNat<128)=true from by simp;omega]
 ·congr 2
  apply BitVec.eq_of_getLsbD_eq
  intro i hi;simp only[BitVec.getLsbD_or,BitVec.getLsbD_setWidth,BitVec.getLsbD_ushiftRight,BitVec.getLsbD_twoPow,hi,decide_true,Bool.true_and];rw[show decide ((v - 1).toNat=64+i)=false from by simp;omega];simp
theorem ZlN(a:Zak)(v:Int)(h1:65≤v)(h2:v≤128):bits .or .u64 (hi a) (ZdG v)=hi (ZaA a v)∧lo (ZaA a v)=lo a:=by
 rw[Zen v (by omega)];unfold lo hi ZaA;rw[if_pos ⟨by omega,by omega⟩,ZcO];have e:64+((v - 1) % 64).toNat=(v - 1).toNat:=by omega
 constructor
 ·congr 2
  apply BitVec.eq_of_getLsbD_eq
  intro i hi;simp only[BitVec.getLsbD_or,BitVec.getLsbD_setWidth,BitVec.getLsbD_ushiftRight,BitVec.getLsbD_twoPow,hi,decide_true,Bool.true_and]
  congr 1
  rw[←e];have:((v - 1) % 64).toNat<64:=by omega
  by_cases hh:((v - 1) % 64).toNat=i <;> simp[hh,this] <;> omega
 ·congr 2
  apply BitVec.eq_of_getLsbD_eq
  intro i hi;simp only[BitVec.getLsbD_or,BitVec.getLsbD_setWidth,BitVec.getLsbD_twoPow,hi,decide_true,Bool.true_and];rw[show decide ((v - 1).toNat=i)=false from by simp;omega];simp
theorem Zex(a:Zak)(v:Int)(w:World) :
  Calls Tryz.prog 113 #[ZaT a,.int .i64 v] w fun e w'=>e= .returned (ZaT (ZaA a v))∧Ext w w':=by
 unfold ZaT
 by_cases h:v<1∨128<v
 ·have hv:ZaA a v=a:=if_neg (by omega)
  rw[hv];clear hv
  go_enter Tryz.func113,Tryz.ntmps113
  go_wp2_with (go_at_call 174;refine(ZiV _ _ h).mono ?_;rintro e w' ⟨rfl,rfl⟩)
  go_returns
  exact⟨rfl,⟨by go_grown,ZpD _⟩⟩
 ·by_cases hs:v≤64
  ·obtain⟨e1,e2⟩:=ZlO a v (by omega) hs
   rw[e2,←e1];clear e1 e2
   go_enter Tryz.func113,Tryz.ntmps113
   go_wp2_with (go_at_call 174;refine(ZiU _ _ (by omega) hs).mono ?_;rintro e w' ⟨rfl,rfl⟩)
   go_returns
   exact⟨rfl,⟨by go_grown,ZpD _⟩⟩
  ·obtain⟨e1,e2⟩:=ZlN a v (by omega) (by omega)
   rw[e2,←e1];clear e1 e2
   go_enter Tryz.func113,Tryz.ntmps113
   go_wp2_with (go_at_call 174;refine(ZiT _ _ (by omega) (by omega)).mono ?_;rintro e w' ⟨rfl,rfl⟩)
   go_returns
   exact⟨rfl,⟨by go_grown,ZpD _⟩⟩
end Go.Proofs.YtmnjakejhbpkoaaGreatDoor
namespace Go.Proofs.YtmnjakejhbpkoaaGreatDoor
open Go Go.RowKit
theorem Zmx(l:List Int)(k:Nat)(hk:k<l.length):ofS (l.take (k+1))=ZaA (ofS (l.take k)) l[k]:=by
 unfold ofS;rw[List.take_succ_eq_append_getElem hk,List.foldl_append]
 rfl
theorem Zot(l:List Int)(v:Value)(w:World)(hv:SlI w v l)(hl:l.length≤9223372036854775807) :
  Calls Tryz.prog 49 #[v] w fun e w'=>e= .returned (ZaT (ofS l))∧Ext w w':=by
 obtain⟨ba,cp,rfl,hv⟩:=hv;replace hv:=Zpe hv;unfold ZaT
 go_enter Tryz.func49,Tryz.ntmps49
 go_wp2_with fail
 go_loopw [8] (fun i wr=>∃k:Nat,k≤l.length∧i= .int .i64 k∧(wr.heap[w.heap.size+1]? =some (.cells #[.int .u64 (lo (ofS (l.take k))),.int .u64 (hi (ofS (l.take k)))] 41 (0,0))∧wr.heap[w.heap.size]? =some (.cells #[.int .u64 0,.int .u64 0] 41 (0,0))∧Ext w wr))
  (fun i _=>l.length - (intOf i).toNat)
 case atStart =>
  refine⟨0,Nat.zero_le _,rfl,?_,?_,((Ext.refl w).alloc _).alloc _⟩
  ·have:=Zpm (w.alloc (.cells #[.int .u64 0,.int .u64 0] 41)) (.cells #[.int .u64 0,.int .u64 0] 41)
   rw[World.size_alloc]at this;rw[show lo (ofS (l.take 0))=0 from by simp[ofS,lo],show hi (ofS (l.take 0))=0 from by simp[ofS,hi]];exact this
  ·exact(Below.heap_alloc _ _ _ (by simp)).trans (Zpm w _)
 case round =>
  obtain⟨k,hk,rfl,hH,hz,hx⟩:=hrel;have c0:wr.cell? ⟨w.heap.size+1,0,none⟩=some (.int .u64 (lo (ofS (l.take k)))):=by simp[World.cell?,hH]
  have c1:wr.cell? ⟨w.heap.size+1,1,none⟩=some (.int .u64 (hi (ofS (l.take k)))):=by simp[World.cell?,hH]
  have z0:wr.cell? ⟨w.heap.size,0,none⟩=some (.int .u64 0):=by simp[World.cell?,hz]
  have z1:wr.cell? ⟨w.heap.size,1,none⟩=some (.int .u64 0):=by simp[World.cell?,hz]
  have y0:wr.frozen? ⟨w.heap.size,0,none⟩=false:=by simp[World.frozen?,hz]
  have y1:wr.frozen? ⟨w.heap.size,1,none⟩=false:=by simp[World.frozen?,hz]
  by_cases aE:k<l.length
  ·obtain⟨b,o,rfl,aO⟩:∃b o,ba=some ⟨b,o,none⟩∧∀j (hj:j<l.length),w.cell? ⟨b,o+j,none⟩=some (.int .i64 l[j]):=by
    rcases hv.out with ⟨_,rfl,_⟩|h
    ·simp at aE
    ·exact h
   have f1:=hx.cell (aO k aE);have ht:=Zpe (Zmx l k aE);clear aO;generalize hs:ofS (l.take k)=s at *;generalize hu:l[k]=u at *;replace hs:=Zpe hs;replace hu:=Zpe hu;have bW:w.heap.size+1<wr.heap.size:=Zpk wr _ c0;clear z0 z1 y0 y1;replace hz:=Zpe hz;replace hH:=Zpe hH;have hw:=Zex s u wr;unfold ZaT at hw
   go_wp2_with (go_at_call 113;refine hw.mono ?_;rintro e w2 ⟨rfl,aF⟩;have b0:=aF.cell c0;have b1:=aF.cell c1;have q0:=(World.frozen?_of_block (a:=⟨w.heap.size+1,0,none⟩) (aF.below.block _ bW)).trans (show wr.frozen? ⟨w.heap.size+1,0,none⟩=false from by simp[World.frozen?,hH.out]);have q1:=(World.frozen?_of_block (a:=⟨w.heap.size+1,1,none⟩) (aF.below.block _ bW)).trans (show wr.frozen? ⟨w.heap.size+1,1,none⟩=false from by simp[World.frozen?,hH.out]))
   go_roundw
   case rel =>
    have hh2:=(aF.below.block _ bW).trans hH.out;refine⟨k+1,by omega,by go_num,?_,?_,((hx.trans aF).setCell (by simp) _).setCell (by simp) _⟩
    ·rw[ht.out]
     exact Zav hh2 _ _
    ·exact((Below.heap_setCell _ _ _ _ (by simp)).trans (Below.heap_setCell _ _ _ _ (by simp))).trans ((aF.below.block _ (by omega)).trans hz.out)
   case measure=>simp[intOf];omega
  ·obtain rfl:k=l.length:=by omega
   rw[List.take_length]at c0 c1;replace hz:=Zpe hz;replace hH:=Zpe hH;have bW:w.heap.size+1<wr.heap.size:=Zpk wr _ c0
   have r0:((wr.setCell ⟨w.heap.size,0,none⟩ (.int .u64 (lo (ofS l)))).setCell ⟨w.heap.size,1,none⟩ (.int .u64 (hi (ofS l)))).cell? ⟨w.heap.size,0,none⟩=some (.int .u64 (lo (ofS l))):=by
    rw[World.cell?,Zav hz.out];rfl
   have r1:((wr.setCell ⟨w.heap.size,0,none⟩ (.int .u64 (lo (ofS l)))).setCell ⟨w.heap.size,1,none⟩ (.int .u64 (hi (ofS l)))).cell? ⟨w.heap.size,1,none⟩=some (.int .u64 (hi (ofS l))):=by
    rw[World.cell?,Zav hz.out];rfl
   go_wp2_with fail;exact bodyPost_ret (v:=ZaT (ofS l)) (by simp[results,Tryz.results49,go_sem,r0,r1,ZaT]) rfl ⟨rfl,(hx.setCell (by simp) _).setCell (by simp) _⟩
end Go.Proofs.YtmnjakejhbpkoaaGreatDoor
