import Derived.RangeFuncFrom
import Derived.OwnWalkIn
import Derived.TacticsInMore
import Derived.LoopNIn
import Derived.LoopIn
import Derived.Test.YtemnmcfmabamcaaGreatDoorYShelf1
set_option linter.unusedSimpArgs false
set_option linter.unusedVariables false
set_option maxRecDepth 100000
set_option maxHeartbeats 2000000
namespace Go.Proofs.YtemnmcfmabamcaaGreatDoor
open Go Go.RowKit Go.Shelf
def wl (k x:Nat):List Nat:=((List.range 64).filter (fun j=>x.testBit j)).map (fun j=>64*k+j+1)
theorem Zep(p:Nat→Bool)(n k:Nat)(hk:k<n)(hp:p k=true)(h0:∀j,j<k→p j=false) :
  (List.range n).filter p=k :: (List.range n).filter (fun j=>p j && decide (j≠k)):=by
 obtain⟨m,rfl⟩:∃m,n=k+(m+1):=⟨n - k - 1,by omega⟩;rw[List.range_add,List.filter_append,List.filter_append,List.range_succ_eq_map]
 have e1:(List.range k).filter p=[]:=by
  rw[List.filter_eq_nil_iff];intro j hj;simp at hj;simp[h0 j hj]
 have e2:(List.range k).filter (fun j=>p j && decide (j≠k))=[]:=by
  rw[List.filter_eq_nil_iff];intro j hj;simp at hj;simp[h0 j hj]
 rw[e1,e2];simp only[List.nil_append,List.map_cons,Nat.add_zero,List.filter_cons,hp,if_true,ne_eq,not_true_eq_false,decide_false,Bool.and_false,Bool.false_eq_true,if_false]
 congr 1
 apply List.filter_congr
 intro x hx;simp at hx;obtain⟨y,_,rfl⟩:=hx;simp
theorem Znn(k:Nat):wl k 0=[]:=by simp[wl]
theorem Znm(k x:Nat)(h0:x≠0)(h:x<2 ^ 64):wl k x=(64*k+Lib.ctz 64 x+1) :: wl k (x &&& (x - 1)):=by
 obtain⟨m,hm,hk⟩:=Lib.ctzFrom_spec 64 x (by omega) h;have e:Lib.ctz 64 x=Lib.ctzFrom 64 x:=by simp[Lib.ctz,h0]
 rw[e];generalize Lib.ctzFrom 64 x=c at *;have nR:=Nat.two_pow_pos c
 have t1:∀j,x.testBit j=if j<c then false else (2*m+1).testBit (j - c):=fun j=>by
  have:=Nat.testBit_two_pow_mul_add (2*m+1) (i:=c) (b:=0) nR j;rw[Nat.add_zero,←hm]at this;rw[this];simp
 have e2:x - 1=2 ^ c*(2*m)+(2 ^ c - 1):=by
  rw[hm,Nat.mul_add];omega
 have t2:∀j,(x - 1).testBit j=if j<c then true else (2*m).testBit (j - c):=fun j=>by
  rw[e2,Nat.testBit_two_pow_mul_add (2*m) (i:=c) (b:=2 ^ c - 1) (by omega) j]
  by_cases hj:j<c <;> simp[hj]
 have t3:∀j,(2*m+1).testBit j=if j=0 then true else (2*m).testBit j:=fun j=>by
  cases j with
  | zero=>simp
  | succ j=>simp[Nat.testBit_succ];congr 1;omega
 unfold wl;rw[Zep (fun j=>x.testBit j) 64 c hk (by simp[t1]) (fun j hj=>by simp[t1,hj])];simp only[List.map_cons]
 congr 2
 apply List.filter_congr
 intro j _;rw[Nat.testBit_and,t1,t2]
 by_cases hj:j<c
 ·simp[hj]
 ·simp only[hj,if_false,t3]
  by_cases hjc:j=c
  ·subst hjc;simp
  ·simp[hjc,show ¬ j - c=0 from by omega]
def Zew (s:Zax):List Nat:=((List.range 128).filter (fun i=>s.getLsbD i)).map (·+1)
theorem ZiN(s:Zax):Zew s=wl 0 (s.setWidth 64).toNat++wl 1 ((s >>> 64).setWidth 64).toNat:=by
 unfold Zew wl;rw[show List.range 128=List.range 64++(List.range 64).map (fun x=>64+x) from by rw[←List.range_add],List.filter_append,List.map_append,List.filter_map,List.map_map]
 congr 1
 ·have:(List.range 64).filter (fun i=>s.getLsbD i)=(List.range 64).filter (fun j=>(s.setWidth 64).toNat.testBit j):=by
   apply List.filter_congr
   intro j hj;simp at hj;rw[BitVec.testBit_toNat,BitVec.getLsbD_setWidth];simp[hj]
  rw[this]
  apply List.map_congr_left;intro j _;omega
 ·have:(List.range 64).filter ((fun i=>s.getLsbD i) ∘ fun x=>64+x)=(List.range 64).filter (fun j=>((s >>> 64).setWidth 64).toNat.testBit j):=by
   apply List.filter_congr
   intro j hj;simp at hj;rw[BitVec.testBit_toNat,BitVec.getLsbD_setWidth,BitVec.getLsbD_ushiftRight];simp[hj]
  rw[this]
  apply List.map_congr_left;intro j _;simp[Nat.add_assoc]
theorem Zfr(s:Zax):Zb2 s=(Zew s).headD 0:=by
 unfold Zb2 Zew;rw[←List.head?_filter]
 cases (List.range 128).filter (fun i=>s.getLsbD i) <;> simp
theorem ZqS(k x:Nat):(wl k x).length≤64:=by
 unfold wl;rw[List.length_map];exact ZrC (List.length_filter_le _ _) (by simp)
theorem Zmd(s:Zax):(Zew s).length≤128:=by
 unfold Zew;rw[List.length_map];exact ZrC (List.length_filter_le _ _) (by simp)
attribute [local go_sem] Oper.semAt_some
def wlo (s:Zax):Nat:=(s.setWidth 64).toNat
def whi (s:Zax):Nat:=((s >>> 64).setWidth 64).toNat
theorem Zo6(s:Zax):wlo s<18446744073709551616:=BitVec.isLt _
theorem Zo4(s:Zax):whi s<18446744073709551616:=BitVec.isLt _
theorem Zme(s:Zax):Zew s=wl 0 (wlo s)++wl 1 (whi s):=ZiN s
theorem ZiO(n:Nat)(hn:1≤n)(l Bn n₀:Nat)(s:Zax)(J Jx:List Nat→World→Prop)
  (hY:∀pre x W,J pre W→pre.length<128→YieldAt Fence.wide (n - 1) Tryz.prog l #[.int .i64 (x:Nat)] W fun e W' =>
    (e= .returned (.bool true)∧J (pre++[x]) W'∧Below n₀ W W')∨(e= .returned (.bool false)∧Jx (pre++[x]) W'))
  (W:World) (nk:W.cell? ⟨Bn,0,none⟩=some (.int .u64 (lo s))) (dw:W.cell? ⟨Bn,1,none⟩=some (.int .u64 (hi s))) (hT:ZaY W) (hn₀:4<n₀) (h0:J [] W) :
  CallsIn Fence.wide n Tryz.prog 193 #[.func (.yield l) #[] #[],.pointer (some ⟨Bn,0,none⟩)] W fun e W'=>(∃v,e= .returned v) ∧
   ((∃ys,ys=Zew s∧J ys W')∨(∃pre,pre <+: Zew s∧Jx pre W')):=by
 refine callsIn_of_wp Tryz.func193 rfl trivial ?_ rfl;simp only[Tryz.ntmps193,List.size_toArray,ZrP,List.length_nil,Nat.reduceAdd,Nat.reduceSub,Array.replicate_succ,Array.replicate_zero,List.push_toArray,List.append_toArray,List.nil_append,List.cons_append];have i0:∀w,(Instr.index 82 (Value.agg #[Value.int IntKind.u64 (lo s),Value.int IntKind.u64 (hi s)]) (Value.int IntKind.i64 0)).run Tryz.prog w= .ok (.int .u64 (wlo s:Int)) w:=fun _=>by kernel_rfl
 have i1:∀w,(Instr.index 82 (Value.agg #[Value.int IntKind.u64 (lo s),Value.int IntKind.u64 (hi s)]) (Value.int IntKind.i64 1)).run Tryz.prog w= .ok (.int .u64 (whi s:Int)) w:=fun _=>by kernel_rfl
 gi_wp2
 gi_loopw [6] (fun i wr=>∃(k:Nat) (pre:List Nat),k≤2∧i= .int .i64 k∧Hid (pre=(if k=0 then [] else if k=1 then wl 0 (wlo s) else Zew s))∧J pre wr∧Hid (ZaY wr))
  (fun i wr=>2 - (intOf i).toNat)
 case atStart=>exact⟨0,[],by omega,rfl,Zrr (by simp),h0,Zrr hT⟩
 case round =>
  obtain⟨k,pre,hk,rfl,pG,hJ,hT1⟩:=hrel;obtain lh|rfl:k<2∨k=2:=by omega
  ·obtain rfl|rfl:k=0∨k=1:=by omega
   ·gi_wp2
    gi_loopw [4] (fun v wr=>∃(x:Nat) (pr:List Nat),v= .int .u64 x∧x<18446744073709551616∧Hid (pr++wl 0 x=wl 0 (wlo s))∧J pr wr∧Hid (ZaY wr))
     (fun v wr=>(intOf v).toNat)
    case atStart=>exact⟨_,pre,rfl,by first|exact Zo6 s|exact Zo4 s,Zrr (by rw[pG.out];simp),hJ,hT1⟩
    case round =>
     obtain⟨x,pr,rfl,hx,gq,xU,mw⟩:=hrel
     by_cases aW:x=0
     ·have aJ:((x:Int) !=0)=false:=by simp[aW]
      gi_wp2
      go_roundw
      case rel=>exact⟨0+1,pr,by omega,rfl,Zrr (by have:=gq.out;rw[aW,Znn,List.append_nil]at this;rw[this];simp),xU,mw⟩
      case measure=>simp[intOf]
     ·have aJ:((x:Int) !=0)=true:=by simp[aW]
      have hc:=ZoP x aW hx;have aM:=Zrr (Znm 0 x aW hx)
      have fE:pr.length<128:=by
       have:=congrArg List.length (gq.out);rw[aM.out]at this;simp at this;have:=(ZqS 0 (wlo s));omega
      have yJ:bits .and .u64 (x:Int) ((x:Int) - 1)=((x &&& (x - 1):Nat):Int):=by
       rw[show ((x:Int) - 1)=((x - 1:Nat):Int) from by omega,bits_and_u64_nat _ _ hx (by omega)]
      have aD:x &&& (x - 1)≤x - 1:=Nat.and_le_right;have aK:1≤(x:Int):=by omega
      clear aW;have rg:=Zrr (Zo2 x hx wr mw.out);generalize y9:Lib.ctz 64 x=c at *;replace y9:=Zrr y9;obtain⟨fn,tmps,assign,body,hy,hR⟩:=hY pr (64*0+c+1) wr xU fE;rw[show ((64*0+c+1:Nat):Int)=(c:Int)+1 from by omega]at hy
      gi_wp2_with (refine⟨trivial,?_⟩;gi_at_call 171;refine(callsIn_wide.2 rg.out).mono ?_;rintro e w' ⟨rfl,rfl⟩)
      refine hR.mono ?_;clear hR hy;rintro e W3 (⟨rfl,hJ3,rD⟩|⟨rfl,th⟩)
      ·have xw:=Zrr (mw.out.below hn₀ rD)
       gi_wp2
       go_roundw
       case rel=>exact⟨_,_,rfl,by omega,Zrr (by rw[←gq.out,aM.out];simp),hJ3,xw⟩
       case measure=>simp[intOf];omega
      ·gi_wp2
       refine bodyPost_ret (results_none rfl _ _ _) rfl ?_;exact⟨⟨_,rfl⟩,.inr ⟨_,⟨wl 0 (x &&& (x - 1))++wl 1 (whi s),by rw[Zme,←gq.out,aM.out];simp⟩,th⟩⟩
   ·gi_wp2
    gi_loopw [4] (fun v wr=>∃(x:Nat) (pr:List Nat),v= .int .u64 x∧x<18446744073709551616∧Hid (pr++wl 1 x=Zew s)∧J pr wr∧Hid (ZaY wr))
     (fun v wr=>(intOf v).toNat)
    case atStart=>exact⟨_,pre,rfl,by first|exact Zo6 s|exact Zo4 s,Zrr (by rw[pG.out,Zme];simp),hJ,hT1⟩
    case round =>
     obtain⟨x,pr,rfl,hx,gq,xU,mw⟩:=hrel
     by_cases aW:x=0
     ·have aJ:((x:Int) !=0)=false:=by simp[aW]
      gi_wp2
      go_roundw
      case rel=>exact⟨1+1,pr,by omega,rfl,Zrr (by have:=gq.out;rw[aW,Znn,List.append_nil]at this;rw[this];simp),xU,mw⟩
      case measure=>simp[intOf]
     ·have aJ:((x:Int) !=0)=true:=by simp[aW]
      have hc:=ZoP x aW hx;have aM:=Zrr (Znm 1 x aW hx)
      have fE:pr.length<128:=by
       have:=congrArg List.length (gq.out);rw[aM.out]at this;simp at this;have:=(Zmd s);omega
      have yJ:bits .and .u64 (x:Int) ((x:Int) - 1)=((x &&& (x - 1):Nat):Int):=by
       rw[show ((x:Int) - 1)=((x - 1:Nat):Int) from by omega,bits_and_u64_nat _ _ hx (by omega)]
      have aD:x &&& (x - 1)≤x - 1:=Nat.and_le_right;have aK:1≤(x:Int):=by omega
      clear aW;have rg:=Zrr (Zo2 x hx wr mw.out);generalize y9:Lib.ctz 64 x=c at *;replace y9:=Zrr y9;obtain⟨fn,tmps,assign,body,hy,hR⟩:=hY pr (64*1+c+1) wr xU fE;rw[show ((64*1+c+1:Nat):Int)=64+(c:Int)+1 from by omega]at hy
      gi_wp2_with (refine⟨trivial,?_⟩;gi_at_call 171;refine(callsIn_wide.2 rg.out).mono ?_;rintro e w' ⟨rfl,rfl⟩)
      refine hR.mono ?_;clear hR hy;rintro e W3 (⟨rfl,hJ3,rD⟩|⟨rfl,th⟩)
      ·have xw:=Zrr (mw.out.below hn₀ rD)
       gi_wp2
       go_roundw
       case rel=>exact⟨_,_,rfl,by omega,Zrr (by rw[←gq.out,aM.out];simp),hJ3,xw⟩
       case measure=>simp[intOf];omega
      ·gi_wp2
       refine bodyPost_ret (results_none rfl _ _ _) rfl ?_;exact⟨⟨_,rfl⟩,.inr ⟨_,⟨wl 1 (x &&& (x - 1)),by rw[←gq.out,aM.out];simp⟩,th⟩⟩
  ·gi_wp2
   go_end0
   have:=pG.out;simp at this;subst this;exact⟨⟨_,rfl⟩,.inl ⟨_,rfl,hJ⟩⟩
theorem ZkL(n:Nat)(s:Zax)(w:World) :
  CallsIn Fence.wide n Tryz.prog 188 #[.agg #[.int .u64 (lo s),.int .u64 (hi s)]] w fun e w'=>e= .returned (.func (.func 193) #[] #[.pointer (some ⟨w.heap.size,0,none⟩)])∧w.alloc (.cells #[.int .u64 (lo s),.int .u64 (hi s)] 82)=w':=by
 refine callsIn_of_wp Tryz.func188 rfl trivial ?_ rfl;simp only[Tryz.ntmps188,List.size_toArray,ZrP,List.length_nil,Nat.reduceAdd,Nat.reduceSub,Array.replicate_succ,Array.replicate_zero,List.push_toArray,List.append_toArray,List.nil_append,List.cons_append]
 gi_wp2
 go_ret;exact⟨rfl,rfl⟩
theorem Zbp{W:World}{B:Nat}{v:Value}{t:TypeId}(h:W.heap[B]? =some (.cells #[v] t (0,0))):W.cell? ⟨B,0,none⟩=some v∧W.frozen? ⟨B,0,none⟩=false:=by
 constructor <;> simp[World.cell?,World.frozen?,h]
theorem ZbZ{a w:World}(h:Ext a w)(l:Nat)(o:Obj)(hl:a.heap.size≤l):Ext a (w.putObj l o) :=
 ⟨h.below.trans ⟨rfl,rfl,rfl,by simp,fun k hk=>World.putObj_heap_other (by omega)⟩,h.drawn⟩
theorem Zf5{g:Operand}{p:Tmp}{assign body:Code}{Q:Exit→Act→World→Prop}{tmps:Array Value}{w0 W0:World}{s:Zax}{Bn:Nat}
  (hg:({ tmps:=tmps,defers:=[] }:Act).eval g= .func (.func 193) #[] #[.pointer (some ⟨Bn,0,none⟩)])
  (aW:Ext w0 W0) (hT:ZaY w0) (hb:W0.heap[Bn]? =some (.cells #[.int .u64 (lo s),.int .u64 (hi s)] 82 (0,0)))
  (rb:Nat) (rv:Value) (rt:TypeId) (hr:W0.heap[rb]? =some (.cells #[rv] rt (0,0))) (A1:Nat→Act)
  (qU:∀(l:Nat) (x:Nat) (W:World) (K:Act→World→Prop),K (A1 x) W→assign.wpIn (Fence.wide.inRound l) 1 Tryz.prog (Exit.then K (fun _ _ _=>False)) { tmps:=tmps.setIfInBounds p (.int .i64 x),defers:=[] } W)
  (yO:∀(l:Nat) (x:Nat) (W:World),W.heap[rb]? =some (.cells #[rv] rt (0,0))→body.wpIn (Fence.wide.inRound l) 1 Tryz.prog (fun e _ W'=>e= .ret∧W'=W.setCell ⟨rb,0,none⟩ (.int .i64 x)) (A1 x) W)
  (zL:∀W,Zew s=[]→Ext w0 W→W.heap[rb]? =some (.cells #[rv] rt (0,0))→W.heap[W0.heap.size]? =some (.deferred (some []))→Q .normal { tmps:=tmps,defers:=[{ target:=.collected W0.heap.size,args:=#[] }] } W)
  (zo:∀x W,[x] <+: Zew s→w0.heap.size≤rb→(∃W',Ext w0 W'∧W'.heap[rb]? =some (.cells #[rv] rt (0,0))∧W'.heap[W0.heap.size]? =some (.deferred (some []))∧W=W'.setCell ⟨rb,0,none⟩ (.int .i64 (x:Nat)))→Q .ret { tmps:=tmps,defers:=[{ target:=.collected W0.heap.size,args:=#[] }] } W)
  (wZ:w0.heap.size≤rb) :
  (Code.rangeFunc g #[p] assign body).wpIn Fence.wide 3 Tryz.prog Q { tmps:=tmps,defers:=[] } W0:=by
 refine wpIn_rangeFunc ?_;intro fn wJ;have zg:rb<W0.heap.size:=(Zrv hr).1;have dv:Bn<W0.heap.size:=(Zrv hb).1;have ac:=aW.size;obtain⟨R,hR⟩:∃R:LoopState→Option Code→Loop,R=fun st pe=>{ state:=st,pending:=pe,fn,tmps:=tmps,params:=#[p],assign:=assign,body:=body,defers:=W0.heap.size }:=⟨_,rfl⟩
 obtain⟨W1,eJ⟩:∃W1,(W0.alloc (.deferred (some []))).alloc (.loop (R .ready none))=W1:=⟨_,rfl⟩;have aK:Ext w0 W1:=by rw[←eJ];exact(aW.alloc _).alloc _
 have gy:W1.heap.size=W0.heap.size+2:=by rw[←eJ];simp
 have hL1:W1.heap[W0.heap.size+1]? =some (.loop (R .ready none)):=by
  rw[←eJ];have:=World.alloc_heap_new (W0.alloc (.deferred (some []))) (.loop (R .ready none));rwa [World.size_alloc]at this
 have hK1:W1.heap[W0.heap.size]? =some (.deferred (some [])):=by
  rw[←eJ];exact(Below.heap_alloc _ _ _ (by simp)).trans (World.alloc_heap_new W0 _)
 have dG:∀k,k<W0.heap.size→W1.heap[k]? =W0.heap[k]?:=fun k hk=>by
  rw[←eJ];exact(Below.heap_alloc _ _ _ (by simp;omega)).trans (Below.heap_alloc _ _ _ hk)
 have aF:=(dG Bn dv).trans hb;have pI:=(dG rb zg).trans hr
 refine⟨W0.heap.size+1,[{ target:=.collected W0.heap.size,args:=#[] }],W1,{ target:=.fn (.func 193) #[.pointer (some ⟨Bn,0,none⟩)],args:=#[.func (.yield (W0.heap.size+1)) #[] #[]] },W1,193,
  #[.func (.yield (W0.heap.size+1)) #[] #[]]++#[.pointer (some ⟨Bn,0,none⟩)],W1,?_,?_,fun _ _=>trivial,?_,fun _=>by omega,?_⟩
 ·rw[←eJ,hR];exact run_enterLoop_outer _ _ _ _ _
 ·simp only[resolve,rangeCall,hg]
  simp[go_sem]
 ·simp[invoke,go_sem,enters_of Tryz.func193 (by kernel_rfl) rfl]
 ·refine(ZiO 2 (by omega) (W0.heap.size+1) Bn w0.heap.size s (fun pre W=>pre=[]∧W=W1)
   (fun pre W=>∃x:Nat,pre=[x]∧W=((W1.putObj (W0.heap.size+1) (.loop (R .busy none))).setCell ⟨rb,0,none⟩ (.int .i64 x)).putObj (W0.heap.size+1) (.loop (R .done (some .ret))))
   ?round W1 (by simp[World.cell?,aF]) (by simp[World.cell?,aF]) (hT.ext aK) hT.lt ⟨rfl,rfl⟩).mono ?post
  case round =>
   rintro pre x W ⟨rfl,rfl⟩ -
   have hy:(Instr.yield (W0.heap.size+1) #[.int .i64 (x:Nat)]).run Tryz.prog W= .ok (.round (W0.heap.size+1) fn (tmps.setIfInBounds p (.int .i64 x)) assign body) W:=by
    have:=run_yield (P:=Tryz.prog) (args:=#[.int .i64 (x:Nat)]) hL1 (by rw[hR];rfl);rw[hR]at this;simpa using this
   have hbg:(Instr.beginRound (W0.heap.size+1)).run Tryz.prog W= .ok () (W.putObj (W0.heap.size+1) (.loop (R .busy none))):=by
    have:=run_beginRound (P:=Tryz.prog) hL1 (by rw[hR]);rw[hR]at this ⊢;exact this
   refine⟨_,_,_,_,hy,roundIn_of_wpIn trivial (qU _ x W _ ⟨_,hbg,?_⟩)⟩;refine wpIn_mono (yO _ x _ ((World.putObj_heap_other (by omega)).trans pI)) ?_;rintro e a3 W3 ⟨rfl,rfl⟩
   have nI:((W.putObj (W0.heap.size+1) (.loop (R .busy none))).setCell ⟨rb,0,none⟩ (.int .i64 x)).heap[W0.heap.size+1]? =some (.loop (R .busy none)) :=
    (Below.heap_setCell _ _ _ _ (by simp;omega)).trans (World.putObj_heap_same (by omega))
   have he:=run_endRound (P:=Tryz.prog) (some .ret) nI;rw[hR]at he ⊢;exact⟨_,_,he,.inr ⟨rfl,x,rfl,rfl⟩⟩
  case post =>
   rintro e W2 ⟨⟨v,rfl⟩,(⟨ys,hys,rfl,rfl⟩|⟨pre,pG,x,rfl,rfl⟩)⟩
   ·have he:=run_endLoop (P:=Tryz.prog) hL1 (by rw[hR];simp)
    rw[show (R .ready none).pending=none from by rw[hR]]at he;refine⟨none,_,he,zL _ hys.symm (ZbZ aK _ _ (by omega)) ((World.putObj_heap_other (by omega)).trans pI) ((World.putObj_heap_other (by omega)).trans hK1)⟩
   ·have nI:(((W1.putObj (W0.heap.size+1) (.loop (R .busy none))).setCell ⟨rb,0,none⟩ (.int .i64 x)).putObj (W0.heap.size+1) (.loop (R .done (some .ret)))).heap[W0.heap.size+1]? =some (.loop (R .done (some .ret))) :=
     World.putObj_heap_same (by simp[World.setCell];omega)
    have he:(Instr.endLoop (W0.heap.size+1)).run Tryz.prog (((W1.putObj (W0.heap.size+1) (.loop (R .busy none))).setCell ⟨rb,0,none⟩ (.int .i64 x)).putObj (W0.heap.size+1) (.loop (R .done (some .ret))))= .ok (some .ret) ((((W1.putObj (W0.heap.size+1) (.loop (R .busy none))).setCell ⟨rb,0,none⟩ (.int .i64 x)).putObj (W0.heap.size+1) (.loop (R .done (some .ret)))).putObj (W0.heap.size+1) (.loop (R .exhausted (some .ret)))):=by
     have:=run_endLoop (P:=Tryz.prog) nI (by rw[hR];simp);rw[hR]at this ⊢;exact this
    refine⟨some .ret,_,he,wpIn_ret ?_⟩;refine zo x _ pG wZ ⟨((W1.putObj (W0.heap.size+1) (.loop (R .busy none))).putObj (W0.heap.size+1) (.loop (R .done (some .ret)))).putObj (W0.heap.size+1) (.loop (R .exhausted (some .ret))),ZbZ (ZbZ (ZbZ aK _ _ (by omega)) _ _ (by omega)) _ _ (by omega),?_,?_,?_⟩
    ·exact((World.putObj_heap_other (by omega)).trans ((World.putObj_heap_other (by omega)).trans (World.putObj_heap_other (by omega)))).trans pI
    ·exact((World.putObj_heap_other (by omega)).trans ((World.putObj_heap_other (by omega)).trans (World.putObj_heap_other (by omega)))).trans hK1
    ·have hc:∀(A:World) (o:Obj),(A.putObj (W0.heap.size+1) o).setCell ⟨rb,0,none⟩ (.int .i64 x)=(A.setCell ⟨rb,0,none⟩ (.int .i64 x)).putObj (W0.heap.size+1) o:=fun A o=>by
      simp only[World.putObj,World.setCell]
      congr 1
      apply Array.ext_getElem?
      intro k;simp only[Array.getElem?_modify,Array.getElem?_setIfInBounds,Array.size_modify]
      by_cases h1:rb=k <;> by_cases h2:W0.heap.size+1=k <;> simp[h1,h2] <;> omega
     simp only[hc]
theorem ZlS(s:Zax)(w:World)(hT:ZaY w) :
  Calls Tryz.prog 168 #[ZbU s] w fun e w'=>e= .returned (.int .i64 (Zb2 s))∧Ext w w':=by
 unfold ZbU;refine(callsIn_wide (n:=3)).1 ?_;refine callsIn_of_wp_marks Tryz.func168 rfl trivial ?_;simp only[Tryz.ntmps168,List.size_toArray,ZrP,List.length_nil,Nat.reduceAdd,Nat.reduceSub,Array.replicate_succ,Array.replicate_zero,List.push_toArray,List.append_toArray,List.nil_append,List.cons_append]
 gi_wp2_with (refine⟨trivial,?_⟩;gi_at_call 188;refine(ZkL _ _ _).mono ?_;rintro e w' ⟨rfl,rfl⟩)
 -- the blocks: the set's box,the result's,the iterator's
 have aW:Ext w (((w.alloc (.cells #[.int .u64 (lo s),.int .u64 (hi s)] 82)).alloc (.cells #[.int .i64 0] 3)).alloc (.cells #[.int .u64 (lo s),.int .u64 (hi s)] 82)):=(((Ext.refl w).alloc _).alloc _).alloc _
 have hr0:(((w.alloc (.cells #[.int .u64 (lo s),.int .u64 (hi s)] 82)).alloc (.cells #[.int .i64 0] 3)).alloc (.cells #[.int .u64 (lo s),.int .u64 (hi s)] 82)).heap[w.heap.size+1]? =some (.cells #[.int .i64 0] 3 (0,0)):=by
  refine(Below.heap_alloc _ _ _ (by simp)).trans ?_;have:=World.alloc_heap_new (w.alloc (.cells #[.int .u64 (lo s),.int .u64 (hi s)] 82)) (.cells #[.int .i64 0] 3);rwa [World.size_alloc]at this
 have da:(((w.alloc (.cells #[.int .u64 (lo s),.int .u64 (hi s)] 82)).alloc (.cells #[.int .i64 0] 3)).alloc (.cells #[.int .u64 (lo s),.int .u64 (hi s)] 82)).heap[w.heap.size+1+1]? =some (.cells #[.int .u64 (lo s),.int .u64 (hi s)] 82 (0,0)):=by
  have:=World.alloc_heap_new ((w.alloc (.cells #[.int .u64 (lo s),.int .u64 (hi s)] 82)).alloc (.cells #[.int .i64 0] 3)) (.cells #[.int .u64 (lo s),.int .u64 (hi s)] 82);rwa [World.size_alloc,World.size_alloc]at this
 have wj:(((w.alloc (.cells #[.int .u64 (lo s),.int .u64 (hi s)] 82)).alloc (.cells #[.int .i64 0] 3)).alloc (.cells #[.int .u64 (lo s),.int .u64 (hi s)] 82)).heap.size=w.heap.size+3:=by simp
 generalize (((w.alloc (.cells #[.int .u64 (lo s),.int .u64 (hi s)] 82)).alloc (.cells #[.int .i64 0] 3)).alloc (.cells #[.int .u64 (lo s),.int .u64 (hi s)] 82))=W0 at *;have hT0:=hT.ext aW;refine Zf5 (s:=s) (Bn:=w.heap.size+1+1) rfl aW hT da (w.heap.size+1) _ _ hr0 (fun x=>{ tmps:=#[.agg #[.int .u64 (lo s),.int .u64 (hi s)],.pointer (some ⟨w.heap.size,0,none⟩),.pointer (some ⟨w.heap.size+1,0,none⟩),.int .i64 x,.agg #[.int .u64 (lo s),.int .u64 (hi s)],.func (.func 193) #[] #[.pointer (some ⟨w.heap.size+1+1,0,none⟩)],.int .i64 x,undef],defers:=[] }) ?assign ?body ?none ?some (by omega)
 case assign =>
  intro l x W K hK
  gi_wp2
  exact hK
 case body =>
  intro l x W hr;have aN:=(Zbp hr).1;have et:=(Zbp hr).2
  gi_wp2
 case none =>
  intro W hl hx hr hK;have hf:Zb2 s=0:=by rw[Zfr,hl];rfl
  have aN:=(Zbp hr).1;have et:=(Zbp hr).2;clear hl;have hf:=Zrr hf;have hK:=Zrr hK;have hx:=Zrr hx
  gi_wp2
  have hK':(W.setCell ⟨w.heap.size+1,0,none⟩ (.int .i64 0)).heap[W0.heap.size]? =some (.deferred (some [])):=(Below.heap_setCell _ _ _ _ (by simp;omega)).trans hK.out;refine⟨by simp,.inl ⟨_,_,rfl,run_takeDeferred hK',?_⟩⟩
  have hc5:((W.setCell ⟨w.heap.size+1,0,none⟩ (.int .i64 0)).putObj W0.heap.size (.deferred none)).cell? ⟨w.heap.size+1,0,none⟩=some (.int .i64 0):=by
   rw[World.cell?,World.putObj_heap_other (by simp;omega)];exact World.cell?_setCell_same' W ⟨w.heap.size+1,0,none⟩ (.int .i64 0) (by rw[aN];rfl)
  refine⟨.int .i64 0,?_,by rw[hf.out];rfl,ZbZ (hx.out.setCell (p:=⟨w.heap.size+1,0,none⟩) (by simp) _) _ _ (by omega)⟩;simp[results,Tryz.f168,go_sem,hc5]
 case some =>
  intro x W hp wZ hW
  have hf:Zb2 s=x:=by
   obtain⟨t,ht⟩:=hp;rw[Zfr,←ht];rfl
  obtain⟨W',hx,hr,hK,rfl⟩:=hW;have aN:=(Zbp hr).1
  gi_wp2
  have hK':(W'.setCell ⟨w.heap.size+1,0,none⟩ (.int .i64 x)).heap[W0.heap.size]? =some (.deferred (some [])):=(Below.heap_setCell _ _ _ _ (by simp;omega)).trans hK;refine⟨by simp,.inl ⟨_,_,rfl,run_takeDeferred hK',?_⟩⟩
  have hc5:((W'.setCell ⟨w.heap.size+1,0,none⟩ (.int .i64 x)).putObj W0.heap.size (.deferred none)).cell? ⟨w.heap.size+1,0,none⟩=some (.int .i64 x):=by
   rw[World.cell?,World.putObj_heap_other (by simp;omega)];exact World.cell?_setCell_same' W' ⟨w.heap.size+1,0,none⟩ (.int .i64 x) (by rw[aN];rfl)
  refine⟨.int .i64 x,?_,by rw[hf],ZbZ (hx.setCell (p:=⟨w.heap.size+1,0,none⟩) (by simp) _) _ _ (by omega)⟩;simp[results,Tryz.f168,go_sem,hc5]
end Go.Proofs.YtemnmcfmabamcaaGreatDoor
namespace Go.Proofs.YtemnmcfmabamcaaGreatDoor
open Go Go.RowKit
theorem Zf0(a b:Zax)(w:World) :
  Calls Tryz.prog 117 #[ZbU a,ZbU b] w fun e w'=>e= .returned (ZbU (a ||| b))∧Ext w w':=by
 unfold ZbU
 go_enter Tryz.func117,Tryz.ntmps117
 go_wp2
 go_returns
 exact⟨by simp[Zrh,Zrg],⟨by go_grown,ZrQ _⟩⟩
theorem Zmi(a b:Zax)(w:World) :
  Calls Tryz.prog 169 #[ZbU a,ZbU b] w fun e w'=>e= .returned (ZbU (a &&& ~~~b))∧Ext w w':=by
 unfold ZbU
 go_enter Tryz.func169,Tryz.ntmps169
 go_wp2
 go_returns
 exact⟨by simp[Zlu,Zlt],⟨by go_grown,ZrQ _⟩⟩
theorem ZjW(v:Int)(w:World)(h:v<1∨128<v) :
  Calls Tryz.prog 101 #[.int .i64 v] w fun e w'=>e= .returned (.tuple #[.int .i64 0,.int .u64 0,.bool false])∧w=w':=by
 have hb:(decide (v<1) || decide (128<v))=true:=by simpa using h
 go_enter Tryz.func101,Tryz.ntmps101
 go_wp2
 all_goals go_returns
 all_goals exact⟨rfl,rfl⟩
def Zen (v:Int):Int:=IntKind.u64.wrap (2 ^ ((v - 1) % 64).toNat)
theorem Zh3(v:Int)(w:World)(h1:1≤v)(h2:v≤128) :
  Calls Tryz.prog 101 #[.int .i64 v] w fun e w'=>e= .returned (.tuple #[.int .i64 ((v - 1) / 64),.int .u64 (Zen v),.bool true])∧w=w':=by
 go_enter Tryz.func101,Tryz.ntmps101
 go_wp2
 all_goals go_returns
 all_goals exact⟨rfl,rfl⟩
theorem ZjV(v:Int)(w:World)(h1:1≤v)(h2:v≤64) :
  Calls Tryz.prog 101 #[.int .i64 v] w fun e w'=>e= .returned (.tuple #[.int .i64 0,.int .u64 (Zen v),.bool true])∧w=w':=by
 have:=Zh3 v w h1 (by omega)
 rwa [show (v - 1) / 64=0 from by omega]at this
theorem ZjU(v:Int)(w:World)(h1:65≤v)(h2:v≤128) :
  Calls Tryz.prog 101 #[.int .i64 v] w fun e w'=>e= .returned (.tuple #[.int .i64 1,.int .u64 (Zen v),.bool true])∧w=w':=by
 have:=Zh3 v w (by omega) (by omega)
 rwa [show (v - 1) / 64=1 from by omega]at this
theorem ZeX(v:Int)(h1:1≤v):Zen v=((BitVec.twoPow 64 ((v - 1) % 64).toNat).toNat:Int):=by
 have hb:((v - 1) % 64).toNat<64:=by omega
 unfold Zen;rw[IntKind.wrap_u64,BitVec.toNat_twoPow];have:(2:Nat) ^ ((v - 1) % 64).toNat<2 ^ 64:=Nat.pow_lt_pow_right (by omega) hb;rw[Nat.mod_eq_of_lt this];have h3:((2:Int) ^ ((v - 1) % 64).toNat)=(((2:Nat) ^ ((v - 1) % 64).toNat:Nat):Int):=by simp
 rw[h3];generalize 2 ^ ((v - 1) % 64).toNat=m at *;omega
theorem Zlv(x:BitVec 64)(n:Nat)(hn:n<64):(bits .and .u64 (x.toNat:Int) ((BitVec.twoPow 64 n).toNat:Int) !=0)=x.getLsbD n:=by
 rw[Ziv,BitVec.and_twoPow]
 cases x.getLsbD n
 ·simp
 ·have:(BitVec.twoPow 64 n).toNat≠0:=by
   rw[BitVec.toNat_twoPow,Nat.mod_eq_of_lt (Nat.pow_lt_pow_right (by omega) hn)];exact Nat.pos_iff_ne_zero.1 (Nat.two_pow_pos n)
  simp only[if_true,bne_iff_ne,ne_eq,Int.natCast_eq_zero];exact this
theorem Zqy(a:Zax)(v:Int)(h1:1≤v)(h2:v≤64):(bits .and .u64 (lo a) (Zen v) !=0)=ZaZ a v:=by
 rw[ZeX v h1,lo,Zlv _ _ (by omega)];have e1:((v - 1) % 64).toNat=(v - 1).toNat:=by omega
 rw[e1,BitVec.getLsbD_setWidth];simp only[ZaZ,h1,show v≤128 from by omega,show (v-1).toNat<64 from by omega,decide_true,Bool.true_and]
theorem Zqx(a:Zax)(v:Int)(h1:65≤v)(h2:v≤128):(bits .and .u64 (hi a) (Zen v) !=0)=ZaZ a v:=by
 rw[ZeX v (by omega),hi,Zlv _ _ (by omega)];have e1:64+((v - 1) % 64).toNat=(v - 1).toNat:=by omega
 rw[BitVec.getLsbD_setWidth,BitVec.getLsbD_ushiftRight,e1];simp only[ZaZ,h2,show 1≤v from by omega,show ((v - 1) % 64).toNat<64 from by omega,decide_true,Bool.true_and]
theorem ZpA(a:Zax)(v:Int)(w:World)(h1:-9223372036854775808≤v)(h2:v≤9223372036854775807) :
  Calls Tryz.prog 70 #[ZbU a,.int .i64 v] w fun e w'=>e= .returned (.bool (ZaZ a v))∧Ext w w':=by
 unfold ZbU
 by_cases h:v<1∨128<v
 ·have hv:ZaZ a v=false:=by simp[ZaZ];omega
  rw[hv];clear hv
  go_enter Tryz.func70,Tryz.ntmps70
  go_wp2_with (go_at_call 101;refine(ZjW _ _ h).mono ?_;rintro e w' ⟨rfl,rfl⟩)
  go_returns
  exact⟨rfl,⟨by go_grown,ZrQ _⟩⟩
 ·by_cases hs:v≤64
  ·rw[←Zqy a v (by omega) hs]
   go_enter Tryz.func70,Tryz.ntmps70
   go_wp2_with (go_at_call 101;refine(ZjV _ _ (by omega) hs).mono ?_;rintro e w' ⟨rfl,rfl⟩)
   go_returns
   exact⟨rfl,⟨by go_grown,ZrQ _⟩⟩
  ·rw[←Zqx a v (by omega) (by omega)]
   go_enter Tryz.func70,Tryz.ntmps70
   go_wp2_with (go_at_call 101;refine(ZjU _ _ (by omega) (by omega)).mono ?_;rintro e w' ⟨rfl,rfl⟩)
   go_returns
   exact⟨rfl,⟨by go_grown,ZrQ _⟩⟩
theorem ZjM(a b:Zax)(w:World)(hT:ZaY w) :
  Calls Tryz.prog 147 #[ZbU a,ZbU b] w fun e w'=>e= .returned (.bool (ZaX a b))∧Ext w w':=by
 unfold ZbU
 go_enter Tryz.func147,Tryz.ntmps147
 go_wp2_with fail
 have F1:∀w':World,Ext ((w.alloc (Obj.cells #[Value.int IntKind.u64 (lo a),Value.int IntKind.u64 (hi a)] 82)).alloc (Obj.cells #[Value.int IntKind.u64 (lo b),Value.int IntKind.u64 (hi b)] 82)) w' →
   w'.cell? ⟨w.heap.size,0,none⟩=some (.int .u64 (lo a))∧w'.cell? ⟨w.heap.size,1,none⟩=some (.int .u64 (hi a))∧w'.cell? ⟨w.heap.size+1,0,none⟩=some (.int .u64 (lo b))∧w'.cell? ⟨w.heap.size+1,1,none⟩=some (.int .u64 (hi b)) :=
  fun w' h=>⟨h.cell (by go_simp),h.cell (by go_simp),h.cell (by go_simp),h.cell (by go_simp)⟩
 (refine Zaf (by kernel_rfl) (by kernel_rfl) ?_
  repeat (refine wpQuiet_step (fun K hK=>?_)
          go_simp
          first
           | (refine hK _ ?_;clear hK K)
           | (replace hK:=Zrr hK
              apply Exists.intro
              refine⟨fun wq hq=>?_,hK.out _ ?_⟩
              ·(obtain⟨f1,f2,f3,f4⟩:=F1 wq hq)
               go_simp
               first
                | done
                | rfl
                | exact⟨rfl,rfl⟩
                | (refine(Zmi _ _ _).mono ?_;rintro e w' ⟨rfl,hb⟩;exact⟨rfl,hq.trans hb⟩)|(refine(Zf0 _ _ _).mono ?_;rintro e w' ⟨rfl,hb⟩;exact⟨rfl,hq.trans hb⟩)|(refine(ZlS _ _ (hT.ext (((Ext.refl w).alloc _).alloc _) |>.ext hq)).mono ?_;rintro e w' ⟨rfl,hb⟩;exact⟨rfl,hq.trans hb⟩)
              clear hK K))
  refine wpQuiet_nil ?_)
 intro w1 fX;obtain⟨f1,f2,f3,f4⟩:=F1 w1 fX;have hB:Ext w w1:=(((Ext.refl w).alloc _).alloc _).trans fX;have fE:=ZlR (a &&& ~~~b ||| b &&& ~~~a);clear fX F1;have hl:=Zrr (show ZaX a b=(decide (0<Zb2 (a &&& ~~~b ||| b &&& ~~~a)) && !ZaZ a (Zb2 (a &&& ~~~b ||| b &&& ~~~a))) from rfl);generalize Zb2 (a &&& ~~~b ||| b &&& ~~~a)=o at *
 by_cases ho:0<o
 ·go_wp2_with (go_at_call 70;refine(ZpA a _ _ (by omega) (by omega)).mono ?_;rintro e w' ⟨rfl,hb⟩)
  go_returns
  exact⟨by rw[hl.out];simp[ho],hB.trans hb⟩
 ·go_wp2_with fail
  go_returns
  exact⟨by rw[hl.out];simp[ho],hB⟩
theorem Znk(a:Zax)(v:Int)(h1:1≤v)(h2:v≤64):bits .or .u64 (lo a) (Zen v)=lo (Zb8 a v)∧hi (Zb8 a v)=hi a:=by
 rw[ZeX v h1];unfold lo hi Zb8;rw[if_pos ⟨h1,by omega⟩,Zdj];have e:((v - 1) % 64).toNat=(v - 1).toNat:=by omega
 rw[e]
 constructor
 ·congr 2
  apply BitVec.eq_of_getLsbD_eq
  intro i hi;simp only[BitVec.getLsbD_or,BitVec.getLsbD_setWidth,BitVec.getLsbD_twoPow,hi,decide_true,Bool.true_and];rw[show decide ((v - 1).toNat<64)=true from by simp;omega,show decide ((v - 1).toNat<128)=true from by simp;omega]
 ·congr 2
  apply BitVec.eq_of_getLsbD_eq
  intro i hi;simp only[BitVec.getLsbD_or,BitVec.getLsbD_setWidth,BitVec.getLsbD_ushiftRight,BitVec.getLsbD_twoPow,hi,decide_true,Bool.true_and];rw[show decide ((v - 1).toNat=64+i)=false from by simp;omega];simp
theorem Znj(a:Zax)(v:Int)(h1:65≤v)(h2:v≤128):bits .or .u64 (hi a) (Zen v)=hi (Zb8 a v)∧lo (Zb8 a v)=lo a:=by
 rw[ZeX v (by omega)];unfold lo hi Zb8;rw[if_pos ⟨by omega,by omega⟩,Zdj];have e:64+((v - 1) % 64).toNat=(v - 1).toNat:=by omega
 constructor
 ·congr 2
  apply BitVec.eq_of_getLsbD_eq
  intro i hi;simp only[BitVec.getLsbD_or,BitVec.getLsbD_setWidth,BitVec.getLsbD_ushiftRight,BitVec.getLsbD_twoPow,hi,decide_true,Bool.true_and]
  congr 1
  rw[←e];have:((v - 1) % 64).toNat<64:=by omega
  by_cases hh:((v - 1) % 64).toNat=i <;> simp[hh,this] <;> omega
 ·congr 2
  apply BitVec.eq_of_getLsbD_eq
  intro i hi;simp only[BitVec.getLsbD_or,BitVec.getLsbD_setWidth,BitVec.getLsbD_twoPow,hi,decide_true,Bool.true_and];rw[show decide ((v - 1).toNat=i)=false from by simp;omega];simp
theorem Zkc(a:Zax)(v:Int)(w:World) :
  Calls Tryz.prog 116 #[ZbU a,.int .i64 v] w fun e w'=>e= .returned (ZbU (Zb8 a v))∧Ext w w':=by
 unfold ZbU
 by_cases h:v<1∨128<v
 ·have hv:Zb8 a v=a:=if_neg (by omega)
  rw[hv];clear hv
  go_enter Tryz.func116,Tryz.ntmps116
  go_wp2_with (go_at_call 101;refine(ZjW _ _ h).mono ?_;rintro e w' ⟨rfl,rfl⟩)
  go_returns
  exact⟨rfl,⟨by go_grown,ZrQ _⟩⟩
 ·by_cases hs:v≤64
  ·obtain⟨e1,e2⟩:=Znk a v (by omega) hs
   rw[e2,←e1];clear e1 e2
   go_enter Tryz.func116,Tryz.ntmps116
   go_wp2_with (go_at_call 101;refine(ZjV _ _ (by omega) hs).mono ?_;rintro e w' ⟨rfl,rfl⟩)
   go_returns
   exact⟨rfl,⟨by go_grown,ZrQ _⟩⟩
  ·obtain⟨e1,e2⟩:=Znj a v (by omega) (by omega)
   rw[e2,←e1];clear e1 e2
   go_enter Tryz.func116,Tryz.ntmps116
   go_wp2_with (go_at_call 101;refine(ZjU _ _ (by omega) (by omega)).mono ?_;rintro e w' ⟨rfl,rfl⟩)
   go_returns
   exact⟨rfl,⟨by go_grown,ZrQ _⟩⟩
end Go.Proofs.YtemnmcfmabamcaaGreatDoor
namespace Go.Proofs.YtemnmcfmabamcaaGreatDoor
open Go Go.RowKit
theorem Zog(l:List Int)(k:Nat)(hk:k<l.length):ofS (l.take (k+1))=Zb8 (ofS (l.take k)) l[k]:=by
 unfold ofS;rw[List.take_succ_eq_append_getElem hk,List.foldl_append]
 rfl
theorem ZqG(l:List Int)(v:Value)(w:World)(hv:SlI w v l)(hl:l.length≤9223372036854775807) :
  Calls Tryz.prog 89 #[v] w fun e w'=>e= .returned (ZbU (ofS l))∧Ext w w':=by
 obtain⟨ba,cp,rfl,hv⟩:=hv;replace hv:=Zrr hv;unfold ZbU
 go_enter Tryz.func89,Tryz.ntmps89
 go_wp2_with fail
 go_loopw [8] (fun i wr=>∃k:Nat,k≤l.length∧i= .int .i64 k∧(wr.heap[w.heap.size+1]? =some (.cells #[.int .u64 (lo (ofS (l.take k))),.int .u64 (hi (ofS (l.take k)))] 82 (0,0))∧wr.heap[w.heap.size]? =some (.cells #[.int .u64 0,.int .u64 0] 82 (0,0))∧Ext w wr))
  (fun i _=>l.length - (intOf i).toNat)
 case atStart =>
  refine⟨0,Nat.zero_le _,rfl,?_,?_,((Ext.refl w).alloc _).alloc _⟩
  ·have:=Zrz (w.alloc (.cells #[.int .u64 0,.int .u64 0] 82)) (.cells #[.int .u64 0,.int .u64 0] 82)
   rw[World.size_alloc]at this;rw[show lo (ofS (l.take 0))=0 from by simp[ofS,lo],show hi (ofS (l.take 0))=0 from by simp[ofS,hi]];exact this
  ·exact(Below.heap_alloc _ _ _ (by simp)).trans (Zrz w _)
 case round =>
  obtain⟨k,hk,rfl,hH,hz,hx⟩:=hrel;have c0:wr.cell? ⟨w.heap.size+1,0,none⟩=some (.int .u64 (lo (ofS (l.take k)))):=by simp[World.cell?,hH]
  have c1:wr.cell? ⟨w.heap.size+1,1,none⟩=some (.int .u64 (hi (ofS (l.take k)))):=by simp[World.cell?,hH]
  have z0:wr.cell? ⟨w.heap.size,0,none⟩=some (.int .u64 0):=by simp[World.cell?,hz]
  have z1:wr.cell? ⟨w.heap.size,1,none⟩=some (.int .u64 0):=by simp[World.cell?,hz]
  have y0:wr.frozen? ⟨w.heap.size,0,none⟩=false:=by simp[World.frozen?,hz]
  have y1:wr.frozen? ⟨w.heap.size,1,none⟩=false:=by simp[World.frozen?,hz]
  by_cases aD:k<l.length
  ·obtain⟨b,o,rfl,cA⟩:∃b o,ba=some ⟨b,o,none⟩∧∀j (hj:j<l.length),w.cell? ⟨b,o+j,none⟩=some (.int .i64 l[j]):=by
    rcases hv.out with ⟨_,rfl,_⟩|h
    ·simp at aD
    ·exact h
   have f1:=hx.cell (cA k aD);have ht:=Zrr (Zog l k aD);clear cA;generalize hs:ofS (l.take k)=s at *;generalize hu:l[k]=u at *;replace hs:=Zrr hs;replace hu:=Zrr hu;have ac:w.heap.size+1<wr.heap.size:=Zrx wr _ c0;clear z0 z1 y0 y1;replace hz:=Zrr hz;replace hH:=Zrr hH;have hw:=Zkc s u wr;unfold ZbU at hw
   go_wp2_with (go_at_call 116;refine hw.mono ?_;rintro e w2 ⟨rfl,aO⟩;have b0:=aO.cell c0;have b1:=aO.cell c1;have q0:=(World.frozen?_of_block (a:=⟨w.heap.size+1,0,none⟩) (aO.below.block _ ac)).trans (show wr.frozen? ⟨w.heap.size+1,0,none⟩=false from by simp[World.frozen?,hH.out]);have q1:=(World.frozen?_of_block (a:=⟨w.heap.size+1,1,none⟩) (aO.below.block _ ac)).trans (show wr.frozen? ⟨w.heap.size+1,1,none⟩=false from by simp[World.frozen?,hH.out]))
   go_roundw
   case rel =>
    have hh2:=(aO.below.block _ ac).trans hH.out;refine⟨k+1,by omega,by go_num,?_,?_,((hx.trans aO).setCell (by simp) _).setCell (by simp) _⟩
    ·rw[ht.out]
     exact Zbn hh2 _ _
    ·exact((Below.heap_setCell _ _ _ _ (by simp)).trans (Below.heap_setCell _ _ _ _ (by simp))).trans ((aO.below.block _ (by omega)).trans hz.out)
   case measure=>simp[intOf];omega
  ·obtain rfl:k=l.length:=by omega
   rw[List.take_length]at c0 c1;replace hz:=Zrr hz;replace hH:=Zrr hH;have ac:w.heap.size+1<wr.heap.size:=Zrx wr _ c0
   have r0:((wr.setCell ⟨w.heap.size,0,none⟩ (.int .u64 (lo (ofS l)))).setCell ⟨w.heap.size,1,none⟩ (.int .u64 (hi (ofS l)))).cell? ⟨w.heap.size,0,none⟩=some (.int .u64 (lo (ofS l))):=by
    rw[World.cell?,Zbn hz.out];rfl
   have r1:((wr.setCell ⟨w.heap.size,0,none⟩ (.int .u64 (lo (ofS l)))).setCell ⟨w.heap.size,1,none⟩ (.int .u64 (hi (ofS l)))).cell? ⟨w.heap.size,1,none⟩=some (.int .u64 (hi (ofS l))):=by
    rw[World.cell?,Zbn hz.out];rfl
   go_wp2_with fail;exact bodyPost_ret (v:=ZbU (ofS l)) (by simp[results,Tryz.results89,go_sem,r0,r1,ZbU]) rfl ⟨rfl,(hx.setCell (by simp) _).setCell (by simp) _⟩
end Go.Proofs.YtemnmcfmabamcaaGreatDoor
