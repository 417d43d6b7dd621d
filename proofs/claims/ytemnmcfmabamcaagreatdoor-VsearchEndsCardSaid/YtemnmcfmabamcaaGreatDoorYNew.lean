import Derived.Test.YtemnmcfmabamcaaGreatDoorYTop
set_option linter.unusedSimpArgs false
set_option linter.unusedVariables false
set_option maxRecDepth 100000
set_option maxHeartbeats 4000000
namespace Go.Proofs.YtemnmcfmabamcaaGreatDoor
open Go Go.RowKit Go.Shelf
theorem ZkA:(Tryz.prog.info? 78).map (fun i=>(i.zero,i.size,i.bytes))=some (some (.agg #[.int .i64 0,.int .i64 0,.int .i64 0]),3,24):=by kernel_rfl
theorem Zp1(w:World):(Go.sizeOf 78).run Tryz.prog w= .ok 3 w:=by kernel_rfl
theorem Zhl(t:List VN):∀u∈Zal t,Value.oneCell' u=true:=by
 intro u hu;simp only[Zal,List.mem_flatMap,List.mem_cons,List.not_mem_nil,or_false]at hu;obtain⟨p,_,rfl|rfl|rfl⟩:=hu <;> rfl
theorem Zee(t:List VN):(Zal t).length=3*t.length:=by
 induction t with
 | nil=>rfl
 | cons x r ih=>simp only[Zal,List.flatMap_cons,ZrB,ZrP,List.length_nil]at ih ⊢;omega
theorem Zgo(w:World)(b o c:Nat)(t:List VN)(h:Zag w b o t)(hl:t.length≤1048576) :
  Calls Tryz.prog 47 #[.slice (some ⟨b,o,none⟩) t.length c] w fun e w'=>∃g cap cs,e= .returned (.slice (some ⟨g,0,none⟩) t.length cap)∧w.heap.size≤g ∧
   w'.heap[g]? =some (.cells cs 78 (0,0))∧(∀j u,(Zal t)[j]? =some u→cs[0+j]? =some u)∧Below w.heap.size w w':=by
 obtain⟨i0,bz,bH,aj,av⟩:=info_parts ZkA;have h1:=AnyE.slices_Clone Tryz.cloneTree i0 (.agg #[.int .i64 0,.int .i64 0,.int .i64 0]) 3 24 bz bH aj av (by rfl) (by omega) Zp1 b o t.length c (Zal t) w (by rw[Zee];omega) (by unfold maxLen;omega) (by omega) (fun j u hj=>h j u hj) (Zhl t);refine h1.mono ?_;rintro e w' ⟨v',rfl,bR,aJ,hb⟩;obtain⟨aX,⟨e0,_⟩|⟨g,cap,cur,rfl,hg,hh,hn,hm,hs,ht⟩⟩:=bR
 ·exact absurd e0 aJ
 ·refine⟨g,cap,cur,rfl,hg,hh,fun j u hj=>?_,hb⟩
  rw[←ht,List.getElem?_take]at hj
  split at hj
  ·simpa using hj
  ·simp at hj
def Zpe (t:List VN)(w:World)(e:Ending)(w':World):Prop:=∃g cap cs,e= .returned (.slice (some ⟨g,0,none⟩) t.length cap)∧w.heap.size≤g ∧
     w'.heap[g]? =some (.cells cs 78 (0,0))∧(∀j u,(Zal t)[j]? =some u→cs[0+j]? =some u)∧Below w.heap.size w w'
theorem Zhm{B:Zar}{s:St}{w:World}(h:Rep B s w)(hl:s.tree.length≤1048576) :
  Calls Tryz.prog 19 #[.pointer (some ⟨B.sb,0,none⟩)] w (Zpe s.tree w):=by
 obtain⟨cap,c0,_⟩:=h.cells;have hq:=Zgo w B.tb 0 B.tc s.tree h.treeAt hl;replace hl:=Zrr hl
 go_enter Tryz.func19,Tryz.ntmps19
 go_wp2_with fail;refine hq.mono ?_;rintro e w1 ⟨g,cap,cs,rfl,h1,h2,h3,h4⟩;replace h2:=Zrr h2;replace h3:=Zrr h3;go_wp2_with fail;go_ret;exact⟨g,cap,cs,rfl,h1,h2.out,h3.out,h4⟩
def ZaP:Array Value:=#[.int .i64 (-1),.int .i64 0,.slice none 0 0,.int .u64 0,.int .u64 0,.int .i64 (-1),.int .i64 0,.slice none 0 0,.int .u64 0,.int .u64 0]
def Zjp (w:World)(sb nb:Nat)(tv lm:Value)(e:Ending)(w':World):Prop:=e= .returned (.tuple #[]) ∧
 w'.heap[sb]? =some (.cells #[tv,lm,.slice (some ⟨nb,0,none⟩) 2 2,.map (some w.heap.size),.map (some (w.heap.size+1)),.map (some (w.heap.size+1+1))] ZaD (0,0)) ∧
 w'.heap[w.heap.size]? =some (.map #[] 0)∧w'.heap[w.heap.size+1]? =some (.map #[] 0)∧w'.heap[w.heap.size+1+1]? =some (.map #[] 0)∧Fr [sb] w w'
theorem Zi4{w:World}{sb nb:Nat}{tv lm u0 a0 m0:Value}(hs:w.heap[sb]? =some (.cells #[tv,lm,.slice (some ⟨nb,0,none⟩) 2 2,u0,a0,m0] ZaD (0,0)))(hn:w.heap[nb]? =some (.cells ZaP Zbd (0,0))) :
  Calls Tryz.prog 65 #[.pointer (some ⟨sb,0,none⟩)] w (Zjp w sb nb tv lm):=by
 have jy:∀w,(Instr.makeMap 62 none).run Tryz.prog w= .ok (.map (some w.heap.size)) (w.alloc (.map #[] 0)):=fun w=>rfl
 have hmm2:∀w,(Instr.makeMap 64 none).run Tryz.prog w= .ok (.map (some w.heap.size)) (w.alloc (.map #[] 0)):=fun w=>rfl
 have hmm3:∀w,(Instr.makeMap 65 none).run Tryz.prog w= .ok (.map (some w.heap.size)) (w.alloc (.map #[] 0)):=fun w=>rfl
 have aR:Ext w (((w.alloc (.map #[] 0)).alloc (.map #[] 0)).alloc (.map #[] 0)):=(((Ext.refl w).alloc _).alloc _).alloc _;obtain⟨g0,g1,g2⟩:=Zec w (.map #[] 0) (.map #[] 0) (.map #[] 0);have cS:=(aR.below.block sb (Zrv hs).1).trans hs;have eo:=(aR.below.block nb (Zrv hn).1).trans hn;have c2:(((w.alloc (.map #[] 0)).alloc (.map #[] 0)).alloc (.map #[] 0)).cell? ⟨sb,2,none⟩=some (.slice (some ⟨nb,0,none⟩) 2 2):=by simp[World.cell?,cS]
 have c3:(((w.alloc (.map #[] 0)).alloc (.map #[] 0)).alloc (.map #[] 0)).cell? ⟨sb,3,none⟩=some u0:=by simp[World.cell?,cS]
 have c4:(((w.alloc (.map #[] 0)).alloc (.map #[] 0)).alloc (.map #[] 0)).cell? ⟨sb,4,none⟩=some a0:=by simp[World.cell?,cS]
 have c5:(((w.alloc (.map #[] 0)).alloc (.map #[] 0)).alloc (.map #[] 0)).cell? ⟨sb,5,none⟩=some m0:=by simp[World.cell?,cS]
 have f3:∀j,(((w.alloc (.map #[] 0)).alloc (.map #[] 0)).alloc (.map #[] 0)).frozen? ⟨sb,j,none⟩=false:=fun j=>by simp[World.frozen?,cS]
 have f33:=f3 3;have f34:=f3 4;have f35:=f3 5;replace cS:=Zrr cS;replace eo:=Zrr eo
 have bN:nb≠sb:=by
  intro e;rw[e,hs]at hn;simp[ZaD,Zbd]at hn
 have cY:=(Zrv hs).1;have eO:((((((w.alloc (.map #[] 0)).alloc (.map #[] 0)).alloc (.map #[] 0)).setCell ⟨sb,3,none⟩ (.map (some w.heap.size))).setCell ⟨sb,4,none⟩ (.map (some (w.heap.size+1)))).setCell ⟨sb,5,none⟩ (.map (some (w.heap.size+1+1)))).heap[sb]? =some (.cells #[tv,lm,.slice (some ⟨nb,0,none⟩) 2 2,.map (some w.heap.size),.map (some (w.heap.size+1)),.map (some (w.heap.size+1+1))] ZaD (0,0)):=Zaj (Zaj (Zaj cS.out 3 _) 4 _) 5 _
 have an:∀k,k≠sb→((((((w.alloc (.map #[] 0)).alloc (.map #[] 0)).alloc (.map #[] 0)).setCell ⟨sb,3,none⟩ (.map (some w.heap.size))).setCell ⟨sb,4,none⟩ (.map (some (w.heap.size+1)))).setCell ⟨sb,5,none⟩ (.map (some (w.heap.size+1+1)))).heap[k]? =(((w.alloc (.map #[] 0)).alloc (.map #[] 0)).alloc (.map #[] 0)).heap[k]?:=fun k hk =>
  (Below.heap_setCell _ _ _ _ hk).trans ((Below.heap_setCell _ _ _ _ hk).trans (Below.heap_setCell _ _ _ _ hk))
 have aa:Hid (Zjp w sb nb tv lm (.returned (.tuple #[])) ((((((w.alloc (.map #[] 0)).alloc (.map #[] 0)).alloc (.map #[] 0)).setCell ⟨sb,3,none⟩ (.map (some w.heap.size))).setCell ⟨sb,4,none⟩ (.map (some (w.heap.size+1)))).setCell ⟨sb,5,none⟩ (.map (some (w.heap.size+1+1))))):=Zrr
  ⟨rfl,eO,(an _ (by omega)).trans g0,(an _ (by omega)).trans g1,(an _ (by omega)).trans g2,rfl,rfl,rfl,by simp[World.setCell];omega,fun k hk hM=>(an k (by simpa using hM)).trans (aR.below.block k hk)⟩
 have cJ:=(an nb bN).trans eo.out;replace cJ:=Zrr cJ;replace eO:=Zrr eO;clear f3 hs hn an cY;replace g0:=Zrr g0;replace g1:=Zrr g1;replace g2:=Zrr g2
 go_enter Tryz.func65,Tryz.ntmps65
 go_wp2_with fail;generalize (((((w.alloc (.map #[] 0)).alloc (.map #[] 0)).alloc (.map #[] 0)).setCell ⟨sb,3,none⟩ (.map (some w.heap.size))).setCell ⟨sb,4,none⟩ (.map (some (w.heap.size+1)))).setCell ⟨sb,5,none⟩ (.map (some (w.heap.size+1+1)))=w4 at *
 have mY:w.heap.size+1+1<w4.heap.size:=by
  obtain⟨_,_,_,_,h3,_⟩:=aa.out;exact(Zrv h3).1
 go_loopw [21] (fun i wr=>∃k:Nat,k≤2∧i= .int .i64 k∧Below w4.heap.size w4 wr) (fun i _=>2 - (intOf i).toNat)
 case atStart=>exact⟨0,by omega,rfl,ZrE _ _⟩
 case round =>
  obtain⟨k,hk,rfl,hb⟩:=hrel
  by_cases aD:k<2
  ·have kp:=(hb.block nb (Zrv cJ.out).1).trans cJ.out
   have fU:k=0∨k=1:=by omega
   rcases fU with rfl|rfl
   ·have n0:wr.cell? ⟨nb,0,none⟩=some (.int .i64 (-1)):=by simp[World.cell?,kp,ZaP]
    have n1:wr.cell? ⟨nb,1,none⟩=some (.int .i64 0):=by simp[World.cell?,kp,ZaP]
    have n2:wr.cell? ⟨nb,2,none⟩=some (.slice none 0 0):=by simp[World.cell?,kp,ZaP]
    have n3:wr.cell? ⟨nb,3,none⟩=some (.int .u64 0):=by simp[World.cell?,kp,ZaP]
    have n4:wr.cell? ⟨nb,4,none⟩=some (.int .u64 0):=by simp[World.cell?,kp,ZaP]
    clear kp;go_wp2_with fail;go_roundw
    case rel=>exact⟨1,by omega,by go_num,hb.alloc hb.size _⟩
    case measure=>simp[intOf]
   ·have n0:wr.cell? ⟨nb,5,none⟩=some (.int .i64 (-1)):=by simp[World.cell?,kp,ZaP]
    have n1:wr.cell? ⟨nb,6,none⟩=some (.int .i64 0):=by simp[World.cell?,kp,ZaP]
    have n2:wr.cell? ⟨nb,7,none⟩=some (.slice none 0 0):=by simp[World.cell?,kp,ZaP]
    have n3:wr.cell? ⟨nb,8,none⟩=some (.int .u64 0):=by simp[World.cell?,kp,ZaP]
    have n4:wr.cell? ⟨nb,9,none⟩=some (.int .u64 0):=by simp[World.cell?,kp,ZaP]
    clear kp;go_wp2_with fail;go_roundw
    case rel=>exact⟨2,by omega,by go_num,hb.alloc hb.size _⟩
    case measure=>simp[intOf]
  ·obtain rfl:k=2:=by omega
   go_wp2_with fail
   go_end0
   obtain⟨_,a1,a2,a3,a4,a5⟩:=aa.out
   exact⟨rfl,(hb.block _ (Zrv a1).1).trans a1,(hb.block _ (Zrv a2).1).trans a2,(hb.block _ (Zrv a3).1).trans a3,(hb.block _ (Zrv a4).1).trans a4,
    hb.os.trans a5.os,hb.tape.trans a5.tape,hb.output.trans a5.output,ZrC a5.size hb.size,fun k hk hM=>(hb.block k (ZrD hk a5.size)).trans (a5.block k hk hM)⟩
end Go.Proofs.YtemnmcfmabamcaaGreatDoor
namespace Go.Proofs.YtemnmcfmabamcaaGreatDoor
open Go Go.RowKit Go.Shelf
def ZcF:List VN→Nat→List (Nat × Nat)→List (Nat × Nat)
 | [],_,m=>m
 | x :: r,i,m=>ZcF r (i+1) (if x.left<0 then (x.var.toNat,i) :: m else m)
theorem leaves_cons(x:VN)(r:List VN)(i:Nat)(m:List (Nat × Nat)):ZcF (x :: r) i m=ZcF r (i+1) (if x.left<0 then (x.var.toNat,i) :: m else m):=rfl
def Zfz (v:Nat)(x:VN):Bool:=decide (x.left<0) && decide (x.var=(v:Int))
theorem ZfW{i:Nat}{x:VN}{sc sc':(Nat→Bool) × (Nat→Bool)}(h:Zcc i x sc=some sc')(hx:x.left<0):Zai x=true∧1≤x.var∧x.var≤128∧sc.1 x.var.toNat=false∧sc'.1=Zbr sc.1 x.var.toNat:=by
 unfold Zcc at h
 split at h
 ·rename_i hl
  split at h
  ·cases h
  ·rename_i hs
   simp only[ZrJ]at h;have hb:=hl;simp only[Zai,ZrK,ZrN]at hb;exact⟨hl,hb.2.1,hb.2.2,by simpa using hs,by rw[←h]⟩
 ·rename_i hl
  rcases Zdy (i:=i) (x:=x) (sc:=sc) (sc':=sc') (by unfold Zcc;rw[if_neg hl];exact h) with ⟨h2,_⟩|⟨_,_,h3,_⟩
  ·exact absurd h2 hl
  ·omega
theorem Zk4{i:Nat}{x:VN}{sc sc':(Nat→Bool) × (Nat→Bool)}(h:Zcc i x sc=some sc')(hx:¬ x.left<0):sc'.1=sc.1:=by
 have hl:¬ Zai x=true:=by
  intro e;simp only[Zai,ZrK,ZrN]at e;omega
 unfold Zcc at h;rw[if_neg hl]at h
 split at h
 ·cases h
 ·split at h
  ·cases h
  ·split at h
   ·cases h
   ·simp only[ZrJ]at h
    rw[←h]
theorem Zhf{x:VN}{r:List VN}{i:Nat}{sc sc':(Nat→Bool) × (Nat→Bool)}(h:Zca (x :: r) i sc=some sc'):∃s1,Zcc i x sc=some s1∧Zca r (i+1) s1=some sc':=by
 unfold Zca at h
 split at h
 ·cases h
 ·rename_i s1 h1
  exact⟨s1,h1,h⟩
theorem Zhg:∀(l:List VN) (i:Nat) (sc sc':(Nat→Bool) × (Nat→Bool)) (v:Nat),Zca l i sc=some sc'→sc.1 v=true→l.findIdx? (Zfz v)=none
 | [],_,_,_,_,_,_=>rfl
 | x :: r,i,sc,sc',v,h,hv=>by
   obtain⟨s1,h1,h2⟩:=Zhf h
   by_cases hx:x.left<0
   ·obtain⟨_,a1,a2,a3,a4⟩:=ZfW h1 hx
    have aJ:¬ x.var=(v:Int):=by
     intro e;rw[e]at a3;simp[hv]at a3
    have:=Zhg r (i+1) s1 sc' v h2 (by rw[a4];simp[Zbr,hv]);rw[List.findIdx?_cons,this];simp[Zfz,aJ]
   ·have:=Zhg r (i+1) s1 sc' v h2 (by rw[Zk4 h1 hx];exact hv)
    rw[List.findIdx?_cons,this];simp[Zfz,hx]
theorem ZfB:∀(l:List VN) (i:Nat) (sc sc':(Nat→Bool) × (Nat→Bool)) (m:List (Nat × Nat)) (v:Nat),Zca l i sc=some sc' →
  asc (ZcF l i m) v=match l.findIdx? (Zfz v) with|some j=>some (i+j)|none=>asc m v
 | [],_,_,_,_,_,_=>rfl
 | x :: r,i,sc,sc',m,v,h=>by
   obtain⟨s1,h1,h2⟩:=Zhf h;have ih:=fun m=>ZfB r (i+1) s1 sc' m v h2
   unfold ZcF;rw[ih,List.findIdx?_cons]
   by_cases hx:x.left<0
   ·obtain⟨_,a1,a2,a3,a4⟩:=ZfW h1 hx
    by_cases hv:x.var=(v:Int)
    ·have hs:=Zhg r (i+1) s1 sc' v h2 (by rw[a4,hv];simp[Zbr])
     rw[hs];simp[Zfz,hx,hv,asc]
    ·have aJ:¬ v=x.var.toNat:=by omega
     simp only[Zfz,hx,hv,decide_true,decide_false,Bool.and_false,if_true,Bool.false_eq_true,if_false]
     cases hf:r.findIdx? (Zfz v) with
     | none=>simp[hf,asc,aJ]
     | some j=>simp[hf];omega
   ·simp only[Zfz,hx,decide_false,Bool.false_and,Bool.false_eq_true,if_false]
    cases hf:r.findIdx? (Zfz v) with
    | none=>simp[hf]
    | some j=>simp[hf];omega
theorem Zl7{t:List VN}(h:Zae t=0):asc (ZcF t 0 [])=ZeL t:=by
 obtain⟨_,_,sc,hr,_⟩:=Zam h
 funext v
 rw[ZfB t 0 _ _ [] v hr]
 show _=t.findIdx? (Zfz v)
 cases t.findIdx? (Zfz v) with
 | none=>rfl
 | some j=>simp
theorem ZjZ:∀(t:List VN) (i:Nat) (sc sc':(Nat→Bool) × (Nat→Bool)),Zca t i sc=some sc'→∀k (hk:k<t.length),t[k].left<0→1≤t[k].var∧t[k].var≤128
 | [],_,_,_,_,k,hk,_=>absurd hk (Nat.not_lt_zero _)
 | x :: r,i,sc,sc',h,k,hk,hl=>by
   obtain⟨s1,h1,h2⟩:=Zhf h
   cases k with
   | zero=>obtain⟨_,a1,a2,_⟩:=ZfW h1 hl;exact⟨a1,a2⟩
   | succ k=>simpa using ZjZ r (i+1) s1 sc' h2 k (by simpa using hk) (by simpa using hl)
theorem ZnM{t:List VN}(h:Zae t=0){k:Nat}(hk:k<t.length)(hl:t[k].left<0):1≤t[k].var∧t[k].var≤128:=by
 obtain⟨_,_,sc,hr,_⟩:=Zam h;exact ZjZ t 0 _ _ hr k hk hl
end Go.Proofs.YtemnmcfmabamcaaGreatDoor
namespace Go.Proofs.YtemnmcfmabamcaaGreatDoor
open Go Go.RowKit Go.Shelf
def ZlA:Zac:={ pl:=-1,lit:=0,el:=[],le:=0 }
def ZbD (t:List VN):St:={ tree:=t,nodes:=[ZlA,ZlA],uniq:=[],ands:=[],nots:=[] }
def ZoO (t:List VN)(w:World)(e:Ending)(w':World):Prop:=∃B,e= .returned (.tuple #[.pointer (some ⟨B.sb,0,none⟩),.int .i64 0])∧Rep B (ZbD t) w'∧(∀k∈B.mut,w.heap.size≤k)∧(∀k∈B.eb,w.heap.size≤k)∧w.heap.size≤B.tb∧Below w.heap.size w w'
theorem ZbG{α β:Type}[DecidableEq α](enc:α→Value)(encV:β→Value){w:World}{b:Nat}(h:w.heap[b]? =some (.map #[] 0)):ZaI enc encV w b (fun _=>none) :=
 ⟨[],0,h,fun a=>rfl,⟨fun e he=>absurd he (by simp),List.nodup_nil⟩⟩
theorem ZqD{t:List VN}{w:World}{sb nb lb tb cap ub:Nat}{tcs:Array Value}{lm:Nat→Option Nat}(hT:ZaY w)(hP:Zaz w)(hg:∀k∈[sb,nb,lb,ub,ub+1,ub+1+1],k≠Zdm∧k≠gTz)
  (hs:w.heap[sb]? =some (.cells #[.slice (some ⟨tb,0,none⟩) t.length cap,.map (some lb),.slice (some ⟨nb,0,none⟩) 2 2,.map (some ub),.map (some (ub+1)),.map (some (ub+1+1))] ZaD (0,0)))
  (hn:w.heap[nb]? =some (.cells ZaP Zbd (0,0))) (ht:w.heap[tb]? =some (.cells tcs 78 (0,0))) (rf:∀j u,(Zal t)[j]? =some u→tcs[0+j]? =some u)
  (hl:ZaI Zad Zad w lb (ZeL t)) (h0:w.heap[ub]? =some (.map #[] 0)) (h1:w.heap[ub+1]? =some (.map #[] 0)) (h2:w.heap[ub+1+1]? =some (.map #[] 0)) (zC:lb<ub) :
  Rep { sb:=sb,tb:=tb,tc:=cap,lb:=lb,nb:=nb,ub:=ub,ab:=ub+1,mb:=ub+1+1,eb:=[] } (ZbD t) w where
 tz:=hT
 pow:=hP
 glob:=fun k hk=>hg k (by simp[Zar.mut]at hk ⊢;omega)
 store:=⟨.slice (some ⟨nb,0,none⟩) 2 2,[.slice none 0 0,.slice none 0 0],hs,⟨rfl,⟨by simp[ZbD,Zcl,ZaR],.inr ⟨nb,2,ZaP,rfl,Nat.zero_le _,hn,ZrQ _,by unfold maxLen;omega,rfl,rfl⟩⟩,rfl,fun i hi hv=>by
   match i,hi with
   | 0,_=>exact Ze2 w
   | 1,_=>exact Ze2 w⟩,fun v hv b hb=>by
   simp at hv;rw[hv]at hb;simp[Value.ownBlock]at hb⟩
 tree:=⟨tcs,(0,0),ht,rf⟩
 leaf:=hl
 uniq:=ZbG ZbT Zad h0
 ands:=ZbG Zf9 Zad h1
 nots:=ZbG Zad Zad h2
 apart:=by refine⟨?_,?_,?_,?_,?_,?_⟩ <;> simp <;> omega
 small:=⟨by simp[ZbD],fun n hn=>by
  have:n=ZlA:=by simpa [ZbD] using hn
  subst this;refine⟨by decide,by decide,by decide,by decide,?_⟩;exact⟨by simp[ZlA],fun p hp=>absurd hp (by simp[ZlA])⟩⟩
def Zil (t:List VN)(w:World)(lb nb sb:Nat)(sc:Array Value)(k:Nat)(wr:World):Prop :=
 ∃m,ZaI Zad Zad wr lb (asc m)∧ZcF (t.drop k) k m=ZcF t 0 []∧wr.heap[sb]? =some (.cells sc ZaD (0,0))∧wr.heap[nb]? =some (.cells ZaP Zbd (0,0))∧Below lb w wr
theorem ZqE{t:List VN}(w:World)(b o cap:Nat)(hT:ZaY w)(hP:Zaz w)(h:Zag w b o t)(hc:Zae t=0) :
  Calls Tryz.prog 30 #[.slice (some ⟨b,o,none⟩) t.length cap] w (ZoO t w):=by
 have hq:=ZbJ w (some ⟨b,o,none⟩) cap (.inr ⟨b,o,rfl,h⟩);obtain⟨ht0,dB,_⟩:=Zam hc;rw[hc]at hq;have jy:∀w,(Instr.makeMap 62 none).run Tryz.prog w= .ok (.map (some w.heap.size)) (w.alloc (.map #[] 0)):=fun w=>rfl
 go_enter Tryz.func30,Tryz.ntmps30
 go_wp2_with fail;refine hq.mono ?_;rintro e w1 ⟨rfl,aK⟩;have bX:=Zgo w1 b o cap t (h.ext aK) (by omega);replace hc:=Zrr hc;clear hq;go_wp2_with fail;refine bX.mono ?_;rintro e w2 ⟨g,jF,tcs,rfl,jl,cD,bP,aL⟩;replace cD:=Zrr cD;replace bP:=Zrr bP;clear bX;go_wp2_with fail;have aR:Ext w2 (((w2.alloc (.map #[] 0)).alloc (.cells #[.int .i64 (-1),.int .i64 0,.slice none 0 0,.int .u64 0,.int .u64 0,.int .i64 (-1),.int .i64 0,.slice none 0 0,.int .u64 0,.int .u64 0] 101)).alloc (.cells #[.slice (some ⟨g,0,none⟩) t.length jF,.map (some w2.heap.size),.slice (some ⟨w2.heap.size+1,0,none⟩) 2 2,.map none,.map none,.map none] 67)):=(((Ext.refl w2).alloc _).alloc _).alloc _;obtain⟨g0,g1,g2⟩:=Zec w2 (.map #[] 0) (.cells #[.int .i64 (-1),.int .i64 0,.slice none 0 0,.int .u64 0,.int .u64 0,.int .i64 (-1),.int .i64 0,.slice none 0 0,.int .u64 0,.int .u64 0] 101) (.cells #[.slice (some ⟨g,0,none⟩) t.length jF,.map (some w2.heap.size),.slice (some ⟨w2.heap.size+1,0,none⟩) 2 2,.map none,.map none,.map none] 67);generalize ((w2.alloc (.map #[] 0)).alloc (.cells #[.int .i64 (-1),.int .i64 0,.slice none 0 0,.int .u64 0,.int .u64 0,.int .i64 (-1),.int .i64 0,.slice none 0 0,.int .u64 0,.int .u64 0] 101)).alloc (.cells #[.slice (some ⟨g,0,none⟩) t.length jF,.map (some w2.heap.size),.slice (some ⟨w2.heap.size+1,0,none⟩) 2 2,.map none,.map none,.map none] 67)=w3 at *;have lI:w.heap.size≤w2.heap.size:=ZrC aK.size aL.size;have iZ:Below w.heap.size w w2:=aK.below.trans (aL.mono aK.size)
 have aY:Hid (Zil t w2 w2.heap.size (w2.heap.size+1) (w2.heap.size+1+1) #[.slice (some ⟨g,0,none⟩) t.length jF,.map (some w2.heap.size),.slice (some ⟨w2.heap.size+1,0,none⟩) 2 2,.map none,.map none,.map none] 0 w3):=Zrr
  ⟨[],ZbG _ _ g0,rfl,g2,g1,aR.below⟩
 have hx3s:=(Zrv g2).1;clear g0 g1 g2 aR;have hgl1:=hP.lt;have hgl2:=hT.lt';have hTw:=hT.same (iZ.block _ hgl2);have xd:=hP.same (iZ.block _ hgl1);have mi:Hid (Zag w2 b o t):=Zrr (fun j u hj=>(aL.cell (Zrx w1 _ ((h.ext aK) j u hj))).trans ((h.ext aK) j u hj));clear h hT hP aL;have hglt:g<w2.heap.size:=(Zrv cD.out).1;have hg1':w.heap.size≤g:=ZrC aK.size jl;replace hTw:=Zrr hTw;replace xd:=Zrr xd;replace iZ:=Zrr iZ;generalize rG:w2.heap.size=lb at *;replace rG:=Zrr rG
 go_loopw [23] (fun i wr=>∃k:Nat,k≤t.length∧i= .int .i64 k∧Hid (Zil t w2 lb (lb+1) (lb+1+1) #[.slice (some ⟨g,0,none⟩) t.length jF,.map (some lb),.slice (some ⟨lb+1,0,none⟩) 2 2,.map none,.map none,.map none] k wr))
  (fun i _=>t.length - (intOf i).toNat)
 case atStart=>exact⟨0,Nat.zero_le _,rfl,aY⟩
 case round =>
  clear aY;obtain⟨k,hk,rfl,hI⟩:=hrel;obtain⟨m,hm,aI,hs,hn,hb⟩:=hI.out;clear hI
  by_cases aD:k<t.length
  ·rw[List.drop_eq_getElem_cons aD]at aI
   rw[leaves_cons]at aI;have hv:=ZnM hc.out aD;obtain⟨e0,e1,e2⟩:=mi.out.node aD
   have eH:∀j u,(Zal t)[j]? =some u→b<lb:=fun j u hj=>by
    rw[←rG.out];exact Zrx w2 _ (mi.out j u hj)
   have uJ:b<lb:=by rw[←rG.out];exact Zrx w2 _ e0
   clear eH;have e0:=(hb.cell (p:=⟨b,o+k*3,none⟩) uJ).trans e0;have e1:=(hb.cell (p:=⟨b,o+k*3+1,none⟩) uJ).trans e1;have e2:=(hb.cell (p:=⟨b,o+k*3+2,none⟩) uJ).trans e2;generalize t[k]=x at *;obtain⟨x1,x2,x3⟩:=x;simp only at e0 e1 e2 hv aI;have al:=Zrz wr (.cells #[.int .i64 x1,.int .i64 x2,.int .i64 x3] 78);have gz:Ext wr (wr.alloc (.cells #[.int .i64 x1,.int .i64 x2,.int .i64 x3] 78)):=(Ext.refl wr).alloc _;have dO:=hm.same (gz.below.block _ hm.lt);have eO:=(gz.below.block _ (Zrv hs).1).trans hs;have cJ:=(gz.below.block _ (Zrv hn).1).trans hn;have jM:=hm.lt;have aw:Below lb w2 (wr.alloc (.cells #[.int .i64 x1,.int .i64 x2,.int .i64 x3] 78)):=hb.alloc (by omega) _;clear hs hn hm
   by_cases hx:x1<0
   ·obtain⟨qD,gA⟩:=hv hx
    rw[if_pos hx]at aI;obtain⟨v,rfl⟩:∃v:Nat,x3=v:=⟨x3.toNat,by omega⟩;simp only[Int.toNat_natCast]at aI;have hd:decide (x1<0)=true:=ZrI hx;replace aI:=Zrr aI;replace eO:=Zrr eO;replace cJ:=Zrr cJ;replace dO:=Zrr dO;replace al:=Zrr al;clear hv;go_wp2_with fail;generalize wr.alloc (.cells #[.int .i64 x1,.int .i64 x2,.int .i64 (v:Int)] 78)=w4 at *;have hd4:w4.drew.heap=w4.heap:=rfl;have f1:w4.drew.cell? ⟨lb+1+1,1,none⟩=some (.map (some lb)):=by simp[World.cell?,hd4,eO.out]
    have f2:w4.drew.cell? ⟨wr.heap.size,2,none⟩=some (.int .i64 v):=by simp[World.cell?,hd4,al.out]
    obtain⟨iQ,x7⟩:=(dO.out.same (w':=w4.drew) rfl).putI v k;have bK:∀j,j≠lb→(Zas 3 Tryz.prog w4.drew lb (Zad v) (Zad k)).heap[j]? =w4.heap[j]?:=fun j hj=>Zan _ _ _ _ _ j hj
    obtain⟨q1,q2,q3,_⟩:=Za6 (P:=Tryz.prog) 3 w4.drew lb (Zad v) (Zad k)
    have aA:Hid (Zil t w2 lb (lb+1) (lb+1+1) #[.slice (some ⟨g,0,none⟩) t.length jF,.map (some lb),.slice (some ⟨lb+1,0,none⟩) 2 2,.map none,.map none,.map none] (k+1) (Zas 3 Tryz.prog w4.drew lb (Zad v) (Zad k))):=Zrr
     ⟨(v,k) :: m,x7,aI.out,(bK _ (by omega)).trans eO.out,(bK _ (by omega)).trans cJ.out,q1.trans aw.os,q2.trans aw.tape,q3.trans aw.output,ZrC aw.size (by rw[Zaw];exact ZrQ _),fun j hj=>(bK j (by omega)).trans (aw.block j hj)⟩
    clear bK hd4 q1 q2 q3;generalize Zas 3 Tryz.prog w4.drew lb (Zad v) (Zad k)=w6 at *
    go_region_law (fail)
    all_goals
     go_wp2_with fail;go_roundw
     case rel=>exact⟨k+1,by omega,by go_num,aA⟩
     case measure=>simp[intOf];omega
   ·rw[if_neg hx]at aI
    have hd:decide (x1<0)=false:=ZrH hx;replace aI:=Zrr aI;replace eO:=Zrr eO;replace cJ:=Zrr cJ;replace dO:=Zrr dO;replace al:=Zrr al;go_wp2_with fail;go_roundw
    case rel=>exact⟨k+1,by omega,by go_num,Zrr ⟨m,dO.out,aI.out,eO.out,cJ.out,aw⟩⟩
    case measure=>simp[intOf];omega
  ·obtain rfl:k=t.length:=by omega
   rw[List.drop_length]at aI;have hlf2:m=ZcF t 0 []:=aI;subst hlf2;rw[Zl7 hc.out]at hm;have wY:=Zi4 hs hn;replace aI:=Zrr aI;replace hs:=Zrr hs;replace hn:=Zrr hn;replace hm:=Zrr hm;go_wp2_with fail;refine wY.mono ?_;rintro e w7 ⟨rfl,a1,a2,a3,a4,a5⟩;have ac:lb+1+1<wr.heap.size:=(Zrv hs.out).1
   have qg:Below w.heap.size w w7:=⟨a5.os.trans (hb.os.trans iZ.out.os),a5.tape.trans (hb.tape.trans iZ.out.tape),a5.output.trans (hb.output.trans iZ.out.output),ZrC iZ.out.size (ZrC hb.size a5.size),
    fun j hj=>(a5.block j (by omega) (by simp;omega)).trans ((hb.block j (by omega)).trans (iZ.out.block j hj))⟩
   have ev:∀k∈[lb+1+1,lb+1,lb,wr.heap.size,wr.heap.size+1,wr.heap.size+1+1],k≠Zdm∧k≠gTz:=fun k hk=>by
    simp only[List.mem_cons,List.not_mem_nil,or_false]at hk;omega
   have zf:=ZqD (t:=t) (lm:=fun _=>none) (hTw.out.same ((a5.block _ (by omega) (by simp;omega)).trans (hb.block _ (by omega)))) (xd.out.same ((a5.block _ (by omega) (by simp;omega)).trans (hb.block _ (by omega)))) ev a1 ((a5.block _ (by omega) (by simp)).trans hn.out) ((a5.block g (by omega) (by simp;omega)).trans ((hb.block g hglt).trans cD.out)) bP.out (hm.out.same (a5.block _ (by omega) (by simp;omega))) a2 a3 a4 (by omega)
   have aZ:ZoO t w (.returned (.tuple #[.pointer (some ⟨lb+1+1,0,none⟩),.int .i64 0])) w7:=⟨_,rfl,zf,fun k hk=>by
     simp[Zar.mut]at hk;omega,fun k hk=>absurd hk (by simp),hg1',qg⟩
   replace aZ:=Zrr aZ;clear a1 a2 a3 a4 a5 qg zf wY;go_wp2_with fail;go_ret2;exact aZ.out
end Go.Proofs.YtemnmcfmabamcaaGreatDoor
