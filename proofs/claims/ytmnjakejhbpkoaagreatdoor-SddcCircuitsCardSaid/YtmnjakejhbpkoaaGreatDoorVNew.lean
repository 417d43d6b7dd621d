import Derived.Test.YtmnjakejhbpkoaaGreatDoorVTop
set_option linter.unusedSimpArgs false
set_option linter.unusedVariables false
set_option maxRecDepth 100000
set_option maxHeartbeats 4000000
namespace Go.Proofs.YtmnjakejhbpkoaaGreatDoor
open Go Go.RowKit Go.Shelf
theorem Zjy:(Tryz.prog.info? 106).map (fun i=>(i.zero,i.size,i.bytes))=some (some (.agg #[.int .i64 0,.int .i64 0,.int .i64 0]),3,24):=by kernel_rfl
theorem ZnO(w:World):(Go.sizeOf 106).run Tryz.prog w= .ok 3 w:=by kernel_rfl
theorem Zdz(t:List VN):∀u∈Zaq t,Value.oneCell' u=true:=by
 intro u hu;simp only[Zaq,List.mem_flatMap,List.mem_cons,List.not_mem_nil,or_false]at hu;obtain⟨p,_,rfl|rfl|rfl⟩:=hu <;> rfl
theorem Zcm(t:List VN):(Zaq t).length=3*t.length:=by
 induction t with
 | nil=>rfl
 | cons x r ih=>simp only[Zaq,List.flatMap_cons,Zpo,ZpC,List.length_nil]at ih ⊢;omega
theorem ZfA(w:World)(b o c:Nat)(t:List VN)(h:Zam w b o t)(hl:t.length≤1048576) :
  Calls Tryz.prog 130 #[.slice (some ⟨b,o,none⟩) t.length c] w fun e w'=>∃g cap cs,e= .returned (.slice (some ⟨g,0,none⟩) t.length cap)∧w.heap.size≤g ∧
   w'.heap[g]? =some (.cells cs 106 (0,0))∧(∀j u,(Zaq t)[j]? =some u→cs[0+j]? =some u)∧Below w.heap.size w w':=by
 obtain⟨i0,cX,bB,ak,bE⟩:=info_parts Zjy;have h1:=AnyE.slices_Clone Tryz.cloneTree i0 (.agg #[.int .i64 0,.int .i64 0,.int .i64 0]) 3 24 cX bB ak bE (by rfl) (by omega) ZnO b o t.length c (Zaq t) w (by rw[Zcm];omega) (by unfold maxLen;omega) (by omega) (fun j u hj=>h j u hj) (Zdz t);refine h1.mono ?_;rintro e w' ⟨v',rfl,bH,aH,hb⟩;obtain⟨aL,⟨e0,_⟩|⟨g,cap,cur,rfl,hg,hh,hn,hm,hs,ht⟩⟩:=bH
 ·exact absurd e0 aH
 ·refine⟨g,cap,cur,rfl,hg,hh,fun j u hj=>?_,hb⟩
  rw[←ht,List.getElem?_take]at hj
  split at hj
  ·simpa using hj
  ·simp at hj
def Zm5 (t:List VN)(w:World)(e:Ending)(w':World):Prop:=∃g cap cs,e= .returned (.slice (some ⟨g,0,none⟩) t.length cap)∧w.heap.size≤g ∧
     w'.heap[g]? =some (.cells cs 106 (0,0))∧(∀j u,(Zaq t)[j]? =some u→cs[0+j]? =some u)∧Below w.heap.size w w'
theorem ZmH{B:Zas}{s:St}{w:World}(h:Rep B s w)(hl:s.tree.length≤1048576) :
  Calls Tryz.prog 64 #[.pointer (some ⟨B.sb,0,none⟩)] w (Zm5 s.tree w):=by
 obtain⟨cap,c0,_⟩:=h.cells;have hq:=ZfA w B.tb 0 B.tc s.tree h.treeAt hl;replace hl:=Zpe hl
 go_enter Tryz.func64,Tryz.ntmps64
 go_wp2_with fail;refine hq.mono ?_;rintro e w1 ⟨g,cap,cs,rfl,h1,h2,h3,h4⟩;replace h2:=Zpe h2;replace h3:=Zpe h3;go_wp2_with fail;go_ret;exact⟨g,cap,cs,rfl,h1,h2.out,h3.out,h4⟩
def ZaF:Array Value:=#[.int .i64 (-1),.int .i64 0,.slice none 0 0,.int .u64 0,.int .u64 0,.int .i64 (-1),.int .i64 0,.slice none 0 0,.int .u64 0,.int .u64 0]
def Zis (w:World)(sb nb:Nat)(tv lm:Value)(e:Ending)(w':World):Prop:=e= .returned (.tuple #[]) ∧
 w'.heap[sb]? =some (.cells #[tv,lm,.slice (some ⟨nb,0,none⟩) 2 2,.map (some w.heap.size),.map (some (w.heap.size+1)),.map (some (w.heap.size+1+1))] ZaU (0,0)) ∧
 w'.heap[w.heap.size]? =some (.map #[] 0)∧w'.heap[w.heap.size+1]? =some (.map #[] 0)∧w'.heap[w.heap.size+1+1]? =some (.map #[] 0)∧Fr [sb] w w'
theorem Zib{w:World}{sb nb:Nat}{tv lm u0 a0 m0:Value}(hs:w.heap[sb]? =some (.cells #[tv,lm,.slice (some ⟨nb,0,none⟩) 2 2,u0,a0,m0] ZaU (0,0)))(hn:w.heap[nb]? =some (.cells ZaF Za6 (0,0))) :
  Calls Tryz.prog 169 #[.pointer (some ⟨sb,0,none⟩)] w (Zis w sb nb tv lm):=by
 have ji:∀w,(Instr.makeMap 142 none).run Tryz.prog w= .ok (.map (some w.heap.size)) (w.alloc (.map #[] 0)):=fun w=>rfl
 have xT:∀w,(Instr.makeMap 160 none).run Tryz.prog w= .ok (.map (some w.heap.size)) (w.alloc (.map #[] 0)):=fun w=>rfl
 have hmm3:∀w,(Instr.makeMap 161 none).run Tryz.prog w= .ok (.map (some w.heap.size)) (w.alloc (.map #[] 0)):=fun w=>rfl
 have aR:Ext w (((w.alloc (.map #[] 0)).alloc (.map #[] 0)).alloc (.map #[] 0)):=(((Ext.refl w).alloc _).alloc _).alloc _;obtain⟨g0,g1,g2⟩:=Zfh w (.map #[] 0) (.map #[] 0) (.map #[] 0);have eD:=(aR.below.block sb (Zpi hs).1).trans hs;have kz:=(aR.below.block nb (Zpi hn).1).trans hn;have c2:(((w.alloc (.map #[] 0)).alloc (.map #[] 0)).alloc (.map #[] 0)).cell? ⟨sb,2,none⟩=some (.slice (some ⟨nb,0,none⟩) 2 2):=by simp[World.cell?,eD]
 have c3:(((w.alloc (.map #[] 0)).alloc (.map #[] 0)).alloc (.map #[] 0)).cell? ⟨sb,3,none⟩=some u0:=by simp[World.cell?,eD]
 have c4:(((w.alloc (.map #[] 0)).alloc (.map #[] 0)).alloc (.map #[] 0)).cell? ⟨sb,4,none⟩=some a0:=by simp[World.cell?,eD]
 have c5:(((w.alloc (.map #[] 0)).alloc (.map #[] 0)).alloc (.map #[] 0)).cell? ⟨sb,5,none⟩=some m0:=by simp[World.cell?,eD]
 have f3:∀j,(((w.alloc (.map #[] 0)).alloc (.map #[] 0)).alloc (.map #[] 0)).frozen? ⟨sb,j,none⟩=false:=fun j=>by simp[World.frozen?,eD]
 have f33:=f3 3;have f34:=f3 4;have f35:=f3 5;replace eD:=Zpe eD;replace kz:=Zpe kz
 have bu:nb≠sb:=by
  intro e;rw[e,hs]at hn;simp[ZaU,Za6]at hn
 have cq:=(Zpi hs).1;have fY:((((((w.alloc (.map #[] 0)).alloc (.map #[] 0)).alloc (.map #[] 0)).setCell ⟨sb,3,none⟩ (.map (some w.heap.size))).setCell ⟨sb,4,none⟩ (.map (some (w.heap.size+1)))).setCell ⟨sb,5,none⟩ (.map (some (w.heap.size+1+1)))).heap[sb]? =some (.cells #[tv,lm,.slice (some ⟨nb,0,none⟩) 2 2,.map (some w.heap.size),.map (some (w.heap.size+1)),.map (some (w.heap.size+1+1))] ZaU (0,0)):=Zag (Zag (Zag eD.out 3 _) 4 _) 5 _
 have cB:∀k,k≠sb→((((((w.alloc (.map #[] 0)).alloc (.map #[] 0)).alloc (.map #[] 0)).setCell ⟨sb,3,none⟩ (.map (some w.heap.size))).setCell ⟨sb,4,none⟩ (.map (some (w.heap.size+1)))).setCell ⟨sb,5,none⟩ (.map (some (w.heap.size+1+1)))).heap[k]? =(((w.alloc (.map #[] 0)).alloc (.map #[] 0)).alloc (.map #[] 0)).heap[k]?:=fun k hk =>
  (Below.heap_setCell _ _ _ _ hk).trans ((Below.heap_setCell _ _ _ _ hk).trans (Below.heap_setCell _ _ _ _ hk))
 have aG:Hid (Zis w sb nb tv lm (.returned (.tuple #[])) ((((((w.alloc (.map #[] 0)).alloc (.map #[] 0)).alloc (.map #[] 0)).setCell ⟨sb,3,none⟩ (.map (some w.heap.size))).setCell ⟨sb,4,none⟩ (.map (some (w.heap.size+1)))).setCell ⟨sb,5,none⟩ (.map (some (w.heap.size+1+1))))):=Zpe
  ⟨rfl,fY,(cB _ (by omega)).trans g0,(cB _ (by omega)).trans g1,(cB _ (by omega)).trans g2,rfl,rfl,rfl,by simp[World.setCell];omega,fun k hk hM=>(cB k (by simpa using hM)).trans (aR.below.block k hk)⟩
 have lB:=(cB nb bu).trans kz.out;replace lB:=Zpe lB;replace fY:=Zpe fY;clear f3 hs hn cB cq;replace g0:=Zpe g0;replace g1:=Zpe g1;replace g2:=Zpe g2
 go_enter Tryz.func169,Tryz.ntmps169
 go_wp2_with fail;generalize (((((w.alloc (.map #[] 0)).alloc (.map #[] 0)).alloc (.map #[] 0)).setCell ⟨sb,3,none⟩ (.map (some w.heap.size))).setCell ⟨sb,4,none⟩ (.map (some (w.heap.size+1)))).setCell ⟨sb,5,none⟩ (.map (some (w.heap.size+1+1)))=w4 at *
 have hl4:w.heap.size+1+1<w4.heap.size:=by
  obtain⟨_,_,_,_,h3,_⟩:=aG.out;exact(Zpi h3).1
 go_loopw [21] (fun i wr=>∃k:Nat,k≤2∧i= .int .i64 k∧Below w4.heap.size w4 wr) (fun i _=>2 - (intOf i).toNat)
 case atStart=>exact⟨0,by omega,rfl,Zpr _ _⟩
 case round =>
  obtain⟨k,hk,rfl,hb⟩:=hrel
  by_cases aE:k<2
  ·have eo:=(hb.block nb (Zpi lB.out).1).trans lB.out
   have cF:k=0∨k=1:=by omega
   rcases cF with rfl|rfl
   ·have n0:wr.cell? ⟨nb,0,none⟩=some (.int .i64 (-1)):=by simp[World.cell?,eo,ZaF]
    have n1:wr.cell? ⟨nb,1,none⟩=some (.int .i64 0):=by simp[World.cell?,eo,ZaF]
    have n2:wr.cell? ⟨nb,2,none⟩=some (.slice none 0 0):=by simp[World.cell?,eo,ZaF]
    have n3:wr.cell? ⟨nb,3,none⟩=some (.int .u64 0):=by simp[World.cell?,eo,ZaF]
    have n4:wr.cell? ⟨nb,4,none⟩=some (.int .u64 0):=by simp[World.cell?,eo,ZaF]
    clear eo;go_wp2_with fail;go_roundw
    case rel=>exact⟨1,by omega,by go_num,hb.alloc hb.size _⟩
    case measure=>simp[intOf]
   ·have n0:wr.cell? ⟨nb,5,none⟩=some (.int .i64 (-1)):=by simp[World.cell?,eo,ZaF]
    have n1:wr.cell? ⟨nb,6,none⟩=some (.int .i64 0):=by simp[World.cell?,eo,ZaF]
    have n2:wr.cell? ⟨nb,7,none⟩=some (.slice none 0 0):=by simp[World.cell?,eo,ZaF]
    have n3:wr.cell? ⟨nb,8,none⟩=some (.int .u64 0):=by simp[World.cell?,eo,ZaF]
    have n4:wr.cell? ⟨nb,9,none⟩=some (.int .u64 0):=by simp[World.cell?,eo,ZaF]
    clear eo;go_wp2_with fail;go_roundw
    case rel=>exact⟨2,by omega,by go_num,hb.alloc hb.size _⟩
    case measure=>simp[intOf]
  ·obtain rfl:k=2:=by omega
   go_wp2_with fail
   go_end0
   obtain⟨_,a1,a2,a3,a4,a5⟩:=aG.out
   exact⟨rfl,(hb.block _ (Zpi a1).1).trans a1,(hb.block _ (Zpi a2).1).trans a2,(hb.block _ (Zpi a3).1).trans a3,(hb.block _ (Zpi a4).1).trans a4,
    hb.os.trans a5.os,hb.tape.trans a5.tape,hb.output.trans a5.output,Zpp a5.size hb.size,fun k hk hM=>(hb.block k (Zpq hk a5.size)).trans (a5.block k hk hM)⟩
end Go.Proofs.YtmnjakejhbpkoaaGreatDoor
namespace Go.Proofs.YtmnjakejhbpkoaaGreatDoor
open Go Go.RowKit Go.Shelf
def Zcf:List VN→Nat→List (Nat × Nat)→List (Nat × Nat)
 | [],_,m=>m
 | x :: r,i,m=>Zcf r (i+1) (if x.left<0 then (x.var.toNat,i) :: m else m)
theorem leaves_cons(x:VN)(r:List VN)(i:Nat)(m:List (Nat × Nat)):Zcf (x :: r) i m=Zcf r (i+1) (if x.left<0 then (x.var.toNat,i) :: m else m):=rfl
def ZeV (v:Nat)(x:VN):Bool:=decide (x.left<0) && decide (x.var=(v:Int))
theorem Zff{i:Nat}{x:VN}{sc sc':(Nat→Bool) × (Nat→Bool)}(h:Zcl i x sc=some sc')(hx:x.left<0):Zaj x=true∧1≤x.var∧x.var≤128∧sc.1 x.var.toNat=false∧sc'.1=Zbs sc.1 x.var.toNat:=by
 unfold Zcl at h
 split at h
 ·rename_i hl
  split at h
  ·cases h
  ·rename_i hs
   simp only[Zpw]at h;have hb:=hl;simp only[Zaj,Zpx,ZpA]at hb;exact⟨hl,hb.2.1,hb.2.2,by simpa using hs,by rw[←h]⟩
 ·rename_i hl
  rcases ZcX (i:=i) (x:=x) (sc:=sc) (sc':=sc') (by unfold Zcl;rw[if_neg hl];exact h) with ⟨h2,_⟩|⟨_,_,h3,_⟩
  ·exact absurd h2 hl
  ·omega
theorem ZjV{i:Nat}{x:VN}{sc sc':(Nat→Bool) × (Nat→Bool)}(h:Zcl i x sc=some sc')(hx:¬ x.left<0):sc'.1=sc.1:=by
 have hl:¬ Zaj x=true:=by
  intro e;simp only[Zaj,Zpx,ZpA]at e;omega
 unfold Zcl at h;rw[if_neg hl]at h
 split at h
 ·cases h
 ·split at h
  ·cases h
  ·split at h
   ·cases h
   ·simp only[Zpw]at h
    rw[←h]
theorem Zgt{x:VN}{r:List VN}{i:Nat}{sc sc':(Nat→Bool) × (Nat→Bool)}(h:Zcs (x :: r) i sc=some sc'):∃s1,Zcl i x sc=some s1∧Zcs r (i+1) s1=some sc':=by
 unfold Zcs at h
 split at h
 ·cases h
 ·rename_i s1 h1
  exact⟨s1,h1,h⟩
theorem Zgu:∀(l:List VN) (i:Nat) (sc sc':(Nat→Bool) × (Nat→Bool)) (v:Nat),Zcs l i sc=some sc'→sc.1 v=true→l.findIdx? (ZeV v)=none
 | [],_,_,_,_,_,_=>rfl
 | x :: r,i,sc,sc',v,h,hv=>by
   obtain⟨s1,h1,h2⟩:=Zgt h
   by_cases hx:x.left<0
   ·obtain⟨_,a1,a2,a3,a4⟩:=Zff h1 hx
    have aH:¬ x.var=(v:Int):=by
     intro e;rw[e]at a3;simp[hv]at a3
    have:=Zgu r (i+1) s1 sc' v h2 (by rw[a4];simp[Zbs,hv]);rw[List.findIdx?_cons,this];simp[ZeV,aH]
   ·have:=Zgu r (i+1) s1 sc' v h2 (by rw[ZjV h1 hx];exact hv)
    rw[List.findIdx?_cons,this];simp[ZeV,hx]
theorem ZeX:∀(l:List VN) (i:Nat) (sc sc':(Nat→Bool) × (Nat→Bool)) (m:List (Nat × Nat)) (v:Nat),Zcs l i sc=some sc' →
  asc (Zcf l i m) v=match l.findIdx? (ZeV v) with|some j=>some (i+j)|none=>asc m v
 | [],_,_,_,_,_,_=>rfl
 | x :: r,i,sc,sc',m,v,h=>by
   obtain⟨s1,h1,h2⟩:=Zgt h;have ih:=fun m=>ZeX r (i+1) s1 sc' m v h2
   unfold Zcf;rw[ih,List.findIdx?_cons]
   by_cases hx:x.left<0
   ·obtain⟨_,a1,a2,a3,a4⟩:=Zff h1 hx
    by_cases hv:x.var=(v:Int)
    ·have hs:=Zgu r (i+1) s1 sc' v h2 (by rw[a4,hv];simp[Zbs])
     rw[hs];simp[ZeV,hx,hv,asc]
    ·have aH:¬ v=x.var.toNat:=by omega
     simp only[ZeV,hx,hv,decide_true,decide_false,Bool.and_false,if_true,Bool.false_eq_true,if_false]
     cases hf:r.findIdx? (ZeV v) with
     | none=>simp[hf,asc,aH]
     | some j=>simp[hf];omega
   ·simp only[ZeV,hx,decide_false,Bool.false_and,Bool.false_eq_true,if_false]
    cases hf:r.findIdx? (ZeV v) with
    | none=>simp[hf]
    | some j=>simp[hf];omega
theorem ZkZ{t:List VN}(h:Zad t=0):asc (Zcf t 0 [])=Zd5 t:=by
 obtain⟨_,_,sc,hr,_⟩:=Zar h
 funext v
 rw[ZeX t 0 _ _ [] v hr]
 show _=t.findIdx? (ZeV v)
 cases t.findIdx? (ZeV v) with
 | none=>rfl
 | some j=>simp
theorem ZiX:∀(t:List VN) (i:Nat) (sc sc':(Nat→Bool) × (Nat→Bool)),Zcs t i sc=some sc'→∀k (hk:k<t.length),t[k].left<0→1≤t[k].var∧t[k].var≤128
 | [],_,_,_,_,k,hk,_=>absurd hk (Nat.not_lt_zero _)
 | x :: r,i,sc,sc',h,k,hk,hl=>by
   obtain⟨s1,h1,h2⟩:=Zgt h
   cases k with
   | zero=>obtain⟨_,a1,a2,_⟩:=Zff h1 hl;exact⟨a1,a2⟩
   | succ k=>simpa using ZiX r (i+1) s1 sc' h2 k (by simpa using hk) (by simpa using hl)
theorem Zl8{t:List VN}(h:Zad t=0){k:Nat}(hk:k<t.length)(hl:t[k].left<0):1≤t[k].var∧t[k].var≤128:=by
 obtain⟨_,_,sc,hr,_⟩:=Zar h;exact ZiX t 0 _ _ hr k hk hl
end Go.Proofs.YtmnjakejhbpkoaaGreatDoor
namespace Go.Proofs.YtmnjakejhbpkoaaGreatDoor
open Go Go.RowKit Go.Shelf
def Zkk:Zaf:={ pl:=-1,lit:=0,el:=[],le:=0 }
def Za3 (t:List VN):St:={ tree:=t,nodes:=[Zkk,Zkk],uniq:=[],ands:=[],nots:=[] }
def ZmS (t:List VN)(w:World)(e:Ending)(w':World):Prop:=∃B,e= .returned (.tuple #[.pointer (some ⟨B.sb,0,none⟩),.int .i64 0])∧Rep B (Za3 t) w'∧(∀k∈B.mut,w.heap.size≤k)∧(∀k∈B.eb,w.heap.size≤k)∧w.heap.size≤B.tb∧Below w.heap.size w w'
theorem Zes{α β:Type}[DecidableEq α](enc:α→Value)(encV:β→Value){w:World}{b:Nat}(h:w.heap[b]? =some (.map #[] 0)):ZaG enc encV w b (fun _=>none) :=
 ⟨[],0,h,fun a=>rfl,⟨fun e he=>absurd he (by simp),List.nodup_nil⟩⟩
theorem Zor{t:List VN}{w:World}{sb nb lb tb cap ub:Nat}{tcs:Array Value}{lm:Nat→Option Nat}(hT:ZaX w)(hP:Za7 w)(hg:∀k∈[sb,nb,lb,ub,ub+1,ub+1+1],k≠ZcR∧k≠gTz)
  (hs:w.heap[sb]? =some (.cells #[.slice (some ⟨tb,0,none⟩) t.length cap,.map (some lb),.slice (some ⟨nb,0,none⟩) 2 2,.map (some ub),.map (some (ub+1)),.map (some (ub+1+1))] ZaU (0,0)))
  (hn:w.heap[nb]? =some (.cells ZaF Za6 (0,0))) (ht:w.heap[tb]? =some (.cells tcs 106 (0,0))) (htc:∀j u,(Zaq t)[j]? =some u→tcs[0+j]? =some u)
  (hl:ZaG Zab Zab w lb (Zd5 t)) (h0:w.heap[ub]? =some (.map #[] 0)) (h1:w.heap[ub+1]? =some (.map #[] 0)) (h2:w.heap[ub+1+1]? =some (.map #[] 0)) (hlu:lb<ub) :
  Rep { sb:=sb,tb:=tb,tc:=cap,lb:=lb,nb:=nb,ub:=ub,ab:=ub+1,mb:=ub+1+1,eb:=[] } (Za3 t) w where
 tz:=hT
 pow:=hP
 glob:=fun k hk=>hg k (by simp[Zas.mut]at hk ⊢;omega)
 store:=⟨.slice (some ⟨nb,0,none⟩) 2 2,[.slice none 0 0,.slice none 0 0],hs,⟨rfl,⟨by simp[Za3,Zei,Zbf],.inr ⟨nb,2,ZaF,rfl,Nat.zero_le _,hn,ZpD _,by unfold maxLen;omega,rfl,rfl⟩⟩,rfl,fun i hi hv=>by
   match i,hi with
   | 0,_=>exact Zep w
   | 1,_=>exact Zep w⟩,fun v hv b hb=>by
   simp at hv;rw[hv]at hb;simp[Value.ownBlock]at hb⟩
 tree:=⟨tcs,(0,0),ht,htc⟩
 leaf:=hl
 uniq:=Zes Zdl Zab h0
 ands:=Zes Zga Zab h1
 nots:=Zes Zab Zab h2
 apart:=by refine⟨?_,?_,?_,?_,?_,?_⟩ <;> simp <;> omega
 small:=⟨by simp[Za3],fun n hn=>by
  have:n=Zkk:=by simpa [Za3] using hn
  subst this;refine⟨by decide,by decide,by decide,by decide,?_⟩;exact⟨by simp[Zkk],fun p hp=>absurd hp (by simp[Zkk])⟩⟩
def Zhw (t:List VN)(w:World)(lb nb sb:Nat)(sc:Array Value)(k:Nat)(wr:World):Prop :=
 ∃m,ZaG Zab Zab wr lb (asc m)∧Zcf (t.drop k) k m=Zcf t 0 []∧wr.heap[sb]? =some (.cells sc ZaU (0,0))∧wr.heap[nb]? =some (.cells ZaF Za6 (0,0))∧Below lb w wr
theorem Zos{t:List VN}(w:World)(b o cap:Nat)(hT:ZaX w)(hP:Za7 w)(h:Zam w b o t)(hc:Zad t=0) :
  Calls Tryz.prog 151 #[.slice (some ⟨b,o,none⟩) t.length cap] w (ZmS t w):=by
 have hq:=ZbZ w (some ⟨b,o,none⟩) cap (.inr ⟨b,o,rfl,h⟩);obtain⟨ht0,fZ,_⟩:=Zar hc;rw[hc]at hq;have ji:∀w,(Instr.makeMap 142 none).run Tryz.prog w= .ok (.map (some w.heap.size)) (w.alloc (.map #[] 0)):=fun w=>rfl
 go_enter Tryz.func151,Tryz.ntmps151
 go_wp2_with fail;refine hq.mono ?_;rintro e w1 ⟨rfl,aC⟩;have db:=ZfA w1 b o cap t (h.ext aC) (by omega);replace hc:=Zpe hc;clear hq;go_wp2_with fail;refine db.mono ?_;rintro e w2 ⟨g,fM,tcs,rfl,oe,fk,dS,aP⟩;replace fk:=Zpe fk;replace dS:=Zpe dS;clear db;go_wp2_with fail;have aR:Ext w2 (((w2.alloc (.map #[] 0)).alloc (.cells #[.int .i64 (-1),.int .i64 0,.slice none 0 0,.int .u64 0,.int .u64 0,.int .i64 (-1),.int .i64 0,.slice none 0 0,.int .u64 0,.int .u64 0] 158)).alloc (.cells #[.slice (some ⟨g,0,none⟩) t.length fM,.map (some w2.heap.size),.slice (some ⟨w2.heap.size+1,0,none⟩) 2 2,.map none,.map none,.map none] 163)):=(((Ext.refl w2).alloc _).alloc _).alloc _;obtain⟨g0,g1,g2⟩:=Zfh w2 (.map #[] 0) (.cells #[.int .i64 (-1),.int .i64 0,.slice none 0 0,.int .u64 0,.int .u64 0,.int .i64 (-1),.int .i64 0,.slice none 0 0,.int .u64 0,.int .u64 0] 158) (.cells #[.slice (some ⟨g,0,none⟩) t.length fM,.map (some w2.heap.size),.slice (some ⟨w2.heap.size+1,0,none⟩) 2 2,.map none,.map none,.map none] 163);generalize ((w2.alloc (.map #[] 0)).alloc (.cells #[.int .i64 (-1),.int .i64 0,.slice none 0 0,.int .u64 0,.int .u64 0,.int .i64 (-1),.int .i64 0,.slice none 0 0,.int .u64 0,.int .u64 0] 158)).alloc (.cells #[.slice (some ⟨g,0,none⟩) t.length fM,.map (some w2.heap.size),.slice (some ⟨w2.heap.size+1,0,none⟩) 2 2,.map none,.map none,.map none] 163)=w3 at *;have p5:w.heap.size≤w2.heap.size:=Zpp aC.size aP.size;have ev:Below w.heap.size w w2:=aC.below.trans (aP.mono aC.size)
 have aQ:Hid (Zhw t w2 w2.heap.size (w2.heap.size+1) (w2.heap.size+1+1) #[.slice (some ⟨g,0,none⟩) t.length fM,.map (some w2.heap.size),.slice (some ⟨w2.heap.size+1,0,none⟩) 2 2,.map none,.map none,.map none] 0 w3):=Zpe
  ⟨[],Zes _ _ g0,rfl,g2,g1,aR.below⟩
 have hx3s:=(Zpi g2).1;clear g0 g1 g2 aR;have xB:=hP.lt;have xC:=hT.lt';have vz:=hT.same (ev.block _ xC);have vh:=hP.same (ev.block _ xB);have eV:Hid (Zam w2 b o t):=Zpe (fun j u hj=>(aP.cell (Zpk w1 _ ((h.ext aC) j u hj))).trans ((h.ext aC) j u hj));clear h hT hP aP;have xE:g<w2.heap.size:=(Zpi fk.out).1;have og:w.heap.size≤g:=Zpp aC.size oe;replace vz:=Zpe vz;replace vh:=Zpe vh;replace ev:=Zpe ev;generalize uM:w2.heap.size=lb at *;replace uM:=Zpe uM
 go_loopw [23] (fun i wr=>∃k:Nat,k≤t.length∧i= .int .i64 k∧Hid (Zhw t w2 lb (lb+1) (lb+1+1) #[.slice (some ⟨g,0,none⟩) t.length fM,.map (some lb),.slice (some ⟨lb+1,0,none⟩) 2 2,.map none,.map none,.map none] k wr))
  (fun i _=>t.length - (intOf i).toNat)
 case atStart=>exact⟨0,Nat.zero_le _,rfl,aQ⟩
 case round =>
  clear aQ;obtain⟨k,hk,rfl,hI⟩:=hrel;obtain⟨m,hm,aI,hs,hn,hb⟩:=hI.out;clear hI
  by_cases aE:k<t.length
  ·rw[List.drop_eq_getElem_cons aE]at aI
   rw[leaves_cons]at aI;have hv:=Zl8 hc.out aE;obtain⟨e0,e1,e2⟩:=eV.out.node aE
   have nj:∀j u,(Zaq t)[j]? =some u→b<lb:=fun j u hj=>by
    rw[←uM.out];exact Zpk w2 _ (eV.out j u hj)
   have o5:b<lb:=by rw[←uM.out];exact Zpk w2 _ e0
   clear nj;have e0:=(hb.cell (p:=⟨b,o+k*3,none⟩) o5).trans e0;have e1:=(hb.cell (p:=⟨b,o+k*3+1,none⟩) o5).trans e1;have e2:=(hb.cell (p:=⟨b,o+k*3+2,none⟩) o5).trans e2;generalize t[k]=x at *;obtain⟨x1,x2,x3⟩:=x;simp only at e0 e1 e2 hv aI;have ao:=Zpm wr (.cells #[.int .i64 x1,.int .i64 x2,.int .i64 x3] 106);have ah:Ext wr (wr.alloc (.cells #[.int .i64 x1,.int .i64 x2,.int .i64 x3] 106)):=(Ext.refl wr).alloc _;have nT:=hm.same (ah.below.block _ hm.lt);have fY:=(ah.below.block _ (Zpi hs).1).trans hs;have lB:=(ah.below.block _ (Zpi hn).1).trans hn;have lr:=hm.lt;have bF:Below lb w2 (wr.alloc (.cells #[.int .i64 x1,.int .i64 x2,.int .i64 x3] 106)):=hb.alloc (by omega) _;clear hs hn hm
   by_cases hx:x1<0
   ·obtain⟨bI,ap⟩:=hv hx
    rw[if_pos hx]at aI;obtain⟨v,rfl⟩:∃v:Nat,x3=v:=⟨x3.toNat,by omega⟩;simp only[Int.toNat_natCast]at aI;have hd:decide (x1<0)=true:=Zpv hx;replace aI:=Zpe aI;replace fY:=Zpe fY;replace lB:=Zpe lB;replace nT:=Zpe nT;replace ao:=Zpe ao;clear hv;go_wp2_with fail;generalize wr.alloc (.cells #[.int .i64 x1,.int .i64 x2,.int .i64 (v:Int)] 106)=w4 at *;have fh:w4.drew.heap=w4.heap:=rfl;have f1:w4.drew.cell? ⟨lb+1+1,1,none⟩=some (.map (some lb)):=by simp[World.cell?,fh,fY.out]
    have f2:w4.drew.cell? ⟨wr.heap.size,2,none⟩=some (.int .i64 v):=by simp[World.cell?,fh,ao.out]
    obtain⟨lu,rH⟩:=(nT.out.same (w':=w4.drew) rfl).putI v k;have gI:∀j,j≠lb→(Zap 3 Tryz.prog w4.drew lb (Zab v) (Zab k)).heap[j]? =w4.heap[j]?:=fun j hj=>Zai _ _ _ _ _ j hj
    obtain⟨q1,q2,q3,_⟩:=ZbQ (P:=Tryz.prog) 3 w4.drew lb (Zab v) (Zab k)
    have aM:Hid (Zhw t w2 lb (lb+1) (lb+1+1) #[.slice (some ⟨g,0,none⟩) t.length fM,.map (some lb),.slice (some ⟨lb+1,0,none⟩) 2 2,.map none,.map none,.map none] (k+1) (Zap 3 Tryz.prog w4.drew lb (Zab v) (Zab k))):=Zpe
     ⟨(v,k) :: m,rH,aI.out,(gI _ (by omega)).trans fY.out,(gI _ (by omega)).trans lB.out,q1.trans bF.os,q2.trans bF.tape,q3.trans bF.output,Zpp bF.size (by rw[Za1];exact ZpD _),fun j hj=>(gI j (by omega)).trans (bF.block j hj)⟩
    clear gI fh q1 q2 q3;generalize Zap 3 Tryz.prog w4.drew lb (Zab v) (Zab k)=w6 at *
    go_region_law (fail)
    all_goals
     go_wp2_with fail;go_roundw
     case rel=>exact⟨k+1,by omega,by go_num,aM⟩
     case measure=>simp[intOf];omega
   ·rw[if_neg hx]at aI
    have hd:decide (x1<0)=false:=Zpu hx;replace aI:=Zpe aI;replace fY:=Zpe fY;replace lB:=Zpe lB;replace nT:=Zpe nT;replace ao:=Zpe ao;go_wp2_with fail;go_roundw
    case rel=>exact⟨k+1,by omega,by go_num,Zpe ⟨m,nT.out,aI.out,fY.out,lB.out,bF⟩⟩
    case measure=>simp[intOf];omega
  ·obtain rfl:k=t.length:=by omega
   rw[List.drop_length]at aI;have xN:m=Zcf t 0 []:=aI;subst xN;rw[ZkZ hc.out]at hm;have qT:=Zib hs hn;replace aI:=Zpe aI;replace hs:=Zpe hs;replace hn:=Zpe hn;replace hm:=Zpe hm;go_wp2_with fail;refine qT.mono ?_;rintro e w7 ⟨rfl,a1,a2,a3,a4,a5⟩;have bW:lb+1+1<wr.heap.size:=(Zpi hs.out).1
   have kF:Below w.heap.size w w7:=⟨a5.os.trans (hb.os.trans ev.out.os),a5.tape.trans (hb.tape.trans ev.out.tape),a5.output.trans (hb.output.trans ev.out.output),Zpp ev.out.size (Zpp hb.size a5.size),
    fun j hj=>(a5.block j (by omega) (by simp;omega)).trans ((hb.block j (by omega)).trans (ev.out.block j hj))⟩
   have dZ:∀k∈[lb+1+1,lb+1,lb,wr.heap.size,wr.heap.size+1,wr.heap.size+1+1],k≠ZcR∧k≠gTz:=fun k hk=>by
    simp only[List.mem_cons,List.not_mem_nil,or_false]at hk;omega
   have tD:=Zor (t:=t) (lm:=fun _=>none) (vz.out.same ((a5.block _ (by omega) (by simp;omega)).trans (hb.block _ (by omega)))) (vh.out.same ((a5.block _ (by omega) (by simp;omega)).trans (hb.block _ (by omega)))) dZ a1 ((a5.block _ (by omega) (by simp)).trans hn.out) ((a5.block g (by omega) (by simp;omega)).trans ((hb.block g xE).trans fk.out)) dS.out (hm.out.same (a5.block _ (by omega) (by simp;omega))) a2 a3 a4 (by omega)
   have ac:ZmS t w (.returned (.tuple #[.pointer (some ⟨lb+1+1,0,none⟩),.int .i64 0])) w7:=⟨_,rfl,tD,fun k hk=>by
     simp[Zas.mut]at hk;omega,fun k hk=>absurd hk (by simp),og,kF⟩
   replace ac:=Zpe ac;clear a1 a2 a3 a4 a5 kF tD qT;go_wp2_with fail;go_ret2;exact ac.out
end Go.Proofs.YtmnjakejhbpkoaaGreatDoor
