import Derived.Test.YtemnmcfmabamcaaGreatDoorYNew
import Derived.Laws.EntriesVeiled
set_option linter.unusedSimpArgs false
set_option linter.unusedVariables false
set_option maxRecDepth 100000
set_option maxHeartbeats 4000000
namespace Go.Proofs.YtemnmcfmabamcaaGreatDoor
open Go Go.RowKit Go.Shelf
def Zom (g:Nat→Option Bool):List (Nat × Nat)→Option Nat
 | []=>none
 | p :: r=>match g p.1 with
   | none=>none
   | some true=>some p.2
   | some false=>Zom g r
def Zq7 (l:Int):Int:=if 0<l then l else -l
def ZlN:Nat→List Zac→Nat→Zax→Option Bool
 | 0,_,_,_=>none
 | f+1,ns,a,x=>match ns[a]? with
   | none=>none
   | some n=>if 0≤n.pl∧n.lit=0 then
      match Zom (fun p=>ZlN f ns p x) n.el with
      | none=>none
      | some b=>ZlN f ns b x
     else if n.lit≠0 then some (ZaZ x (Zq7 n.lit) ==decide (0<n.lit)) else some (a ==1)
theorem Zcp.lens{w:World}{v:Value}{l:List (Nat × Nat)}(h:Zcp w v l):∃ba c,v= .slice ba l.length c∧∀k (hk:k<l.length),∃b o,ba=some ⟨b,o,none⟩∧w.cell? ⟨b,o+k*2,none⟩=some (.int .i64 (l[k].1:Nat))∧w.cell? ⟨b,o+k*2+1,none⟩=some (.int .i64 (l[k].2:Nat)):=by
 obtain⟨ba,c,rfl,h⟩:=h;refine⟨ba,c,rfl,fun k hk=>?_⟩;rcases h with ⟨_,e,_⟩|⟨b,o,e,hr⟩
 ·rw[e]at hk;simp at hk
 ·exact⟨b,o,e,hr.off0 k hk⟩
end Go.Proofs.YtemnmcfmabamcaaGreatDoor
namespace Go.Proofs.YtemnmcfmabamcaaGreatDoor
open Go Go.RowKit Go.Shelf
def Znc (g:Nat→List Nat→Option (List Nat)):List (Nat × Nat)→List Nat→Option (List Nat)
 | [],out=>some out
 | p :: r,out=>match g p.1 out with
   | none=>none
   | some o1=>match g p.2 o1 with
     | none=>none
     | some o2=>Znc g r o2
def Zho:Nat→List Zac→Nat→List Nat→Option (List Nat)
 | 0,_,_,_=>none
 | f+1,ns,a,out=>if a∈out then some out else
   match ns[a]? with
   | none=>none
   | some n=>if out.length<1048576 then Znc (Zho f ns) n.el (out++[a]) else none
def Zcj (g:Nat→List Nat→Option (List Nat)):List Nat→List Nat→Option (List Nat)
 | [],out=>some out
 | a :: r,out=>match g a out with
   | none=>none
   | some o1=>Zcj g r o1
theorem Zih{g:Nat→List Nat→Option (List Nat)}{p:Nat × Nat}{r:List (Nat × Nat)}{out o:List Nat}(h:Znc g (p :: r) out=some o):∃o1 o2,g p.1 out=some o1∧g p.2 o1=some o2∧Znc g r o2=some o:=by
 unfold Znc at h
 split at h
 ·cases h
 ·rename_i o1 h1
  split at h
  ·cases h
  ·rename_i o2 h2
   exact⟨o1,o2,h1,h2,h⟩
theorem Zf2{g:Nat→List Nat→Option (List Nat)}{a:Nat}{r out o:List Nat}(h:Zcj g (a :: r) out=some o):∃o1,g a out=some o1∧Zcj g r o1=some o:=by
 unfold Zcj at h
 split at h
 ·cases h
 ·rename_i o1 h1
  exact⟨o1,h1,h⟩
def Zks (b:Bool):Value:=.bool b
def ZpI (out:List Nat):Nat→Option Bool:=fun a=>if a∈out then some true else none
theorem Zmh(out:List Nat)(a:Nat):ZpI (out++[a])=upd (ZpI out) a true:=by
 funext x
 simp only[ZpI,upd,List.mem_append,List.mem_singleton]
 by_cases h:x=a <;> by_cases h2:x∈out <;> simp[h,h2]
structure Zio (B:Zar) (w0:World) (out:List Nat) (wr:World):Prop where
 below:Below w0.heap.size w0 wr
 bt:wr.heap[w0.heap.size]? =some (.cells #[.pointer (some ⟨B.sb,0,none⟩)] 28 (0,0))
 mb:ZaI Zad Zks wr (w0.heap.size+1) (ZpI out)
 bs:wr.heap[w0.heap.size+2]? =some (.cells #[.map (some (w0.heap.size+1))] 140 (0,0))
 bo:∃v,wr.heap[w0.heap.size+3]? =some (.cells #[v] 76 (0,0))∧wr.ownsRow (w0.heap.size+5) 3 1 v out.length (out.map ZbP)
 bf:wr.heap[w0.heap.size+4]? =some (.cells #[.func (.func 80) #[] #[.pointer (some ⟨w0.heap.size+2,0,none⟩),.pointer (some ⟨w0.heap.size+3,0,none⟩),.pointer (some ⟨w0.heap.size,0,none⟩),.pointer (some ⟨w0.heap.size+4,0,none⟩)]] 112 (0,0))
def Za2 (w w':World):Prop:=w.heap.size≤w'.heap.size∧∀(k:Nat) (c:Array Value) (f:Nat × Nat),w.heap[k]? =some (.cells c ZaN f)→w'.heap[k]? =some (.cells c ZaN f)
theorem Za2.refl(w:World):Za2 w w:=⟨ZrQ _,fun _ _ _ h=>h⟩
theorem Za2.trans{a b c:World}(h:Za2 a b)(k:Za2 b c):Za2 a c:=⟨ZrC h.1 k.1,fun i x f hi=>k.2 i x f (h.2 i x f hi)⟩
theorem Za2.alloc(w:World)(o:Obj):Za2 w (w.alloc o):=⟨by simp,fun k c f h=>(Below.heap_alloc _ _ _ (Zrv h).1).trans h⟩
theorem Zio.alloc{B:Zar}{w0 wr:World}{out:List Nat}(h:Zio B w0 out wr)(o:Obj):Zio B w0 out (wr.alloc o) where
 below:=h.below.alloc h.below.size o
 bt:=(Below.heap_alloc _ _ _ (Zrv h.bt).1).trans h.bt
 mb:=h.mb.same (Below.heap_alloc _ _ _ h.mb.lt)
 bs:=(Below.heap_alloc _ _ _ (Zrv h.bs).1).trans h.bs
 bo:=by
  obtain⟨v,h1,h2⟩:=h.bo;exact⟨v,(Below.heap_alloc _ _ _ (Zrv h1).1).trans h1,h2.alloc _⟩
 bf:=(Below.heap_alloc _ _ _ (Zrv h.bf).1).trans h.bf
theorem Zio.push{B:Zar}{w0 wr w2:World}{out:List Nat}{a:Nat}{v v':Value}(h:Zio B w0 out wr)(hv:wr.heap[w0.heap.size+3]? =some (.cells #[v] 76 (0,0)))(hO:wr.ownsRow (w0.heap.size+5) 3 1 v out.length (out.map ZbP))
  (hM:ZaI Zad Zks (Zas 3 Tryz.prog wr (w0.heap.size+1) (Zad a) (Zks true)) (w0.heap.size+1) (ZpI (out++[a])))
  (ho:w2.ownsRow (w0.heap.size+5) 3 1 v' (out.length+1) (out.map ZbP++[.int .i64 (a:Int)]))
  (hg:((Zas 3 Tryz.prog wr (w0.heap.size+1) (Zad a) (Zks true)).alloc (.cells #[.int .i64 (a:Int)] 3)).grownBy w2 v.ownBlock) :
  Zio B w0 (out++[a]) (w2.setCell ⟨w0.heap.size+3,0,none⟩ v')∧Za2 wr (w2.setCell ⟨w0.heap.size+3,0,none⟩ v'):=by
 have ac:wr.heap.size+1≤w2.heap.size:=by have:=hg.size;simpa [Zaw] using this
 have eE:∀k,v.ownBlock=some k→w0.heap.size+5≤k:=fun k hk=>Zay hO hk
 have hk:∀k,k<wr.heap.size→k≠w0.heap.size+1→v.ownBlock≠some k→w2.heap[k]? =wr.heap[k]?:=fun k hk h1 h2=>by
  rw[hg.block k (by simp[Zaw];omega) (fun e=>h2 e.symm),Below.heap_alloc _ _ _ (by rw[Zaw];exact hk)];exact Zan _ _ _ _ _ k h1
 have nI:=(Zrv h.bf).1;have aJ:∀k,k<w0.heap.size+5→v.ownBlock≠some k:=fun k hk e=>by have:=eE k e;omega
 have dH:∀k,k≠w0.heap.size+3→(w2.setCell ⟨w0.heap.size+3,0,none⟩ v').heap[k]? =w2.heap[k]?:=fun k hk=>Below.heap_setCell _ _ _ _ hk
 have eB:∀k,k<wr.heap.size→k≠w0.heap.size+1→v.ownBlock≠some k→k≠w0.heap.size+3→(w2.setCell ⟨w0.heap.size+3,0,none⟩ v').heap[k]? =wr.heap[k]?:=fun k h1 h2 h3 h4=>(dH k h4).trans (hk k h1 h2 h3)
 obtain⟨p1,p2,p3,_⟩:=Za6 (P:=Tryz.prog) 3 wr (w0.heap.size+1) (Zad a) (Zks true);refine⟨⟨⟨hg.os.trans (p1.trans h.below.os),hg.tape.trans (p2.trans h.below.tape),hg.output.trans (p3.trans h.below.output),?_,fun k lh=>?_⟩,?_,?_,?_,⟨v',?_,?_⟩,?_⟩,?_,fun k c f hc=>?_⟩
 ·have:=h.below.size
  simp[World.setCell];omega
 ·exact(eB k (by omega) (by omega) (aJ k (by omega)) (by omega)).trans (h.below.block k lh)
 ·exact(eB _ (by omega) (by omega) (aJ _ (by omega)) (by omega)).trans h.bt
 ·refine hM.same ?_
  rw[dH _ (by omega),hg.block _ (by simp[Zaw];omega) (fun e=>aJ _ (by omega) e.symm),Below.heap_alloc _ _ _ (by rw[Zaw];omega)]
 ·exact(eB _ (by omega) (by omega) (aJ _ (by omega)) (by omega)).trans h.bs
 ·have:=(hk (w0.heap.size+3) (by omega) (by omega) (aJ _ (by omega))).trans hv
  exact Zaj this 0 v'
 ·refine Zaa (Zak ho (by simp) (by simp[ZbP])) (fun k bW=>dH k ?_)
  have:=Zay ho bW;omega
 ·exact(eB _ (by omega) (by omega) (aJ _ (by omega)) (by omega)).trans h.bf
 ·simp[World.setCell];omega
 ·have aD:=(Zrv hc).1
  refine(eB k aD ?_ ?_ ?_).trans hc
  ·intro e
   obtain⟨L,cl,hb,_⟩:=h.mb;rw[e,hb]at hc;simp at hc
  ·intro e
   obtain⟨_,c',gE⟩:=Zap hO e;rw[hc]at gE;simp[ZaN]at gE
  ·intro e
   rw[e,hv]at hc;simp[ZaN]at hc
end Go.Proofs.YtemnmcfmabamcaaGreatDoor
namespace Go.Proofs.YtemnmcfmabamcaaGreatDoor
open Go Go.RowKit Go.Shelf
def Zlo (B:Zar)(s:St)(w0:World)(g:Nat→List Nat→Option (List Nat)):Prop:=∀(a:Nat) (out o:List Nat) (wr:World),Zio B w0 out wr→g a out=some o →
 Calls Tryz.prog 80 #[.int .i64 a,.pointer (some ⟨w0.heap.size+2,0,none⟩),.pointer (some ⟨w0.heap.size+3,0,none⟩),.pointer (some ⟨w0.heap.size,0,none⟩),.pointer (some ⟨w0.heap.size+4,0,none⟩)] wr
  fun e w'=>e= .returned (.tuple #[])∧Zio B w0 o w'∧Za2 wr w'
theorem ZoM:∀w,(zeroValue 4).run Tryz.prog w= .ok (.bool false) w:=fun w=>by kernel_rfl
theorem Zio.look{B:Zar}{w0 wr:World}{out:List Nat}(h:Zio B w0 out wr)(a:Nat) :
  (Instr.lookup 140 (.map (some (w0.heap.size+1))) (.int .i64 a) false).run Tryz.prog wr= .ok (.bool (decide (a∈out))) wr:=by
 have h1:=h.mb.look1 Zcw (T:=140) Tryz.underlying140 _ ZoM a
 have h2:((ZpI out a).map Zks).getD (.bool false)= .bool (decide (a∈out)):=by
  unfold ZpI
  by_cases hm:a∈out <;> simp[hm,Zks]
 rw[h2]at h1;exact h1
theorem Zio.cells{B:Zar}{w0 wr:World}{out:List Nat}(h:Zio B w0 out wr) :
  wr.cell? ⟨w0.heap.size,0,none⟩=some (.pointer (some ⟨B.sb,0,none⟩))∧wr.cell? ⟨w0.heap.size+2,0,none⟩=some (.map (some (w0.heap.size+1))) ∧
  wr.cell? ⟨w0.heap.size+4,0,none⟩=some (.func (.func 80) #[] #[.pointer (some ⟨w0.heap.size+2,0,none⟩),.pointer (some ⟨w0.heap.size+3,0,none⟩),.pointer (some ⟨w0.heap.size,0,none⟩),.pointer (some ⟨w0.heap.size+4,0,none⟩)]):=by
 refine⟨?_,?_,?_⟩
 ·simp[World.cell?,h.bt]
 ·simp[World.cell?,h.bs]
 ·simp[World.cell?,h.bf]
def Zlp (B:Zar)(w0:World)(g:Nat→List Nat→Option (List Nat))(n:Zac)(w:World)(o:List Nat)(k:Nat)(wr:World):Prop :=
 ∃out,Zio B w0 out wr∧Za2 w wr∧Znc g (n.el.drop k) out=some o
theorem Zp7{B:Zar}{s:St}{w0:World}(h:Rep B s w0)(f:Nat)(ih:Zlo B s w0 (Zho f s.nodes)):Zlo B s w0 (Zho (f+1) s.nodes):=by
 intro a out o wr hC he;have bD:=hC.look a;obtain⟨c0,c2,c4⟩:=hC.cells;unfold Zho at he
 split at he
 ·rename_i hm
  cases he
  have hd:decide (a∈out)=true:=ZrI hm;rw[hd]at bD;clear hd;replace hm:=Zrr hm
  go_enter Tryz.func80,Tryz.ntmps80
  go_wp2_with fail;exact bodyPost_ret (results_none rfl _ _ _) rfl ⟨rfl,hC,Za2.refl _⟩
 rename_i hm
 split at he
 ·cases he
 rename_i n hn
 split at he
 rotate_left
 ·cases he
 rename_i aX
 have hd:decide (a∈out)=false:=ZrH hm;rw[hd]at bD;clear hd;replace hm:=Zrr hm;have hK:∀(c:Array Value) (w:World),(callFunc 80 c).run Tryz.prog w= .ok (.enter 80 c) w:=fun c w=>by simp[go_sem,Tryz.func80]
 obtain⟨i0,bz,bH,aj,av⟩:=info_parts Ze5;obtain⟨v,hv,hO⟩:=hC.bo;obtain⟨iQ,hM⟩:=hC.mb.put Zcw (T:=140) Tryz.underlying140 a true;rw[←Zmh]at hM;have za:(Instr.mapUpdate 140 (.map (some (w0.heap.size+1))) (.int .i64 a) (.bool true)).run Tryz.prog wr= .ok () (Zas 3 Tryz.prog wr (w0.heap.size+1) (Zad a) (Zks true)):=iQ;have aP:=Zrr (fun (w2:World) (v':Value) ho hg=>hC.push (w2:=w2) (v':=v') hv hO hM ho hg);have mY:=(Zrv hC.bf).1;have bK:∀j,j≠w0.heap.size+1→(Zas 3 Tryz.prog wr (w0.heap.size+1) (Zad a) (Zks true)).heap[j]? =wr.heap[j]?:=fun j hj=>Zan _ _ _ _ _ j hj
 have qD:=(bK (w0.heap.size+3) (by omega)).trans hv;have c01:=(World.cell?_of_block (a:=⟨w0.heap.size,0,none⟩) (bK w0.heap.size (by omega))).trans c0;have mu:=Zaa (w':=Zas 3 Tryz.prog wr (w0.heap.size+1) (Zad a) (Zks true)) hO (fun k hk=>bK k (by have:=Zay hO hk;omega));have gy:(Zas 3 Tryz.prog wr (w0.heap.size+1) (Zad a) (Zks true)).heap.size=wr.heap.size:=Zaw _ _ _ _ _;have e3:(Zas 3 Tryz.prog wr (w0.heap.size+1) (Zad a) (Zks true)).cell? ⟨w0.heap.size+3,0,none⟩=some v:=by simp[World.cell?,qD]
 have eE:∀k,v.ownBlock=some k→w0.heap.size+5≤k:=fun k hk=>Zay hO hk
 replace he:=Zrr he;replace hC:=Zrr hC;replace mu:=Zrr mu;replace eE:=Zrr eE;replace qD:=Zrr qD;clear bK iQ hM hv hO;obtain⟨capn,_,_,cn,_⟩:=h.cells;obtain⟨v5,jz,_,_,_,n2,_,_⟩:=h.node hn;obtain⟨ba,cp,rfl,fU⟩:=jz.lens;have fw:=(h.small.2 n (List.mem_of_getElem? hn)).2.2.2.2.1;have uE:a<s.nodes.length:=(Zrw hn).1;have ga0:(0:Int)≤a:=by omega
 have qI:(a:Int)<s.nodes.length:=by omega
 have bN:=h.small.1;replace fU:=Zrr fU;replace cn:=Zrr cn;replace n2:=Zrr n2;replace hn:=Zrr hn;clear jz;generalize fX:Zas 3 Tryz.prog wr (w0.heap.size+1) (Zad a) (Zks true)=w1 at *;replace fX:=Zrr fX;have e3a:(w1.alloc (.cells #[.int .i64 (a:Int)] 3)).cell? ⟨w0.heap.size+3,0,none⟩=some v:=(World.cell?_of_block (a:=⟨w0.heap.size+3,0,none⟩) (Below.heap_alloc w1 (.cells #[.int .i64 (a:Int)] 3) (w0.heap.size+3) (by rw[gy];omega))).trans e3;replace gy:=Zrr gy;have wQ:w0.heap.size+4<w1.heap.size:=by rw[gy.out];exact mY
 have o4:∀k,k<w0.heap.size+5→some k≠v.ownBlock:=fun k hk e=>by
  have:=eE.out _ e.symm;omega
 replace o4:=Zrr o4;have c0a:=(World.cell?_of_block (w:=w1) (w':=w1.alloc (.cells #[.int .i64 (a:Int)] 3)) (a:=⟨w0.heap.size,0,none⟩) (Below.heap_alloc w1 (.cells #[.int .i64 (a:Int)] 3) w0.heap.size (by omega))).trans c01
 have fza:(w1.alloc (.cells #[.int .i64 (a:Int)] 3)).frozen? ⟨w0.heap.size+3,0,none⟩=false:=by
  have:=(Below.heap_alloc w1 (.cells #[.int .i64 (a:Int)] 3) (w0.heap.size+3) (by omega)).trans qD.out;simp[World.frozen?,this]
 go_enter Tryz.func80,Tryz.ntmps80
 go_wp2_with (at_builtin;refine wpList_append_lies _ rfl _ _ 76 rfl (w0.heap.size+5) 3 i0 (.int .i64 0) 1 8 Tryz.underlying76 bz bH aj av rfl (by decide) _ _ _ rfl (mu.out.alloc _) ⟨w1.heap.size,0,none⟩ 1 1 [.int .i64 (a:Int)] rfl rfl (Zao _ _ _ _ rfl) (by simp[Value.oneCell']) (by omega) (by unfold maxLen;omega) (by omega) (by simp;omega) _ rfl ?_;intro g3 fJ w3 au bP _ _;have f3:=(bP.cell_far ⟨w0.heap.size+3,0,none⟩ (by simp;omega) (o4.out _ (by simp))).trans e3a;have f3z:w3.frozen? ⟨w0.heap.size+3,0,none⟩=false:=(bP.frozen_far ⟨w0.heap.size+3,0,none⟩ (by simp;omega) (o4.out _ (by simp))).trans fza;have f0:=(bP.cell_far ⟨w0.heap.size,0,none⟩ (by simp;omega) (o4.out _ (by simp))).trans c0a;have hP:=aP.out w3 (.slice (some ⟨g3,0,none⟩) (out.length+1) fJ) au bP;have m0:=(hP.1.below.cell (Zrx w0 _ cn.out)).trans cn.out;have m2:=(hP.1.below.cell (Zrx w0 _ n2.out)).trans n2.out;have m3:=hP.1.cells.1)
 have eM:Hid (Zlp B w0 (Zho f s.nodes) n wr o 0 (w3.setCell ⟨w0.heap.size+3,0,none⟩ (.slice (some ⟨g3,0,none⟩) (out.length+1) fJ))):=Zrr ⟨out++[a],hP.1,hP.2,he.out⟩;clear hP au bP f3 f3z f0 m0 m2 m3 c0a fza e3a e3 c01 c0 c2 c4 bD;generalize w3.setCell ⟨w0.heap.size+3,0,none⟩ (.slice (some ⟨g3,0,none⟩) (out.length+1) fJ)=w4 at *;obtain⟨wo,rfl⟩:∃wo,wo=wr:=⟨wr,rfl⟩
 go_loopw [26] (fun i wr=>∃k:Nat,k≤n.el.length∧i= .int .i64 k∧Hid (Zlp B w0 (Zho f s.nodes) n wo o k wr)) (fun i _=>n.el.length - (intOf i).toNat)
 case atStart=>exact⟨0,Nat.zero_le _,rfl,eM⟩
 case round =>
  clear eM;obtain⟨k,hk,rfl,hI⟩:=hrel;obtain⟨ok,iU,hPk,j6⟩:=hI.out;clear hI
  by_cases aD:k<n.el.length
  ·rw[List.drop_eq_getElem_cons aD]at j6
   obtain⟨vb,vo,rfl,e0,e1⟩:=fU.out k aD;have e0:=(iU.below.cell (Zrx w0 _ e0)).trans e0;have e1:=(iU.below.cell (Zrx w0 _ e1)).trans e1;obtain⟨o1,o2,h1,h2,vL⟩:=Zih j6;clear j6;generalize n.el[k]=p at *;obtain⟨p1,p2⟩:=p;simp only at e0 e1 h1 h2;have fY:=iU.alloc (.cells #[.int .i64 (p1:Int),.int .i64 (p2:Int)] 130);have fW:=Zrz wr (.cells #[.int .i64 (p1:Int),.int .i64 (p2:Int)] 130);have hPa:=Za2.alloc wr (.cells #[.int .i64 (p1:Int),.int .i64 (p2:Int)] 130);obtain⟨p0,vW⟩:=Zah fW;obtain⟨_,_,b4⟩:=fY.cells;have dR:=ih p1 ok o1 _ fY h1;replace fY:=Zrr fY;replace fW:=Zrr fW;replace h1:=Zrr h1;replace h2:=Zrr h2;replace vL:=Zrr vL;replace iU:=Zrr iU;go_wp2_with fail;generalize wr.alloc (.cells #[.int .i64 (p1:Int),.int .i64 (p2:Int)] 130)=w5 at *;refine dR.mono ?_;rintro e w6 ⟨rfl,cM,hP6⟩;obtain⟨q0,q1⟩:=Zah (hP6.2 _ _ _ fW.out);obtain⟨_,_,b6⟩:=cM.cells;have bX:=ih p2 o1 o2 _ cM h2.out;replace cM:=Zrr cM;clear dR p0 vW b4;go_wp2_with fail;refine bX.mono ?_;rintro e w7 ⟨rfl,gX,hP7⟩;go_wp2_with fail;go_roundw
   case rel=>exact⟨k+1,by omega,by go_num,Zrr ⟨o2,gX,((hPk.trans hPa).trans hP6).trans hP7,vL.out⟩⟩
   case measure=>simp[intOf];omega
  ·obtain rfl:k=n.el.length:=by omega
   simp only[List.drop_length,Znc,ZrJ]at j6;subst j6;replace iU:=Zrr iU;go_wp2_with fail
   go_end0
   exact⟨rfl,iU.out,hPk⟩
theorem ZoG{B:Zar}{s:St}{w0:World}(h:Rep B s w0)(f:Nat):Zlo B s w0 (Zho f s.nodes):=by
 induction f with
 | zero=>intro a out o wr _ he;cases he
 | succ f ih=>exact Zp7 h f ih
end Go.Proofs.YtemnmcfmabamcaaGreatDoor
namespace Go.Proofs.YtemnmcfmabamcaaGreatDoor
open Go Go.RowKit Go.Shelf
theorem ZnX(w:World)(a b c d e:Obj):(((((w.alloc a).alloc b).alloc c).alloc d).alloc e).heap[w.heap.size]? =some a∧(((((w.alloc a).alloc b).alloc c).alloc d).alloc e).heap[w.heap.size+1]? =some b∧(((((w.alloc a).alloc b).alloc c).alloc d).alloc e).heap[w.heap.size+2]? =some c ∧
  (((((w.alloc a).alloc b).alloc c).alloc d).alloc e).heap[w.heap.size+3]? =some d∧(((((w.alloc a).alloc b).alloc c).alloc d).alloc e).heap[w.heap.size+4]? =some e:=by
 obtain⟨h0,h1,h2,h3⟩:=Ze4 w a b c d;refine⟨?_,?_,?_,?_,?_⟩
 ·rw[Below.heap_alloc _ _ _ (by simp;omega)];exact h0
 ·rw[Below.heap_alloc _ _ _ (by simp)];exact h1
 ·rw[Below.heap_alloc _ _ _ (by simp)];exact h2
 ·rw[Below.heap_alloc _ _ _ (by simp)];exact h3
 ·exact Zaq _ _ _ (by simp)
def Zjq (out:List Nat)(w:World)(e:Ending)(w':World):Prop:=∃v,e= .returned v∧w'.ownsRow (w.heap.size+5) 3 1 v out.length (out.map ZbP)∧Below w.heap.size w w'
theorem ZhF{B:Zar}{s:St}{w:World}{v:Value}{l o:List Nat}{f:Nat}(h:Rep B s w)(hv:SlI w v (l.map fun n:Nat=>(n:Int)))(hl:l.length≤1048576)(he:Zcj (Zho f s.nodes) l []=some o) :
  Calls Tryz.prog 48 #[.pointer (some ⟨B.sb,0,none⟩),v] w (Zjq o w):=by
 have nL:∀(fn:Fn) (first cap:Array Value) (w:World),(Instr.makeFunc fn first cap).run Tryz.prog w= .ok (.func fn first cap) w:=fun _ _ _ _=>rfl
 have jy:∀w,(Instr.makeMap 140 none).run Tryz.prog w= .ok (.map (some w.heap.size)) (w.alloc (.map #[] 0)):=fun w=>rfl
 have hK:∀(c:Array Value) (w:World),(callFunc 80 c).run Tryz.prog w= .ok (.enter 80 c) w:=fun c w=>by simp[go_sem,Tryz.func80]
 obtain⟨ba,c,rfl,gA⟩:=hv
 have qF:∀j (hj:j<l.length),∃b o,ba=some ⟨b,o,none⟩∧w.cell? ⟨b,o+j,none⟩=some (.int .i64 (l[j]:Nat)):=fun j hj=>by
  rcases gA with ⟨_,e,_⟩|⟨b,o,e,hc⟩
  ·have:(l.map fun n:Nat=>(n:Int)).length=0:=by rw[e];rfl
   simp at this;rw[this]at hj;simp at hj
  ·have:=hc j (by simpa using hj)
   rw[List.getElem_map]at this;exact⟨b,o,e,this⟩
 clear gA;replace qF:=Zrr qF;rw[List.length_map];obtain⟨g0,g1,g2,g3,g4⟩:=ZnX w (.cells #[.pointer (some ⟨B.sb,0,none⟩)] 28) (.map #[] 0) (.cells #[.map (some (w.heap.size+1))] 140) (.cells #[.slice none 0 0] 76) (.cells #[.func (.func 80) #[] #[.pointer (some ⟨w.heap.size+2,0,none⟩),.pointer (some ⟨w.heap.size+3,0,none⟩),.pointer (some ⟨w.heap.size,0,none⟩),.pointer (some ⟨w.heap.size+4,0,none⟩)]] 112);have da:Below w.heap.size w (((((w.alloc (.cells #[.pointer (some ⟨B.sb,0,none⟩)] 28)).alloc (.map #[] 0)).alloc (.cells #[.map (some (w.heap.size+1))] 140)).alloc (.cells #[.slice none 0 0] 76)).alloc (.cells #[.func (.func 80) #[] #[.pointer (some ⟨w.heap.size+2,0,none⟩),.pointer (some ⟨w.heap.size+3,0,none⟩),.pointer (some ⟨w.heap.size,0,none⟩),.pointer (some ⟨w.heap.size+4,0,none⟩)]] 112)):=((((((Ext.refl w).alloc _).alloc _).alloc _).alloc _).alloc _).below
 have s9:Hid (∃ok,Zio B w ok (((((w.alloc (.cells #[.pointer (some ⟨B.sb,0,none⟩)] 28)).alloc (.map #[] 0)).alloc (.cells #[.map (some (w.heap.size+1))] 140)).alloc (.cells #[.slice none 0 0] 76)).alloc (.cells #[.func (.func 80) #[] #[.pointer (some ⟨w.heap.size+2,0,none⟩),.pointer (some ⟨w.heap.size+3,0,none⟩),.pointer (some ⟨w.heap.size,0,none⟩),.pointer (some ⟨w.heap.size+4,0,none⟩)]] 112))∧Zcj (Zho f s.nodes) (l.drop 0) ok=some o):=Zrr
  ⟨[],⟨da,g0,ZbG _ _ g1,g2,⟨_,g3,World.ownsRow_nil _ _ _ _⟩,g4⟩,he⟩
 clear g0 g1 g2 g3 g4 da;replace he:=Zrr he
 go_enter Tryz.func48,Tryz.ntmps48
 go_wp2_with fail;generalize ((((w.alloc (.cells #[.pointer (some ⟨B.sb,0,none⟩)] 28)).alloc (.map #[] 0)).alloc (.cells #[.map (some (w.heap.size+1))] 140)).alloc (.cells #[.slice none 0 0] 76)).alloc (.cells #[.func (.func 80) #[] #[.pointer (some ⟨w.heap.size+2,0,none⟩),.pointer (some ⟨w.heap.size+3,0,none⟩),.pointer (some ⟨w.heap.size,0,none⟩),.pointer (some ⟨w.heap.size+4,0,none⟩)]] 112)=w1 at *
 go_loopw [14] (fun i wr=>∃k:Nat,k≤l.length∧i= .int .i64 k∧Hid (∃ok,Zio B w ok wr∧Zcj (Zho f s.nodes) (l.drop k) ok=some o)) (fun i _=>l.length - (intOf i).toNat)
 case atStart=>exact⟨0,Nat.zero_le _,rfl,s9⟩
 case round =>
  clear s9;obtain⟨k,hk,rfl,hI⟩:=hrel;obtain⟨ok,hC,hva⟩:=hI.out;clear hI
  by_cases aD:k<l.length
  ·rw[List.drop_eq_getElem_cons aD]at hva
   obtain⟨b,o',rfl,e0⟩:=qF.out k aD;have e0:=(hC.below.cell (Zrx w _ e0)).trans e0;obtain⟨o1,h1,rh⟩:=Zf2 hva;clear hva;generalize l[k]=a at *;obtain⟨_,_,b4⟩:=hC.cells;have hq:=ZoG h f a ok o1 _ hC h1;replace h1:=Zrr h1;replace hC:=Zrr hC;replace rh:=Zrr rh;go_wp2_with fail;refine hq.mono ?_;rintro e w6 ⟨rfl,cM,_⟩;go_wp2_with fail;go_roundw
   case rel=>first|exact⟨k+1,by omega,by go_num,Zrr ⟨o1,cM,rh.out⟩⟩|((repeat apply Exists.intro);exact⟨⟨k+1,by omega,by go_num,Zrr ⟨o1,cM,rh.out⟩⟩,rfl⟩)
   case measure=>simp[intOf];omega
  ·obtain rfl:k=l.length:=by omega
   simp only[List.drop_length,Zcj,ZrJ]at hva;subst hva;obtain⟨v6,oB,sw⟩:=hC.bo;have f6:wr.cell? ⟨w.heap.size+3,0,none⟩=some v6:=by simp[World.cell?,oB]
   have hb:=hC.below;have aZ:Hid (Zjq ok w (.returned v6) wr):=Zrr ⟨v6,rfl,sw,hb⟩;clear oB sw hb;replace hC:=Zrr hC;go_wp2_with fail;go_ret;exact aZ.out
def Zbw (ns:List Zac):List Nat→Nat
 | []=>0
 | b :: r=>(match ns[b]? with|some n=>n.el.length|none=>0)+Zbw ns r
theorem Zk6(ns:List Zac)(l:List Nat)(b:Nat):Zbw ns (l++[b])=Zbw ns l+(match ns[b]? with|some n=>n.el.length|none=>0):=by
 induction l with
 | nil=>simp[Zbw]
 | cons x r ih=>simp only[List.cons_append,Zbw,ih];omega
theorem Zow{B:Zar}{s:St}{w:World}(h:Rep B s w)(l:List Nat):Zbw s.nodes l≤l.length*1048576:=by
 induction l with
 | nil=>simp[Zbw]
 | cons x r ih =>
   simp only[Zbw,ZrP]
   have:(match s.nodes[x]? with|some n=>n.el.length|none=>0)≤1048576:=by
    split
    ·rename_i n hn
     exact(h.small.2 n (List.mem_of_getElem? hn)).2.2.2.2.1
    ·omega
   omega
end Go.Proofs.YtemnmcfmabamcaaGreatDoor
namespace Go.Proofs.YtemnmcfmabamcaaGreatDoor
open Go Go.RowKit Go.Shelf
def Zhx (ns:List Zac)(out:List Nat):Prop:=out.length≤1048576∧∀b∈out,b<ns.length
theorem Znd{ns:List Zac}{g:Nat→List Nat→Option (List Nat)}(hg:∀a out o,g a out=some o→Zhx ns out→Zhx ns o):∀(l:List (Nat × Nat)) (out o:List Nat),Znc g l out=some o→Zhx ns out→Zhx ns o
 | [],out,o,h,h0=>by
   simp only[Znc,ZrJ]at h;exact h ▸ h0
 | p :: r,out,o,h,h0=>by
   obtain⟨o1,o2,h1,h2,h3⟩:=Zih h;exact Znd hg r o2 o h3 (hg _ _ _ h2 (hg _ _ _ h1 h0))
theorem Znb(ns:List Zac):∀(f a:Nat) (out o:List Nat),Zho f ns a out=some o→Zhx ns out→Zhx ns o
 | 0,_,_,_,h,_=>by cases h
 | f+1,a,out,o,h,h0=>by
   unfold Zho at h
   split at h
   ·cases h;exact h0
   ·split at h
    ·cases h
    ·rename_i n hn
     split at h
     ·rename_i hl
      refine Znd (fun a out o=>Znb ns f a out o) _ _ _ h ⟨by simp;omega,fun b hb=>?_⟩;rcases List.mem_append.1 hb with hb|hb
      ·exact h0.2 b hb
      ·simp at hb;subst hb
       exact(Zrw hn).1
     ·cases h
theorem Zif(ns:List Zac)(f:Nat):∀(l out o:List Nat),Zcj (Zho f ns) l out=some o→Zhx ns out→Zhx ns o
 | [],out,o,h,h0=>by
   simp only[Zcj,ZrJ]at h;exact h ▸ h0
 | a :: r,out,o,h,h0=>by
   obtain⟨o1,h1,h2⟩:=Zf2 h;exact Zif ns f r o1 o h2 (Znb ns f a out o1 h1 h0)
def Zos (f:Nat)(ns:List Zac)(a:Nat):Option Nat:=match Zcj (Zho f ns) [a] [] with
 | none=>none
 | some o=>some (Zbw ns o)
theorem Zou{B:Zar}{s:St}{w:World}{a f z:Nat}(h:Rep B s w)(ht:s.tree≠[])(ha:a<s.nodes.length)(he:Zos f s.nodes a=some z) :
  Calls Tryz.prog 20 #[.pointer (some ⟨B.sb,0,none⟩),.int .i64 a] w fun e w'=>e= .returned (.tuple #[.int .i64 z,.int .i64 0])∧Below w.heap.size w w':=by
 unfold Zos at he
 split at he
 ·cases he
 rename_i o ho
 simp only[ZrJ]at he;obtain⟨pB,hom⟩:=Zif s.nodes f [a] [] o ho ⟨by simp,fun b hb=>absurd hb (by simp)⟩;have cw:Zgn s.nodes.length [(a:Int)]=0:=by simp[Zgn,ha]
 have bN:=h.small.1;replace cw:=Zrr cw;replace ho:=Zrr ho;replace he:=Zrr he;replace hom:=Zrr hom;obtain⟨cap,_,_,cn,_⟩:=h.cells;have aK:=(Ext.refl w).alloc (.cells #[.int .i64 a] 3);have aj:=Zrz w (.cells #[.int .i64 a] 3)
 go_enter Tryz.func20,Tryz.ntmps20
 go_wp2_with fail;generalize w.alloc (.cells #[.int .i64 a] 3)=w1 at *;have aQ:=h.below aK.below;have hq:=Zdc aQ ht (ZdO aj) (by simp);rw[cw.out]at hq;clear aj;refine hq.mono ?_;rintro e w2 ⟨rfl,rfl⟩;have aO:=(Ext.refl w1).alloc (.cells #[.int .i64 a] 3);have av:=Zrz w1 (.cells #[.int .i64 a] 3);clear hq;replace aQ:=Zrr aQ;go_wp2_with fail;generalize w1.alloc (.cells #[.int .i64 a] 3)=w2 at *;have bA:=aQ.out.below aO.below;have bX:=ZhF (l:=[a]) bA (ZdO av) (by simp) ho.out;clear av;refine bX.mono ?_;rintro e w3 ⟨v3,rfl,au,aU⟩;have gP:Below w.heap.size w w3:=(aK.trans aO).below.trans (aU.mono (aK.trans aO).size)
 have aN:∃ba cp,v3= .slice ba o.length cp∧∀k (hk:k<o.length),∃g,ba=some ⟨g,0,none⟩∧w3.cell? ⟨g,k,none⟩=some (.int .i64 (o[k]:Nat)):=by
  obtain⟨_,⟨rfl,e⟩|⟨g,cp,cur,rfl,hg,hh,hn,hm,cA,ht⟩⟩:=au
  ·exact⟨none,0,by rw[e],fun k hk=>by omega⟩
  ·refine⟨_,cp,rfl,fun k hk=>⟨g,rfl,?_⟩⟩
   have h1:(o.map ZbP)[k]? =some (ZbP o[k]):=by rw[List.getElem?_map,Zry hk];rfl
   rw[←ht,List.getElem?_take]at h1
   split at h1
   ·have h2:cur[k]? =some (ZbP o[k]):=by simpa using h1
    simp[World.cell?,hh,h2,ZbP]
   ·simp at h1
 obtain⟨ba,cp,rfl,aN⟩:=aN;replace aN:=Zrr aN;have cX:=h.below gP;have cn3:=(gP.cell (Zrx w _ cn)).trans cn;clear cn au bX;replace cX:=Zrr cX;replace bA:=Zrr bA;have vD:=fun k=>Zow cX.out (o.take k)
 have aD:=fun k=>List.length_take_le k o
 replace vD:=Zrr vD;replace aD:=Zrr aD;go_wp2_with fail
 go_loopw [7,22] (fun n i wr=>∃k:Nat,k≤o.length∧i= .int .i64 k∧n= .int .i64 (Zbw s.nodes (o.take k):Nat)∧w3=wr) (fun _ i _=>o.length - (intOf i).toNat)
 case atStart=>exact⟨0,Nat.zero_le _,rfl,rfl,rfl⟩
 case round =>
  obtain⟨k,hk,rfl,rfl,rfl⟩:=hrel
  by_cases bD:k<o.length
  ·obtain⟨g,rfl,e0⟩:=aN.out k bD
   have kP:=hom.out _ (ZrM bD);have gy:=vD.out k;have mg:=aD.out k;have ny:=Zk6 s.nodes (o.take k) o[k];have tL:o.take (k+1)=o.take k++[o[k]]:=List.take_succ_eq_append_getElem bD;rw[←tL]at ny;clear tL;generalize o[k]=b at *;obtain⟨v5,jz,_,_,_,n2,_,_⟩:=cX.out.node (Zry kP);have fw:=(cX.out.small.2 _ (ZrM kP)).2.2.2.2.1;rw[Zry kP]at ny;simp only at ny;generalize s.nodes[b]=n at *;obtain⟨ba5,cp5,rfl,_⟩:=jz;have gb0:(0:Int)≤b:=by omega
   have gb1:(b:Int)<s.nodes.length:=by omega
   replace ny:=Zrr ny;generalize Zbw s.nodes (o.take k)=z0 at *;go_wp2_with fail;go_roundw
   case rel=>exact⟨k+1,by omega,by go_num,by rw[ny.out];go_num,by first|rfl|trivial⟩
   case measure=>simp[intOf];omega
  ·obtain rfl:k=o.length:=by omega
   have aa:Hid (Zbw s.nodes (o.take o.length)=z):=Zrr (by rw[List.take_length];exact he.out);go_wp2_with fail;go_ret2;exact⟨by rw[aa.out] <;> rfl,gP⟩
end Go.Proofs.YtemnmcfmabamcaaGreatDoor
