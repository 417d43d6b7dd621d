import Derived.Test.YtckhohpbokojdaaGreatDoorMN25
set_option linter.unusedSimpArgs false
set_option linter.unusedVariables false
namespace Go.Proofs.YtckhohpbokojdaaGreatDoor
open Go Go.RowKit Go.Shelf
theorem RowsOf.setLow {w:World} {base:Nat} {us:List Value} {T:List (List Int)} (h:RowsOf w base us T) {a:Addr} (ha:a.block < base) (v:Value):RowsOf (w.setCell a v) base us T:=⟨h.1,fun i u c h1 h2=>ownsRow_setCell_below (h.2 i u c h1 h2) ha v⟩
theorem RowsOf.weak {w:World} {base base':Nat} {us:List Value} {T:List (List Int)} (h:RowsOf w base us T) (hb:base'≤base):RowsOf w base' us T:=⟨h.1,fun i u c h1 h2=>own_weak (h.2 i u c h1 h2) hb⟩
def MvI (wr:World) (kd lt:Int) (b4:Option Addr) (c4:Nat) (f:Nat→Nat) (ip:List Nat) (j:Nat) (V:World):Prop :=
 Below wr.heap.size wr V∧V.heap[wr.heap.size]? = some (.cells #[.int .i64 kd,.int .i64 lt,.slice b4 ip.length c4] 40 (0,0))∧V.ownsRow (wr.heap.size+1) 3 1 (.slice b4 ip.length c4) ip.length ((castL (mvL f ip j)).map encZ)
section
variable {wr V:World} {kd lt:Int} {b4:Option Addr} {c4:Nat} {f:Nat→Nat} {ip:List Nat} {j:Nat}
theorem MvI.box (h:MvI wr kd lt b4 c4 f ip j V):V.cell? ⟨wr.heap.size,0,none⟩ = some (.int .i64 kd)∧V.cell? ⟨wr.heap.size,1,none⟩ = some (.int .i64 lt)∧V.cell? ⟨wr.heap.size,2,none⟩ = some (.slice b4 ip.length c4):=by
 refine ⟨?_,?_,?_⟩ <;> (rw [World.cell?,h.2.1];rfl)
theorem MvI.at_ (h:MvI wr kd lt b4 c4 f ip j V) (hj:j < ip.length):∃ g,b4 = some ⟨g,0,none⟩∧V.cell? ⟨g,j,none⟩ = some (.int .i64 (ip[j]:Nat))∧V.frozen? ⟨g,j,none⟩ = false:=by
 have hl:((castL (mvL f ip j)).map encZ).length = ip.length:=by rw [List.length_map,castL_len,mvL_len]
 obtain ⟨g,cp,e,hc⟩:=ownsRow_cellN h.2.2 (k:=j) (by omega)
 cases e
 refine ⟨g,rfl,?_,(own_thaw h.2.2 j).1⟩
 have:=hc j (by omega)
 rw [Nat.zero_add] at this
 rw [this,←List.getElem?_eq_getElem,castL_get _ (mvL_get f ip hj)]
theorem MvI.drew (h:MvI wr kd lt b4 c4 f ip j V):MvI wr kd lt b4 c4 f ip j V.drew:=⟨h.1.trans ((Below.refl _ V).drew.mono h.1.size),h.2.1,ownsRow_keep h.2.2 fun _ _ _=>rfl⟩
theorem MvI.set {g:Nat} (h:MvI wr kd lt (some ⟨g,0,none⟩) c4 f ip j V) (hj:j < ip.length):MvI wr kd lt (some ⟨g,0,none⟩) c4 f ip (j+1) (V.setCell ⟨g,j,none⟩ (.int .i64 (f ip[j]:Nat))):=by
 obtain ⟨h1,h2,h3⟩:=h
 obtain ⟨_,hg,cur,hgh⟩:=own_thaw h3 j
 have hne:wr.heap.size≠g:=by omega
 refine ⟨h1.setCell (p:=⟨g,j,none⟩) (by show wr.heap.size≤g;omega) _,(Below.heap_setCell _ _ _ _ hne).trans h2,?_⟩
 have:=own_cellset h3 j (.int .i64 (f ip[j]:Nat))
 rw [castL_set,mvL_set f ip hj] at this
 exact this
theorem MvI.start {w4:World} {b5:Option Addr} {c5:Nat} (hb:Below (wr.heap.size+1) (wr.alloc (.cells #[.int .i64 kd,.int .i64 lt,.slice b5 ip.length c5] 40)) w4) (ho:w4.ownsRow (wr.heap.size+1) 3 1 (.slice b4 ip.length c4) ip.length ((castL ip).map encZ)):MvI wr kd lt b4 c4 f ip 0 (w4.setCell ⟨wr.heap.size,2,none⟩ (.slice b4 ip.length c4)):=by
 have e0:=heap_alloc_new wr (.cells #[.int .i64 kd,.int .i64 lt,.slice b5 ip.length c5] 40)
 have e4:=(hb.block wr.heap.size (Nat.lt_succ_self _)).trans e0
 have hx:Below wr.heap.size wr (wr.alloc (.cells #[.int .i64 kd,.int .i64 lt,.slice b5 ip.length c5] 40)):=(Below.refl _ wr).alloc (Nat.le_refl _) _
 refine ⟨(hx.trans (hb.mono (Nat.le_succ _))).setCell (p:=⟨wr.heap.size,2,none⟩) (Nat.le_refl _) _,heap_set e4 2 _,?_⟩
 rw [mvL_zero]
 exact ownsRow_setCell_below ho (Nat.lt_succ_self _) _
end
def NetJ (W:World) (n:Int) (R:Nat) (A:Nat→Value) (ob:Nat) (vO:Value) (o:List L.ND) (us:List Value) (V:World):Prop :=
 Below W.heap.size W V∧RowF V (W.heap.size+1) 3 R A∧V.heap[W.heap.size]? = some (.cells #[.int .i64 0,.slice none 0 0] 24 (0,0))∧V.heap[ob]? = some (.cells #[.int .i64 n,vO] 24 (0,0))∧V.ownsRow (W.heap.size+2) 40 3 vO o.length (gCells (o.map L.ofND) us)∧RowsOf V (W.heap.size+2) us (o.map fun y=>castL y.inp)∧(W.heap.size+2≤ob∧W.heap.size+2≤V.heap.size)
section
variable {W V V':World} {n:Int} {R ob:Nat} {A:Nat→Value} {vO:Value} {o:List L.ND} {us:List Value}
theorem NetJ.next (h:NetJ W n R A ob vO o us V) (hb:Below V.heap.size V V'):NetJ W n R A ob vO o us V':=by
 obtain ⟨h1,h2,h3,h4,h5,h6,h7,h8⟩:=h
 have k:∀ {j:Nat} {x:Obj},V.heap[j]? = some x→V'.heap[j]? = some x:=fun {j x} e=>(hb.block _ (Array.getElem?_eq_some_iff.1 e).1).trans e
 exact ⟨h1.trans (hb.mono h1.size),h2.below hb,k h3,k h4,ownsRow_keep h5 (fun g c h=>hb.block g (Array.getElem?_eq_some_iff.1 h).1),h6.keep (fun g c h=>hb.block g (Array.getElem?_eq_some_iff.1 h).1),h7,Nat.le_trans h8 hb.size⟩
theorem NetJ.setAt (h:NetJ W n R A ob vO o us V) (i:Nat) (v:Value):NetJ W n R (putF A i v) ob vO o us (V.setCell ⟨W.heap.size+1,i,none⟩ v):=by
 obtain ⟨h1,h2,h3,h4,h5,h6,h7,h8⟩:=h
 exact ⟨h1.setCell (p:=⟨W.heap.size+1,i,none⟩) (Nat.le_succ _) _,h2.set i v,(Below.heap_setCell _ _ _ _ (show W.heap.size≠W.heap.size+1 by omega)).trans h3,(Below.heap_setCell _ _ _ _ (show ob≠W.heap.size+1 by omega)).trans h4,ownsRow_setCell_below h5 (show W.heap.size+1 < W.heap.size+2 by omega) _,h6.setLow (show W.heap.size+1 < W.heap.size+2 by omega) _,h7,by simpa [World.setCell] using h8⟩
theorem NetJ.congr {A':Nat→Value} (h:NetJ W n R A ob vO o us V) (hA:∀ k,A k = A' k):NetJ W n R A' ob vO o us V:=by
 have:A = A':=funext hA
 rw [←this];exact h
theorem NetJ.cells (h:NetJ W n R A ob vO o us V):V.cell? ⟨ob,0,none⟩ = some (.int .i64 n)∧V.cell? ⟨ob,1,none⟩ = some vO∧∃ bO cO,vO = .slice bO o.length cO:=by
 refine ⟨by rw [World.cell?,h.2.2.2.1];rfl,by rw [World.cell?,h.2.2.2.1];rfl,?_⟩
 obtain ⟨_,⟨rfl,e⟩ | ⟨g,cap,cur,rfl,_⟩⟩:=h.2.2.2.2.1
 ·rw [e];exact ⟨_,_,rfl⟩
 ·exact ⟨_,_,rfl⟩
theorem NetJ.push {kd lt:Int} {ip:List Nat} {m:Nat} {b4:Option Addr} {c4:Nat} {v6:Value} {w6:World} (h:NetJ W n R A ob vO o us V) (hm:ip.length = m) (hx:V.ownsRow (W.heap.size+2) 3 1 (.slice b4 m c4) m ((castL ip).map encZ)) (ho:w6.ownsRow (W.heap.size+2) 40 3 v6 (o.length+1) (gCells (o.map L.ofND) us++[.int .i64 kd,.int .i64 lt,.slice b4 m c4])) (hg:V.grownBy w6 vO.ownBlock) :
  (∃ g c,v6 = .slice (some ⟨g,0,none⟩) (o.length+1) c)∧w6.cell? ⟨ob,1,none⟩ = some vO∧w6.frozen? ⟨ob,1,none⟩ = false∧NetJ W n R A ob v6 (o++[⟨kd,lt,ip⟩]) (us++[.slice b4 m c4]) (w6.setCell ⟨ob,1,none⟩ v6):=by
 subst hm
 obtain ⟨h1,⟨rc,r1,r2,r3⟩,h3,h4,h5,h6,h7,h8⟩:=h
 have k:∀ {g:Nat} {c:Array Value} {t:TypeId},V.heap[g]? = some (.cells c t (0,0))→t≠40→w6.heap[g]? = some (.cells c t (0,0)):=fun {g c t} e ht=>(grown_other h5 hg e ht).trans e
 have b6:=k h4 (by decide)
 have kk:∀ {g:Nat} {c:Array Value} {t:TypeId},w6.heap[g]? = some (.cells c t (0,0))→t≠24→(w6.setCell ⟨ob,1,none⟩ v6).heap[g]? = some (.cells c t (0,0)):=fun {g c t} e ht=>(Below.heap_setCell _ _ _ _ (ne_type e b6 ht)).trans e
 have hul:us.length = (o.map L.ofND).length:=by have:=h6.1;simpa using this
 have hgc:gCells (o.map L.ofND) us++[.int .i64 kd,.int .i64 lt,.slice b4 ip.length c4] = gCells ((o++[(⟨kd,lt,ip⟩:L.ND)]).map L.ofND) (us++[.slice b4 ip.length c4]):=by
  rw [List.map_append,List.map_cons,List.map_nil,gCells_snoc hul];rfl
 rw [hgc] at ho
 have hx6:w6.ownsRow (W.heap.size+2) 3 1 (.slice b4 ip.length c4) ip.length ((castL ip).map encZ):=ownsRow_keep hx fun g c e=>(k e (by decide)).trans e.symm
 have hR6:RowsOf w6 (W.heap.size+2) us (o.map fun y=>castL y.inp):=h6.keep fun g c e=>(k e (by decide)).trans e.symm
 have hR7:RowsOf w6 (W.heap.size+2) (us++[.slice b4 ip.length c4]) ((o++[(⟨kd,lt,ip⟩:L.ND)]).map fun y=>castL y.inp):=by
  rw [List.map_append]
  exact hR6.snoc (c:=castL ip) (by rw [castL_len];exact hx6)
 have hB6:Below W.heap.size W w6:=Below.grown h1 hg h1.size (fun k e=>by have:=own_ge h5 e;omega)
 have hne:W.heap.size≠ob:=by omega
 refine ⟨?_,by rw [World.cell?,b6];rfl,by simp [World.frozen?,b6],hB6.setCell (p:=⟨ob,1,none⟩) (show W.heap.size≤ob by omega) _,⟨rc,kk (k r1 (by decide)) (by decide),r2,r3⟩,(Below.heap_setCell _ _ _ _ hne).trans (k h3 (by decide)),heap_set b6 1 _,?_,hR7.keep fun g c e=>(kk e (by decide)).trans e.symm,h7,?_⟩
 ·obtain ⟨_,⟨_,e⟩ | ⟨g,cap,cur,h,_⟩⟩:=ho
  ·omega
  ·exact ⟨g,cap,h⟩
 ·rw [List.length_append]
  exact ownsRow_keep ho fun g c e=>(kk e (by decide)).trans e.symm
 ·have:=hg.size
  have:w6.heap.size≤(w6.setCell ⟨ob,1,none⟩ v6).heap.size:=by simp [World.setCell]
  omega
end
end Go.Proofs.YtckhohpbokojdaaGreatDoor
