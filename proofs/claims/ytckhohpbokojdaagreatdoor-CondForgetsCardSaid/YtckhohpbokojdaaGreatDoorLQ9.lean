import Derived.Test.YtckhohpbokojdaaGreatDoorLQ8
import Derived.Test.YtckhohpbokojdaaGreatDoorLN28
set_option linter.unusedSimpArgs false
set_option linter.unusedVariables false
namespace Go.Proofs.YtckhohpbokojdaaGreatDoor
open Go Go.RowKit Go.Shelf
theorem store3q {a W:World} {x:Nat} {z0 z1 z2 a0 a1 a2:Value} {t:TypeId} (hE:Below a.heap.size a W) (hx:a.heap.size≤x) (h1:W.heap[x]? = some (.cells #[z0,z1,z2] t (0,0))) :
  Below a.heap.size a (((W.setCell ⟨x,0,none⟩ a0).setCell ⟨x,1,none⟩ a1).setCell ⟨x,2,none⟩ a2)∧(((W.setCell ⟨x,0,none⟩ a0).setCell ⟨x,1,none⟩ a1).setCell ⟨x,2,none⟩ a2).heap[x]? = some (.cells #[a0,a1,a2] t (0,0)) :=
 ⟨((hE.setCell (p:=⟨x,0,none⟩) hx a0).setCell (p:=⟨x,1,none⟩) hx a1).setCell (p:=⟨x,2,none⟩) hx a2,heap_set3 h1 a0 a1 a2⟩
def XIn (wo:World) (xb:Nat) (kd lt:Int) (l:List Nat) (v:Value) (V:World):Prop :=
 Below wo.heap.size wo V∧V.heap[xb]? = some (.cells #[.int .i64 kd,.int .i64 lt,v] 40 (0,0))∧V.ownsRow wo.heap.size 3 1 v l.length ((castL l).map encZ)∧wo.heap.size≤xb
section
variable {wo V V':World} {xb:Nat} {kd lt:Int} {l:List Nat} {v:Value}
theorem XIn.start (hb:Below wo.heap.size wo V) (hx:V.heap[xb]? = some (.cells #[.int .i64 kd,.int .i64 lt,.slice none 0 0] 40 (0,0))) (hl:wo.heap.size≤xb):XIn wo xb kd lt [] (.slice none 0 0) V:=⟨hb,hx,⟨rfl,.inl ⟨rfl,rfl⟩⟩,hl⟩
theorem XIn.next (h:XIn wo xb kd lt l v V) (hb:Below V.heap.size V V'):XIn wo xb kd lt l v V' :=
 ⟨h.1.trans (hb.mono h.1.size),(hb.block _ (Array.getElem?_eq_some_iff.1 h.2.1).1).trans h.2.1,ownsRow_keep h.2.2.1 (fun g c h=>hb.block g (Array.getElem?_eq_some_iff.1 h).1),h.2.2.2⟩
theorem XIn.shape (h:XIn wo xb kd lt l v V):∃ b c,v = .slice b l.length c:=own_shp h.2.2.1
theorem XIn.push {x:Nat} {v6:Value} {w6:World} (h:XIn wo xb kd lt l v V) (ho:w6.ownsRow wo.heap.size 3 1 v6 (l.length+1) ((castL l).map encZ++[.int .i64 (x:Nat)])) (hg:(V.alloc (.cells #[.int .i64 (x:Nat)] 3)).grownBy w6 v.ownBlock) :
  Below wo.heap.size wo w6∧w6.heap[xb]? = some (.cells #[.int .i64 kd,.int .i64 lt,v] 40 (0,0))∧XIn wo xb kd lt (l++[x]) v6 (w6.setCell ⟨xb,2,none⟩ v6):=by
 obtain ⟨h1,h2,h3,h4⟩:=h
 have hx:=((Ext.refl V).alloc (.cells #[.int .i64 (x:Nat)] 3)).below
 have h3a:=h3.alloc (.cells #[.int .i64 (x:Nat)] 3)
 have h2a:=(hx.block _ (Array.getElem?_eq_some_iff.1 h2).1).trans h2
 have h26:=(grown_other h3a hg h2a (by decide)).trans h2a
 have h1a:=h1.trans (hx.mono h1.size)
 have hb6:Below wo.heap.size wo w6:=Below.grown h1a hg h1a.size (fun k e=>own_ge h3 e)
 refine ⟨hb6,h26,hb6.setCell (p:=⟨xb,2,none⟩) h4 _,heap_set h26 2 _,?_,h4⟩
 have:=own_cast ho (show l.length+1 = (l++[x]).length by simp) (show (castL l).map encZ++[.int .i64 (x:Nat)] = (castL (l++[x])).map encZ by simp [castL,encZ])
 exact ownsRow_keep this (fun g c h=>Below.heap_setCell _ _ _ _ (ne_type h h26 (by decide)))
end
def useV (u:Nat→Bool):Nat→Value:=fun k=>.bool (u k)
def useJ (u:Nat→Bool) (ip:List Nat) (j:Nat):Nat→Bool:=fun c=>u c || decide (c∈ip.take j)
theorem useJ_zero (u:Nat→Bool) (ip:List Nat):useJ u ip 0 = u:=funext fun c=>by simp [useJ]
theorem useJ_all (u:Nat→Bool) (ip:List Nat):useJ u ip ip.length = fun c=>u c || decide (c∈ip):=by unfold useJ;rw [List.take_length]
theorem useJ_old {u:Nat→Bool} {ip:List Nat} {j k:Nat} (h:u k = true):useJ u ip j k = true:=by unfold useJ;rw [h,Bool.true_or]
theorem useJ_set {u:Nat→Bool} {ip:List Nat} {j:Nat} (hj:j < ip.length) (k:Nat):putF (useV (useJ u ip j)) ip[j] (.bool true) k = useV (useJ u ip (j+1)) k:=by
 unfold putF useV useJ
 rw [List.take_succ_eq_append_getElem hj]
 by_cases h:k = ip[j]
 ·rw [if_pos h,decide_eq_true (by rw [h];exact List.mem_append.2 (.inr (List.mem_singleton.2 rfl))),Bool.or_true]
 ·rw [if_neg h]
  congr 2
  exact decide_eq_decide.2 ⟨fun hk=>List.mem_append.2 (.inl hk),fun hk=>(List.mem_append.1 hk).elim id (fun e=>absurd (List.mem_singleton.1 e) h)⟩
def UseI (W:World) (R:Nat) (u:Nat→Bool) (V:World):Prop:=Below W.heap.size W V∧RowF V (W.heap.size+1) 4 R (useV u)∧V.heap[W.heap.size]? = some (.cells #[.int .i64 0,.slice none 0 0] 24 (0,0))
theorem UseI.set {W V:World} {R i:Nat} {u u':Nat→Bool} {v:Value} (h:UseI W R u V) (hu:∀ k,putF (useV u) i v k = useV u' k):UseI W R u' (V.setCell ⟨W.heap.size+1,i,none⟩ v) :=
 ⟨h.1.setCell (p:=⟨W.heap.size+1,i,none⟩) (Nat.le_succ _) _,(RowF.set h.2.1 i v).congr fun j _=>hu j,(Below.heap_setCell _ _ _ _ (show W.heap.size≠W.heap.size+1 by omega)).trans h.2.2⟩
def idxV (F:Nat→Nat):Nat→Value:=fun k=>.int .i64 ((F k:Nat):Int)
def NetR (W:World) (n:Int) (R ob ga b0:Nat) (u:Nat→Bool) (F:Nat→Nat) (vO:Value) (o:List L.ND) (us:List Value) (V:World):Prop :=
 Below W.heap.size W V∧RowF V (W.heap.size+1) 4 R (useV u)∧RowF V ga 3 R (idxV F)∧V.heap[W.heap.size]? = some (.cells #[.int .i64 0,.slice none 0 0] 24 (0,0))∧V.heap[ob]? = some (.cells #[.int .i64 n,vO] 24 (0,0))∧V.ownsRow b0 40 3 vO o.length (gCells (o.map L.ofND) us)∧RowsOf V b0 us (o.map fun y=>castL y.inp)∧(W.heap.size+2≤ob∧ob < b0∧W.heap.size+2≤ga∧ga < b0)∧b0≤V.heap.size
section
variable {W V V':World} {n:Int} {R ob ga b0:Nat} {u:Nat→Bool} {F:Nat→Nat} {vO:Value} {o:List L.ND} {us:List Value}
theorem NetR.next (h:NetR W n R ob ga b0 u F vO o us V) (hb:Below V.heap.size V V'):NetR W n R ob ga b0 u F vO o us V':=by
 obtain ⟨h1,h2,h3,h4,h5,h6,h7,h8,h9⟩:=h
 have k:∀ {j:Nat} {x:Obj},V.heap[j]? = some x→V'.heap[j]? = some x:=fun {j x} e=>(hb.block _ (Array.getElem?_eq_some_iff.1 e).1).trans e
 exact ⟨h1.trans (hb.mono h1.size),h2.below hb,h3.below hb,k h4,k h5,ownsRow_keep h6 (fun g c h=>hb.block g (Array.getElem?_eq_some_iff.1 h).1),h7.keep (fun g c h=>hb.block g (Array.getElem?_eq_some_iff.1 h).1),h8,Nat.le_trans h9 hb.size⟩
theorem NetR.cells (h:NetR W n R ob ga b0 u F vO o us V):V.cell? ⟨ob,0,none⟩ = some (.int .i64 n)∧V.cell? ⟨ob,1,none⟩ = some vO∧∃ bO cO,vO = .slice bO o.length cO:=by
 refine ⟨by rw [World.cell?,h.2.2.2.2.1];rfl,by rw [World.cell?,h.2.2.2.2.1];rfl,own_shp h.2.2.2.2.2.1⟩
theorem NetR.setAt {F':Nat→Nat} (h:NetR W n R ob ga b0 u F vO o us V) {i x:Nat} (hF:∀ k,F' k = if k = i then x else F k):NetR W n R ob ga b0 u F' vO o us (V.setCell ⟨ga,i,none⟩ (.int .i64 (x:Nat))):=by
 obtain ⟨h1,⟨rc,r1,r2,r3⟩,h3,h4,h5,h6,h7,h8,h9⟩:=h
 obtain ⟨sc,s1,-⟩:=id h3
 have kk:∀ {g:Nat} {c:Array Value} {t:TypeId},V.heap[g]? = some (.cells c t (0,0))→t≠3→(V.setCell ⟨ga,i,none⟩ (.int .i64 (x:Nat))).heap[g]? = some (.cells c t (0,0)):=fun {g c t} e ht=>(Below.heap_setCell _ _ _ _ (ne_type e s1 ht)).trans e
 refine ⟨h1.setCell (p:=⟨ga,i,none⟩) (by show W.heap.size≤ga;omega) _,⟨rc,kk r1 (by decide),r2,r3⟩,(h3.set i _).congr fun k _=>?_,kk h4 (by decide),kk h5 (by decide),ownsRow_setCell_below h6 h8.2.2.2 _,h7.setLow h8.2.2.2 _,h8,by simpa [World.setCell] using h9⟩
 unfold putF idxV
 rw [hF]
 split <;> rfl
theorem NetR.push {kd lt:Int} {ip:List Nat} {m:Nat} {b4:Option Addr} {c4:Nat} {v6:Value} {w6:World} (h:NetR W n R ob ga b0 u F vO o us V) (hm:ip.length = m) (hx:V.ownsRow b0 3 1 (.slice b4 m c4) m ((castL ip).map encZ)) (ho:w6.ownsRow b0 40 3 v6 (o.length+1) (gCells (o.map L.ofND) us++[.int .i64 kd,.int .i64 lt,.slice b4 m c4])) (hg:V.grownBy w6 vO.ownBlock) :
  (∃ g c,v6 = .slice (some ⟨g,0,none⟩) (o.length+1) c)∧w6.cell? ⟨ob,1,none⟩ = some vO∧w6.frozen? ⟨ob,1,none⟩ = false∧NetR W n R ob ga b0 u F v6 (o++[⟨kd,lt,ip⟩]) (us++[.slice b4 m c4]) (w6.setCell ⟨ob,1,none⟩ v6):=by
 subst hm
 obtain ⟨h1,⟨rc,r1,r2,r3⟩,⟨sc,s1,s2,s3⟩,h3,h4,h5,h6,h7,h8⟩:=h
 have k:∀ {g:Nat} {c:Array Value} {t:TypeId},V.heap[g]? = some (.cells c t (0,0))→t≠40→w6.heap[g]? = some (.cells c t (0,0)):=fun {g c t} e ht=>(grown_other h5 hg e ht).trans e
 have b6:=k h4 (by decide)
 have kk:∀ {g:Nat} {c:Array Value} {t:TypeId},w6.heap[g]? = some (.cells c t (0,0))→t≠24→(w6.setCell ⟨ob,1,none⟩ v6).heap[g]? = some (.cells c t (0,0)):=fun {g c t} e ht=>(Below.heap_setCell _ _ _ _ (ne_type e b6 ht)).trans e
 have hul:us.length = (o.map L.ofND).length:=by have:=h6.1;simpa using this
 have hgc:gCells (o.map L.ofND) us++[.int .i64 kd,.int .i64 lt,.slice b4 ip.length c4] = gCells ((o++[(⟨kd,lt,ip⟩:L.ND)]).map L.ofND) (us++[.slice b4 ip.length c4]):=by
  rw [List.map_append,List.map_cons,List.map_nil,gCells_snoc hul];rfl
 rw [hgc] at ho
 have hx6:w6.ownsRow b0 3 1 (.slice b4 ip.length c4) ip.length ((castL ip).map encZ):=ownsRow_keep hx fun g c e=>(k e (by decide)).trans e.symm
 have hR6:RowsOf w6 b0 us (o.map fun y=>castL y.inp):=h6.keep fun g c e=>(k e (by decide)).trans e.symm
 have hR7:RowsOf w6 b0 (us++[.slice b4 ip.length c4]) ((o++[(⟨kd,lt,ip⟩:L.ND)]).map fun y=>castL y.inp):=by
  rw [List.map_append]
  exact hR6.snoc (c:=castL ip) (by rw [castL_len];exact hx6)
 have hB6:Below W.heap.size W w6:=Below.grown h1 hg h1.size (fun k e=>by have:=own_ge h5 e;omega)
 have hne:W.heap.size≠ob:=by omega
 refine ⟨?_,by rw [World.cell?,b6];rfl,by simp [World.frozen?,b6],hB6.setCell (p:=⟨ob,1,none⟩) (show W.heap.size≤ob by omega) _,⟨rc,kk (k r1 (by decide)) (by decide),r2,r3⟩,⟨sc,kk (k s1 (by decide)) (by decide),s2,s3⟩,(Below.heap_setCell _ _ _ _ hne).trans (k h3 (by decide)),heap_set b6 1 _,?_,hR7.keep fun g c e=>(kk e (by decide)).trans e.symm,h7,?_⟩
 ·obtain ⟨_,⟨_,e⟩ | ⟨g,cap,cur,h,_⟩⟩:=ho
  ·omega
  ·exact ⟨g,cap,h⟩
 ·rw [List.length_append]
  exact ownsRow_keep ho fun g c e=>(kk e (by decide)).trans e.symm
 ·have:=hg.size
  have:w6.heap.size≤(w6.setCell ⟨ob,1,none⟩ v6).heap.size:=by simp [World.setCell]
  omega
end
end Go.Proofs.YtckhohpbokojdaaGreatDoor
