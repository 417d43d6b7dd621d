import Derived.Test.YteikmmfjhabijaaGreatDoorULaw5
import Derived.Test.YteikmmfjhabijaaGreatDoorUSem
import Derived.Test.YteikmmfjhabijaaGreatDoorUReg
set_option linter.unusedSimpArgs false
set_option linter.unusedVariables false
namespace Go.Proofs.YteikmmfjhabijaaGreatDoor
open Go Go.RowKit Go.Shelf
theorem elAt_clone {w:World} {v:Value} {l:List (Nat × Nat)} (h:ElAt w v l) (hl:l.length≤1048576):Calls Tryz.prog 72 #[v] w fun e w'=>∃ ba cap,e = .returned (.slice ba l.length cap)∧NewP w.heap.size w' ba l∧Below w.heap.size w w':=by
 obtain ⟨ba,c,rfl,⟨rfl,rfl,rfl⟩ | ⟨b,o,rfl,hr⟩⟩:=h
 ·refine (clone_pairs_nil w).mono ?_
  rintro e w' ⟨rfl,rfl⟩
  exact ⟨none,0,rfl,.inl rfl,Below.refl _ _⟩
 ·refine (clone_pairs w b o c l hr hl).mono ?_
  rintro e w' ⟨g,cap,cs,rfl,h1,h2,h3,h4⟩
  exact ⟨_,cap,rfl,.inr ⟨g,cs,rfl,h1,h2,h3⟩,h4⟩
set_option maxRecDepth 100000 in
set_option maxHeartbeats 1000000 in
theorem elements_any {B:Blks} {s:St} {w:World} {a:Nat} {n:SNode} (h:Rep B s w) (ht:s.tree≠[]) (hn:s.nodes[a]? = some n) :
  Calls Tryz.prog 76 #[.pointer (some ⟨B.sb,0,none⟩),.int .i64 a] w fun e w'=>∃ ba cap,e = .returned (.tuple #[.slice ba n.el.length cap,.int .i64 0])∧NewP w.heap.size w' ba n.el∧Below w.heap.size w w':=by
 have ha:a < s.nodes.length:=(List.getElem?_eq_some_iff.1 hn).1
 have hch:chkF s.nodes.length [(a:Int)] = 0:=by simp [chkF,ha]
 have hns:=h.small.1
 have hel:n.el.length≤1048576:=(h.small.2 n (List.mem_of_getElem? hn)).2.2.2.2.1
 replace hch:=Lib.hid hch
 have hx1:=(Ext.refl w).alloc (.cells #[.int .i64 a] 3)
 have hz1:=heap_alloc_new w (.cells #[.int .i64 a] 3)
 go_enter Tryz.func76,Tryz.ntmps76
 go_wp2_with fail
 generalize w.alloc (.cells #[.int .i64 a] 3) = w1 at *
 have hR1:=h.below hx1.below
 have hq:=sck_any hR1 ht (slI_one hz1) (by simp)
 rw [hch.out] at hq
 clear hz1
 obtain ⟨cap,_,_,cn,_⟩:=hR1.cells
 obtain ⟨v,hv,_,n0,n1,n2,_⟩:=hR1.node hn
 have hq2:=elAt_clone hv hel
 replace hR1:=Lib.hid hR1
 replace hv:=Lib.hid hv
 clear h
 refine hq.mono ?_
 rintro e w2 ⟨rfl,rfl⟩
 have d0:decide ((a:Int) < s.nodes.length) = true:=decide_eq_true (by omega)
 have d1:decide (0≤(a:Int)) = true:=decide_eq_true (by omega)
 clear hq
 go_wp2_with fail
 refine hq2.mono ?_
 rintro e w3 ⟨ba,cp,rfl,hP,hb3⟩
 replace hP:=Lib.hid hP
 go_wp2_with fail
 go_ret2
 refine ⟨ba,cp,rfl,?_,hx1.below.trans (hb3.mono hx1.size)⟩
 rcases hP.out with e | ⟨g,cs,e1,e2,e3⟩
 ·exact .inl e
 ·exact .inr ⟨g,cs,e1,Nat.le_trans hx1.size e2,e3⟩
theorem elements_v {t:List VN} {B0:Blks} {w0 w:World} {k a:Nat} {s:St} {n:SNode} (h:SS t B0 w0 k s w) (hn:s.nodes[a]? = some n) :
  Calls Tryz.prog 76 #[.pointer (some ⟨B0.sb,0,none⟩),.int .i64 a] w fun e w'=>∃ ba cap,e = .returned (.tuple #[.slice ba n.el.length cap,.int .i64 0])∧NewP w.heap.size w' ba n.el∧Below w.heap.size w w':=by
 obtain ⟨B,hR,hS⟩:=h.held
 rw [←hS.sb]
 exact elements_any hR h.ne hn
theorem at_v {t:List VN} {B0:Blks} {w0 w:World} {k a:Nat} {s:St} {n:SNode} (h:SS t B0 w0 k s w) (hn:s.nodes[a]? = some n) :
  Calls Tryz.prog 75 #[.pointer (some ⟨B0.sb,0,none⟩),.int .i64 a] w fun e w'=>e = .returned (.tuple #[.int .i64 n.pl,.int .i64 0])∧Below w.heap.size w w':=by
 obtain ⟨B,hR,hS⟩:=h.held
 rw [←hS.sb]
 exact at_any hR h.ne hn
theorem size_v {t:List VN} {B0:Blks} {w0 w:World} {k a:Nat} {s:St} (h:SS t B0 w0 k s w) (ha:a < s.nodes.length) :
  Calls Tryz.prog 47 #[.pointer (some ⟨B0.sb,0,none⟩),.int .i64 a] w fun e w'=>∃ o:List Nat,(o.Nodup∧∀ b,b∈o↔L.Reach s.nodes a b)∧e = .returned (.tuple #[.int .i64 (sumEl s.nodes o),.int .i64 0])∧Below w.heap.size w w':=by
 obtain ⟨B,hR,hS⟩:=h.held
 have h0:=h.pos
 have hf:=h.few
 have hlen:=h.room.len
 obtain ⟨o,e,g1,g2⟩:=L.sizeF_spec h.inv (by omega) ha (v:=s.tree.length - 1) (by rw [h.tree];omega) (dep_root h.inv ha) (f:=14) (by rw [h.tree];omega)
 rw [←hS.sb]
 refine (size_any hR h.ne ha e).mono ?_
 rintro e w' ⟨rfl,hb⟩
 exact ⟨o,⟨g1,g2⟩,rfl,hb⟩
end Go.Proofs.YteikmmfjhabijaaGreatDoor
