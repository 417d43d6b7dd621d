import Derived.Test.YtckhohpbokojdaaGreatDoorMN21
import Derived.Test.YtckhohpbokojdaaGreatDoorMShelf9
import Derived.Test.YtckhohpbokojdaaGreatDoorMVars
import Derived.Test.YtckhohpbokojdaaGreatDoorMRef3
import Derived.Test.YtckhohpbokojdaaGreatDoorMReg
import Derived.Test.YtckhohpbokojdaaGreatDoorMLaw16
import Derived.Test.YtckhohpbokojdaaGreatDoorMN13
import Derived.Shelf.Slices.CompactI
import Derived.Lib.RowBridge
section
set_option linter.unusedSimpArgs false
set_option linter.unusedVariables false
namespace Go.Proofs.YtckhohpbokojdaaGreatDoor
open Go Go.RowKit Go.Shelf Go.Sort
theorem compactN_any {l:List Int} {v:Value} {w:World} {base:Nat} (ho:w.ownsRow base 3 1 v l.length (l.map encZ)) (hb0:base≤w.heap.size) (hl:l.length≤1048576) :
  Calls Tryz.prog 84 #[v] w fun e w'=>∃ v',e = .returned v'∧SlI w' v' (Lib.compact l)∧Below base w w':=by
 rcases ho.2 with ⟨rfl,e⟩ | ⟨g,cap,cur,rfl,hbase,hb,h1,h2,h3,h4⟩
 ·have hd:l = []:=List.length_eq_zero_iff.1 e
  subst hd
  refine (Any.slices_Compact_int_empty Tryz.compactIntL none 0 w).mono ?_
  rintro e w' ⟨rfl,rfl⟩
  exact ⟨_,rfl,owns_slI (l:=Lib.compact []) (show w'.ownsRow base 3 1 (.slice none 0 0) 0 [] from ⟨rfl,.inl ⟨rfl,rfl⟩⟩),Below.refl _ _⟩
 ·have h4':cur.toList.take l.length = l.map (Value.int .i64):=by
   have e:l.map (Value.int .i64) = l.map encZ:=rfl
   rw [e]
   simpa using h4
  have hH:=holds_of_blockI hb h4'
  refine (Any.slices_Compact_int Tryz.compactIntL g 0 cap l w hH (by omega) h1).mono ?_
  rintro e w' ⟨rfl,q,rfl⟩
  have hcl:(Lib.compact l).length≤l.length:=Lib.compact_length_le l
  have hts:(Lib.compact l++List.replicate (l.length - (Lib.compact l).length) 0).length = l.length:=by simp;omega
  have hrow:=ownsRow_sortedI (n:=q) (os:=#[]) (ss:=l) (ts:=Lib.compact l++List.replicate (l.length - (Lib.compact l).length) 0) hts hbase hb h1 h2 h3
  have hgr:=grownBy_sortedI (w:=w) (g:=g) (n:=q) (os:=#[]) (Lib.compact l++List.replicate (l.length - (Lib.compact l).length) 0).toArray
  rw [grow_empty] at hrow hgr
  refine ⟨_,rfl,⟨_,cap,rfl,.inr ⟨g,0,rfl,fun j hj=>?_⟩⟩,Below.grown (Below.refl _ _) hgr hb0 (fun k e=>by cases e;exact hbase)⟩
  obtain ⟨g',cp',e,hc⟩:=ownsRow_cellN hrow (k:=j) (by rw [List.length_map,hts];omega)
  cases e
  have:=hc j (by rw [List.length_map,hts];omega)
  rw [List.getElem_map,List.getElem_append_left hj] at this
  exact this
set_option maxRecDepth 100000 in
theorem order_any {l:List Int} {v:Value} {w:World} (hv:SlI w v l) (hb:∀ z∈l,-128≤z∧z≤128) (hl:l.length≤1048576) :
  Calls Tryz.prog 59 #[v] w fun e w'=>∃ v' l',e = .returned v'∧SlI w' v' l'∧l'.Pairwise (fun a b=>LeL a b∧a≠b)∧(∀ z,z∈l'↔z∈l)∧Below w.heap.size w w':=by
 obtain ⟨d,hd⟩:=litB_of l hb
 have hdl:d.length = l.length:=by rw [←hd,List.length_map]
 have q:=cloneI_any hv hl
 obtain ⟨ba,cp,rfl,_⟩:=hv
 obtain ⟨hp,hs⟩:=srtL_ok d
 obtain ⟨hc1,hc2⟩:=compact_sorted hs
 have hmem:∀ z,z∈Lib.compact ((srtL d).map Subtype.val)↔z∈l:=fun z=>by
  rw [hc2,←hd]
  exact (hp.map Subtype.val).mem_iff
 have hsl:((srtL d).map Subtype.val).length = d.length:=by rw [List.length_map];exact hp.length_eq
 replace hmem:=Lib.hid hmem
 replace hc1:=Lib.hid hc1
 clear hc2 hs hp
 go_enter Tryz.func59,Tryz.ntmps59
 go_wp2_with fail
 refine q.mono ?_
 rintro e w2 ⟨v2,rfl,ho2,hb2⟩
 have ho2':w2.ownsRow w.heap.size 3 1 v2 d.length ((d.map Subtype.val).map encZ):=by rw [hd,hdl];exact ho2
 have q2:=lsort_any ho2' (by omega)
 replace ho2':=Lib.hid ho2'
 replace hb2:=Lib.hid hb2
 clear q ho2
 go_wp2_with fail
 refine q2.mono ?_
 rintro e w3 ⟨rfl,ho3,hg3⟩
 have hb3:Below w.heap.size w w3:=Below.grown hb2.out hg3 hb2.out.size (fun k e=>own_ge ho2'.out e)
 have q3:=compactN_any (l:=(srtL d).map Subtype.val) (by rw [hsl];exact ho3) hb3.size (by omega)
 replace hb3:=Lib.hid hb3
 clear q2 ho3 hg3
 go_wp2_with fail
 refine q3.mono ?_
 rintro e w4 ⟨v4,rfl,hs4,hb4⟩
 replace hs4:=Lib.hid hs4
 replace hb4:=Lib.hid (hb3.out.trans hb4)
 clear q3
 go_wp2_with fail
 go_ret
 exact ⟨v4,_,rfl,hs4.out,hc1.out,hmem.out,hb4.out⟩
end Go.Proofs.YtckhohpbokojdaaGreatDoor
end
section
set_option linter.unusedSimpArgs false
set_option linter.unusedVariables false
namespace Go.Proofs.YtckhohpbokojdaaGreatDoor
open Go Go.RowKit Go.Shelf
set_option maxRecDepth 100000 in
theorem term_any {n:Int} {l:List Int} {v:Value} {w:World} (hn:0≤n∧n≤128) (hv:SlI w v l) (hl:l.length≤1048576) :
  Calls Tryz.prog 36 #[v,.int .i64 n] w fun e w'=>∃ v' l' b,e = .returned (.tuple #[v',.bool b])∧(b = true↔L.TermL n l)∧(b = true→SlI w' v' l'∧l'.length≤1048576∧∀ z,z∈l'↔z∈l)∧Below w.heap.size w w'∧∃ ba m c,v' = .slice ba m c:=by
 have q:=tvalid_any hn hv (by omega)
 have hvr:∀ z,L.validB n z = true→1≤z.natAbs∧z.natAbs≤128:=fun z h=>by have:=L.validB_range hn.2 h;omega
 cases hA:(l.all fun z=>L.validB n z) with
 | false =>
   rw [hA] at q
   have hno:¬ L.TermL n l:=fun h=>by
    have:(l.all fun z=>L.validB n z) = true:=List.all_eq_true.2 fun z hz=>(h z hz).1
    rw [hA] at this;cases this
   replace hno:=Lib.hid hno
   obtain ⟨ba,cp,rfl,_⟩:=hv
   clear hA hvr
   go_enter Tryz.func36,Tryz.ntmps36
   go_wp2_with fail
   refine q.mono ?_
   rintro e w2 ⟨rfl,hx⟩
   replace hx:=Lib.hid hx
   clear q
   go_wp2_with fail
   go_ret2
   exact ⟨_,[],false,rfl,⟨fun h=>Bool.noConfusion h,fun h=>absurd h hno.out⟩,(fun h=>Bool.noConfusion h),hx.out.below,_,_,_,rfl⟩
 | true =>
   rw [hA] at q
   have hall:=List.all_eq_true.1 hA
   have hb:∀ z∈l,-128≤z∧z≤128:=fun z hz=>by have:=hvr z (hall z hz);omega
   have hnz:∀ z∈l,z≠0:=fun z hz e=>by have:=hvr z (hall z hz);rw [e] at this;simp at this
   have hv':=hv
   obtain ⟨ba,cp,rfl,_⟩:=hv
   replace hv':=Lib.hid hv'
   replace hall:=Lib.hid hall
   replace hb:=Lib.hid hb
   replace hnz:=Lib.hid hnz
   clear hA hvr
   go_enter Tryz.func36,Tryz.ntmps36
   go_wp2_with fail
   refine q.mono ?_
   rintro e w2 ⟨rfl,hx⟩
   have q2:=order_any (hv'.out.ext hx.below) hb.out hl
   replace hx:=Lib.hid hx
   clear q
   go_wp2_with fail
   refine q2.mono ?_
   rintro e w3 ⟨v3,l3,rfl,hs3,hp3,hm3,hb3⟩
   have hl3:l3.length≤1048576:=Nat.le_trans (L.nodup_len l3 l (hp3.imp fun h=>h.2) fun z hz=>(hm3 z).1 hz) hl
   have q3:=opp_any hs3 hl3 fun z hz=>hb.out z ((hm3 z).1 hz)
   have hop:=opp_of hp3 fun z hz=>hnz.out z ((hm3 z).1 hz)
   have hT:(¬ OppL l3)↔L.TermL n l:=by
    rw [hop]
    exact ⟨fun h z hz=>⟨hall.out z hz,fun h2=>h ⟨z,(hm3 z).2 hz,(hm3 _).2 h2⟩⟩,fun h ⟨z,h1,h2⟩=>(h z ((hm3 z).1 h1)).2 ((hm3 _).1 h2)⟩
   have hb3':Below w.heap.size w w3:=hx.out.below.trans (hb3.mono hx.out.size)
   obtain ⟨ba3,cp3,hv3,_⟩:=id hs3
   subst hv3
   replace hs3:=Lib.hid hs3
   replace hm3:=Lib.hid hm3
   replace hT:=Lib.hid hT
   replace hb3':=Lib.hid hb3'
   clear q2 hp3 hop hb3
   go_wp2_with fail
   refine q3.mono ?_
   rintro e w4 ⟨b,rfl,hbo,hx4⟩
   replace hx4:=Lib.hid hx4
   replace hbo:=Lib.hid hbo
   clear q3
   cases b with
   | true =>
     go_wp2_with fail
     go_ret2
     exact ⟨_,[],false,rfl,⟨fun h=>Bool.noConfusion h,fun h=>absurd (hbo.out.1 (by first | trivial | rfl)) (hT.out.2 h)⟩,(fun h=>Bool.noConfusion h),hb3'.out.trans (hx4.out.below.mono hb3'.out.size),_,_,_,rfl⟩
   | false =>
     go_wp2_with fail
     go_ret2
     exact ⟨_,l3,true,rfl,⟨fun _=>hT.out.1 fun h=>Bool.noConfusion (hbo.out.2 h),fun _=>rfl⟩,(fun _=>⟨hs3.out.ext hx4.out.below,hl3,hm3.out⟩),hb3'.out.trans (hx4.out.below.mono hb3'.out.size),_,_,_,rfl⟩
end Go.Proofs.YtckhohpbokojdaaGreatDoor
end
