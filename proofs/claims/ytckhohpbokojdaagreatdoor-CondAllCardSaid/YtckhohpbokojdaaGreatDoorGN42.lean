import Derived.Test.YtckhohpbokojdaaGreatDoorGN40
set_option linter.unusedSimpArgs false
set_option linter.unusedVariables false
namespace Go.Proofs.YtckhohpbokojdaaGreatDoor
open Go Go.RowKit Go.Shelf
theorem term_left {n:Int} {x y:List Int} (h:L.TermL n (x++y)):L.TermL n x:=fun z hz=>⟨(h z (List.mem_append_left _ hz)).1,fun e=>(h z (List.mem_append_left _ hz)).2 (List.mem_append_left _ e)⟩
theorem term_right {n:Int} {x y:List Int} (h:L.TermL n (x++y)):L.TermL n y:=fun z hz=>⟨(h z (List.mem_append_right _ hz)).1,fun e=>(h z (List.mem_append_right _ hz)).2 (List.mem_append_right _ e)⟩
theorem term_nz {n:Int} {x:List Int} (h:L.TermL n x) {z:Int} (hz:z∈x):z≠0:=by
 have:=(h z hz).1
 unfold L.validB at this
 simp only [Bool.and_eq_true,decide_eq_true_eq] at this
 exact this.1
theorem madeL_comm {n:Int} {x y:List Int} (h:L.TermL n (x++y)) (a:L.Asg):L.madeL (L.madeL a y) x = L.madeL a (x++y):=by
 have hx:=term_left h
 have hy:=term_right h
 have e:L.madeL a (x++y) = L.madeL (L.madeL a x) y:=by unfold L.madeL;rw [List.foldl_append]
 rw [e]
 funext v
 by_cases h1:∃ z∈x,(z.natAbs:Int) = v
 ·obtain ⟨z,hz,rfl⟩:=h1
  rw [L.madeL_in x _ z hz (hx z hz).2 (term_nz hx hz)]
  by_cases h2:∃ u∈y,(u.natAbs:Int) = (z.natAbs:Int)
  ·obtain ⟨u,hu,e⟩:=h2
   have e2:u = z:=by
    have:u = z∨u = -z:=by omega
    rcases this with e | e
    ·exact e
    ·exact absurd (List.mem_append_right x (e ▸ hu)) (h z (List.mem_append_left _ hz)).2
   subst e2
   rw [L.madeL_in y _ u hu (hy u hu).2 (term_nz hy hu)]
  ·rw [L.madeL_out y _ _ fun u hu e=>h2 ⟨u,hu,e⟩,L.madeL_in x _ z hz (hx z hz).2 (term_nz hx hz)]
 ·rw [L.madeL_out x _ _ fun u hu e=>h1 ⟨u,hu,e⟩]
  by_cases h2:∃ u∈y,(u.natAbs:Int) = v
  ·obtain ⟨u,hu,rfl⟩:=h2
   rw [L.madeL_in y _ u hu (hy u hu).2 (term_nz hy hu),L.madeL_in y _ u hu (hy u hu).2 (term_nz hy hu)]
  ·rw [L.madeL_out y _ _ fun u hu e=>h2 ⟨u,hu,e⟩,L.madeL_out y _ _ fun u hu e=>h2 ⟨u,hu,e⟩,L.madeL_out x _ _ fun u hu e=>h1 ⟨u,hu,e⟩]
theorem giv_again {n:Int} {nl:List L.ND} {x:List Int} (hc:L.netChk n (nl.map L.ofND) = 0):L.reduceL ((L.reduceL (nl.map (L.givND x))).map (L.givND x)) = L.reduceL (nl.map (L.givND x)):=by
 obtain ⟨h,hne,hn,hl⟩:=nok_of hc
 have hm:=L.map_nok h _ (L.givND_or x)
 obtain ⟨b1,b2,b3,b4,b5⟩:=L.reduceL_ok hm (map_ne hne)
 rw [L.giv_id fun l hl=>(L.giv_lits (L.reduceL_lits hm (map_ne hne) l hl)).2]
 exact L.reduceL_id b1 b2 b3 b4
theorem giv_tv {n:Int} {nl:List L.ND} {t:List Int} (hc:L.netChk n (nl.map L.ofND) = 0) (hT:L.TermL n t) (a:L.Asg) :
  L.tv (L.reduceL (nl.map (L.givND t))) a ((L.reduceL (nl.map (L.givND t))).length - 1) = L.tv nl (L.madeL a t) (nl.length - 1):=by
 obtain ⟨h,hne,hn,hl⟩:=nok_of hc
 have hl0:0 < nl.length:=List.length_pos_iff.2 hne
 rw [L.reduceL_true (L.map_nok h _ (L.givND_or t)) (map_ne hne),List.length_map,L.giv_true h hT _ _ _ (Nat.le_refl _) (by omega)]
theorem giv_chk {n:Int} {nl:List L.ND} {x:List Int} (hc:L.netChk n (nl.map L.ofND) = 0):L.netChk n ((L.reduceL (nl.map (L.givND x))).map L.ofND) = 0∧(L.reduceL (nl.map (L.givND x))).length≤nl.length∧∀ y∈L.reduceL (nl.map (L.givND x)),y.inp.length≤nl.length:=by
 obtain ⟨h,hne,hn,hl⟩:=nok_of hc
 obtain ⟨r1,_,_,r4,r5⟩:=red_facts hn (L.map_nok h _ (L.givND_or x)) (map_ne hne) (by rw [List.length_map];exact hl)
 rw [List.length_map] at r4
 simp only [List.length_map] at r5
 exact ⟨r1,r4,r5⟩
theorem twice_law {n:Int} {nl:List L.ND} {x y:List Int} (hc:L.netChk n (nl.map L.ofND) = 0) (hT:L.TermL n (x++y)) (a:L.Asg) :
  L.tv (L.reduceL ((L.reduceL (nl.map (L.givND x))).map (L.givND y))) a ((L.reduceL ((L.reduceL (nl.map (L.givND x))).map (L.givND y))).length - 1) = L.tv (L.reduceL (nl.map (L.givND (x++y)))) a ((L.reduceL (nl.map (L.givND (x++y)))).length - 1):=by
 rw [giv_tv (giv_chk hc).1 (term_right hT),giv_tv hc (term_left hT),giv_tv hc hT,madeL_comm hT]
end Go.Proofs.YtckhohpbokojdaaGreatDoor
