import Derived.Test.YtckhohpbokojdaaGreatDoorMN4
section
set_option linter.unusedSimpArgs false
set_option linter.unusedVariables false
namespace Go.Proofs.YtckhohpbokojdaaGreatDoor
open Go Go.RowKit Go.Shelf
set_option maxRecDepth 100000 in
set_option maxHeartbeats 1000000 in
theorem indexI_any {x:Int} {l:List Int} {v:Value} {w:World} (hv:SlI w v l) (hl:l.length≤9223372036854775807) :
  Calls Tryz.prog 63 #[v,.int .i64 x] w fun e w'=>∃ z:Int,e = .returned (.int .i64 z)∧decide (z≥0) = decide (x∈l)∧w = w':=by
 obtain ⟨ba,cp,rfl,h⟩:=hv
 have hcell:∀ k (hk:k < l.length),∃ b o,ba = some ⟨b,o,none⟩∧w.cell? ⟨b,o+k,none⟩ = some (.int .i64 l[k]):=fun k hk=>by
  rcases h with ⟨_,e,_⟩ | ⟨b,o,h1,h2⟩
  ·rw [e] at hk;simp at hk
  ·exact ⟨b,o,h1,h2 k hk⟩
 replace hcell:=Lib.hid hcell
 clear h
 go_enter Tryz.func63,Tryz.ntmps63
 go_wp2_with fail
 go_loopw [5,8] (fun _ i wr=>∃ k:Nat,k≤l.length∧i = .int .i64 k∧wr = w∧∀ j (hj:j < l.length),j < k→x≠l[j]) (fun _ i _=>l.length - (intOf i).toNat)
 case atStart=>exact ⟨0,Nat.zero_le _,rfl,rfl,fun j _ h=>absurd h (Nat.not_lt_zero _)⟩
 case round =>
  obtain ⟨k,hk,rfl,rfl,hno⟩:=hrel
  by_cases hlt:k < l.length
  ·obtain ⟨b,o,rfl,f1⟩:=hcell.out k hlt
   by_cases hp:x = l[k]
   ·have hany:x∈l:=hp ▸ List.getElem_mem hlt
    have hd:(x == l[k]) = true:=beq_iff_eq.2 hp
    generalize l[k] = y at *
    replace hno:=Lib.hid hno
    replace hany:=Lib.hid hany
    clear hp
    go_wp2_with fail
    go_ret
    exact ⟨k,rfl,by rw [decide_eq_true hany.out];exact decide_eq_true (by omega),rfl⟩
   ·have hnext:∀ j (hj:j < l.length),j < k+1→x≠l[j]:=fun j hj hjk=>by
     by_cases e:j = k
     ·subst e;exact hp
     ·exact hno j hj (by omega)
    have hd:(x == l[k]) = false:=beq_eq_false_iff_ne.2 hp
    generalize l[k] = y at *
    replace hno:=Lib.hid hno
    replace hnext:=Lib.hid hnext
    clear hp
    go_wp2_with fail
    go_roundw
    case rel=>exact ⟨k+1,by omega,by go_num,trivial,hnext.out⟩
    case measure=>simp [intOf];omega
  ·obtain rfl:k = l.length:=by omega
   have hf:¬ x∈l:=fun hx=>by
    obtain ⟨j,hj,e⟩:=List.getElem_of_mem hx
    exact hno j hj hj e.symm
   replace hno:=Lib.hid hno
   replace hf:=Lib.hid hf
   go_wp2_with fail
   go_ret
   exact ⟨-1,rfl,by rw [decide_eq_false hf.out];rfl,rfl⟩
set_option maxRecDepth 100000 in
set_option maxHeartbeats 1000000 in
theorem containsI_any {x:Int} {l:List Int} {v:Value} {w:World} (hv:SlI w v l) (hl:l.length≤9223372036854775807) :
  Calls Tryz.prog 39 #[v,.int .i64 x] w fun e w'=>e = .returned (.bool (decide (x∈l)))∧w = w':=by
 have q1:=indexI_any (x:=x) hv hl
 obtain ⟨ba,cp,rfl,_⟩:=hv
 generalize decide (x∈l) = B at *
 go_enter Tryz.func39,Tryz.ntmps39
 go_wp2_with fail
 refine q1.mono ?_
 rintro e w2 ⟨z,rfl,hz,rfl⟩
 have hz2:decide (z≥0) = B:=hz
 clear q1
 go_wp2_with fail
 go_ret
 exact ⟨by first | rfl | (rw [←hz] <;> rfl),rfl⟩
end Go.Proofs.YtckhohpbokojdaaGreatDoor
end
section
set_option linter.unusedSimpArgs false
set_option linter.unusedVariables false
namespace Go.Proofs.YtckhohpbokojdaaGreatDoor
open Go Go.RowKit Go.Shelf
def LmZ (l:List Int):Int→Option Bool:=fun z=>if z∈l then some true else none
theorem LmZ_cons (l:List Int) (a:Int):LmZ (a :: l) = upd (LmZ l) a true:=by
 funext x
 simp only [LmZ,upd,List.mem_cons]
 by_cases h:x = a <;> by_cases h2:x∈l <;> simp [h,h2]
theorem intZLaw:KeyLaw Tryz.prog 3 encZ:=intLaw (α:=Int) Tryz.underlying3 (fun n=>n) (fun a b h=>h)
theorem ownsRow_cellN {w:World} {base n size:Nat} {e:TypeId} {v:Value} {xs:List Value} (h:w.ownsRow base e size v n xs) {k:Nat} (hk:k < xs.length):∃ g cp,v = .slice (some ⟨g,0,none⟩) n cp∧∀ (k:Nat) (hk:k < xs.length),w.cell? ⟨g,0+k,none⟩ = some xs[k]:=by
 obtain ⟨he,⟨rfl,e⟩ | ⟨g,cap,cur,rfl,hgb,hgh,hn,hm,hcs,ht⟩⟩:=h
 ·rw [e] at he;omega
 ·refine ⟨g,cap,rfl,fun k hk=>?_⟩
  have hx:(cur.toList.take xs.length)[k]? = some xs[k]:=by
   first | (rw [ht];exact List.getElem?_eq_getElem hk) | (rw [he,ht];exact List.getElem?_eq_getElem hk) | (rw [←he] at ht;rw [ht];exact List.getElem?_eq_getElem hk)
  rw [List.getElem?_take_of_lt hk] at hx
  rw [World.cell?,hgh]
  show cur[0+k]? = some xs[k]
  rw [Nat.zero_add,←Array.getElem?_toList]
  exact hx
theorem NBat.node {lo base bx pm:Nat} {n:Int} {bl:List L.ND} {vL:Value} {us:List Value} {W:World} (h:NBat lo base bx pm n bl vL us W) {i:Nat} (hi:i < bl.length):∃ g o cp bb cc,vL = .slice (some ⟨g,o,none⟩) bl.length cp∧W.cell? ⟨g,o+i * 3,none⟩ = some (.int .i64 (L.ndAt bl i).kind)∧W.cell? ⟨g,o+i * 3+1,none⟩ = some (.int .i64 (L.ndAt bl i).lit)∧W.cell? ⟨g,o+i * 3+2,none⟩ = some (.slice bb (L.ndAt bl i).inp.length cc)∧W.ownsRow base 3 1 (.slice bb (L.ndAt bl i).inp.length cc) (L.ndAt bl i).inp.length ((castL (L.ndAt bl i).inp).map encZ):=by
 obtain ⟨_,ho,hR,_,_⟩:=h
 rw [L.ndAt_lt hi]
 have hus:us.length = bl.length:=by have:=hR.1;simpa using this
 have hul:us.length = (bl.map L.ofND).length:=by simpa using hus
 have hcl:=gCells_len hul
 have hbl:(bl.map L.ofND).length = bl.length:=List.length_map ..
 obtain ⟨g,cp,rfl,hc⟩:=ownsRow_cellN ho (k:=i * 3) (by omega)
 obtain ⟨h1,h2,h3⟩:=gCells_get hul i (by simpa using hi) (by omega)
 rw [List.getElem_map] at h1 h2
 have hr:=hR.2 i us[i] (castL bl[i].inp) (List.getElem?_eq_getElem (by omega)) (by rw [List.getElem?_map,List.getElem?_eq_getElem hi];rfl)
 have hget:∀ k x,(gCells (bl.map L.ofND) us)[k]? = some x→W.cell? ⟨g,0+k,none⟩ = some x:=fun k x hx=>by
  obtain ⟨hk,e⟩:=List.getElem?_eq_some_iff.1 hx
  rw [←e];exact hc k hk
 obtain ⟨bb,cc,eu,_⟩:=owns_slI hr
 rw [eu] at h3 hr
 rw [castL_len] at h3 hr
 exact ⟨g,0,cp,bb,cc,rfl,hget _ _ h1,by have:=hget _ _ h2;rwa [←Nat.add_assoc] at this,by have:=hget _ _ h3;rwa [←Nat.add_assoc] at this,hr⟩
structure InB where
 b5:Nat
 b8:Nat
 b9:Nat
 b12:Nat
 lm:Nat
 b13:Nat
 b14:Nat
def InAt (B:InB) (o o' bx:Nat) (drop fin:Int) (a:L.InS) (W:World):Prop :=
 (W.heap[B.b5]? = some (.cells #[.pointer (some ⟨bx,0,none⟩)] 102 (0,0))∧W.heap[B.b8]? = some (.cells #[.int .i64 drop] 3 (0,0))∧W.heap[B.b9]? = some (.cells #[.int .i64 fin] 3 (0,0))∧W.heap[B.b13]? = some (.cells #[.map (some B.lm)] 125 (0,0))∧W.heap[B.b14]? = some (.cells #[.bool a.opn] 4 (0,0))) ∧
 MapAt encZ encB W B.lm (LmZ a.lits)∧(∃ vo,W.heap[B.b12]? = some (.cells #[vo] 25 (0,0))∧W.ownsRow o' 3 1 vo a.out.length ((castL a.out).map encZ)) ∧
 (o≤B.b12∧o≤B.lm∧o≤B.b14∧o≤o'∧o'≤W.heap.size)∧B.b5 < o'∧B.b8 < o'∧B.b9 < o'∧B.b12 < o'∧B.lm < o'∧B.b13 < o'∧B.b14 < o'
section
variable {B:InB} {o o' bx:Nat} {drop fin:Int} {a:L.InS} {W W':World}
theorem InAt.next (h:InAt B o o' bx drop fin a W) (hb:Below W.heap.size W W'):InAt B o o' bx drop fin a W':=by
 obtain ⟨⟨h1,h2,h3,h4,h5⟩,hM,⟨vo,h6,h7⟩,⟨b1,b2,b3,b4,b5⟩,hr⟩:=h
 have k:∀ {j:Nat} {x:Obj},W.heap[j]? = some x→W'.heap[j]? = some x:=fun {j x} e=>(hb.block _ (Array.getElem?_eq_some_iff.1 e).1).trans e
 refine ⟨⟨k h1,k h2,k h3,k h4,k h5⟩,hM.same ?_,⟨vo,k h6,ownsRow_keep h7 (fun g c h=>hb.block g (Array.getElem?_eq_some_iff.1 h).1)⟩,⟨b1,b2,b3,b4,Nat.le_trans b5 hb.size⟩,hr⟩
 obtain ⟨_,_,hm,_⟩:=hM
 exact hb.block _ (Array.getElem?_eq_some_iff.1 hm).1
theorem InAt.cells (h:InAt B o o' bx drop fin a W):∃ vo,W.cell? ⟨B.b5,0,none⟩ = some (.pointer (some ⟨bx,0,none⟩))∧W.cell? ⟨B.b8,0,none⟩ = some (.int .i64 drop)∧W.cell? ⟨B.b9,0,none⟩ = some (.int .i64 fin)∧W.cell? ⟨B.b13,0,none⟩ = some (.map (some B.lm))∧W.cell? ⟨B.b14,0,none⟩ = some (.bool a.opn)∧W.cell? ⟨B.b12,0,none⟩ = some vo∧W.ownsRow o' 3 1 vo a.out.length ((castL a.out).map encZ):=by
 obtain ⟨⟨h1,h2,h3,h4,h5⟩,hM,⟨vo,h6,h7⟩,_⟩:=h
 exact ⟨vo,by rw [World.cell?,h1];rfl,by rw [World.cell?,h2];rfl,by rw [World.cell?,h3];rfl,by rw [World.cell?,h4];rfl,by rw [World.cell?,h5];rfl,by rw [World.cell?,h6];rfl,h7⟩
theorem InAt.ne_map {b:Nat} {c:Array Value} {t:TypeId} (hM:MapAt encZ encB W B.lm (LmZ a.lits)) (h:W.heap[b]? = some (.cells c t (0,0))):b≠B.lm:=by
 rintro rfl
 obtain ⟨_,_,hm,_⟩:=hM
 rw [hm] at h;simp at h
theorem ne_type {b b':Nat} {c c':Array Value} {t t':TypeId} (h:W.heap[b]? = some (.cells c t (0,0))) (h':W.heap[b']? = some (.cells c' t' (0,0))) (ht:t≠t'):b≠b':=by
 rintro rfl
 rw [h] at h'
 simp only [Option.some.injEq,Obj.cells.injEq] at h'
 exact ht h'.2.1
theorem InAt.shut (h:InAt B o o' bx drop fin a W):InAt B o o' bx drop fin { a with opn:=false } (W.setCell ⟨B.b14,0,none⟩ (.bool false))∧Below o W (W.setCell ⟨B.b14,0,none⟩ (.bool false)):=by
 obtain ⟨⟨h1,h2,h3,h4,h5⟩,hM,⟨vo,h6,h7⟩,⟨b1,b2,b3,b4,b5⟩,hr⟩:=h
 have k:∀ (j:Nat),j≠B.b14→(W.setCell ⟨B.b14,0,none⟩ (.bool false)).heap[j]? = W.heap[j]?:=fun j hj=>Below.heap_setCell _ _ _ _ hj
 have kt:∀ {j:Nat} {c:Array Value} {t:TypeId},W.heap[j]? = some (.cells c t (0,0))→t≠4→(W.setCell ⟨B.b14,0,none⟩ (.bool false)).heap[j]? = some (.cells c t (0,0)):=fun {j c t} e ht=>(k j (ne_type e h5 ht)).trans e
 refine ⟨⟨⟨kt h1 (by decide),kt h2 (by decide),kt h3 (by decide),kt h4 (by decide),?_⟩,hM.same (k _ (Ne.symm (InAt.ne_map hM h5))),⟨vo,kt h6 (by decide),ownsRow_keep h7 fun g c hg=>(kt hg (by decide)).trans hg.symm⟩,⟨b1,b2,b3,b4,by simpa [World.setCell] using b5⟩,hr⟩,(Below.refl _ W).setCell b3 _⟩
 exact heap_set h5 0 (.bool false)
theorem InAt.push {i:Nat} {vo v':Value} {w2:World} (h:InAt B o o' bx drop fin a W) (hc:W.cell? ⟨B.b12,0,none⟩ = some vo) (ho:w2.ownsRow o' 3 1 v' (a.out.length+1) ((castL a.out).map encZ++[.int .i64 (i:Nat)])) (hb:∀ j,j < o'→w2.heap[j]? = W.heap[j]?) (hb2:Below o W w2):InAt B o o' bx drop fin { a with out:=a.out++[i] } (w2.setCell ⟨B.b12,0,none⟩ v')∧Below o W (w2.setCell ⟨B.b12,0,none⟩ v'):=by
 obtain ⟨⟨h1,h2,h3,h4,h5⟩,hM,⟨vo,h6,h7⟩,⟨b1,b2,b3,b4,b5⟩,l5,l8,l9,l12,lm,l13,l14⟩:=h
 have k:∀ (j:Nat),j < o'→j≠B.b12→(w2.setCell ⟨B.b12,0,none⟩ v').heap[j]? = W.heap[j]?:=fun j hj hn=>(Below.heap_setCell _ _ _ _ hn).trans (hb j hj)
 have kt:∀ {j:Nat} {c:Array Value} {t:TypeId},j < o'→W.heap[j]? = some (.cells c t (0,0))→t≠25→(w2.setCell ⟨B.b12,0,none⟩ v').heap[j]? = some (.cells c t (0,0)):=fun {j c t} hj e ht=>(k j hj (ne_type e h6 ht)).trans e
 have hx:(castL a.out).map encZ++[.int .i64 (i:Nat)] = (castL (a.out++[i])).map encZ:=by simp [castL,encZ]
 rw [hx] at ho
 refine ⟨⟨⟨kt l5 h1 (by decide),kt l8 h2 (by decide),kt l9 h3 (by decide),kt l13 h4 (by decide),kt l14 h5 (by decide)⟩,hM.same (k _ lm (Ne.symm (InAt.ne_map hM h6))),⟨v',heap_set ((hb _ l12).trans h6) 0 v',?_⟩,⟨b1,b2,b3,b4,Nat.le_trans b5 (by simpa [World.setCell] using hb2.size)⟩,l5,l8,l9,l12,lm,l13,l14⟩,hb2.setCell b1 _⟩
 rw [List.length_append]
 exact ownsRow_keep ho fun g c hg=>Below.heap_setCell _ _ _ _ fun e=>by
  rw [e,hb _ l12,h6] at hg
  simp only [Option.some.injEq,Obj.cells.injEq] at hg
  exact absurd hg.2.1 (by decide)
theorem InAt.mark (h:InAt B o o' bx drop fin a W) (z:Int):(Instr.mapUpdate 125 (.map (some B.lm)) (.int .i64 z) (.bool true)).run Tryz.prog W = .ok () (putMap 3 Tryz.prog W B.lm (encZ z) (encB true))∧InAt B o o' bx drop fin { a with lits:=z :: a.lits } (putMap 3 Tryz.prog W B.lm (encZ z) (encB true))∧Below o W (putMap 3 Tryz.prog W B.lm (encZ z) (encB true)):=by
 obtain ⟨⟨h1,h2,h3,h4,h5⟩,hM,⟨vo,h6,h7⟩,⟨b1,b2,b3,b4,b5⟩,hr⟩:=h
 obtain ⟨hpt,hM2⟩:=hM.put intZLaw (T:=125) Tryz.underlying125 z true
 rw [←LmZ_cons] at hM2
 have kt:∀ {j:Nat} {c:Array Value} {t:TypeId},W.heap[j]? = some (.cells c t (0,0))→(putMap 3 Tryz.prog W B.lm (encZ z) (encB true)).heap[j]? = some (.cells c t (0,0)):=fun {j c t} e=>(putMap_other (P:=Tryz.prog) _ _ _ _ _ j (InAt.ne_map hM e)).trans e
 exact ⟨hpt,⟨⟨kt h1,kt h2,kt h3,kt h4,kt h5⟩,hM2,⟨vo,kt h6,ownsRow_keep h7 fun g c hg=>(kt hg).trans hg.symm⟩,⟨b1,b2,b3,b4,by rw [putMap_size];exact b5⟩,hr⟩,putMap_below _ _ _ _ _ b2⟩
end
end Go.Proofs.YtckhohpbokojdaaGreatDoor
end
