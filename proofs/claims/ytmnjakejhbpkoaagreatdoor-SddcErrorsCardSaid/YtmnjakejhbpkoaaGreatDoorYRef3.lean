import Derived.Test.YtmnjakejhbpkoaaGreatDoorYVars
import Derived.Test.YtmnjakejhbpkoaaGreatDoorYAnd
import Derived.Test.YtmnjakejhbpkoaaGreatDoorYVt
set_option linter.unusedSimpArgs false
set_option linter.unusedVariables false
namespace Go.Proofs.YtmnjakejhbpkoaaGreatDoor
open Go Go.RowKit
def listVK (s:VSet):Nat→List Int
 | 0=>[]
 | k+1=>if hasS s ((k:Int)+1) then listVK s k++[(k:Int)+1] else listVK s k
def listV (s:VSet):List Int:=listVK s 128
theorem int_info:(Tryz.prog.info? 3).map (fun i=>(i.zero,i.size,i.bytes)) = some (some (.int .i64 0),1,8):=by kernel_rfl
def encZ (n:Int):Value:=.int .i64 n
theorem owns_slI {w:World} {base:Nat} {v:Value} {l:List Int} (h:w.ownsRow base 3 1 v l.length (l.map encZ)):SlI w v l:=by
 obtain ⟨_,⟨rfl,e⟩ | ⟨g,cap,cur,rfl,hgb,hgh,hn,hm,hcs,ht⟩⟩:=h
 ·have:l = []:=by simpa using e
  subst this
  exact ⟨none,0,rfl,.inl ⟨rfl,rfl,rfl⟩⟩
 ·refine ⟨_,cap,rfl,.inr ⟨g,0,rfl,fun j hj=>?_⟩⟩
  have h1:(l.map encZ)[j]? = some (encZ l[j]):=by rw [List.getElem?_map,List.getElem?_eq_getElem hj];rfl
  rw [←ht,List.getElem?_take] at h1
  split at h1
  ·have h2:cur[j]? = some (encZ l[j]):=by simpa using h1
   simp [World.cell?,hgh,h2,encZ]
  ·simp at h1
theorem own_base {w:World} {B B':Nat} {e:TypeId} {sz:Nat} {v:Value} {n:Nat} {xs:List Value} (h:w.ownsRow B e sz v n xs) (hb:B'≤B):w.ownsRow B' e sz v n xs:=by
 obtain ⟨h1,h2⟩:=h
 refine ⟨h1,h2.imp id ?_⟩
 rintro ⟨g,cap,cur,h3,h4,h5⟩
 exact ⟨g,cap,cur,h3,Nat.le_trans hb h4,h5⟩
theorem own_open {w:World} {B:Nat} {v:Value} {l:List Int} (h:w.ownsRow B 3 1 v l.length (l.map encZ)) (hl:l≠[]) :
  ∃ g cap,v = .slice (some ⟨g,0,none⟩) l.length cap∧B≤g∧∀ j u,(l.map encZ)[j]? = some u→w.cell? (Addr.add ⟨g,0,none⟩ j) = some u:=by
 have hs:=owns_slI h
 obtain ⟨_,⟨rfl,e⟩ | ⟨g,cap,cur,rfl,hgb,_⟩⟩:=h
 ·exact absurd (by simpa using e) hl
 ·refine ⟨g,cap,rfl,hgb,fun j u hj=>?_⟩
  obtain ⟨ba,c,e,h⟩:=hs
  rcases h with ⟨_,h0,_⟩ | ⟨b,o,rfl,hc⟩
  ·exact absurd h0 hl
  ·simp only [Value.slice.injEq,Option.some.injEq,Addr.mk.injEq] at e
   obtain ⟨⟨rfl,rfl,_⟩,_⟩:=e
   rw [List.getElem?_map] at hj
   have hjl:j < l.length:=by
    rcases Nat.lt_or_ge j l.length with h | h
    ·exact h
    ·rw [List.getElem?_eq_none h] at hj;cases hj
   rw [List.getElem?_eq_getElem hjl] at hj
   have:=hc j hjl
   have hadd:(⟨g,0,none⟩:Addr).add j = ⟨g,0+j,none⟩:=by unfold Addr.add;split <;> simp_all
   rw [hadd,this]
   exact hj
theorem bit_with (s:VSet) (v:Int) (i:Nat) (hi:i < 128):(withS s v).getLsbD i = (s.getLsbD i || decide (v = (i:Int)+1)):=by
 unfold withS
 split
 ·rw [BitVec.getLsbD_or,BitVec.getLsbD_twoPow]
  congr 1
  rw [Bool.eq_iff_iff]
  simp
  omega
 ·have:¬ v = (i:Int)+1:=by omega
  simp [this]
theorem bit_of (l:List Int) (i:Nat) (hi:i < 128):∀ s:VSet,(l.foldl withS s).getLsbD i = (s.getLsbD i || l.any fun x=>decide (x = (i:Int)+1)):=by
 induction l with
 | nil=>intro s;simp
 | cons x r ih =>
   intro s
   rw [List.foldl_cons,ih,bit_with _ _ _ hi,List.any_cons,Bool.or_assoc]
end Go.Proofs.YtmnjakejhbpkoaaGreatDoor
