import Derived.Test.YtckhohpbokojdaaGreatDoorMShelf7
import Derived.Test.YtckhohpbokojdaaGreatDoorMRef3
import Derived.Test.YtckhohpbokojdaaGreatDoorMCi1
import Derived.Test.YtckhohpbokojdaaGreatDoorMLst
import Derived.Test.YtckhohpbokojdaaGreatDoorMRegz
import Derived.Test.YtckhohpbokojdaaGreatDoorMReg
import Derived.Test.YtckhohpbokojdaaGreatDoorMThy
import Derived.Test.YtckhohpbokojdaaGreatDoorMLaw11
import Derived.ChangeKeysEq
import Derived.Test.YtckhohpbokojdaaGreatDoorMAdd
import Derived.Test.YtckhohpbokojdaaGreatDoorMBase
import Derived.Laws.AppendOwnNone
section
set_option linter.unusedSimpArgs false
set_option linter.unusedVariables false
namespace Go.Proofs.YtckhohpbokojdaaGreatDoor
open Go Go.RowKit Go.Shelf
theorem box2_set {w:World} {b:Nat} {v0 v1:Value} {t:TypeId} (h:w.heap[b]? = some (.cells #[v0,v1] t)) (x0 x1:Value) :
  ((w.setCell ⟨b,0,none⟩ x0).setCell ⟨b,1,none⟩ x1).cell? ⟨b,0,none⟩ = some x0∧((w.setCell ⟨b,0,none⟩ x0).setCell ⟨b,1,none⟩ x1).cell? ⟨b,1,none⟩ = some x1:=by
 have h2:=heap_set (heap_set h 0 x0) 1 x1
 constructor
 ·rw [World.cell?,h2];rfl
 ·rw [World.cell?,h2];rfl
end Go.Proofs.YtckhohpbokojdaaGreatDoor
end
section
set_option linter.unusedSimpArgs false
set_option linter.unusedVariables false
namespace Go.Proofs.YtckhohpbokojdaaGreatDoor
open Go Go.RowKit Go.Shelf
theorem SlI.shape {w:World} {v:Value} {l:List Int} (h:SlI w v l):∃ ba cp,v = .slice ba l.length cp∧∀ j (hj:j < l.length),∃ b o,ba = some ⟨b,o,none⟩∧w.cell? ⟨b,o+j,none⟩ = some (.int .i64 l[j]):=by
 obtain ⟨ba,cp,rfl,hv0⟩:=h
 refine ⟨ba,cp,rfl,fun j hj=>?_⟩
 rcases hv0 with ⟨_,h2,_⟩ | ⟨b,o,rfl,h2⟩
 ·rw [h2] at hj;simp at hj
 ·exact ⟨b,o,rfl,h2 j hj⟩
end Go.Proofs.YtckhohpbokojdaaGreatDoor
end
section
set_option linter.unusedSimpArgs false
set_option linter.unusedVariables false
namespace Go.Proofs.YtckhohpbokojdaaGreatDoor
open Go Go.RowKit Go.Shelf
def RowsOf (w:World) (base:Nat) (us:List Value) (T:List (List Int)):Prop :=
 us.length = T.length∧∀ (j:Nat) (u:Value) (c:List Int),us[j]? = some u→T[j]? = some c→w.ownsRow base 3 1 u c.length (c.map encZ)
theorem RowsOf.keep {w w':World} {base:Nat} {us:List Value} {T:List (List Int)} (h:RowsOf w base us T) (hk:∀ (g:Nat) (c:Array Value),w.heap[g]? = some (.cells c 3 (0,0))→w'.heap[g]? = w.heap[g]?):RowsOf w' base us T :=
 ⟨h.1,fun j u c h1 h2=>by
   obtain ⟨a,h3 | ⟨g,cap,cur,rfl,hgb,hgh,hr⟩⟩:=h.2 j u c h1 h2
   ·exact ⟨a,.inl h3⟩
   ·exact ⟨a,.inr ⟨g,cap,cur,rfl,hgb,(hk g cur hgh).trans hgh,hr⟩⟩⟩
theorem RowsOf.nil (w:World) (base:Nat):RowsOf w base [] []:=⟨rfl,fun j u c h=>by simp at h⟩
theorem RowsOf.snoc {w:World} {base:Nat} {us:List Value} {T:List (List Int)} {u:Value} {c:List Int} (h:RowsOf w base us T) (hu:w.ownsRow base 3 1 u c.length (c.map encZ)):RowsOf w base (us++[u]) (T++[c]):=by
 refine ⟨by simp [h.1],fun j u' c' h1 h2=>?_⟩
 by_cases hj:j < us.length
 ·rw [List.getElem?_append_left hj] at h1
  rw [List.getElem?_append_left (by rw [←h.1];exact hj)] at h2
  exact h.2 j u' c' h1 h2
 ·rw [List.getElem?_append_right (by omega)] at h1
  rw [List.getElem?_append_right (by rw [←h.1];omega),←h.1] at h2
  obtain ⟨k,hk⟩:∃ k,j - us.length = k:=⟨_,rfl⟩
  rw [hk] at h1 h2
  cases k with
  | zero =>
    simp only [List.getElem?_cons_zero,Option.some.injEq] at h1 h2
    subst h1
    subst h2
    exact hu
  | succ k=>simp at h1
end Go.Proofs.YtckhohpbokojdaaGreatDoor
end
section
set_option linter.unusedSimpArgs false
set_option linter.unusedVariables false
namespace Go.Proofs.YtckhohpbokojdaaGreatDoor
open Go Go.RowKit Go.Shelf
theorem ownsRow_keep {w w':World} {base n size:Nat} {e:TypeId} {v:Value} {xs:List Value} (h:w.ownsRow base e size v n xs) (hk:∀ (g:Nat) (c:Array Value),w.heap[g]? = some (.cells c e (0,0))→w'.heap[g]? = w.heap[g]?):w'.ownsRow base e size v n xs:=by
 obtain ⟨a,h3 | ⟨g,cap,cur,rfl,hgb,hgh,hr⟩⟩:=h
 ·exact ⟨a,.inl h3⟩
 ·exact ⟨a,.inr ⟨g,cap,cur,rfl,hgb,(hk g cur hgh).trans hgh,hr⟩⟩
theorem grown_other {w w':World} {base n size:Nat} {e e':TypeId} {v:Value} {xs:List Value} (h:w.ownsRow base e size v n xs) (hg:w.grownBy w' v.ownBlock) {g:Nat} {c:Array Value} (h1:w.heap[g]? = some (.cells c e' (0,0))) (hne:e'≠e):w'.heap[g]? = w.heap[g]?:=by
 refine hg.block g (Array.getElem?_eq_some_iff.1 h1).1 fun he=>?_
 obtain ⟨_,⟨rfl,_⟩ | ⟨g',cap,cur,rfl,hgb,hgh,hr⟩⟩:=h
 ·simp [Value.ownBlock] at he
 ·simp [Value.ownBlock] at he
  subst he
  rw [h1] at hgh
  simp only [Option.some.injEq,Obj.cells.injEq] at hgh
  exact hne hgh.2.1
end Go.Proofs.YtckhohpbokojdaaGreatDoor
end
section
set_option linter.unusedSimpArgs false
set_option linter.unusedVariables false
namespace Go.Proofs.YtckhohpbokojdaaGreatDoor
open Go Go.RowKit Go.Shelf
def inB (l:List Nat):List UInt8:=l.flatMap fun k:Nat=>Lib.itoa (k:Int)++[32]
def nkB (x:L.ND):List UInt8:=Lib.itoa x.kind++[32]++(Lib.itoa x.lit++[32])++inB x.inp
theorem inB_inj:∀ l m:List Nat,inB l = inB m→l = m:=by
 intro l
 induction l with
 | nil =>
   intro m h
   cases m with
   | nil=>rfl
   | cons a r=>simp [inB] at h
 | cons a r ih =>
   intro m h
   cases m with
   | nil=>simp [inB] at h
   | cons b s =>
     have e:∀ (a:Nat) (r:List Nat),inB (a :: r) = Lib.itoa (a:Int)++32 :: inB r:=fun a r=>by simp [inB]
     rw [e,e] at h
     obtain ⟨h1,h2⟩:=split32 _ _ _ _ (itoa_no32 _) (itoa_no32 _) h
     have:=itoa_inj _ _ h1
     rw [ih s h2,show a = b by omega]
theorem nkB_inj (x y:L.ND) (h:nkB x = nkB y):x = y:=by
 obtain ⟨a1,a2,a3⟩:=x
 obtain ⟨b1,b2,b3⟩:=y
 have e:∀ x y z,nkB ⟨x,y,z⟩ = Lib.itoa x++32 :: (Lib.itoa y++32 :: inB z):=fun x y z=>by simp [nkB]
 rw [e,e] at h
 obtain ⟨h1,h2⟩:=split32 _ _ _ _ (itoa_no32 _) (itoa_no32 _) h
 obtain ⟨h3,h4⟩:=split32 _ _ _ _ (itoa_no32 _) (itoa_no32 _) h2
 rw [itoa_inj _ _ h1,itoa_inj _ _ h3,inB_inj _ _ h4]
theorem BdAt.next {N b:Nat} {l:List UInt8} {w w':World} (h:BdAt N b l w) (hs:Below w.heap.size w w'):BdAt N b l w':=by
 have hk:∀ (j:Nat) (o:Obj),w.heap[j]? = some o→w'.heap[j]? = some o:=fun j o hj=>(hs.block j (Array.getElem?_eq_some_iff.1 hj).1).trans hj
 have hbd:∀ q,Lib.BuilderAtF 137 5 N b q (Lib.byteCells l) w→Lib.BuilderAtF 137 5 N b q (Lib.byteCells l) w':=fun q hq=>by
  obtain ⟨g1,v,g2,g3,g4⟩:=hq
  refine ⟨g1,v,hk _ _ g2,?_,g4⟩
  obtain ⟨k1,k2⟩:=g3
  refine ⟨k1,?_⟩
  rcases k2 with k2 | ⟨g,cap,cur,fz,e,k3,k4,k5⟩
  ·exact .inl k2
  ·exact .inr ⟨g,cap,cur,fz,e,k3,hk _ _ k4,k5⟩
 exact h.imp (hbd _) (hbd _)
theorem ba_app' (a b:List UInt8):(⟨a.toArray⟩:ByteArray)++⟨b.toArray⟩ = ⟨(a++b).toArray⟩:=by
 apply ByteArray.ext
 simp [ByteArray.data_append]
set_option maxRecDepth 100000 in
set_option maxHeartbeats 4000000 in
theorem key1_any {z:Int} (h0:-9223372036854775808≤z) (h1:z≤9223372036854775807) {N b:Nat} {l:List UInt8} {w:World} (h:BdAt N b l w) (hl:l.length≤100000) (hN:N≤w.heap.size) (hP:PowTab w) :
  Calls Tryz.prog 120 #[.int .i64 z,.pointer (some ⟨b,0,none⟩)] w fun e w'=>e = .returned (.tuple #[])∧∃ w2,Below w.heap.size w w2∧BdRet N b (l++(Lib.itoa z++[32])) w2 w':=by
 have q:=Tryz.strconv_Itoa z h0 h1 w hP
 have hlen:=Lib.itoa_length_le z h0 h1
 have hsz:(⟨(Lib.itoa z).toArray⟩:ByteArray).size+(⟨#[32]⟩:ByteArray).size≤9223372036854775807:=by simp [ByteArray.size];omega
 have hcat:(⟨(Lib.itoa z).toArray⟩:ByteArray)++⟨#[32]⟩ = ⟨(Lib.itoa z++[32]).toArray⟩:=ba_app' _ [32]
 replace h:=Lib.hid h
 replace hcat:=Lib.hid hcat
 go_enter Tryz.func120,Tryz.ntmps120
 go_wp2_with fail
 refine q.mono ?_
 rintro e w2 ⟨rfl,hw2⟩
 have hb2:=itoa_below w.heap.size hw2 (Nat.le_refl _)
 have q3:=bstr_any (s:=Lib.itoa z++[32]) (h.out.next hb2) (by omega) (by simp;omega) (Nat.le_trans hN hb2.size)
 clear q hw2
 go_wp2_with fail
 rw [hcat.out]
 refine q3.mono ?_
 rintro e w3 ⟨⟨n3,rfl⟩,hr3⟩
 replace hr3:=Lib.hid hr3
 clear q3
 go_wp2_with fail
 go_end0
 exact ⟨rfl,w2,hb2,hr3.out⟩
structure KyI (w:World) (b:Nat) (kd lt:Int) (v:Value) (l:List UInt8) (W:World):Prop where
 below:Below w.heap.size w W
 lt_:w.heap.size < b∧gPow < w.heap.size
 box:W.heap[w.heap.size]? = some (.cells #[.int .i64 kd,.int .i64 lt,v] 40 (0,0))
 bd:BdAt b b l W
section
variable {w W W':World} {b:Nat} {kd lt:Int} {v:Value} {l:List UInt8}
theorem KyI.next (h:KyI w b kd lt v l W) (hb:Below W.heap.size W W'):KyI w b kd lt v l W' :=
 ⟨h.below.trans (hb.mono h.below.size),h.lt_,(hb.block _ (Array.getElem?_eq_some_iff.1 h.box).1).trans h.box,h.bd.next hb⟩
theorem KyI.wrote {s:List UInt8} (h:KyI w b kd lt v l W) (hr:BdRet b b (l++s) W W'):KyI w b kd lt v (l++s) W':=by
 obtain ⟨h1,h2,h3⟩:=hr
 have hlt:=h.lt_
 exact ⟨h.below.trans (h2.mono (by omega)),h.lt_,h3 _ _ h.box (fun e=>by have:=Option.some.inj e;omega) (fun c fz e=>by simp at e),h1⟩
theorem KyI.cells (h:KyI w b kd lt v l W):W.cell? ⟨w.heap.size,0,none⟩ = some (.int .i64 kd)∧W.cell? ⟨w.heap.size,1,none⟩ = some (.int .i64 lt)∧W.cell? ⟨w.heap.size,2,none⟩ = some v:=by
 refine ⟨?_,?_,?_⟩ <;> (rw [World.cell?,h.box];rfl)
end
end Go.Proofs.YtckhohpbokojdaaGreatDoor
end
