import Derived.Test.YtmnjakejhbpkoaaGreatDoorWVt
set_option linter.unusedSimpArgs false
set_option linter.unusedVariables false
namespace Go.Proofs.YtmnjakejhbpkoaaGreatDoor.L
theorem setB_true {f:Nat→Bool} {i j:Nat}:setB f i j = true↔j = i∨f j = true:=by
 unfold setB;split <;> simp_all
theorem run_ups:∀ (t:List VN) (i:Nat) (sc sc':(Nat→Bool) × (Nat→Bool)) (f:Nat→Int),runF t i sc = some sc' →
  (∀ j,sc.2 j = true→j < i→upRun t i f j = f j) ∧
  (∀ k (hk:k < t.length),leafB t[k] = false→upRun t i f t[k].left.toNat = (i+k:Nat)∧upRun t i f t[k].right.toNat = (i+k:Nat))
 | [],i,sc,sc',f,h=>⟨fun _ _ _=>rfl,fun k hk=>absurd hk (Nat.not_lt_zero _)⟩
 | x :: r,i,sc,sc',f,h=>by
   unfold runF at h
   split at h
   ·cases h
   rename_i sc1 h1
   obtain ⟨g1,g2⟩:=run_ups r (i+1) sc1 sc' (upStep i x f) h
   have hs:stepF i x sc = some sc1:=h1
   unfold stepF at h1
   split at h1
   ·rename_i hl
    split at h1
    ·cases h1
    simp only [Option.some.injEq] at h1
    subst h1
    refine ⟨fun j hj hji=>?_,fun k hk hlk=>?_⟩
    ·rw [upRun,g1 j hj (by omega)]
     simp [upStep,hl,setI,show j≠i from by omega]
    ·cases k with
     | zero=>simp only [List.getElem_cons_zero] at hlk;rw [hl] at hlk;cases hlk
     | succ k =>
       have:=g2 k (by simpa using hk) (by simpa using hlk)
       simp only [List.getElem_cons_succ,upRun]
       rw [show i+(k+1) = i+1+k from by omega]
       exact this
   ·rename_i hl
    split at h1
    ·cases h1
    split at h1
    ·cases h1
    rename_i c hc
    split at h1
    ·cases h1
    rename_i c' hc'
    simp only [Option.some.injEq] at h1
    obtain ⟨a1,a2,a3,a4⟩:=kidF_some hc
    obtain ⟨b1,b2,b3,b4⟩:=kidF_some hc'
    subst h1
    have hne:x.left.toNat≠x.right.toNat:=fun e=>by
     rw [a4,←e] at b3;simp [setB] at b3
    have hb3:sc.2 x.right.toNat = false:=by
     cases hh:sc.2 x.right.toNat
     ·rfl
     ·rw [a4] at b3;simp [setB,hh] at b3
    refine ⟨fun j hj hji=>?_,fun k hk hlk=>?_⟩
    ·have e1:j≠x.left.toNat:=fun e=>by rw [e,a3] at hj;cases hj
     have e2:j≠x.right.toNat:=fun e=>by rw [e,hb3] at hj;cases hj
     rw [upRun,g1 j (by rw [b4,a4];simp [setB,hj]) (by omega)]
     simp [upStep,hl,setI,show j≠i from by omega,e1,e2]
    ·cases k with
     | zero =>
       simp only [List.getElem_cons_zero,upRun]
       constructor
       ·rw [g1 _ (by rw [b4,a4];simp [setB]) (by omega)]
        simp [upStep,hl,setI,hne]
       ·rw [g1 _ (by rw [b4];simp [setB]) (by omega)]
        simp [upStep,hl,setI]
     | succ k =>
       have:=g2 k (by simpa using hk) (by simpa using hlk)
       simp only [List.getElem_cons_succ,upRun]
       rw [show i+(k+1) = i+1+k from by omega]
       exact this
theorem run_par:∀ (t:List VN) (i:Nat) (sc sc':(Nat→Bool) × (Nat→Bool)),runF t i sc = some sc'→∀ j,sc'.2 j = true→sc.2 j = true∨∃ k,∃ hk:k < t.length,leafB t[k] = false∧(t[k].left = j∨t[k].right = j)
 | [],i,sc,sc',h,j,hj=>by
   simp only [runF,Option.some.injEq] at h
   subst h;exact .inl hj
 | x :: r,i,sc,sc',h,j,hj=>by
   unfold runF at h
   split at h
   ·cases h
   rename_i sc1 h1
   rcases run_par r (i+1) sc1 sc' h j hj with h2 | ⟨k,hk,h3,h4⟩
   ·rcases stepF_some h1 with ⟨_,e⟩ | ⟨hl,_,h4,_,h6,_,_,e⟩
    ·rw [e] at h2;exact .inl h2
    ·rw [e] at h2
     rcases setB_true.1 h2 with h2 | h2
     ·exact .inr ⟨0,by simp,hl,.inr (by simp only [List.getElem_cons_zero];omega)⟩
     ·rcases setB_true.1 h2 with h2 | h2
      ·exact .inr ⟨0,by simp,hl,.inl (by simp only [List.getElem_cons_zero];omega)⟩
      ·exact .inl h2
   ·exact .inr ⟨k+1,by simpa using hk,by simpa using h3,by simpa using h4⟩
theorem run_vars:∀ (t:List VN) (i:Nat) (sc sc':(Nat→Bool) × (Nat→Bool)),runF t i sc = some sc' →
  (∀ k (hk:k < t.length),leafB t[k] = true→sc.1 t[k].var.toNat = false) ∧
  (∀ k m (hk:k < t.length) (hm:m < t.length),leafB t[k] = true→leafB t[m] = true→t[k].var.toNat = t[m].var.toNat→k = m)
 | [],i,sc,sc',h=>⟨fun k hk=>absurd hk (Nat.not_lt_zero _),fun k m hk=>absurd hk (Nat.not_lt_zero _)⟩
 | x :: r,i,sc,sc',h=>by
   unfold runF at h
   split at h
   ·cases h
   rename_i sc1 h1
   obtain ⟨g1,g2⟩:=run_vars r (i+1) sc1 sc' h
   have key:(leafB x = true→sc.1 x.var.toNat = false∧sc1.1 = setB sc.1 x.var.toNat)∧(leafB x = false→sc1.1 = sc.1):=by
    unfold stepF at h1
    split at h1
    ·rename_i hl
     split at h1
     ·cases h1
     rename_i hv
     simp only [Option.some.injEq] at h1
     subst h1
     exact ⟨fun _=>⟨by simpa using hv,rfl⟩,fun h=>by rw [hl] at h;cases h⟩
    ·rename_i hl
     refine ⟨fun h=>absurd h hl,fun _=>?_⟩
     split at h1
     ·cases h1
     split at h1
     ·cases h1
     split at h1
     ·cases h1
     simp only [Option.some.injEq] at h1
     subst h1;rfl
   have hstep:∀ v,sc1.1 v = false→sc.1 v = false:=fun v hv=>by
    cases hl:leafB x
    ·rw [key.2 hl] at hv;exact hv
    ·rw [(key.1 hl).2] at hv
     simp only [setB] at hv
     split at hv
     ·cases hv
     ·exact hv
   have hhead:∀ k (hk:k < r.length),leafB x = true→leafB r[k] = true→x.var.toNat≠r[k].var.toNat:=fun k hk hl hlk e=>by
    have:=g1 k hk hlk
    rw [(key.1 hl).2,←e] at this
    simp [setB] at this
   refine ⟨fun k hk hl=>?_,fun k m hk hm hlk hlm e=>?_⟩
   ·cases k with
    | zero=>exact (key.1 hl).1
    | succ k=>exact hstep _ (g1 k (by simpa using hk) (by simpa using hl))
   ·cases k with
    | zero =>
      cases m with
      | zero=>rfl
      | succ m=>exact absurd e (hhead m (by simpa using hm) hlk (by simpa using hlm))
    | succ k =>
      cases m with
      | zero=>exact absurd e.symm (hhead k (by simpa using hk) hlm (by simpa using hlk))
      | succ m=>exact congrArg (·+1) (g2 k m (by simpa using hk) (by simpa using hm) (by simpa using hlk) (by simpa using hlm) (by simpa using e))
def pa (t:List VN) (j:Nat):Nat:=(upsF t j).toNat
theorem pa_gt {t:List VN} (h:checkF t = 0) {j:Nat} (hj:j+1 < t.length):j < pa t j∧pa t j < t.length:=by
 have:=ups_gt h hj;unfold pa;omega
theorem inner_ok {t:List VN} (h:checkF t = 0) {v:Nat} {x:VN} (hx:t[v]? = some x) (hl:leafB x = false) :
  ∃ l r:Nat,x.left = l∧x.right = r∧l < v∧r < v∧l≠r∧pa t l = v∧pa t r = v:=by
 obtain ⟨_,_,sc,hs,_⟩:=check_ok h
 obtain ⟨hv,rfl⟩:=List.getElem?_eq_some_iff.1 hx
 obtain ⟨_,b1,b2,b3,b4,b5⟩:=run_bounds t 0 _ sc hs v hv hl
 obtain ⟨_,g⟩:=run_ups t 0 _ sc (fun _=>0) hs
 obtain ⟨g1,g2⟩:=g v hv hl
 refine ⟨t[v].left.toNat,t[v].right.toNat,by omega,by omega,by omega,by omega,by omega,?_,?_⟩
 ·unfold pa upsF;rw [g1];simp
 ·unfold pa upsF;rw [g2];simp
theorem pa_inner {t:List VN} (h:checkF t = 0) {j:Nat} (hj:j+1 < t.length):∃ x,t[pa t j]? = some x∧leafB x = false∧(x.left = j∨x.right = j):=by
 obtain ⟨_,_,sc,hs,hc⟩:=check_ok h
 rcases run_par t 0 _ sc hs j (hc j hj) with h1 | ⟨k,hk,h1,h2⟩
 ·cases h1
 ·have hx:t[k]? = some t[k]:=List.getElem?_eq_getElem hk
  obtain ⟨l,r,e1,e2,_,_,_,e3,e4⟩:=inner_ok h hx h1
  have:pa t j = k:=by
   rcases h2 with h2 | h2
   ·rw [e1] at h2;rw [←e3];congr 1;omega
   ·rw [e2] at h2;rw [←e4];congr 1;omega
  rw [this]
  exact ⟨_,hx,h1,h2⟩
theorem leaf_var {t:List VN} (h:checkF t = 0) {u v:Nat} {x y:VN} (hx:t[u]? = some x) (hy:t[v]? = some y) (hlx:leafB x = true) (hly:leafB y = true) (e:x.var = y.var):u = v:=by
 obtain ⟨_,_,sc,hs,_⟩:=check_ok h
 obtain ⟨hu,rfl⟩:=List.getElem?_eq_some_iff.1 hx
 obtain ⟨hv,rfl⟩:=List.getElem?_eq_some_iff.1 hy
 exact (run_vars t 0 _ sc hs).2 u v hu hv hlx hly (by rw [e])
inductive Und (t:List VN) (v:Nat):Nat→Prop
 | refl:Und t v v
 | step {u:Nat}:u+1 < t.length→Und t v (pa t u)→Und t v u
theorem Und.le {t:List VN} (h:checkF t = 0) {v u:Nat} (hu:Und t v u):u≤v:=by
 induction hu with
 | refl=>exact Nat.le_refl _
 | step h1 _ ih=>have:=pa_gt h h1;omega
theorem Und.trans {t:List VN} {w v u:Nat} (h1:Und t w v) (h2:Und t v u):Und t w u:=by
 induction h2 with
 | refl=>exact h1
 | step h3 _ ih=>exact .step h3 ih
theorem Und.linear {t:List VN} (h:checkF t = 0) {v w u:Nat} (h1:Und t v u) (h2:Und t w u) (hle:v≤w):Und t w v:=by
 induction h1 with
 | refl=>exact h2
 | step h3 h4 ih =>
   cases h2 with
   | refl=>have:=h4.le h;have:=pa_gt h h3;omega
   | step _ h5=>exact ih h5
theorem Und.root {t:List VN} (h:checkF t = 0):∀ (n u:Nat),u < t.length→t.length≤u+n→Und t (t.length - 1) u
 | 0,u,hu,hn=>by omega
 | n+1,u,hu,hn=>by
   by_cases hr:u+1 = t.length
   ·have:u = t.length - 1:=by omega
    rw [←this];exact .refl
   ·have hlt:u+1 < t.length:=by omega
    have:=pa_gt h hlt
    exact .step hlt (Und.root h n (pa t u) this.2 (by omega))
theorem Und.kids {t:List VN} (h:checkF t = 0) {v u:Nat} {x:VN} {l r:Nat} (hx:t[v]? = some x) (hl:x.left = l) (hr:x.right = r) (hu:Und t v u):u = v∨Und t l u∨Und t r u:=by
 induction hu with
 | refl=>exact .inl rfl
 | step h1 h2 ih =>
   rename_i u
   rcases ih with e | e | e
   ·obtain ⟨y,hy,_,hc⟩:=pa_inner h h1
    rw [e,hx] at hy
    cases hy
    rcases hc with hc | hc
    ·have:l = u:=by omega
     subst this;exact .inr (.inl .refl)
    ·have:r = u:=by omega
     subst this;exact .inr (.inr .refl)
   ·exact .inr (.inl (.step h1 e))
   ·exact .inr (.inr (.step h1 e))
theorem Und.kid {t:List VN} (h:checkF t = 0) {v:Nat} {x:VN} {l r:Nat} (hx:t[v]? = some x) (hlf:leafB x = false) (hl:x.left = l) (hr:x.right = r):Und t v l∧Und t v r:=by
 obtain ⟨l',r',e1,e2,h1,h2,_,e3,e4⟩:=inner_ok h hx hlf
 obtain rfl:l' = l:=by omega
 obtain rfl:r' = r:=by omega
 have hv:v < t.length:=(List.getElem?_eq_some_iff.1 hx).1
 exact ⟨.step (by omega) (by rw [e3];exact .refl),.step (by omega) (by rw [e4];exact .refl)⟩
theorem Und.apart {t:List VN} (h:checkF t = 0) {v u:Nat} {x:VN} {l r:Nat} (hx:t[v]? = some x) (hlf:leafB x = false) (hl:x.left = l) (hr:x.right = r) (h1:Und t l u) (h2:Und t r u):False:=by
 obtain ⟨l',r',e1,e2,b1,b2,b3,e3,e4⟩:=inner_ok h hx hlf
 obtain rfl:l' = l:=by omega
 obtain rfl:r' = r:=by omega
 rcases Nat.lt_or_ge l' r' with hlt | hge
 ·have:=h1.linear h h2 (by omega)
  cases this with
  | refl=>omega
  | step _ h6=>rw [e3] at h6;have:=h6.le h;omega
 ·have:=h2.linear h h1 hge
  cases this with
  | refl=>omega
  | step _ h6=>rw [e4] at h6;have:=h6.le h;omega
theorem Und.leaf {t:List VN} (h:checkF t = 0) {v u:Nat} {x:VN} (hx:t[v]? = some x) (hlf:leafB x = true) (hu:Und t v u):u = v:=by
 induction hu with
 | refl=>rfl
 | step h1 h2 ih =>
   obtain ⟨y,hy,hly,_⟩:=pa_inner h h1
   rw [ih,hx] at hy
   cases hy
   rw [hlf] at hly;cases hly
theorem Und.lt {t:List VN} {v u:Nat} (hu:Und t v u) (hv:v < t.length):u < t.length:=by
 cases hu with
 | refl=>exact hv
 | step h1 _=>omega
theorem meetF_spec {t:List VN} (hc:checkF t = 0):∀ (f a b:Nat),a < t.length→b < t.length→t.length+t.length≤f+a+b →
  Und t (meetF (upsF t) f a b) a∧Und t (meetF (upsF t) f a b) b∧∀ w,Und t w a→Und t w b→Und t w (meetF (upsF t) f a b)
 | 0,a,b,ha,hb,h=>by omega
 | f+1,a,b,ha,hb,h=>by
   rw [meetF]
   by_cases e:a = b
   ·subst e;rw [if_pos rfl];exact ⟨.refl,.refl,fun _ h _=>h⟩
   ·rw [if_neg e]
    by_cases hl:a < b
    ·rw [if_pos hl]
     have hp:=pa_gt hc (show a+1 < t.length by omega)
     obtain ⟨h1,h2,h3⟩:=meetF_spec hc f (pa t a) b hp.2 hb (by omega)
     refine ⟨.step (by omega) h1,h2,fun w hwa hwb=>h3 w ?_ hwb⟩
     cases hwa with
     | refl=>have:=hwb.le hc;omega
     | step _ h4=>exact h4
    ·rw [if_neg hl]
     have hp:=pa_gt hc (show b+1 < t.length by omega)
     obtain ⟨h1,h2,h3⟩:=meetF_spec hc f a (pa t b) ha hp.2 (by omega)
     refine ⟨h1,.step (by omega) h2,fun w hwa hwb=>h3 w hwa ?_⟩
     cases hwb with
     | refl=>have:=hwa.le hc;omega
     | step _ h4=>exact h4
theorem meet_spec {t:List VN} (hc:checkF t = 0) {a b:Nat} (ha:a < t.length) (hb:b < t.length) :
  Und t (meetT t a b) a∧Und t (meetT t a b) b∧∀ w,Und t w a→Und t w b→Und t w (meetT t a b) :=
 meetF_spec hc _ a b ha hb (by omega)
theorem meet_und {t:List VN} (hc:checkF t = 0) {a b:Nat} (ha:a < t.length) (hb:b < t.length):meetT t a b = b↔Und t b a:=by
 obtain ⟨h1,h2,h3⟩:=meet_spec hc ha hb
 constructor
 ·intro e;rw [e] at h1;exact h1
 ·intro h
  have h4:=(h3 b h .refl).le hc
  have h5:=h2.le hc
  omega
def Bel (t:List VN) (v:Nat) (x:Int):Prop:=∃ u y,t[u]? = some y∧leafB y = true∧y.var = x∧Und t v u
theorem Bel.kids {t:List VN} (h:checkF t = 0) {v:Nat} {y:VN} {l r:Nat} (hx:t[v]? = some y) (hlf:leafB y = false) (hl:y.left = l) (hr:y.right = r) (x:Int):Bel t v x↔Bel t l x∨Bel t r x:=by
 constructor
 ·rintro ⟨u,z,h1,h2,h3,h4⟩
  rcases h4.kids h hx hl hr with rfl | h5 | h5
  ·rw [hx] at h1;cases h1;rw [hlf] at h2;cases h2
  ·exact .inl ⟨u,z,h1,h2,h3,h5⟩
  ·exact .inr ⟨u,z,h1,h2,h3,h5⟩
 ·obtain ⟨k1,k2⟩:=Und.kid h hx hlf hl hr
  rintro (⟨u,z,h1,h2,h3,h4⟩ | ⟨u,z,h1,h2,h3,h4⟩)
  ·exact ⟨u,z,h1,h2,h3,k1.trans h4⟩
  ·exact ⟨u,z,h1,h2,h3,k2.trans h4⟩
theorem Bel.apart {t:List VN} (h:checkF t = 0) {v:Nat} {y:VN} {l r:Nat} (hx:t[v]? = some y) (hlf:leafB y = false) (hl:y.left = l) (hr:y.right = r) {x:Int} (h1:Bel t l x) (h2:Bel t r x):False:=by
 obtain ⟨u,z,a1,a2,a3,a4⟩:=h1
 obtain ⟨u',z',b1,b2,b3,b4⟩:=h2
 obtain rfl:=leaf_var h a1 b1 a2 b2 (a3.trans b3.symm)
 exact Und.apart h hx hlf hl hr a4 b4
theorem Bel.up {t:List VN} {v w:Nat} {x:Int} (h:Bel t v x) (hw:Und t w v):Bel t w x:=by
 obtain ⟨u,z,a1,a2,a3,a4⟩:=h
 exact ⟨u,z,a1,a2,a3,hw.trans a4⟩
theorem Bel.leaf {t:List VN} (h:checkF t = 0) {v:Nat} {y:VN} (hx:t[v]? = some y) (hlf:leafB y = true) (x:Int):Bel t v x↔x = y.var:=by
 constructor
 ·rintro ⟨u,z,h1,h2,h3,h4⟩
  have e:=h4.leaf h hx hlf
  rw [e,hx] at h1
  cases h1
  exact h3.symm
 ·rintro rfl
  exact ⟨v,y,hx,hlf,rfl,.refl⟩
theorem Bel.range {t:List VN} {v:Nat} {x:Int} (h:Bel t v x):1≤x∧x≤128:=by
 obtain ⟨u,z,_,h2,rfl,_⟩:=h
 simp only [leafB,Bool.and_eq_true,decide_eq_true_eq] at h2
 exact h2.2
end Go.Proofs.YtmnjakejhbpkoaaGreatDoor.L
namespace Go.Proofs.YtmnjakejhbpkoaaGreatDoor.L
theorem find_range (p:Nat→Bool):∀ n,(∀ i,(List.range n).find? p = some i→i < n∧p i = true∧∀ j,j < i→p j = false)∧((List.range n).find? p = none→∀ j,j < n→p j = false)
 | 0=>by simp
 | n+1=>by
   obtain ⟨h1,h2⟩:=find_range p n
   rw [List.range_succ,List.find?_append]
   cases hf:(List.range n).find? p with
   | some i =>
     obtain ⟨a,b,c⟩:=h1 i hf
     simp only [Option.some_or,Option.some.injEq]
     refine ⟨?_,fun e=>by cases e⟩
     rintro i rfl
     exact ⟨by omega,b,c⟩
   | none =>
     have h3:=h2 hf
     simp only [Option.none_or]
     cases hp:p n
     ·simp only [List.find?_cons,hp,List.find?_nil]
      refine ⟨(fun _ e=>by cases e),fun _ j hj=>?_⟩
      by_cases e:j = n
      ·subst e;exact hp
      ·exact h3 j (by omega)
     ·simp only [List.find?_cons,hp,Option.some.injEq]
      refine ⟨?_,fun e=>by cases e⟩
      rintro i rfl
      exact ⟨by omega,hp,h3⟩
theorem diff_bit (a b:VSet) (i:Nat) (hi:i < 128):((a &&& ~~~b) ||| (b &&& ~~~a)).getLsbD i = (a.getLsbD i != b.getLsbD i):=by
 simp only [BitVec.getLsbD_or,BitVec.getLsbD_and,BitVec.getLsbD_not,hi,decide_true,Bool.true_and]
 cases a.getLsbD i <;> cases b.getLsbD i <;> rfl
theorem lessS_iff (a b:VSet):lessS a b = true↔∃ k,k < 128∧a.getLsbD k = false∧b.getLsbD k = true∧∀ j,j < k→a.getLsbD j = b.getLsbD j:=by
 obtain ⟨h1,h2⟩:=find_range (fun i=>((a &&& ~~~b) ||| (b &&& ~~~a)).getLsbD i) 128
 unfold lessS firstS
 cases hf:(List.range 128).find? (fun i=>((a &&& ~~~b) ||| (b &&& ~~~a)).getLsbD i) with
 | none =>
   have h3:=h2 hf
   simp only [Nat.lt_irrefl,decide_false,Bool.false_and,Bool.false_eq_true,false_iff]
   rintro ⟨k,hk,ha,hb,_⟩
   have:=h3 k hk
   rw [diff_bit _ _ _ hk,ha,hb] at this
   cases this
 | some i =>
   obtain ⟨g1,g2,g3⟩:=h1 i hf
   simp only [Nat.succ_pos,decide_true,Bool.true_and]
   have hh:hasS a ((i+1:Nat):Int) = a.getLsbD i:=by
    have e1:decide ((1:Int)≤((i+1:Nat):Int)) = true:=decide_eq_true (by omega)
    have e2:decide (((i+1:Nat):Int)≤128) = true:=decide_eq_true (by omega)
    have e3:(((i+1:Nat):Int) - 1).toNat = i:=by omega
    rw [hasS,e1,e2,e3];rfl
   rw [hh]
   have hd:(a.getLsbD i != b.getLsbD i) = true:=by rw [←diff_bit _ _ _ g1];exact g2
   have he:∀ j,j < i→a.getLsbD j = b.getLsbD j:=fun j hj=>by
    have:=g3 j hj
    rw [diff_bit _ _ _ (by omega)] at this
    simpa using this
   constructor
   ·intro h
    have ha:a.getLsbD i = false:=by simpa using h
    exact ⟨i,g1,ha,by rw [ha] at hd;simpa using hd,he⟩
   ·rintro ⟨k,hk,ha,hb,hj⟩
    rcases Nat.lt_trichotomy i k with h | h | h
    ·have:=hj i h;rw [this] at hd;simp at hd
    ·subst h;simp [ha]
    ·have:=he k h;rw [ha,hb] at this;cases this
theorem lessS_irrefl (a:VSet):lessS a a = false:=by
 cases h:lessS a a
 ·rfl
 ·obtain ⟨k,_,h1,h2,_⟩:=(lessS_iff _ _).1 h
  rw [h1] at h2;cases h2
theorem lessS_trans {a b c:VSet} (h1:lessS a b = true) (h2:lessS b c = true):lessS a c = true:=by
 obtain ⟨k,hk,a1,a2,a3⟩:=(lessS_iff _ _).1 h1
 obtain ⟨m,hm,b1,b2,b3⟩:=(lessS_iff _ _).1 h2
 refine (lessS_iff _ _).2 ?_
 rcases Nat.lt_trichotomy k m with h | h | h
 ·exact ⟨k,hk,a1,by rw [←b3 k h];exact a2,fun j hj=>(a3 j hj).trans (b3 j (by omega))⟩
 ·subst h;rw [a2] at b1;cases b1
 ·exact ⟨m,hm,by rw [a3 m h];exact b1,b2,fun j hj=>(a3 j (by omega)).trans (b3 j hj)⟩
theorem lessS_asymm {a b:VSet} (h1:lessS a b = true):lessS b a = false:=by
 cases h:lessS b a
 ·rfl
 ·have:=lessS_trans h1 h;rw [lessS_irrefl] at this;cases this
theorem first_diff (p:Nat→Bool):∀ n,(∃ i,i < n∧p i = true)→∃ i,i < n∧p i = true∧∀ j,j < i→p j = false:=fun n ⟨i,h1,h2⟩=>by
 obtain ⟨g1,g2⟩:=find_range p n
 cases hf:(List.range n).find? p with
 | none=>have:=g2 hf i h1;rw [h2] at this;cases this
 | some k=>exact ⟨k,g1 k hf⟩
theorem lessS_total {a b:VSet} (h:a≠b):lessS a b = true∨lessS b a = true:=by
 have:∃ i,i < 128∧(a.getLsbD i != b.getLsbD i) = true:=by
  apply Classical.byContradiction
  intro hn
  apply h
  apply BitVec.eq_of_getLsbD_eq
  intro i hi
  apply Classical.byContradiction
  intro hne
  exact hn ⟨i,hi,by simpa using hne⟩
 obtain ⟨i,h1,h2,h3⟩:=first_diff (fun i=>a.getLsbD i != b.getLsbD i) 128 this
 have he:∀ j,j < i→a.getLsbD j = b.getLsbD j:=fun j hj=>by simpa using h3 j hj
 cases ha:a.getLsbD i
 ·exact .inl ((lessS_iff _ _).2 ⟨i,h1,ha,by rw [ha] at h2;simpa using h2,he⟩)
 ·refine .inr ((lessS_iff _ _).2 ⟨i,h1,by rw [ha] at h2;simpa using h2,ha,fun j hj=>(he j hj).symm⟩)
def leS (a b:VSet):Prop:=a = b∨lessS a b = true
theorem leS.trans {a b c:VSet} (h1:leS a b) (h2:leS b c):leS a c:=by
 rcases h1 with rfl | h1
 ·exact h2
 ·rcases h2 with rfl | h2
  ·exact .inr h1
  ·exact .inr (lessS_trans h1 h2)
theorem leS.antisymm {a b:VSet} (h1:leS a b) (h2:leS b a):a = b:=by
 rcases h1 with h1 | h1
 ·exact h1
 ·rcases h2 with h2 | h2
  ·exact h2.symm
  ·rw [lessS_asymm h1] at h2;cases h2
theorem leS_of_not {a b:VSet} (h:lessS a b = false):leS b a:=by
 by_cases e:a = b
 ·exact .inl e.symm
 ·rcases lessS_total e with h1 | h1
  ·rw [h] at h1;cases h1
  ·exact .inr h1
section
variable {α:Type} {lt:α→α→Bool}
theorem insF_mem (p:α):∀ (l:List α) (x:α),x∈insF lt p l↔x = p∨x∈l
 | [],x=>by simp [insF]
 | q :: r,x=>by
   unfold insF
   split
   ·simp
   ·simp only [List.mem_cons,insF_mem p r]
    constructor
    ·rintro (h | h | h)
     ·exact .inr (.inl h)
     ·exact .inl h
     ·exact .inr (.inr h)
    ·rintro (h | h | h)
     ·exact .inr (.inl h)
     ·exact .inl h
     ·exact .inr (.inr h)
theorem sortF_mem:∀ (l:List α) (x:α),x∈sortF lt l↔x∈l
 | [],x=>by simp [sortF]
 | p :: r,x=>by rw [sortF,insF_mem,sortF_mem r];simp
theorem insF_len (p:α):∀ (l:List α),(insF lt p l).length = l.length+1
 | []=>rfl
 | q :: r=>by
   unfold insF
   split
   ·rfl
   ·simp [insF_len p r]
theorem insF_perm (p:α):∀ (l:List α),(insF lt p l).Perm (p :: l)
 | []=>List.Perm.refl _
 | q :: r=>by
   unfold insF
   split
   ·exact List.Perm.refl _
   ·exact ((insF_perm p r).cons q).trans (List.Perm.swap p q r)
theorem sortF_perm:∀ (l:List α),(sortF lt l).Perm l
 | []=>List.Perm.refl _
 | p :: r=>(insF_perm p _).trans ((sortF_perm r).cons p)
theorem insF_sorted (ht:∀ a b c,lt a b = true→lt b c = true→lt a c = true) (p:α):∀ (l:List α),l.Pairwise (fun a b=>lt a b = true)→(∀ q∈l,lt p q = true∨lt q p = true)→(insF lt p l).Pairwise (fun a b=>lt a b = true)
 | [],_,_=>by simp [insF]
 | q :: r,h,hq=>by
   unfold insF
   rw [List.pairwise_cons] at h
   split
   ·rename_i hl
    refine List.pairwise_cons.2 ⟨fun x hx=>?_,List.pairwise_cons.2 h⟩
    rcases List.mem_cons.1 hx with rfl | hx
    ·exact hl
    ·exact ht _ _ _ hl (h.1 x hx)
   ·rename_i hl
    refine List.pairwise_cons.2 ⟨fun x hx=>?_,insF_sorted ht p r h.2 (fun y hy=>hq y (List.mem_cons_of_mem _ hy))⟩
    rcases (insF_mem p r x).1 hx with rfl | hx
    ·rcases hq q (List.mem_cons_self ..) with h1 | h1
     ·exact absurd h1 hl
     ·exact h1
    ·exact h.1 x hx
theorem sortF_sorted (ht:∀ a b c,lt a b = true→lt b c = true→lt a c = true):∀ (l:List α),aparts lt l = true→(sortF lt l).Pairwise (fun a b=>lt a b = true)
 | [],_=>List.Pairwise.nil
 | p :: r,h=>by
   simp only [aparts,Bool.and_eq_true,List.all_eq_true,Bool.or_eq_true] at h
   rw [sortF]
   exact insF_sorted ht p _ (sortF_sorted ht r h.2) (fun q hq=>h.1 q ((sortF_mem r q).1 hq))
theorem aparts_pairwise:∀ (l:List α),l.Pairwise (fun a b=>lt a b = true∨lt b a = true)→aparts lt l = true
 | [],_=>rfl
 | p :: r,h=>by
   rw [List.pairwise_cons] at h
   simp only [aparts,Bool.and_eq_true,List.all_eq_true,Bool.or_eq_true]
   exact ⟨h.1,aparts_pairwise r h.2⟩
theorem sorted_eq (ha:∀ a b,lt a b = true→lt b a = true→False):∀ (l m:List α),l.Pairwise (fun a b=>lt a b = true)→m.Pairwise (fun a b=>lt a b = true)→(∀ x,x∈l↔x∈m)→l = m
 | [],[],_,_,_=>rfl
 | [],q :: r,_,_,h=>by have:=(h q).2 (List.mem_cons_self ..);cases this
 | p :: r,[],_,_,h=>by have:=(h p).1 (List.mem_cons_self ..);cases this
 | p :: r,q :: k,h1,h2,h=>by
   rw [List.pairwise_cons] at h1 h2
   have e:p = q:=by
    rcases List.mem_cons.1 ((h p).1 (List.mem_cons_self ..)) with e | e
    ·exact e
    ·rcases List.mem_cons.1 ((h q).2 (List.mem_cons_self ..)) with e2 | e2
     ·exact e2.symm
     ·exact (ha _ _ (h1.1 q e2) (h2.1 p e)).elim
   subst e
   rw [sorted_eq ha r k h1.2 h2.2 (fun x=>?_)]
   have hp1:p∉r:=fun hm=>ha _ _ (h1.1 p hm) (h1.1 p hm)
   have hp2:p∉k:=fun hm=>ha _ _ (h2.1 p hm) (h2.1 p hm)
   constructor
   ·intro hx
    rcases List.mem_cons.1 ((h x).1 (List.mem_cons_of_mem _ hx)) with e | e
    ·subst e;exact absurd hx hp1
    ·exact e
   ·intro hx
    rcases List.mem_cons.1 ((h x).2 (List.mem_cons_of_mem _ hx)) with e | e
    ·subst e;exact absurd hx hp2
    ·exact e
end
end Go.Proofs.YtmnjakejhbpkoaaGreatDoor.L
namespace Go.Proofs.YtmnjakejhbpkoaaGreatDoor.L
abbrev Asg:=Int→Bool
def semF:Nat→List SNode→Nat→Asg→Bool
 | 0,_,_,_=>false
 | f+1,ns,i,x=>match ns[i]? with
   | none=>false
   | some n=>if n.lit≠0 then x (n.lit.natAbs:Int) == decide (0 < n.lit) else if n.el = [] then decide (i = 1) else n.el.any fun p=>semF f ns p.1 x && semF f ns p.2 x
def sem (ns:List SNode) (i:Nat) (x:Asg):Bool:=semF (i+1) ns i x
def Kids (ns:List SNode):Prop:=∀ (i:Nat) (n:SNode),ns[i]? = some n→∀ p∈n.el,p.1 < i∧p.2 < i
theorem any_congr {α:Type} {l:List α} {f g:α→Bool} (h:∀ p∈l,f p = g p):l.any f = l.any g:=by
 induction l with
 | nil=>rfl
 | cons a r ih=>rw [List.any_cons,List.any_cons,h a (List.mem_cons_self ..),ih (fun p hp=>h p (List.mem_cons_of_mem _ hp))]
theorem semF_more {ns m:List SNode} (hk:Kids ns) (x:Asg):∀ (i f g:Nat),i < f→i < g→i < ns.length→semF f (ns++m) i x = semF g ns i x:=by
 intro i
 induction i using Nat.strongRecOn with
 | ind i ih =>
   intro f g hf hg hi
   obtain ⟨f,rfl⟩:∃ f',f = f'+1:=⟨f - 1,by omega⟩
   obtain ⟨g,rfl⟩:∃ g',g = g'+1:=⟨g - 1,by omega⟩
   rw [semF,semF,List.getElem?_append_left hi,List.getElem?_eq_getElem hi]
   simp only
   split
   ·rfl
   ·split
    ·rfl
    ·refine any_congr fun p hp=>?_
     obtain ⟨h1,h2⟩:=hk i _ (List.getElem?_eq_getElem hi) p hp
     rw [ih p.1 h1 f g (by omega) (by omega) (by omega),ih p.2 h2 f g (by omega) (by omega) (by omega)]
theorem sem_app {ns m:List SNode} (hk:Kids ns) {i:Nat} (hi:i < ns.length):sem (ns++m) i = sem ns i:=by
 funext x;exact semF_more hk x i _ _ (Nat.lt_succ_self _) (Nat.lt_succ_self _) hi
theorem sem_node {ns:List SNode} (hk:Kids ns) {i:Nat} {n:SNode} (hn:ns[i]? = some n) (x:Asg) :
  sem ns i x = if n.lit≠0 then x (n.lit.natAbs:Int) == decide (0 < n.lit) else if n.el = [] then decide (i = 1) else n.el.any fun p=>sem ns p.1 x && sem ns p.2 x:=by
 rw [sem,semF,hn]
 simp only
 split
 ·rfl
 ·split
  ·rfl
  ·refine any_congr fun p hp=>?_
   obtain ⟨h1,h2⟩:=hk i n hn p hp
   have hi:=(List.getElem?_eq_some_iff.1 hn).1
   have e1:=semF_more (m:=[]) hk x p.1 i (p.1+1) h1 (Nat.lt_succ_self _) (by omega)
   have e2:=semF_more (m:=[]) hk x p.2 i (p.2+1) h2 (Nat.lt_succ_self _) (by omega)
   rw [List.append_nil] at e1 e2
   rw [e1,e2];rfl
def Dep (S:Int→Prop) (φ:Asg→Bool):Prop:=∀ x y:Asg,(∀ v,S v→x v = y v)→φ x = φ y
theorem Dep.mono {S T:Int→Prop} {φ:Asg→Bool} (h:Dep S φ) (hs:∀ v,S v→T v):Dep T φ:=fun x y hxy=>h x y fun v hv=>hxy v (hs v hv)
def asg (m:VSet):Asg:=fun v=>hasS m v
def constN:SNode:={ pl:=-1,lit:=0,el:=[],le:=0 }
structure LitOK (t:List VN) (n:SNode):Prop where
 el:n.el = []
 lit:n.lit≠0
 leaf:∃ (u:Nat) (y:VN),n.pl = u∧t[u]? = some y∧leafB y = true∧y.var = (n.lit.natAbs:Int)
 le:n.le = if 0 < n.lit then ofS [n.lit] else 0
structure Parts (t:List VN) (ns:List SNode) (l r:Nat) (el:List (Nat × Nat)):Prop where
 pdep:∀ p∈el,Dep (Bel t l) (sem ns p.1)
 sdep:∀ p∈el,Dep (Bel t r) (sem ns p.2)
 pne:∀ p∈el,∃ x,sem ns p.1 x = true
 disj:el.Pairwise fun p q=>∀ x,¬ (sem ns p.1 x = true∧sem ns q.1 x = true)
 cover:∀ x,∃ p∈el,sem ns p.1 x = true
 nd:el.Pairwise fun p q=>p.2≠q.2
 big:∃ p∈el,2≤p.2
 two:2≤el.length
structure DecOK (t:List VN) (ns:List SNode) (i:Nat) (n:SNode):Prop where
 lit:n.lit = 0
 kids:∀ p∈n.el,p.1 < i∧p.2 < i
 parts:∃ (P:Nat) (y:VN) (l r:Nat),n.pl = P∧t[P]? = some y∧leafB y = false∧y.left = l∧y.right = r∧Parts t ns l r n.el
 sorted:n.el.Pairwise fun p q=>lessP ns p q = true
 le:n.le = (leastF ns n.el).2
structure Min (ns:List SNode) (i:Nat):Prop where
 sat:sem ns i (asg (leOf ns i)) = true
 le:∀ m,sem ns i (asg m) = true→leS (leOf ns i) m
def keyOf (n:SNode):Key:=(n.pl,n.lit,n.el)
structure Inv (s:St):Prop where
 tree:checkF s.tree = 0
 zero:s.nodes[0]? = some constN
 one:s.nodes[1]? = some constN
 ok:∀ (i:Nat) (n:SNode),2≤i→s.nodes[i]? = some n→LitOK s.tree n∨DecOK s.tree s.nodes i n
 min:∀ i,1≤i→i < s.nodes.length→Min s.nodes i
 uq1:∀ (k:Key) (i:Nat),asc s.uniq k = some i→2≤i∧∃ n,s.nodes[i]? = some n∧keyOf n = k
 uq2:∀ (i:Nat) (n:SNode),2≤i→s.nodes[i]? = some n→asc s.uniq (keyOf n) = some i
 ands:∀ a b c,asc s.ands (a,b) = some c→a < s.nodes.length∧b < s.nodes.length∧c < s.nodes.length∧∀ x,sem s.nodes c x = (sem s.nodes a x && sem s.nodes b x)
 nots:∀ a b,asc s.nots a = some b→a < s.nodes.length∧b < s.nodes.length∧∀ x,sem s.nodes b x = !sem s.nodes a x
theorem Inv.kids {s:St} (h:Inv s):Kids s.nodes:=fun i n hn p hp=>by
 rcases Nat.lt_or_ge i 2 with hi | hi
 ·have:n = constN:=by
   have:i = 0∨i = 1:=by omega
   rcases this with rfl | rfl
   ·rw [h.zero] at hn;exact (Option.some.inj hn).symm
   ·rw [h.one] at hn;exact (Option.some.inj hn).symm
  subst this;cases hp
 ·rcases h.ok i n hi hn with h1 | h1
  ·rw [h1.el] at hp;cases hp
  ·exact h1.kids p hp
theorem Inv.len {s:St} (h:Inv s):2≤s.nodes.length:=by
 have:=(List.getElem?_eq_some_iff.1 h.one).1;omega
theorem Inv.sem0 {s:St} (h:Inv s) (x:Asg):sem s.nodes 0 x = false:=by
 rw [sem_node h.kids h.zero];simp [constN]
theorem Inv.sem1 {s:St} (h:Inv s) (x:Asg):sem s.nodes 1 x = true:=by
 rw [sem_node h.kids h.one];simp [constN]
theorem Inv.semLit {s:St} (h:Inv s) {i:Nat} {n:SNode} (hn:s.nodes[i]? = some n) (hl:LitOK s.tree n) (x:Asg):sem s.nodes i x = (x (n.lit.natAbs:Int) == decide (0 < n.lit)):=by
 rw [sem_node h.kids hn,if_pos hl.lit]
theorem Inv.semDec {s:St} (h:Inv s) {i:Nat} {n:SNode} (hn:s.nodes[i]? = some n) (hl:DecOK s.tree s.nodes i n) (x:Asg):sem s.nodes i x = n.el.any fun p=>sem s.nodes p.1 x && sem s.nodes p.2 x:=by
 obtain ⟨P,y,l,r,_,_,_,_,_,hp⟩:=hl.parts
 have hne:n.el≠[]:=fun e=>by have:=hp.two;rw [e] at this;simp at this
 rw [sem_node h.kids hn,if_neg (by simp [hl.lit]),if_neg hne]
noncomputable def mix (S:Int→Prop) (x y:Asg):Asg:=fun v=>open Classical in if S v then x v else y v
theorem mix_in {S:Int→Prop} {x y:Asg} {v:Int} (h:S v):mix S x y v = x v:=if_pos h
theorem mix_out {S:Int→Prop} {x y:Asg} {v:Int} (h:¬ S v):mix S x y v = y v:=if_neg h
theorem Parts.at {t:List VN} {ns:List SNode} {l r:Nat} {el:List (Nat × Nat)} (h:Parts t ns l r el) {p:Nat × Nat} (hp:p∈el) {x:Asg} (hx:sem ns p.1 x = true) :
  (el.any fun q=>sem ns q.1 x && sem ns q.2 x) = sem ns p.2 x:=by
 have hd:∀ (l:List (Nat × Nat)) (q:Nat × Nat),(l.Pairwise fun p q=>∀ x,¬ (sem ns p.1 x = true∧sem ns q.1 x = true))→p∈l→q∈l→sem ns q.1 x = true→q = p:=by
  intro l q
  induction l with
  | nil=>intro _ hp;cases hp
  | cons a k ih =>
    intro hpw hp hq hqx
    rw [List.pairwise_cons] at hpw
    rcases List.mem_cons.1 hp with rfl | hp'
    ·rcases List.mem_cons.1 hq with rfl | hq'
     ·rfl
     ·exact absurd ⟨hx,hqx⟩ (hpw.1 q hq' x)
    ·rcases List.mem_cons.1 hq with rfl | hq'
     ·exact absurd ⟨hqx,hx⟩ (hpw.1 p hp' x)
     ·exact ih hpw.2 hp' hq' hqx
 have huniq:∀ q∈el,sem ns q.1 x = true→q = p:=fun q hq hqx=>hd el q h.disj hp hq hqx
 cases hs:sem ns p.2 x
 ·rw [List.any_eq_false]
  intro q hq hc
  simp only [Bool.and_eq_true] at hc
  have:=huniq q hq hc.1
  subst this
  rw [hs] at hc;cases hc.2
 ·rw [List.any_eq_true]
  exact ⟨p,hp,by rw [hx,hs];rfl⟩
theorem Dep.mixL {S:Int→Prop} {φ:Asg→Bool} (h:Dep S φ) (x y:Asg):φ (mix S x y) = φ x:=h _ _ fun _ hv=>mix_in hv
theorem Dep.mixR {S T:Int→Prop} {φ:Asg→Bool} (h:Dep T φ) (hd:∀ v,S v→T v→False) (x y:Asg):φ (mix S x y) = φ y:=h _ _ fun v hv=>mix_out (fun hs=>hd v hs hv)
end Go.Proofs.YtmnjakejhbpkoaaGreatDoor.L
namespace Go.Proofs.YtmnjakejhbpkoaaGreatDoor.L
def Ess (S:Int→Prop) (φ:Asg→Bool):Prop:=∃ x y:Asg,(∀ v,¬ S v→x v = y v)∧φ x≠φ y
theorem Ess.meets {S T:Int→Prop} {φ:Asg→Bool} (h:Ess S φ) (hd:Dep T φ):∃ v,S v∧T v:=by
 obtain ⟨x,y,h1,h2⟩:=h
 apply Classical.byContradiction
 intro hn
 exact h2 (hd x y fun v hv=>h1 v fun hs=>hn ⟨v,hs,hv⟩)
theorem Bel.one {t:List VN} (hc:checkF t = 0) {a b:Nat} {v:Int} (h1:Bel t a v) (h2:Bel t b v):∃ u,Und t a u∧Und t b u:=by
 obtain ⟨u,z,a1,a2,a3,a4⟩:=h1
 obtain ⟨u',z',b1,b2,b3,b4⟩:=h2
 obtain rfl:=leaf_var hc a1 b1 a2 b2 (a3.trans b3.symm)
 exact ⟨u,a4,b4⟩
theorem place_und {t:List VN} (hc:checkF t = 0) {P Q:Nat} {y:VN} {l r:Nat} (hx:t[P]? = some y) (hlf:leafB y = false) (hl:y.left = l) (hr:y.right = r) {φ:Asg→Bool}
  (e1:Ess (Bel t l) φ) (e2:Ess (Bel t r) φ) (hd:Dep (Bel t Q) φ):Und t Q P:=by
 obtain ⟨v,v1,v2⟩:=e1.meets hd
 obtain ⟨w,w1,w2⟩:=e2.meets hd
 obtain ⟨a,a1,a2⟩:=Bel.one hc v1 v2
 obtain ⟨b,b1,b2⟩:=Bel.one hc w1 w2
 have hno:¬ Und t l Q:=fun h=>Und.apart hc hx hlf hl hr (h.trans b2) b1
 have hq:Und t Q l:=by
  rcases Nat.lt_or_ge Q l with h | h
  ·exact absurd (a2.linear hc a1 (by omega)) hno
  ·exact a1.linear hc a2 h
 obtain ⟨l',r',c1,c2,c3,c4,c5,c6,c7⟩:=inner_ok hc hx hlf
 obtain rfl:l' = l:=by omega
 cases hq with
 | refl=>exact absurd .refl hno
 | step _ h=>rw [c6] at h;exact h
theorem Parts.sub_eq {t:List VN} (hc:checkF t = 0) {P:Nat} {y:VN} {l r:Nat} (hx:t[P]? = some y) (hlf:leafB y = false) (hl:y.left = l) (hr:y.right = r) {n1 n2:List SNode} {e1 e2:List (Nat × Nat)}
  (h1:Parts t n1 l r e1) (h2:Parts t n2 l r e2) (he:∀ x,(e1.any fun q=>sem n1 q.1 x && sem n1 q.2 x) = e2.any fun q=>sem n2 q.1 x && sem n2 q.2 x)
  {p q:Nat × Nat} (hp:p∈e1) (hq:q∈e2) {x:Asg} (px:sem n1 p.1 x = true) (qx:sem n2 q.1 x = true):sem n1 p.2 = sem n2 q.2:=by
 funext z
 have hap:∀ v,Bel t l v→Bel t r v→False:=fun v a b=>Bel.apart hc hx hlf hl hr a b
 have a1:=h1.at hp (x:=mix (Bel t l) x z) (by rw [(h1.pdep p hp).mixL];exact px)
 have a2:=h2.at hq (x:=mix (Bel t l) x z) (by rw [(h2.pdep q hq).mixL];exact qx)
 rw [(h1.sdep p hp).mixR hap] at a1
 rw [(h2.sdep q hq).mixR hap] at a2
 rw [←a1,←a2]
 exact he _
theorem parts_match {t:List VN} (hc:checkF t = 0) {P:Nat} {y:VN} {l r:Nat} (hx:t[P]? = some y) (hlf:leafB y = false) (hl:y.left = l) (hr:y.right = r) {n1 n2:List SNode} {e1 e2:List (Nat × Nat)}
  (h1:Parts t n1 l r e1) (h2:Parts t n2 l r e2) (he:∀ x,(e1.any fun q=>sem n1 q.1 x && sem n1 q.2 x) = e2.any fun q=>sem n2 q.1 x && sem n2 q.2 x)
  (d1:∀ p∈e1,∀ q∈e1,sem n1 p.2 = sem n1 q.2→p = q) (d2:∀ p∈e2,∀ q∈e2,sem n2 p.2 = sem n2 q.2→p = q) :
  ∀ p∈e1,∃ q∈e2,sem n1 p.1 = sem n2 q.1∧sem n1 p.2 = sem n2 q.2:=by
 intro p hp
 obtain ⟨x,px⟩:=h1.pne p hp
 obtain ⟨q,hq,qx⟩:=h2.cover x
 have hs:=Parts.sub_eq hc hx hlf hl hr h1 h2 he hp hq px qx
 refine ⟨q,hq,?_,hs⟩
 funext z
 rw [Bool.eq_iff_iff]
 constructor
 ·intro pz
  obtain ⟨q',hq',qz⟩:=h2.cover z
  have hs':=Parts.sub_eq hc hx hlf hl hr h1 h2 he hp hq' pz qz
  rw [d2 q hq q' hq' (hs.symm.trans hs')];exact qz
 ·intro qz
  obtain ⟨p',hp',pz⟩:=h1.cover z
  have hs':=Parts.sub_eq hc hx hlf hl hr h1 h2 he hp' hq pz qz
  rw [d1 p hp p' hp' (hs.trans hs'.symm)];exact pz
theorem Parts.essL {t:List VN} (hc:checkF t = 0) {P:Nat} {y:VN} {l r:Nat} (hx:t[P]? = some y) (hlf:leafB y = false) (hl:y.left = l) (hr:y.right = r) {ns:List SNode} {el:List (Nat × Nat)}
  (h:Parts t ns l r el) (hd:∀ p∈el,∀ q∈el,sem ns p.2 = sem ns q.2→p = q):Ess (Bel t l) (fun x=>el.any fun q=>sem ns q.1 x && sem ns q.2 x):=by
 have hap:∀ v,Bel t l v→Bel t r v→False:=fun v a b=>Bel.apart hc hx hlf hl hr a b
 obtain ⟨p,q,hp,hq,hpq⟩:∃ p q,p∈el∧q∈el∧p≠q:=by
  have h2:=h.two
  have hn:=h.nd
  match el,h2,hn with
  | a :: b :: k,_,hn =>
    rw [List.pairwise_cons] at hn
    exact ⟨a,b,List.mem_cons_self ..,List.mem_cons_of_mem _ (List.mem_cons_self ..),fun e=>hn.1 b (List.mem_cons_self ..) (by rw [e])⟩
 have hne:sem ns p.2≠sem ns q.2:=fun e=>hpq (hd p hp q hq e)
 obtain ⟨z,hz⟩:∃ z,sem ns p.2 z≠sem ns q.2 z:=by
  apply Classical.byContradiction
  intro hn
  exact hne (funext fun z=>Classical.byContradiction fun hz=>hn ⟨z,hz⟩)
 obtain ⟨xp,px⟩:=h.pne p hp
 obtain ⟨xq,qx⟩:=h.pne q hq
 refine ⟨mix (Bel t l) xp z,mix (Bel t l) xq z,fun v hv=>by rw [mix_out hv,mix_out hv],?_⟩
 have a1:=h.at hp (x:=mix (Bel t l) xp z) (by rw [(h.pdep p hp).mixL];exact px)
 have a2:=h.at hq (x:=mix (Bel t l) xq z) (by rw [(h.pdep q hq).mixL];exact qx)
 rw [(h.sdep p hp).mixR hap] at a1
 rw [(h.sdep q hq).mixR hap] at a2
 show (el.any _)≠(el.any _)
 rw [a1,a2]
 exact hz
theorem Parts.essR {t:List VN} (hc:checkF t = 0) {P:Nat} {y:VN} {l r:Nat} (hx:t[P]? = some y) (hlf:leafB y = false) (hl:y.left = l) (hr:y.right = r) {ns:List SNode} {el:List (Nat × Nat)}
  (h:Parts t ns l r el) (hd:∃ p∈el,∃ z1 z2,sem ns p.2 z1≠sem ns p.2 z2):Ess (Bel t r) (fun x=>el.any fun q=>sem ns q.1 x && sem ns q.2 x):=by
 have hap:∀ v,Bel t l v→Bel t r v→False:=fun v a b=>Bel.apart hc hx hlf hl hr a b
 obtain ⟨p,hp,z1,z2,hz⟩:=hd
 obtain ⟨x,px⟩:=h.pne p hp
 refine ⟨mix (Bel t r) z1 x,mix (Bel t r) z2 x,fun v hv=>by rw [mix_out hv,mix_out hv],?_⟩
 have hp1:∀ z,sem ns p.1 (mix (Bel t r) z x) = true:=fun z=>by
  rw [(h.pdep p hp).mixR (fun v a b=>hap v b a)];exact px
 have a1:=h.at hp (hp1 z1)
 have a2:=h.at hp (hp1 z2)
 rw [(h.sdep p hp).mixL] at a1 a2
 show (el.any _)≠(el.any _)
 rw [a1,a2]
 exact hz
theorem Parts.dep {t:List VN} (hc:checkF t = 0) {P:Nat} {y:VN} {l r:Nat} (hx:t[P]? = some y) (hlf:leafB y = false) (hl:y.left = l) (hr:y.right = r) {ns:List SNode} {el:List (Nat × Nat)}
  (h:Parts t ns l r el):Dep (Bel t P) (fun x=>el.any fun q=>sem ns q.1 x && sem ns q.2 x):=by
 intro x z hxz
 refine any_congr fun p hp=>?_
 rw [(h.pdep p hp) x z (fun v hv=>hxz v ((Bel.kids hc hx hlf hl hr v).2 (.inl hv))),(h.sdep p hp) x z (fun v hv=>hxz v ((Bel.kids hc hx hlf hl hr v).2 (.inr hv)))]
theorem const_not {φ:Asg→Bool} {v:Int} {b:Bool} (h:∀ x,φ x = (x v == b)):∃ z1 z2,φ z1≠φ z2 :=
 ⟨fun _=>true,fun _=>false,by rw [h,h];cases b <;> simp⟩
theorem Ess.const_not {S:Int→Prop} {φ:Asg→Bool} (h:Ess S φ):∃ z1 z2,φ z1≠φ z2:=by
 obtain ⟨x,y,_,h2⟩:=h;exact ⟨x,y,h2⟩
theorem Inv.kind {s:St} (h:Inv s) {i:Nat} (hi:i < s.nodes.length):i = 0∨i = 1∨(2≤i∧∃ n,s.nodes[i]? = some n∧(LitOK s.tree n∨DecOK s.tree s.nodes i n)):=by
 rcases Nat.lt_or_ge i 2 with h2 | h2
 ·omega
 ·exact .inr (.inr ⟨h2,_,List.getElem?_eq_getElem hi,h.ok i _ h2 (List.getElem?_eq_getElem hi)⟩)
theorem dec_facts {s:St} (h:Inv s) {k i:Nat} (ih:∀ a b,a < k→b < k→a < s.nodes.length→b < s.nodes.length→sem s.nodes a = sem s.nodes b→a = b) (hik:i≤k) {n:SNode} (hn:s.nodes[i]? = some n) (hd:DecOK s.tree s.nodes i n) :
  ∃ (P:Nat) (y:VN) (l r:Nat),n.pl = P∧s.tree[P]? = some y∧leafB y = false∧y.left = l∧y.right = r∧Parts s.tree s.nodes l r n.el ∧
    (∀ p∈n.el,∀ q∈n.el,sem s.nodes p.2 = sem s.nodes q.2→p = q)∧Ess (Bel s.tree l) (sem s.nodes i)∧Ess (Bel s.tree r) (sem s.nodes i)∧Dep (Bel s.tree P) (sem s.nodes i):=by
 obtain ⟨P,y,l,r,hP,hy,hlf,hl,hr,hp⟩:=hd.parts
 have hi:i < s.nodes.length:=(List.getElem?_eq_some_iff.1 hn).1
 have hdis:∀ p∈n.el,∀ q∈n.el,sem s.nodes p.2 = sem s.nodes q.2→p = q:=fun p hp' q hq e=>by
  have a1:=hd.kids p hp'
  have a2:=hd.kids q hq
  have e2:=ih p.2 q.2 (by omega) (by omega) (by omega) (by omega) e
  apply Classical.byContradiction
  intro hne
  have hnd:∀ (l:List (Nat × Nat)),(l.Pairwise fun p q=>p.2≠q.2)→p∈l→q∈l→False:=by
   intro l
   induction l with
   | nil=>intro _ hp;cases hp
   | cons a m ihl =>
     intro hpw h1 h2
     rw [List.pairwise_cons] at hpw
     rcases List.mem_cons.1 h1 with rfl | h1'
     ·rcases List.mem_cons.1 h2 with rfl | h2'
      ·exact hne rfl
      ·exact hpw.1 q h2' e2
     ·rcases List.mem_cons.1 h2 with rfl | h2'
      ·exact hpw.1 p h1' e2.symm
      ·exact ihl hpw.2 h1' h2'
  exact hnd _ hp.nd hp' hq
 have hsem:sem s.nodes i = fun x=>n.el.any fun p=>sem s.nodes p.1 x && sem s.nodes p.2 x:=funext fun x=>h.semDec hn hd x
 have hbig:∃ p∈n.el,∃ z1 z2,sem s.nodes p.2 z1≠sem s.nodes p.2 z2:=by
  obtain ⟨p,hp',h2⟩:=hp.big
  refine ⟨p,hp',?_⟩
  have a1:=hd.kids p hp'
  have hl2:=h.len
  apply Classical.byContradiction
  intro hn
  have hcon:∀ z,sem s.nodes p.2 z = sem s.nodes p.2 (fun _=>true):=fun z=>Classical.byContradiction fun hz=>hn ⟨z,_,hz⟩
  cases hv:sem s.nodes p.2 (fun _=>true)
  ·have:=ih p.2 0 (by omega) (by omega) (by omega) (by omega) (funext fun z=>by rw [hcon z,hv,h.sem0])
   omega
  ·have:=ih p.2 1 (by omega) (by omega) (by omega) (by omega) (funext fun z=>by rw [hcon z,hv,h.sem1])
   omega
 refine ⟨P,y,l,r,hP,hy,hlf,hl,hr,hp,hdis,?_,?_,?_⟩
 ·rw [hsem];exact Parts.essL h.tree hy hlf hl hr hp hdis
 ·rw [hsem];exact Parts.essR h.tree hy hlf hl hr hp hbig
 ·rw [hsem];exact Parts.dep h.tree hy hlf hl hr hp
theorem lessP_asymm {ns:List SNode} (a b:Nat × Nat) (h1:lessP ns a b = true) (h2:lessP ns b a = true):False:=by
 unfold lessP at h1 h2;rw [lessS_asymm h1] at h2;cases h2
theorem canon_aux {s:St} (h:Inv s):∀ k i j,i < k→j < k→i < s.nodes.length→j < s.nodes.length→sem s.nodes i = sem s.nodes j→i = j:=by
 intro k
 induction k with
 | zero=>intro i j hi;omega
 | succ k ih =>
   -- a decision node is no constant and no literal,and is found again
   have hdc:∀ i n,i≤k→s.nodes[i]? = some n→DecOK s.tree s.nodes i n→∀ (c:Bool),¬ ∀ x,sem s.nodes i x = c:=fun i n hi hn hd c hc=>by
    obtain ⟨_,_,_,_,_,_,_,_,_,_,_,e1,_,_⟩:=dec_facts h ih hi hn hd
    obtain ⟨z1,z2,hz⟩:=e1.const_not
    exact hz (by rw [hc,hc])
   have hlc:∀ i n,s.nodes[i]? = some n→LitOK s.tree n→∀ (c:Bool),¬ ∀ x,sem s.nodes i x = c:=fun i n hn hl c hc=>by
    obtain ⟨z1,z2,hz⟩:=const_not (fun x=>h.semLit hn hl x)
    exact hz (by rw [hc,hc])
   have hld:∀ i j n m,j≤k→s.nodes[i]? = some n→s.nodes[j]? = some m→LitOK s.tree n→DecOK s.tree s.nodes j m→sem s.nodes i = sem s.nodes j→False:=fun i j n m hj hn hm hl hd e=>by
    obtain ⟨P,y,l,r,_,hy,hlf,hyl,hyr,_,_,e1,e2,_⟩:=dec_facts h ih hj hm hd
    obtain ⟨u,z,hu,hz,hzl,hzv⟩:=hl.leaf
    have hdep:Dep (Bel s.tree u) (sem s.nodes j):=by
     rw [←e]
     intro x x' hx
     rw [h.semLit hn hl,h.semLit hn hl,hx _ ((Bel.leaf h.tree hz hzl _).2 hzv.symm)]
    have:=(place_und h.tree hy hlf hyl hyr e1 e2 hdep).leaf h.tree hz hzl
    rw [this,hz] at hy
    cases hy
    rw [hzl] at hlf;cases hlf
   have hone:∀ i j (n m:SNode),2≤i→2≤j→s.nodes[i]? = some n→s.nodes[j]? = some m→keyOf n = keyOf m→i = j:=fun i j n m hi hj hn hm e=>by
    have a1:=h.uq2 i n hi hn
    have a2:=h.uq2 j m hj hm
    rw [e,a2] at a1
    exact (Option.some.inj a1).symm
   intro i j hi hj hil hjl e
   have hc0:∀ a,a < s.nodes.length→a≤k→(∀ x,sem s.nodes a x = false)→a = 0:=fun a ha hak hs=>by
    rcases h.kind ha with rfl | rfl | ⟨h2,n,hn,hl | hd⟩
    ·rfl
    ·have:=hs (fun _=>true);rw [h.sem1] at this;cases this
    ·exact (hlc a n hn hl _ hs).elim
    ·exact (hdc a n hak hn hd _ hs).elim
   have hc1:∀ a,a < s.nodes.length→a≤k→(∀ x,sem s.nodes a x = true)→a = 1:=fun a ha hak hs=>by
    rcases h.kind ha with rfl | rfl | ⟨h2,n,hn,hl | hd⟩
    ·have:=hs (fun _=>true);rw [h.sem0] at this;cases this
    ·rfl
    ·exact (hlc a n hn hl _ hs).elim
    ·exact (hdc a n hak hn hd _ hs).elim
   rcases h.kind hil with rfl | rfl | ⟨hi2,n,hn,hn'⟩
   ·exact (hc0 j hjl (by omega) (fun x=>by rw [←e];exact h.sem0 x)).symm
   ·exact (hc1 j hjl (by omega) (fun x=>by rw [←e];exact h.sem1 x)).symm
   ·rcases h.kind hjl with rfl | rfl | ⟨hj2,m,hm,hm'⟩
    ·exact hc0 i hil (by omega) (fun x=>by rw [e];exact h.sem0 x)
    ·exact hc1 i hil (by omega) (fun x=>by rw [e];exact h.sem1 x)
    ·rcases hn' with hl | hd
     ·rcases hm' with hl' | hd'
      ·-- two literals
       refine hone i j n m hi2 hj2 hn hm ?_
       have hev:∀ x:Asg,(x (n.lit.natAbs:Int) == decide (0 < n.lit)) = (x (m.lit.natAbs:Int) == decide (0 < m.lit)):=fun x=>by
        rw [←h.semLit hn hl,←h.semLit hm hl',e]
       have hsg:decide (0 < n.lit) = decide (0 < m.lit):=by
        have:=hev (fun _=>true)
        simpa using this
       have hv:n.lit.natAbs = m.lit.natAbs:=by
        apply Classical.byContradiction
        intro hne
        have:=hev (fun v=>decide (v = (n.lit.natAbs:Int)))
        rw [hsg] at this
        have h2:¬ ((m.lit.natAbs:Int) = (n.lit.natAbs:Int)):=by omega
        simp only [decide_true,h2,decide_false] at this
        cases hb:decide (0 < m.lit) <;> rw [hb] at this <;> simp at this
       have hlit:n.lit = m.lit:=by
        have a1:=hl.lit
        have a2:=hl'.lit
        have:(0 < n.lit)↔(0 < m.lit):=by simpa using hsg
        omega
       obtain ⟨u,z,hu,hz,hzl,hzv⟩:=hl.leaf
       obtain ⟨u',z',hu',hz',hzl',hzv'⟩:=hl'.leaf
       have:=leaf_var h.tree hz hz' hzl hzl' (by rw [hzv,hzv',hv])
       unfold keyOf
       rw [hu,hu',this,hlit,hl.el,hl'.el]
      ·exact (hld i j n m (by omega) hn hm hl hd' e).elim
     ·rcases hm' with hl' | hd'
      ·exact (hld j i m n (by omega) hm hn hl' hd e.symm).elim
      ·refine hone i j n m hi2 hj2 hn hm ?_
       obtain ⟨P,y,l,r,hP,hy,hlf,hyl,hyr,hp,hdis,e1,e2,hdep⟩:=dec_facts h ih (by omega) hn hd
       obtain ⟨P',y',l',r',hP',hy',hlf',hyl',hyr',hp',hdis',e1',e2',hdep'⟩:=dec_facts h ih (by omega) hm hd'
       have u1:=place_und h.tree hy hlf hyl hyr e1 e2 (by rw [e];exact hdep')
       have u2:=place_und h.tree hy' hlf' hyl' hyr' e1' e2' (by rw [←e];exact hdep)
       have hPP:P = P':=by have:=u1.le h.tree;have:=u2.le h.tree;omega
       subst hPP
       rw [hy] at hy'
       cases hy'
       obtain rfl:l = l':=by omega
       obtain rfl:r = r':=by omega
       have hev:∀ x,(n.el.any fun q=>sem s.nodes q.1 x && sem s.nodes q.2 x) = m.el.any fun q=>sem s.nodes q.1 x && sem s.nodes q.2 x:=fun x=>by
        rw [←h.semDec hn hd,←h.semDec hm hd',e]
       have m1:=parts_match h.tree hy hlf hyl hyr hp hp' hev hdis hdis'
       have m2:=parts_match h.tree hy hlf hyl hyr hp' hp (fun x=>(hev x).symm) hdis' hdis
       have hel:n.el = m.el:=by
        refine sorted_eq lessP_asymm _ _ hd.sorted hd'.sorted fun p=>⟨fun hpm=>?_,fun hpm=>?_⟩
        ·obtain ⟨q,hq,g1,g2⟩:=m1 p hpm
         have b1:=hd.kids p hpm
         have b2:=hd'.kids q hq
         have c1:=ih p.1 q.1 (by omega) (by omega) (by omega) (by omega) g1
         have c2:=ih p.2 q.2 (by omega) (by omega) (by omega) (by omega) g2
         rw [show p = q from Prod.ext c1 c2];exact hq
        ·obtain ⟨q,hq,g1,g2⟩:=m2 p hpm
         have b1:=hd'.kids p hpm
         have b2:=hd.kids q hq
         have c1:=ih p.1 q.1 (by omega) (by omega) (by omega) (by omega) g1
         have c2:=ih p.2 q.2 (by omega) (by omega) (by omega) (by omega) g2
         rw [show p = q from Prod.ext c1 c2];exact hq
       unfold keyOf
       rw [hP,hP',hd.lit,hd'.lit,hel]
theorem Inv.canon {s:St} (h:Inv s) {i j:Nat} (hi:i < s.nodes.length) (hj:j < s.nodes.length) (e:sem s.nodes i = sem s.nodes j):i = j :=
 canon_aux h (i+j+1) i j (by omega) (by omega) hi hj e
end Go.Proofs.YtmnjakejhbpkoaaGreatDoor.L
namespace Go.Proofs.YtmnjakejhbpkoaaGreatDoor.L
def vlF:Nat→List VN→Nat→List Int
 | 0,_,_=>[]
 | f+1,t,v=>match t[v]? with
   | none=>[]
   | some y=>if leafB y = true then [y.var] else vlF f t y.left.toNat++vlF f t y.right.toNat
def vl (t:List VN) (v:Nat):List Int:=vlF (v+1) t v
def nv (t:List VN) (v:Nat):Nat:=(vl t v).length
theorem vlF_fuel {t:List VN} (hc:checkF t = 0):∀ (v f g:Nat),v < f→v < g→vlF f t v = vlF g t v:=by
 intro v
 induction v using Nat.strongRecOn with
 | ind v ih =>
   intro f g hf hg
   obtain ⟨f,rfl⟩:∃ f',f = f'+1:=⟨f - 1,by omega⟩
   obtain ⟨g,rfl⟩:∃ g',g = g'+1:=⟨g - 1,by omega⟩
   rw [vlF,vlF]
   cases hy:t[v]? with
   | none=>rfl
   | some y =>
     simp only
     split
     ·rfl
     ·rename_i hl
      obtain ⟨l,r,e1,e2,h1,h2,_⟩:=inner_ok hc hy (by simpa using hl)
      have a1:y.left.toNat = l:=by omega
      have a2:y.right.toNat = r:=by omega
      rw [a1,a2,ih l h1 f g (by omega) (by omega),ih r h2 f g (by omega) (by omega)]
theorem vl_leaf {t:List VN} {v:Nat} {y:VN} (hy:t[v]? = some y) (hl:leafB y = true):vl t v = [y.var]:=by
 rw [vl,vlF,hy];simp [hl]
theorem vl_inner {t:List VN} (hc:checkF t = 0) {v:Nat} {y:VN} {l r:Nat} (hy:t[v]? = some y) (hlf:leafB y = false) (hl:y.left = l) (hr:y.right = r):vl t v = vl t l++vl t r:=by
 obtain ⟨l',r',e1,e2,h1,h2,_⟩:=inner_ok hc hy hlf
 obtain rfl:l' = l:=by omega
 obtain rfl:r' = r:=by omega
 have a1:y.left.toNat = l':=by omega
 have a2:y.right.toNat = r':=by omega
 rw [vl,vlF,hy]
 simp only [hlf,Bool.false_eq_true,if_false,a1,a2]
 rw [vlF_fuel hc l' v (l'+1) h1 (by omega),vlF_fuel hc r' v (r'+1) h2 (by omega)]
 rfl
theorem mem_vl {t:List VN} (hc:checkF t = 0):∀ (v:Nat),v < t.length→∀ x,x∈vl t v↔Bel t v x:=by
 intro v
 induction v using Nat.strongRecOn with
 | ind v ih =>
   intro hv x
   have hy:t[v]? = some t[v]:=List.getElem?_eq_getElem hv
   cases hl:leafB t[v]
   ·obtain ⟨l,r,e1,e2,h1,h2,_⟩:=inner_ok hc hy hl
    rw [vl_inner hc hy hl e1 e2,List.mem_append,ih l h1 (by omega),ih r h2 (by omega),Bel.kids hc hy hl e1 e2]
   ·rw [vl_leaf hy hl,Bel.leaf hc hy hl,List.mem_singleton]
theorem nv_pos {t:List VN} (hc:checkF t = 0):∀ (v:Nat),v < t.length→1≤nv t v:=by
 intro v
 induction v using Nat.strongRecOn with
 | ind v ih =>
   intro hv
   have hy:t[v]? = some t[v]:=List.getElem?_eq_getElem hv
   cases hl:leafB t[v]
   ·obtain ⟨l,r,e1,e2,h1,h2,_⟩:=inner_ok hc hy hl
    have:=ih l h1 (by omega)
    unfold nv at *
    rw [vl_inner hc hy hl e1 e2,List.length_append];omega
   ·unfold nv;rw [vl_leaf hy hl];simp
theorem nv_inner {t:List VN} (hc:checkF t = 0) {v:Nat} {y:VN} {l r:Nat} (hy:t[v]? = some y) (hlf:leafB y = false) (hl:y.left = l) (hr:y.right = r):nv t v = nv t l+nv t r:=by
 unfold nv;rw [vl_inner hc hy hlf hl hr,List.length_append]
theorem nodup_len {α:Type} [DecidableEq α]:∀ (l m:List α),l.Nodup→(∀ x∈l,x∈m)→l.length≤m.length
 | [],_,_,_=>Nat.zero_le _
 | a :: r,m,hn,hs=>by
   rw [List.nodup_cons] at hn
   have ha:a∈m:=hs a (List.mem_cons_self ..)
   have:=nodup_len r (m.erase a) hn.2 (fun x hx=>by
    have hne:x≠a:=fun e=>hn.1 (e ▸ hx)
    exact (List.mem_erase_of_ne hne).2 (hs x (List.mem_cons_of_mem _ hx)))
   rw [List.length_erase_of_mem ha] at this
   have:0 < m.length:=List.length_pos_of_mem ha
   simp only [List.length_cons];omega
theorem nodup_lt (l:List Nat) (n:Nat) (hn:l.Nodup) (h:∀ x∈l,x < n):l.length≤n:=by
 have:=nodup_len l (List.range n) hn (fun x hx=>List.mem_range.2 (h x hx))
 simpa using this
theorem nodup_map {α β:Type} {f:α→β}:∀ (l:List α),l.Nodup→(∀ x∈l,∀ y∈l,f x = f y→x = y)→(l.map f).Nodup
 | [],_,_=>List.nodup_nil
 | a :: r,hn,hi=>by
   rw [List.nodup_cons] at hn
   rw [List.map_cons,List.nodup_cons]
   refine ⟨fun hm=>?_,nodup_map r hn.2 (fun x hx y hy=>hi x (List.mem_cons_of_mem _ hx) y (List.mem_cons_of_mem _ hy))⟩
   obtain ⟨x,hx,e⟩:=List.mem_map.1 hm
   exact hn.1 (hi x (List.mem_cons_of_mem _ hx) a (List.mem_cons_self ..) e ▸ hx)
def ulF:Nat→List VN→Nat→List Nat
 | 0,_,_=>[]
 | f+1,t,v=>match t[v]? with
   | none=>[]
   | some y=>if leafB y = true then [v] else v :: (ulF f t y.left.toNat++ulF f t y.right.toNat)
theorem ulF_spec {t:List VN} (hc:checkF t = 0):∀ (v f:Nat),v < f→v < t.length→(ulF f t v).Nodup∧(∀ u∈ulF f t v,Und t v u)∧(ulF f t v).length+1 = 2 * nv t v:=by
 intro v
 induction v using Nat.strongRecOn with
 | ind v ih =>
   intro f hf hv
   obtain ⟨f,rfl⟩:∃ f',f = f'+1:=⟨f - 1,by omega⟩
   have hy:t[v]? = some t[v]:=List.getElem?_eq_getElem hv
   rw [ulF,hy]
   cases hl:leafB t[v]
   ·obtain ⟨l,r,e1,e2,h1,h2,_⟩:=inner_ok hc hy hl
    have a1:(t[v]).left.toNat = l:=by omega
    have a2:(t[v]).right.toNat = r:=by omega
    obtain ⟨i1,i2,i3⟩:=ih l h1 f (by omega) (by omega)
    obtain ⟨j1,j2,j3⟩:=ih r h2 f (by omega) (by omega)
    obtain ⟨k1,k2⟩:=Und.kid hc hy hl e1 e2
    simp only [hl,Bool.false_eq_true,if_false,a1,a2]
    refine ⟨?_,fun u hu=>?_,?_⟩
    ·rw [List.nodup_cons,List.nodup_append]
     refine ⟨fun hm=>?_,i1,j1,fun a ha b hb e=>?_⟩
     ·rcases List.mem_append.1 hm with hm | hm
      ·have:=(i2 v hm).le hc;omega
      ·have:=(j2 v hm).le hc;omega
     ·subst e;exact Und.apart hc hy hl e1 e2 (i2 a ha) (j2 a hb)
    ·rcases List.mem_cons.1 hu with rfl | hu
     ·exact .refl
     ·rcases List.mem_append.1 hu with hu | hu
      ·exact k1.trans (i2 u hu)
      ·exact k2.trans (j2 u hu)
    ·rw [nv_inner hc hy hl e1 e2,List.length_cons,List.length_append];omega
   ·simp only [hl,if_true]
    refine ⟨by simp,fun u hu=>?_,?_⟩
    ·rw [List.mem_singleton] at hu;subst hu;exact .refl
    ·unfold nv;rw [vl_leaf hy hl];rfl
theorem nv_le {t:List VN} (hc:checkF t = 0) {v:Nat} (hv:v < t.length):2 * nv t v≤t.length+1:=by
 obtain ⟨h1,h2,h3⟩:=ulF_spec hc v (v+1) (by omega) hv
 have:=nodup_lt _ t.length h1 (fun u hu=>(h2 u hu).lt hv)
 omega
def subl:List Int→List (List Int)
 | []=>[[]]
 | a :: r=>subl r++(subl r).map (a :: ·)
theorem subl_len:∀ l,(subl l).length = 2 ^ l.length
 | []=>rfl
 | a :: r=>by rw [subl,List.length_append,List.length_map,subl_len r,List.length_cons,Nat.pow_succ];omega
theorem filter_subl (p:Int→Bool):∀ l:List Int,l.filter p∈subl l
 | []=>by simp [subl]
 | a :: r=>by
   rw [List.filter_cons,subl,List.mem_append]
   split
   ·exact .inr (List.mem_map.2 ⟨_,filter_subl p r,rfl⟩)
   ·exact .inl (filter_subl p r)
def asgL (m:List Int):Asg:=fun v=>decide (v∈m)
theorem dep_asgL {l:List Int} {φ:Asg→Bool} (h:Dep (·∈l) φ) (x:Asg):φ x = φ (asgL (l.filter x)) :=
 h _ _ fun v hv=>by
   show x v = decide (v∈l.filter x)
   rw [Bool.eq_iff_iff,decide_eq_true_iff,List.mem_filter]
   exact ⟨fun hx=>⟨hv,hx⟩,fun hx=>hx.2⟩
def tab (l:List Int) (φ:Asg→Bool):List Bool:=(subl l).map fun m=>φ (asgL m)
theorem tab_len (l:List Int) (φ:Asg→Bool):(tab l φ).length = 2 ^ l.length:=by rw [tab,List.length_map,subl_len]
theorem tab_inj {l:List Int} {φ ψ:Asg→Bool} (h1:Dep (·∈l) φ) (h2:Dep (·∈l) ψ) (e:tab l φ = tab l ψ):φ = ψ:=by
 funext x
 rw [dep_asgL h1,dep_asgL h2]
 exact List.map_inj_left.1 e _ (filter_subl x l)
def codeB:List Bool→Nat
 | []=>0
 | b :: r=>b.toNat+2 * codeB r
theorem codeB_lt:∀ l,codeB l < 2 ^ l.length
 | []=>by simp [codeB]
 | b :: r=>by
   have:=codeB_lt r
   rw [codeB,List.length_cons,Nat.pow_succ]
   cases b <;> simp <;> omega
theorem codeB_inj:∀ l m:List Bool,l.length = m.length→codeB l = codeB m→l = m
 | [],[],_,_=>rfl
 | [],b :: r,h,_=>by cases h
 | b :: r,[],h,_=>by cases h
 | b :: r,c :: k,h,e=>by
   simp only [codeB] at e
   have hb:b.toNat = c.toNat:=by cases b <;> cases c <;> simp at e ⊢ <;> omega
   have:codeB r = codeB k:=by omega
   rw [codeB_inj r k (by simpa using h) this]
   cases b <;> cases c <;> simp at hb ⊢
theorem Inv.place {s:St} (h:Inv s) {i:Nat} {n:SNode} (hi:2≤i) (hn:s.nodes[i]? = some n):∃ P:Nat,n.pl = P∧P < s.tree.length∧Dep (Bel s.tree P) (sem s.nodes i):=by
 rcases h.ok i n hi hn with hl | hd
 ·obtain ⟨u,y,h1,h2,h3,h4⟩:=hl.leaf
  refine ⟨u,h1,(List.getElem?_eq_some_iff.1 h2).1,fun x x' hx=>?_⟩
  rw [h.semLit hn hl,h.semLit hn hl,hx _ ((Bel.leaf h.tree h2 h3 _).2 h4.symm)]
 ·obtain ⟨P,y,l,r,h1,h2,h3,h4,h5,h6⟩:=hd.parts
  refine ⟨P,h1,(List.getElem?_eq_some_iff.1 h2).1,?_⟩
  rw [show sem s.nodes i = fun x=>n.el.any fun p=>sem s.nodes p.1 x && sem s.nodes p.2 x from funext fun x=>h.semDec hn hd x]
  exact Parts.dep h.tree h2 h3 h4 h5 h6
def bigN (t:List VN) (n:SNode):Bool:=decide (0≤n.pl) && decide (5≤nv t n.pl.toNat)
def bigAt (s:St) (i:Nat):Bool:=match s.nodes[i]? with
 | none=>false
 | some n=>bigN s.tree n
def big (s:St):Nat:=((List.range s.nodes.length).filter (bigAt s)).length
theorem filter_parts {α:Type} (p:α→Bool):∀ l:List α,(l.filter p).length+(l.filter fun x=>!p x).length = l.length
 | []=>rfl
 | a :: r=>by
   have:=filter_parts p r
   rw [List.filter_cons,List.filter_cons]
   cases p a <;> simp <;> omega
theorem nodes_le {s:St} (h:Inv s) (ht:s.tree.length≤11):s.nodes.length≤2+11 * 65536+big s:=by
 have hp:=filter_parts (bigAt s) (List.range s.nodes.length)
 rw [List.length_range] at hp
 let code:Nat→Nat:=fun i=>if i < 2 then i else match s.nodes[i]? with
  | none=>0
  | some n=>2+n.pl.toNat * 65536+codeB (tab (vl s.tree n.pl.toNat) (sem s.nodes i))
 have hcode:∀ i,2≤i→i < s.nodes.length→bigAt s i = false→∃ (n:SNode) (P:Nat),s.nodes[i]? = some n∧n.pl = P∧P < s.tree.length∧Dep (·∈vl s.tree P) (sem s.nodes i) ∧
   code i = 2+P * 65536+codeB (tab (vl s.tree P) (sem s.nodes i))∧codeB (tab (vl s.tree P) (sem s.nodes i)) < 65536:=fun i hi hil hb=>by
  have hn:s.nodes[i]? = some s.nodes[i]:=List.getElem?_eq_getElem hil
  obtain ⟨P,h1,h2,h3⟩:=h.place hi hn
  have h4:(s.nodes[i]).pl.toNat = P:=by omega
  refine ⟨_,P,hn,h1,h2,h3.mono fun v hv=>(mem_vl h.tree P h2 v).2 hv,?_,?_⟩
  ·show (if i < 2 then i else _) = _
   rw [if_neg (by omega),hn]
   simp only [h4]
  ·have hnv:nv s.tree P≤4:=by
    rw [bigAt,hn] at hb
    simp only [bigN,h4,Bool.and_eq_false_iff,decide_eq_false_iff_not] at hb
    rcases hb with hb | hb
    ·omega
    ·omega
   have h5:=codeB_lt (tab (vl s.tree P) (sem s.nodes i))
   rw [tab_len] at h5
   have h6:2 ^ (vl s.tree P).length≤2 ^ 4:=Nat.pow_le_pow_right (by omega) hnv
   have h7:2 ^ (2 ^ (vl s.tree P).length)≤2 ^ (2 ^ 4):=Nat.pow_le_pow_right (by omega) h6
   have h8:2 ^ (2 ^ 4) = 65536:=by decide
   omega
 have hle:((List.range s.nodes.length).filter fun x=>!bigAt s x).length≤2+11 * 65536:=by
  rw [←List.length_map (f:=code)]
  refine nodup_lt _ _ (nodup_map _ (List.Pairwise.filter _ List.nodup_range) fun i hi j hj e=>?_) fun c hc=>?_
  ·rw [List.mem_filter,List.mem_range] at hi hj
   have bi:bigAt s i = false:=by simpa using hi.2
   have bj:bigAt s j = false:=by simpa using hj.2
   rcases Nat.lt_or_ge i 2 with h1 | h1
   ·rcases Nat.lt_or_ge j 2 with h2 | h2
    ·simpa [code,h1,h2] using e
    ·obtain ⟨_,P,_,_,_,_,e2,_⟩:=hcode j h2 hj.1 bj
     have e1:code i = i:=if_pos h1
     omega
   ·obtain ⟨n,P,_,_,_,d1,e1,c1⟩:=hcode i h1 hi.1 bi
    rcases Nat.lt_or_ge j 2 with h2 | h2
    ·have e2:code j = j:=if_pos h2
     omega
    ·obtain ⟨m,Q,_,_,_,d2,e2,c2⟩:=hcode j h2 hj.1 bj
     have hPQ:P = Q:=by omega
     subst hPQ
     have:=codeB_inj _ _ (by rw [tab_len,tab_len]) (show codeB (tab (vl s.tree P) (sem s.nodes i)) = codeB (tab (vl s.tree P) (sem s.nodes j)) by omega)
     exact h.canon hi.1 hj.1 (tab_inj d1 d2 this)
  ·obtain ⟨i,hi,rfl⟩:=List.mem_map.1 hc
   rw [List.mem_filter,List.mem_range] at hi
   rcases Nat.lt_or_ge i 2 with h1 | h1
   ·have e1:code i = i:=if_pos h1
    omega
   ·obtain ⟨n,P,_,_,hP,_,e1,c1⟩:=hcode i h1 hi.1 (by simpa using hi.2)
    omega
 unfold big
 omega
theorem Parts.nodup {t:List VN} {ns:List SNode} {l r:Nat} {el:List (Nat × Nat)} (h:Parts t ns l r el):el.Nodup :=
 List.Pairwise.imp (fun hab e=>hab (by rw [e])) h.nd
theorem Parts.len_l {t:List VN} (hc:checkF t = 0) {ns:List SNode} {l r:Nat} {el:List (Nat × Nat)} (hl:l < t.length) (h:Parts t ns l r el):el.length≤2 ^ nv t l:=by
 have hex:∀ p,∃ m,p∈el→m∈subl (vl t l)∧sem ns p.1 (asgL m) = true:=fun p=>by
  by_cases hp:p∈el
  ·obtain ⟨x,hx⟩:=h.pne p hp
   have hd:Dep (·∈vl t l) (sem ns p.1):=(h.pdep p hp).mono fun v hv=>(mem_vl hc l hl v).2 hv
   exact ⟨_,fun _=>⟨filter_subl x (vl t l),by rw [←dep_asgL hd];exact hx⟩⟩
  ·exact ⟨[],fun hp'=>absurd hp' hp⟩
 let f:Nat × Nat→List Int:=fun p=>Classical.choose (hex p)
 have hf:∀ p∈el,f p∈subl (vl t l)∧sem ns p.1 (asgL (f p)) = true:=fun p hp=>Classical.choose_spec (hex p) hp
 have hn:(el.map f).Nodup:=nodup_map el h.nodup fun p hp q hq e=>by
  have a1:=(hf p hp).2
  have a2:=(hf q hq).2
  rw [e] at a1
  apply Classical.byContradiction
  intro hne
  have hd:∀ (k:List (Nat × Nat)),(k.Pairwise fun p q=>∀ x,¬ (sem ns p.1 x = true∧sem ns q.1 x = true))→p∈k→q∈k→False:=by
   intro k
   induction k with
   | nil=>intro _ hp;cases hp
   | cons a m ihl =>
     intro hpw h1 h2
     rw [List.pairwise_cons] at hpw
     rcases List.mem_cons.1 h1 with rfl | h1'
     ·rcases List.mem_cons.1 h2 with rfl | h2'
      ·exact hne rfl
      ·exact hpw.1 q h2' _ ⟨a1,a2⟩
     ·rcases List.mem_cons.1 h2 with rfl | h2'
      ·exact hpw.1 p h1' _ ⟨a2,a1⟩
      ·exact ihl hpw.2 h1' h2'
  exact hd el h.disj hp hq
 have:=nodup_len (el.map f) (subl (vl t l)) hn (fun m hm=>by
  obtain ⟨p,hp,rfl⟩:=List.mem_map.1 hm;exact (hf p hp).1)
 rwa [List.length_map,subl_len] at this
theorem Parts.len_r {t:List VN} (hc:checkF t = 0) {ns:List SNode} {l r:Nat} {el:List (Nat × Nat)} (hr:r < t.length) (h:Parts t ns l r el) (hd:∀ p∈el,∀ q∈el,sem ns p.2 = sem ns q.2→p = q):el.length≤2 ^ (2 ^ nv t r):=by
 have hn:(el.map fun p=>codeB (tab (vl t r) (sem ns p.2))).Nodup:=nodup_map el h.nodup fun p hp q hq e=>by
  have d1:Dep (·∈vl t r) (sem ns p.2):=(h.sdep p hp).mono fun v hv=>(mem_vl hc r hr v).2 hv
  have d2:Dep (·∈vl t r) (sem ns q.2):=(h.sdep q hq).mono fun v hv=>(mem_vl hc r hr v).2 hv
  exact hd p hp q hq (tab_inj d1 d2 (codeB_inj _ _ (by rw [tab_len,tab_len]) e))
 have:=nodup_lt _ (2 ^ (2 ^ nv t r)) hn (fun c hc'=>by
  obtain ⟨p,_,rfl⟩:=List.mem_map.1 hc'
  have:=codeB_lt (tab (vl t r) (sem ns p.2))
  rwa [tab_len] at this)
 rwa [List.length_map] at this
end Go.Proofs.YtmnjakejhbpkoaaGreatDoor.L
namespace Go.Proofs.YtmnjakejhbpkoaaGreatDoor.L
theorem bit_with (s:VSet) (v:Int) (i:Nat) (hi:i < 128):(withS s v).getLsbD i = (s.getLsbD i || decide (v = (i:Int)+1)):=by
 unfold withS
 split
 ·rw [BitVec.getLsbD_or,BitVec.getLsbD_twoPow]
  congr 1
  rw [Bool.eq_iff_iff]
  simp
  omega
 ·have:¬ v = (i:Int)+1:=by omega
  simp [this]
theorem bit_of (l:List Int) (i:Nat) (hi:i < 128):∀ s:VSet,(l.foldl withS s).getLsbD i = (s.getLsbD i || l.any fun x=>decide (x = (i:Int)+1)):=by
 induction l with
 | nil=>intro s;simp
 | cons x r ih =>
   intro s
   rw [List.foldl_cons,ih,bit_with _ _ _ hi,List.any_cons,Bool.or_assoc]
theorem hasS_bit (m:VSet) (i:Nat) (hi:i < 128):hasS m ((i:Int)+1) = m.getLsbD i:=by
 have e1:decide ((1:Int)≤(i:Int)+1) = true:=decide_eq_true (by omega)
 have e2:decide ((i:Int)+1≤128) = true:=decide_eq_true (by omega)
 have e3:((i:Int)+1 - 1).toNat = i:=by omega
 rw [hasS,e1,e2,e3];rfl
theorem hasS_range {m:VSet} {v:Int} (h:hasS m v = true):1≤v∧v≤128:=by
 simp only [hasS,Bool.and_eq_true,decide_eq_true_eq] at h
 exact h.1
theorem hasS_out {m:VSet} {v:Int} (h:¬ (1≤v∧v≤128)):hasS m v = false:=by
 cases hh:hasS m v
 ·rfl
 ·exact absurd (hasS_range hh) h
noncomputable def maskS (S:Int→Prop):VSet:=open Classical in ofS (((List.range 128).map fun i:Nat=>(i:Int)+1).filter fun v=>decide (S v))
theorem bit_mask (S:Int→Prop) (i:Nat) (hi:i < 128):(maskS S).getLsbD i = true↔S ((i:Int)+1):=by
 classical
 unfold maskS ofS
 rw [bit_of _ _ hi]
 have h0:(0:VSet).getLsbD i = false:=BitVec.getLsbD_zero
 rw [h0,Bool.false_or,List.any_eq_true]
 constructor
 ·rintro ⟨x,hx,hxi⟩
  rw [List.mem_filter] at hx
  have e:x = (i:Int)+1:=of_decide_eq_true hxi
  have:=of_decide_eq_true hx.2
  rw [e] at this;exact this
 ·intro h
  exact ⟨_,List.mem_filter.2 ⟨List.mem_map.2 ⟨i,List.mem_range.2 hi,rfl⟩,decide_eq_true h⟩,decide_eq_true rfl⟩
noncomputable def onS (S:Int→Prop) (m:VSet):VSet:=m &&& maskS S
theorem onS_in {S:Int→Prop} {m:VSet} {v:Int} (h:S v):hasS (onS S m) v = hasS m v:=by
 by_cases hv:1≤v∧v≤128
 ·obtain ⟨i,hi,rfl⟩:∃ i:Nat,i < 128∧v = (i:Int)+1:=⟨(v - 1).toNat,by omega,by omega⟩
  rw [hasS_bit _ _ hi,hasS_bit _ _ hi,onS,BitVec.getLsbD_and,(bit_mask S i hi).2 h,Bool.and_true]
 ·rw [hasS_out hv,hasS_out hv]
theorem onS_out {S:Int→Prop} {m:VSet} {v:Int} (h:¬ S v):hasS (onS S m) v = false:=by
 by_cases hv:1≤v∧v≤128
 ·obtain ⟨i,hi,rfl⟩:∃ i:Nat,i < 128∧v = (i:Int)+1:=⟨(v - 1).toNat,by omega,by omega⟩
  rw [hasS_bit _ _ hi,onS,BitVec.getLsbD_and]
  cases hb:(maskS S).getLsbD i
  ·simp
  ·exact absurd ((bit_mask S i hi).1 hb) h
 ·exact hasS_out hv
theorem sub_le {a m:VSet} (h:∀ i,i < 128→a.getLsbD i = true→m.getLsbD i = true):leS a m:=by
 refine leS_of_not ?_
 cases hl:lessS m a
 ·rfl
 ·obtain ⟨k,hk,h1,h2,_⟩:=(lessS_iff _ _).1 hl
  rw [h k hk h2] at h1;cases h1
theorem set_ext {a b:VSet} (h:∀ i,i < 128→a.getLsbD i = b.getLsbD i):a = b:=BitVec.eq_of_getLsbD_eq fun i hi=>h i hi
theorem dep_onS {S:Int→Prop} {φ:Asg→Bool} (h:Dep S φ) (m:VSet):φ (asg (onS S m)) = φ (asg m):=h _ _ fun _ hv=>onS_in hv
theorem Min.le_in {ns:List SNode} {i:Nat} (h:Min ns i) {S:Int→Prop} (hd:Dep S (sem ns i)) {v:Int} (hv:hasS (leOf ns i) v = true):S v:=by
 have h1:leS (leOf ns i) (onS S (leOf ns i)):=h.le _ (by rw [dep_onS hd];exact h.sat)
 have h2:leS (onS S (leOf ns i)) (leOf ns i):=sub_le fun k hk hb=>by
  rw [onS,BitVec.getLsbD_and,Bool.and_eq_true] at hb;exact hb.1
 have e:=h1.antisymm h2
 rw [e] at hv
 apply Classical.byContradiction
 intro hn
 rw [onS_out hn] at hv;cases hv
theorem hasS_or (a b:VSet) (v:Int):hasS (a ||| b) v = (hasS a v || hasS b v):=by
 simp only [hasS,BitVec.getLsbD_or]
 cases decide (1≤v) <;> cases decide (v≤128) <;> simp
theorem union_le {S T:Int→Prop} (hap:∀ v,S v→T v→False) {a b m:VSet} (ha:leS a (onS S m)) (hb:leS b (onS T m)) (ia:∀ v,hasS a v = true→S v) (ib:∀ v,hasS b v = true→T v):leS (a ||| b) m:=by
 refine leS_of_not ?_
 cases hl:lessS m (a ||| b)
 ·rfl
 obtain ⟨k,hk,h1,h2,h3⟩:=(lessS_iff _ _).1 hl
 exfalso
 -- one side,where the difference lies
 have side:∀ (S T:Int→Prop) (a b:VSet),(∀ v,S v→T v→False)→leS a (onS S m)→(∀ v,hasS a v = true→S v)→(∀ v,hasS b v = true→T v)→a.getLsbD k = true→(∀ j,j < k→m.getLsbD j = (a ||| b).getLsbD j)→False:=by
  intro S T a b hap ha ia ib hka h3
  have hS:∀ j,j < 128→a.getLsbD j = true→S ((j:Int)+1):=fun j hj h=>ia _ (by rw [hasS_bit _ _ hj];exact h)
  have hT:∀ j,j < 128→b.getLsbD j = true→T ((j:Int)+1):=fun j hj h=>ib _ (by rw [hasS_bit _ _ hj];exact h)
  have hless:lessS (onS S m) a = true:=by
   refine (lessS_iff _ _).2 ⟨k,hk,by rw [onS,BitVec.getLsbD_and,h1];rfl,hka,fun j hj=>?_⟩
   have hj':j < 128:=by omega
   have e:=h3 j hj
   rw [BitVec.getLsbD_or] at e
   rw [onS,BitVec.getLsbD_and,e]
   by_cases hs:S ((j:Int)+1)
   ·rw [(bit_mask S j hj').2 hs,Bool.and_true]
    cases hb:b.getLsbD j
    ·simp
    ·exact (hap _ hs (hT j hj' hb)).elim
   ·have h4:(maskS S).getLsbD j = false:=by
     cases hb:(maskS S).getLsbD j
     ·rfl
     ·exact absurd ((bit_mask S j hj').1 hb) hs
    rw [h4,Bool.and_false]
    cases hb:a.getLsbD j
    ·rfl
    ·exact absurd (hS j hj' hb) hs
  rcases ha with e | hlt
  ·rw [←e,lessS_irrefl] at hless;cases hless
  ·rw [lessS_asymm hlt] at hless;cases hless
 rw [BitVec.getLsbD_or,Bool.or_eq_true] at h2
 rcases h2 with h2 | h2
 ·exact side S T a b hap ha ia ib h2 h3
 ·exact side T S b a (fun v h4 h5=>hap v h5 h4) hb ib ia h2 (fun j hj=>by rw [h3 j hj,BitVec.getLsbD_or,BitVec.getLsbD_or,Bool.or_comm])
theorem leastF_spec (ns:List SNode) (el:List (Nat × Nat)) (h:∃ p∈el,p.2≠0) :
  (∃ p∈el,p.2≠0∧(leastF ns el).2 = (leOf ns p.1 ||| leOf ns p.2))∧∀ p∈el,p.2≠0→leS (leastF ns el).2 (leOf ns p.1 ||| leOf ns p.2):=by
 have gen:∀ (l:List (Nat × Nat)) (a:Bool × VSet),
   (((l.foldl (leastStep ns) a).1 = true→a.1 = true∧∀ p∈l,p.2 = 0) ∧
   ((l.foldl (leastStep ns) a).1 = false→((a.1 = false∧(l.foldl (leastStep ns) a).2 = a.2)∨∃ p∈l,p.2≠0∧(l.foldl (leastStep ns) a).2 = (leOf ns p.1 ||| leOf ns p.2)) ∧
     (a.1 = false→leS (l.foldl (leastStep ns) a).2 a.2)∧∀ p∈l,p.2≠0→leS (l.foldl (leastStep ns) a).2 (leOf ns p.1 ||| leOf ns p.2))):=by
  intro l
  induction l with
  | nil =>
    intro a
    simp only [List.foldl_nil]
    exact ⟨fun h=>⟨h,fun p hp=>by cases hp⟩,fun h=>⟨.inl ⟨h,trivial⟩,fun _=>.inl rfl,fun p hp=>by cases hp⟩⟩
  | cons q r ih =>
    intro a
    rw [List.foldl_cons]
    obtain ⟨g1,g2⟩:=ih (leastStep ns a q)
    by_cases hq:q.2 = 0
    ·have e:leastStep ns a q = a:=by simp [leastStep,hq]
     rw [e] at g1 g2 ⊢
     refine ⟨fun h=>?_,fun h=>?_⟩
     ·obtain ⟨c1,c2⟩:=g1 h
      refine ⟨c1,fun p hp=>?_⟩
      rcases List.mem_cons.1 hp with rfl | hp
      ·exact hq
      ·exact c2 p hp
     ·obtain ⟨c1,c2,c3⟩:=g2 h
      refine ⟨c1.imp id fun ⟨p,hp,hh⟩=>⟨p,List.mem_cons_of_mem _ hp,hh⟩,c2,fun p hp hne=>?_⟩
      rcases List.mem_cons.1 hp with rfl | hp
      ·exact absurd hq hne
      ·exact c3 p hp hne
    ·have e:leastStep ns a q = if (a.1 || lessS (leOf ns q.1 ||| leOf ns q.2) a.2) = true then (false,leOf ns q.1 ||| leOf ns q.2) else a:=by simp [leastStep,hq]
     by_cases hc:(a.1 || lessS (leOf ns q.1 ||| leOf ns q.2) a.2) = true
     ·rw [if_pos hc] at e
      rw [e] at g1 g2 ⊢
      refine ⟨fun h=>?_,fun h=>?_⟩
      ·have:=(g1 h).1;cases this
      ·obtain ⟨c1,c2,c3⟩:=g2 h
       refine ⟨.inr ?_,fun ha=>?_,fun p hp hne=>?_⟩
       ·rcases c1 with ⟨_,c1⟩ | ⟨p,hp,hh⟩
        ·exact ⟨q,List.mem_cons_self ..,hq,c1⟩
        ·exact ⟨p,List.mem_cons_of_mem _ hp,hh⟩
       ·rw [ha,Bool.false_or] at hc
        exact (c2 rfl).trans (.inr hc)
       ·rcases List.mem_cons.1 hp with rfl | hp
        ·exact c2 rfl
        ·exact c3 p hp hne
     ·rw [if_neg hc] at e
      have hc':a.1 = false∧lessS (leOf ns q.1 ||| leOf ns q.2) a.2 = false:=by simpa using hc
      rw [e] at g1 g2 ⊢
      refine ⟨fun h=>?_,fun h=>?_⟩
      ·have:=(g1 h).1;rw [hc'.1] at this;cases this
      ·obtain ⟨c1,c2,c3⟩:=g2 h
       refine ⟨c1.imp id fun ⟨p,hp,hh⟩=>⟨p,List.mem_cons_of_mem _ hp,hh⟩,c2,fun p hp hne=>?_⟩
       rcases List.mem_cons.1 hp with rfl | hp
       ·exact (c2 hc'.1).trans (leS_of_not hc'.2)
       ·exact c3 p hp hne
 obtain ⟨g1,g2⟩:=gen el (true,0)
 have hf:(el.foldl (leastStep ns) (true,0)).1 = false:=by
  cases hb:(el.foldl (leastStep ns) (true,0)).1
  ·rfl
  ·obtain ⟨p,hp,hne⟩:=h
   exact absurd ((g1 hb).2 p hp) hne
 obtain ⟨c1,_,c3⟩:=g2 hf
 exact ⟨c1.elim (fun ⟨h1,_⟩=>by cases h1) id,c3⟩
theorem Parts.least {t:List VN} (hc:checkF t = 0) {P:Nat} {y:VN} {l r:Nat} (hx:t[P]? = some y) (hlf:leafB y = false) (hl:y.left = l) (hr:y.right = r) {ns:List SNode} {el:List (Nat × Nat)}
  (h:Parts t ns l r el) (h0:∀ x,sem ns 0 x = false) (hm:∀ p∈el,Min ns p.1∧(p.2≠0→Min ns p.2)) :
  (el.any fun q=>sem ns q.1 (asg (leastF ns el).2) && sem ns q.2 (asg (leastF ns el).2)) = true ∧
  ∀ m,(el.any fun q=>sem ns q.1 (asg m) && sem ns q.2 (asg m)) = true→leS (leastF ns el).2 m:=by
 have hap:∀ v,Bel t l v→Bel t r v→False:=fun v a b=>Bel.apart hc hx hlf hl hr a b
 obtain ⟨⟨p,hp,hne,e⟩,hmin⟩:=leastF_spec ns el (by obtain ⟨p,hp,h2⟩:=h.big;exact ⟨p,hp,by omega⟩)
 have inl:∀ q∈el,∀ v,hasS (leOf ns q.1) v = true→Bel t l v:=fun q hq v hv=>(hm q hq).1.le_in (h.pdep q hq) hv
 have inr:∀ q∈el,q.2≠0→∀ v,hasS (leOf ns q.2) v = true→Bel t r v:=fun q hq h2 v hv=>((hm q hq).2 h2).le_in (h.sdep q hq) hv
 refine ⟨?_,fun m hmm=>?_⟩
 ·rw [e,List.any_eq_true]
  refine ⟨p,hp,?_⟩
  have a1:sem ns p.1 (asg (leOf ns p.1 ||| leOf ns p.2)) = sem ns p.1 (asg (leOf ns p.1)):=h.pdep p hp _ _ fun v hv=>by
   show hasS _ _ = hasS _ _
   rw [hasS_or]
   cases hb:hasS (leOf ns p.2) v
   ·simp
   ·exact (hap v hv (inr p hp hne v hb)).elim
  have a2:sem ns p.2 (asg (leOf ns p.1 ||| leOf ns p.2)) = sem ns p.2 (asg (leOf ns p.2)):=h.sdep p hp _ _ fun v hv=>by
   show hasS _ _ = hasS _ _
   rw [hasS_or]
   cases hb:hasS (leOf ns p.1) v
   ·simp
   ·exact (hap v (inl p hp v hb) hv).elim
  rw [a1,a2,(hm p hp).1.sat,((hm p hp).2 hne).sat];rfl
 ·rw [List.any_eq_true] at hmm
  obtain ⟨q,hq,hs⟩:=hmm
  rw [Bool.and_eq_true] at hs
  have h2:q.2≠0:=fun e0=>by rw [e0,h0] at hs;cases hs.2
  refine (hmin q hq h2).trans (union_le hap ?_ ?_ (inl q hq) (inr q hq h2))
  ·exact (hm q hq).1.le _ (by rw [dep_onS (h.pdep q hq)];exact hs.1)
  ·exact ((hm q hq).2 h2).le _ (by rw [dep_onS (h.sdep q hq)];exact hs.2)
end Go.Proofs.YtmnjakejhbpkoaaGreatDoor.L
namespace Go.Proofs.YtmnjakejhbpkoaaGreatDoor.L
theorem leOf_app {ns m:List SNode} {i:Nat} (hi:i < ns.length):leOf (ns++m) i = leOf ns i:=by
 unfold leOf;rw [List.getElem?_append_left hi]
theorem Parts.app {t:List VN} {ns m:List SNode} (hk:Kids ns) {l r:Nat} {el:List (Nat × Nat)} (h:Parts t ns l r el) (hi:∀ p∈el,p.1 < ns.length∧p.2 < ns.length):Parts t (ns++m) l r el where
 pdep p hp:=by rw [sem_app hk (hi p hp).1];exact h.pdep p hp
 sdep p hp:=by rw [sem_app hk (hi p hp).2];exact h.sdep p hp
 pne p hp:=by rw [sem_app hk (hi p hp).1];exact h.pne p hp
 disj:=h.disj.imp_of_mem fun {a b} ha hb hab=>by rw [sem_app hk (hi a ha).1,sem_app hk (hi b hb).1];exact hab
 cover x:=by
  obtain ⟨p,hp,hx⟩:=h.cover x
  exact ⟨p,hp,by rw [sem_app hk (hi p hp).1];exact hx⟩
 nd:=h.nd
 big:=h.big
 two:=h.two
theorem lessP_app {ns m:List SNode} {p q:Nat × Nat} (hp:p.1 < ns.length) (hq:q.1 < ns.length):lessP (ns++m) p q = lessP ns p q:=by
 unfold lessP;rw [leOf_app hp,leOf_app hq]
theorem leastF_app {ns m:List SNode} {el:List (Nat × Nat)} (hi:∀ p∈el,p.1 < ns.length∧p.2 < ns.length):leastF (ns++m) el = leastF ns el:=by
 unfold leastF
 have:∀ (l:List (Nat × Nat)) (a:Bool × VSet),(∀ p∈l,p.1 < ns.length∧p.2 < ns.length)→l.foldl (leastStep (ns++m)) a = l.foldl (leastStep ns) a:=by
  intro l
  induction l with
  | nil=>intro a _;rfl
  | cons q r ih =>
    intro a h
    have hq:=h q (List.mem_cons_self ..)
    rw [List.foldl_cons,List.foldl_cons,ih _ fun p hp=>h p (List.mem_cons_of_mem _ hp)]
    congr 1
    unfold leastStep
    rw [leOf_app hq.1,leOf_app hq.2]
 exact this el _ hi
theorem DecOK.app {t:List VN} {ns m:List SNode} (hk:Kids ns) {i:Nat} {n:SNode} (hi:i≤ns.length) (h:DecOK t ns i n):DecOK t (ns++m) i n:=by
 have hb:∀ p∈n.el,p.1 < ns.length∧p.2 < ns.length:=fun p hp=>by have:=h.kids p hp;omega
 obtain ⟨P,y,l,r,h1,h2,h3,h4,h5,h6⟩:=h.parts
 exact ⟨h.lit,h.kids,⟨P,y,l,r,h1,h2,h3,h4,h5,h6.app hk hb⟩,h.sorted.imp_of_mem fun {a b} ha hb' hab=>by rw [lessP_app (hb a ha).1 (hb b hb').1];exact hab,by rw [leastF_app hb];exact h.le⟩
theorem Min.app {ns m:List SNode} (hk:Kids ns) {i:Nat} (hi:i < ns.length) (h:Min ns i):Min (ns++m) i:=by
 refine ⟨?_,fun x hx=>?_⟩
 ·rw [sem_app hk hi,leOf_app hi];exact h.sat
 ·rw [leOf_app hi];rw [sem_app hk hi] at hx;exact h.le x hx
theorem asc_cons {α β:Type} [DecidableEq α] (p:α × β) (l:List (α × β)) (a:α):asc (p :: l) a = if a = p.1 then some p.2 else asc l a:=rfl
def addS (s:St) (n:SNode):St:={ s with nodes:=s.nodes++[n],uniq:=((n.pl,n.lit,n.el),s.nodes.length) :: s.uniq }
theorem Inv.add {s:St} (h:Inv s) {n:SNode} (hn:asc s.uniq (keyOf n) = none) (hok:LitOK s.tree n∨DecOK s.tree s.nodes s.nodes.length n) (hmin:Min (s.nodes++[n]) s.nodes.length):Inv (addS s n):=by
 have hk:=h.kids
 have hl:=h.len
 have hold:∀ {i:Nat},i < s.nodes.length→(s.nodes++[n])[i]? = s.nodes[i]?:=fun hi=>List.getElem?_append_left hi
 have hnew:(s.nodes++[n])[s.nodes.length]? = some n:=by rw [List.getElem?_append_right (Nat.le_refl _)];simp
 have hcase:∀ (i:Nat) (x:SNode),(s.nodes++[n])[i]? = some x→(i < s.nodes.length∧s.nodes[i]? = some x)∨(i = s.nodes.length∧x = n):=fun i x hx=>by
  have hlt:i < (s.nodes++[n]).length:=(List.getElem?_eq_some_iff.1 hx).1
  rw [List.length_append,List.length_singleton] at hlt
  rcases Nat.lt_or_ge i s.nodes.length with h1 | h1
  ·exact .inl ⟨h1,by rw [hold h1] at hx;exact hx⟩
  ·have e:i = s.nodes.length:=by omega
   subst e
   rw [hnew] at hx
   exact .inr ⟨rfl,(Option.some.inj hx).symm⟩
 refine ⟨h.tree,?_,?_,fun i x hi hx=>?_,fun i hi hil=>?_,fun k i hki=>?_,fun i x hi hx=>?_,fun a b c hc=>?_,fun a b hb=>?_⟩
 ·show (s.nodes++[n])[0]? = _;rw [hold (by omega)];exact h.zero
 ·show (s.nodes++[n])[1]? = _;rw [hold (by omega)];exact h.one
 ·rcases hcase i x hx with ⟨h1,h2⟩ | ⟨rfl,rfl⟩
  ·exact (h.ok i x hi h2).imp id fun hd=>hd.app hk (by omega)
  ·exact hok.imp id fun hd=>hd.app hk (Nat.le_refl _)
 ·have hil':i < s.nodes.length+1:=by simpa [addS] using hil
  rcases Nat.lt_or_ge i s.nodes.length with h1 | h1
  ·exact (h.min i hi h1).app hk h1
  ·have e:i = s.nodes.length:=by omega
   subst e;exact hmin
 ·have hki':(if k = (n.pl,n.lit,n.el) then some s.nodes.length else asc s.uniq k) = some i:=hki
  split at hki'
  ·rename_i e
   have:s.nodes.length = i:=Option.some.inj hki'
   subst this
   exact ⟨hl,n,hnew,e.symm⟩
  ·obtain ⟨h1,x,h2,h3⟩:=h.uq1 k i hki'
   exact ⟨h1,x,by show (s.nodes++[n])[i]? = _;rw [hold (List.getElem?_eq_some_iff.1 h2).1];exact h2,h3⟩
 ·show (if keyOf x = (n.pl,n.lit,n.el) then some s.nodes.length else asc s.uniq (keyOf x)) = some i
  rcases hcase i x hx with ⟨h1,h2⟩ | ⟨rfl,rfl⟩
  ·have h3:=h.uq2 i x hi h2
   rw [if_neg (fun e=>by
    have e':keyOf x = keyOf n:=e
    rw [e',hn] at h3;cases h3)]
   exact h3
  ·exact if_pos rfl
 ·obtain ⟨h1,h2,h3,h4⟩:=h.ands a b c hc
  show a < (s.nodes++[n]).length∧b < (s.nodes++[n]).length∧c < (s.nodes++[n]).length∧∀ x,sem (s.nodes++[n]) c x = (sem (s.nodes++[n]) a x && sem (s.nodes++[n]) b x)
  rw [List.length_append,sem_app hk h1,sem_app hk h2,sem_app hk h3]
  exact ⟨by omega,by omega,by omega,h4⟩
 ·obtain ⟨h1,h2,h3⟩:=h.nots a b hb
  show a < (s.nodes++[n]).length∧b < (s.nodes++[n]).length∧∀ x,sem (s.nodes++[n]) b x = !sem (s.nodes++[n]) a x
  rw [List.length_append,sem_app hk h1,sem_app hk h2]
  exact ⟨by omega,by omega,h3⟩
structure Step (s s':St):Prop where
 inv:Inv s'
 tree:s'.tree = s.tree
 ext:∃ m,s'.nodes = s.nodes++m
theorem Step.refl {s:St} (h:Inv s):Step s s:=⟨h,rfl,[],by simp⟩
theorem Step.trans {a b c:St} (h:Step a b) (k:Step b c):Step a c:=by
 obtain ⟨m,hm⟩:=h.ext
 obtain ⟨n,hn⟩:=k.ext
 exact ⟨k.inv,k.tree.trans h.tree,m++n,by rw [hn,hm,List.append_assoc]⟩
theorem Step.len {s s':St} (h:Step s s'):s.nodes.length≤s'.nodes.length:=by
 obtain ⟨m,hm⟩:=h.ext;rw [hm,List.length_append];omega
theorem Step.sem {s s':St} (h:Step s s') (hi:Inv s) {i:Nat} (hl:i < s.nodes.length):L.sem s'.nodes i = L.sem s.nodes i:=by
 obtain ⟨m,hm⟩:=h.ext;rw [hm];exact sem_app hi.kids hl
theorem big_add {s:St} (n:SNode):big (addS s n) = big s+if bigN s.tree n = true then 1 else 0:=by
 unfold big
 have hlen:(addS s n).nodes.length = s.nodes.length+1:=by simp [addS]
 rw [hlen,List.range_succ,List.filter_append,List.length_append]
 congr 1
 ·congr 1
  apply List.filter_congr
  intro i hi
  rw [List.mem_range] at hi
  unfold bigAt
  rw [show (addS s n).nodes[i]? = s.nodes[i]? from List.getElem?_append_left hi]
  rfl
 ·have:bigAt (addS s n) s.nodes.length = bigN s.tree n:=by
   unfold bigAt
   rw [show (addS s n).nodes[s.nodes.length]? = some n from by show (s.nodes++[n])[s.nodes.length]? = _;rw [List.getElem?_append_right (Nat.le_refl _)];simp]
   rfl
  rw [List.filter_cons,this]
  split <;> simp_all
structure Room (s:St) (k:Nat):Prop where
 inv:Inv s
 few:s.tree.length≤11
 room:big s+k≤327000
theorem Room.len {s:St} {k:Nat} (h:Room s k):s.nodes.length≤1047898:=by
 have:=nodes_le h.inv h.few;have:=h.room;omega
theorem asg_sem_node {ns:List SNode} {n:SNode}:(ns++[n])[ns.length]? = some n:=by rw [List.getElem?_append_right (Nat.le_refl _)];simp
theorem kids_add {s:St} (h:Inv s) {n:SNode} (hk:∀ p∈n.el,p.1 < s.nodes.length∧p.2 < s.nodes.length):Kids (s.nodes++[n]):=by
 intro i x hx p hp
 have hlt:i < (s.nodes++[n]).length:=(List.getElem?_eq_some_iff.1 hx).1
 rw [List.length_append,List.length_singleton] at hlt
 rcases Nat.lt_or_ge i s.nodes.length with h1 | h1
 ·rw [List.getElem?_append_left h1] at hx
  exact h.kids i x hx p hp
 ·have e:i = s.nodes.length:=by omega
  subst e
  rw [asg_sem_node] at hx
  cases hx
  exact hk p hp
theorem add_spec {s:St} {k:Nat} (hR:Room s k) {n:SNode} (hs:smallN n) (hok:LitOK s.tree n∨DecOK s.tree s.nodes s.nodes.length n) (hmin:Min (s.nodes++[n]) s.nodes.length) :
  ∃ c s',addF s n = some (c,s')∧Step s s'∧c < s'.nodes.length∧sem s'.nodes c = sem (s.nodes++[n]) s.nodes.length∧big s'≤big s+if bigN s.tree n = true then 1 else 0:=by
 have h:=hR.inv
 have hlen:=hR.len
 have hkn:∀ p∈n.el,p.1 < s.nodes.length∧p.2 < s.nodes.length:=fun p hp=>by
  rcases hok with hl | hd
  ·rw [hl.el] at hp;cases hp
  ·exact hd.kids p hp
 unfold addF
 rw [if_pos hs]
 cases ha:asc s.uniq (n.pl,n.lit,n.el) with
 | some i =>
   obtain ⟨h2,x,hx,hkx⟩:=h.uq1 _ _ ha
   have hil:i < s.nodes.length:=(List.getElem?_eq_some_iff.1 hx).1
   refine ⟨i,s,rfl,Step.refl h,hil,?_,by omega⟩
   funext y
   have e2:x.lit = n.lit:=congrArg (fun k:Key=>k.2.1) hkx
   have e3:x.el = n.el:=congrArg (fun k:Key=>k.2.2) hkx
   rw [sem_node h.kids hx,sem_node (kids_add h hkn) asg_sem_node,e2,e3]
   split
   ·rfl
   ·rename_i hl
    have hne:n.el≠[]:=by
     rcases hok with hl' | hd
     ·exact absurd hl'.lit (by simpa using hl)
     ·obtain ⟨P,y,l,r,_,_,_,_,_,hp⟩:=hd.parts
      intro e;have:=hp.two;rw [e] at this;simp at this
    rw [if_neg hne,if_neg hne]
    refine any_congr fun p hp=>?_
    rw [sem_app h.kids (hkn p hp).1,sem_app h.kids (hkn p hp).2]
 | none =>
   simp only
   rw [if_pos (by omega)]
   have hst:Step s (addS s n):=⟨h.add ha hok hmin,rfl,[n],rfl⟩
   exact ⟨_,addS s n,rfl,hst,by simp [addS],rfl,by rw [big_add];omega⟩
theorem literal_spec {s:St} {k:Nat} (hR:Room s k) {l:Int} {u:Nat} {y:VN} (hy:s.tree[u]? = some y) (hlf:leafB y = true) (hv:y.var = (l.natAbs:Int)) :
  ∃ c s',literalF s l u = some (c,s')∧Step s s'∧c < s'.nodes.length∧(∀ x,sem s'.nodes c x = (x (l.natAbs:Int) == decide (0 < l)))∧big s'≤big s:=by
 have h:=hR.inv
 have hfew:=hR.few
 have hu:u < s.tree.length:=(List.getElem?_eq_some_iff.1 hy).1
 have hrange:1≤y.var∧y.var≤128:=by
  simp only [leafB,Bool.and_eq_true,decide_eq_true_eq] at hlf
  exact hlf.2
 have hl0:l≠0:=by omega
 have hlit:LitOK s.tree (litN l u):=⟨rfl,hl0,⟨u,y,rfl,hy,hlf,hv⟩,rfl⟩
 have hkn:∀ p∈(litN l u).el,p.1 < s.nodes.length∧p.2 < s.nodes.length:=fun p hp=>by cases hp
 have hsem:∀ x,sem (s.nodes++[litN l u]) s.nodes.length x = (x (l.natAbs:Int) == decide (0 < l)):=fun x=>by
  rw [sem_node (kids_add h hkn) asg_sem_node]
  exact if_pos hl0
 have hle:leOf (s.nodes++[litN l u]) s.nodes.length = if 0 < l then ofS [l] else 0:=by
  unfold leOf;rw [asg_sem_node];rfl
 have hbit:0 < l→∀ i,i < 128→((ofS [l]).getLsbD i = true↔l = (i:Int)+1):=fun _ i hi=>by
  unfold ofS
  rw [bit_of _ _ hi]
  have h0:(0:VSet).getLsbD i = false:=BitVec.getLsbD_zero
  rw [h0]
  simp
 have hmin:Min (s.nodes++[litN l u]) s.nodes.length:=by
  refine ⟨?_,fun m hm=>?_⟩
  ·rw [hsem,hle]
   by_cases hp:0 < l
   ·rw [if_pos hp]
    have e:((l.natAbs:Nat):Int) = (((l - 1).toNat:Nat):Int)+1:=by omega
    show (hasS (ofS [l]) (l.natAbs:Int) == _) = true
    rw [e,hasS_bit _ _ (by omega),(hbit hp _ (by omega)).2 (by omega)]
    simp [hp]
   ·rw [if_neg hp]
    show (hasS 0 (l.natAbs:Int) == _) = true
    have:hasS (0:VSet) (l.natAbs:Int) = false:=by simp [hasS]
    rw [this];simp [hp]
  ·rw [hle]
   rw [hsem] at hm
   refine sub_le fun i hi hb=>?_
   by_cases hp:0 < l
   ·rw [if_pos hp] at hb
    have e:=(hbit hp i hi).1 hb
    have hm':hasS m (l.natAbs:Int) = true:=by
     have:(hasS m (l.natAbs:Int) == decide (0 < l)) = true:=hm
     simpa [hp] using this
    rw [show ((l.natAbs:Nat):Int) = (i:Int)+1 by omega,hasS_bit _ _ hi] at hm'
    exact hm'
   ·rw [if_neg hp] at hb
    have h0:(0:VSet).getLsbD i = false:=BitVec.getLsbD_zero
    rw [h0] at hb;cases hb
 have hsm:smallN (litN l u):=⟨by show (-1:Int)≤u;omega,by show (u:Int)≤1048576;omega,by show -1048576≤l;omega,by show l≤1048576;omega,by simp [litN],fun p hp=>by cases hp⟩
 obtain ⟨c,s',h1,h2,h3,h4,h5⟩:=add_spec hR hsm (.inl hlit) hmin
 refine ⟨c,s',h1,h2,h3,fun x=>by rw [h4];exact hsem x,?_⟩
 have hnb:bigN s.tree (litN l u) = false:=by
  have:nv s.tree u = 1:=by unfold nv;rw [vl_leaf hy hlf];rfl
  simp [bigN,litN,this]
 rw [hnb] at h5
 simpa using h5
theorem Parts.perm {t:List VN} {ns:List SNode} {l r:Nat} {el e2:List (Nat × Nat)} (h:Parts t ns l r el) (hp:e2.Perm el):Parts t ns l r e2 where
 pdep p hm:=h.pdep p (hp.mem_iff.1 hm)
 sdep p hm:=h.sdep p (hp.mem_iff.1 hm)
 pne p hm:=h.pne p (hp.mem_iff.1 hm)
 disj:=(hp.pairwise_iff (fun {a b} hab x hx=>hab x ⟨hx.2,hx.1⟩)).2 h.disj
 cover x:=by
  obtain ⟨p,hm,hx⟩:=h.cover x
  exact ⟨p,hp.mem_iff.2 hm,hx⟩
 nd:=(hp.pairwise_iff (fun {a b} hab e=>hab e.symm)).2 h.nd
 big:=by
  obtain ⟨p,hm,hx⟩:=h.big
  exact ⟨p,hp.mem_iff.2 hm,hx⟩
 two:=by rw [hp.length_eq];exact h.two
theorem any_perm {α:Type} {l m:List α} {f:α→Bool} (hp:l.Perm m):l.any f = m.any f:=by
 rw [Bool.eq_iff_iff,List.any_eq_true,List.any_eq_true]
 exact ⟨fun ⟨x,hx,h⟩=>⟨x,hp.mem_iff.1 hx,h⟩,fun ⟨x,hx,h⟩=>⟨x,hp.mem_iff.2 hx,h⟩⟩
theorem Inv.ne0 {s:St} (h:Inv s) {i:Nat} (hx:∃ x,sem s.nodes i x = true):1≤i:=by
 obtain ⟨x,hx⟩:=hx
 rcases Nat.eq_zero_or_pos i with e | e
 ·rw [e,h.sem0] at hx;cases hx
 ·exact e
end Go.Proofs.YtmnjakejhbpkoaaGreatDoor.L
namespace Go.Proofs.YtmnjakejhbpkoaaGreatDoor.L
def decN (s:St) (P:Nat) (el:List (Nat × Nat)):SNode:={ pl:=P,lit:=0,el:=sortF (lessP s.nodes) el,le:=(leastF s.nodes (sortF (lessP s.nodes) el)).2 }
theorem dec_mins {s:St} (h:Inv s) {t:List VN} {l r:Nat} {el:List (Nat × Nat)} (hp:Parts t s.nodes l r el) (hi:∀ p∈el,p.1 < s.nodes.length∧p.2 < s.nodes.length):∀ p∈el,Min s.nodes p.1∧(p.2≠0→Min s.nodes p.2):=fun p hm =>
 ⟨h.min _ (h.ne0 (hp.pne p hm)) (hi p hm).1,fun h0=>h.min _ (by omega) (hi p hm).2⟩
theorem dec_aparts {s:St} (h:Inv s) {t:List VN} {l r:Nat} {el:List (Nat × Nat)} (hp:Parts t s.nodes l r el) (hi:∀ p∈el,p.1 < s.nodes.length∧p.2 < s.nodes.length):aparts (lessP s.nodes) el = true :=
 aparts_pairwise _ (hp.disj.imp_of_mem fun {a b} ha hb hab=>by
  refine lessS_total fun e=>?_
  have h1:=(dec_mins h hp hi a ha).1.sat
  have h2:=(dec_mins h hp hi b hb).1.sat
  rw [←e] at h2
  exact hab _ ⟨h1,h2⟩)
theorem decN_ok {s:St} (h:Inv s) {P:Nat} {y:VN} {l r:Nat} (hy:s.tree[P]? = some y) (hlf:leafB y = false) (hl:y.left = l) (hr:y.right = r) {el:List (Nat × Nat)} (hp:Parts s.tree s.nodes l r el)
  (hi:∀ p∈el,p.1 < s.nodes.length∧p.2 < s.nodes.length):DecOK s.tree s.nodes s.nodes.length (decN s P el):=by
 have hperm:(sortF (lessP s.nodes) el).Perm el:=sortF_perm el
 refine ⟨rfl,fun p hm=>hi p (hperm.mem_iff.1 hm),⟨P,y,l,r,rfl,hy,hlf,hl,hr,hp.perm hperm⟩,?_,rfl⟩
 exact sortF_sorted (lt:=lessP s.nodes) (fun a b c h1 h2=>lessS_trans h1 h2) el (dec_aparts h hp hi)
theorem decN_sem {s:St} (h:Inv s) {P:Nat} {t:List VN} {l r:Nat} {el:List (Nat × Nat)} (hp:Parts t s.nodes l r el)
  (hi:∀ p∈el,p.1 < s.nodes.length∧p.2 < s.nodes.length) (x:Asg):sem (s.nodes++[decN s P el]) s.nodes.length x = el.any fun q=>sem s.nodes q.1 x && sem s.nodes q.2 x:=by
 have hperm:(sortF (lessP s.nodes) el).Perm el:=sortF_perm el
 have hi':∀ p∈(decN s P el).el,p.1 < s.nodes.length∧p.2 < s.nodes.length:=fun p hm=>hi p (hperm.mem_iff.1 hm)
 have hne:(decN s P el).el≠[]:=fun e=>by
  have h2:=hp.two
  have h3:=hperm.length_eq
  rw [show sortF (lessP s.nodes) el = [] from e] at h3
  simp only [List.length_nil] at h3
  omega
 rw [sem_node (kids_add h hi') asg_sem_node,if_neg (fun hh=>hh rfl),if_neg hne,←any_perm hperm]
 exact any_congr fun p hm=>by rw [sem_app h.kids (hi' p hm).1,sem_app h.kids (hi' p hm).2]
theorem decN_min {s:St} (h:Inv s) {P:Nat} {y:VN} {l r:Nat} (hy:s.tree[P]? = some y) (hlf:leafB y = false) (hl:y.left = l) (hr:y.right = r) {el:List (Nat × Nat)} (hp:Parts s.tree s.nodes l r el)
  (hi:∀ p∈el,p.1 < s.nodes.length∧p.2 < s.nodes.length):Min (s.nodes++[decN s P el]) s.nodes.length:=by
 have hperm:(sortF (lessP s.nodes) el).Perm el:=sortF_perm el
 have hle:leOf (s.nodes++[decN s P el]) s.nodes.length = (leastF s.nodes (sortF (lessP s.nodes) el)).2:=by unfold leOf;rw [asg_sem_node];rfl
 obtain ⟨g1,g2⟩:=Parts.least h.tree hy hlf hl hr (hp.perm hperm) h.sem0 (fun p hm=>dec_mins h hp hi p (hperm.mem_iff.1 hm))
 refine ⟨?_,fun m hm=>?_⟩
 ·rw [decN_sem h hp hi,hle,←any_perm hperm];exact g1
 ·rw [hle]
  rw [decN_sem h hp hi,←any_perm hperm] at hm
  exact g2 m hm
theorem decN_small {s:St} {k:Nat} (hR:Room s k) {P:Nat} {y:VN} {l r:Nat} (hy:s.tree[P]? = some y) (hlf:leafB y = false) (hl:y.left = l) {el:List (Nat × Nat)} (hp:Parts s.tree s.nodes l r el)
  (hi:∀ p∈el,p.1 < s.nodes.length∧p.2 < s.nodes.length):smallN (decN s P el):=by
 have h:=hR.inv
 have hfew:=hR.few
 have hlen:=hR.len
 have hperm:(sortF (lessP s.nodes) el).Perm el:=sortF_perm el
 have hP:P < s.tree.length:=(List.getElem?_eq_some_iff.1 hy).1
 have hll:l < s.tree.length:=by
  obtain ⟨l',r',e1,_,h1,_⟩:=inner_ok h.tree hy hlf
  omega
 have hel:=hp.len_l h.tree hll
 have hnv:=nv_le h.tree hll
 have h2:2 ^ nv s.tree l≤2 ^ 6:=Nat.pow_le_pow_right (by omega) (by omega)
 have h3:(2:Nat) ^ 6 = 64:=rfl
 have h4:el.length≤64:=by rw [←h3];exact Nat.le_trans hel h2
 have e1:(decN s P el).pl = (P:Int):=rfl
 have e2:(decN s P el).lit = 0:=rfl
 have e3:(decN s P el).el.length = el.length:=hperm.length_eq
 unfold smallN
 rw [e1,e2,e3]
 refine ⟨by omega,by omega,by omega,by omega,by omega,fun p hm=>?_⟩
 have:=hi p (hperm.mem_iff.1 hm)
 omega
theorem decide_spec {s:St} {k:Nat} (hR:Room s k) {P:Nat} {y:VN} {l r:Nat} (hy:s.tree[P]? = some y) (hlf:leafB y = false) (hl:y.left = l) (hr:y.right = r) {el:List (Nat × Nat)} (hp:Parts s.tree s.nodes l r el)
  (hi:∀ p∈el,p.1 < s.nodes.length∧p.2 < s.nodes.length) :
  ∃ c s',decideF s P el = some (c,s')∧Step s s'∧c < s'.nodes.length∧(∀ x,sem s'.nodes c x = el.any fun q=>sem s.nodes q.1 x && sem s.nodes q.2 x)∧big s'≤big s+if 5≤nv s.tree P then 1 else 0:=by
 have h:=hR.inv
 have hne:el≠[]:=fun e=>by have:=hp.two;rw [e] at this;simp at this
 obtain ⟨c,s',h1,h2,h3,h4,h5⟩:=add_spec hR (decN_small hR hy hlf hl hp hi) (.inr (decN_ok h hy hlf hl hr hp hi)) (decN_min h hy hlf hl hr hp hi)
 refine ⟨c,s',?_,h2,h3,fun x=>by rw [h4];exact decN_sem h hp hi x,?_⟩
 ·unfold decideF
  rw [if_pos ⟨hne,List.all_eq_true.2 fun p hm=>by simp [hi p hm],dec_aparts h hp hi⟩]
  exact h1
 ·have hb:bigN s.tree (decN s P el) = decide (5≤nv s.tree P):=by
   unfold bigN
   rw [show (decN s P el).pl = (P:Int) from rfl,decide_eq_true (by omega:(0:Int)≤P),Bool.true_and];rfl
  rw [hb] at h5
  simpa using h5
end Go.Proofs.YtmnjakejhbpkoaaGreatDoor.L
namespace Go.Proofs.YtmnjakejhbpkoaaGreatDoor.L
inductive All2 {α β:Type} (R:α→β→Prop):List α→List β→Prop
 | nil:All2 R [] []
 | cons {a:α} {b:β} {l:List α} {m:List β}:R a b→All2 R l m→All2 R (a :: l) (b :: m)
theorem All2.imp_mem {α β:Type} {R S:α→β→Prop}:∀ {l:List α} {m:List β},All2 R l m→(∀ a∈l,∀ b,R a b→S a b)→All2 S l m
 | _,_,.nil,_=>.nil
 | _,_,.cons h k,f=>.cons (f _ (List.mem_cons_self ..) _ h) (k.imp_mem fun a ha=>f a (List.mem_cons_of_mem _ ha))
theorem All2.length {α β:Type} {R:α→β→Prop}:∀ {l:List α} {m:List β},All2 R l m→m.length = l.length
 | _,_,.nil=>rfl
 | _,_,.cons _ k=>by simp [k.length]
theorem All2.right {α β:Type} {R:α→β→Prop}:∀ {l:List α} {m:List β},All2 R l m→∀ b∈m,∃ a∈l,R a b
 | _,_,.nil,b,hb=>by cases hb
 | _,_,.cons (a:=a) h k,b,hb=>by
   rcases List.mem_cons.1 hb with rfl | hb
   ·exact ⟨a,List.mem_cons_self ..,h⟩
   ·obtain ⟨c,hc,hr⟩:=k.right b hb
    exact ⟨c,List.mem_cons_of_mem _ hc,hr⟩
theorem All2.left {α β:Type} {R:α→β→Prop}:∀ {l:List α} {m:List β},All2 R l m→∀ a∈l,∃ b∈m,R a b
 | _,_,.nil,a,ha=>by cases ha
 | _,_,.cons (b:=b) h k,a,ha=>by
   rcases List.mem_cons.1 ha with rfl | ha
   ·exact ⟨b,List.mem_cons_self ..,h⟩
   ·obtain ⟨c,hc,hr⟩:=k.left a ha
    exact ⟨c,List.mem_cons_of_mem _ hc,hr⟩
theorem All2.pairwise {α β:Type} {R:α→β→Prop} {S:α→α→Prop} {T:β→β→Prop} (f:∀ a a' b b',R a b→R a' b'→S a a'→T b b') :
  ∀ {l:List α} {m:List β},All2 R l m→l.Pairwise S→m.Pairwise T
 | _,_,.nil,_=>.nil
 | _,_,.cons h k,hp=>by
   rw [List.pairwise_cons] at hp ⊢
   refine ⟨fun b hb=>?_,k.pairwise f hp.2⟩
   obtain ⟨a,ha,hr⟩:=k.right b hb
   exact f _ _ _ _ h hr (hp.1 a ha)
def Did (s:St) (c:Nat) (φ:Asg→Bool) (r:Option (Nat × St)):Prop:=∃ b s',r = some (b,s')∧Step s s'∧b < s'.nodes.length∧(∀ x,sem s'.nodes b x = φ x)∧big s'≤big s+c
def NotM (t:List VN) (v c:Nat) (g:St→Nat→Option (Nat × St)):Prop:=∀ s a,s.tree = t→Room s c→a < s.nodes.length→Dep (Bel t v) (sem s.nodes a)→Did s c (fun x=>!sem s.nodes a x) (g s a)
def AndM (t:List VN) (v c:Nat) (g:St→Nat→Nat→Option (Nat × St)):Prop:=∀ s a b,s.tree = t→Room s c→a < s.nodes.length→b < s.nodes.length→Dep (Bel t v) (sem s.nodes a)→Dep (Bel t v) (sem s.nodes b) →
 Did s c (fun x=>sem s.nodes a x && sem s.nodes b x) (g s a b)
def OrM (t:List VN) (v c:Nat) (g:St→Nat→Nat→Option (Nat × St)):Prop:=∀ s a b,s.tree = t→Room s c→a < s.nodes.length→b < s.nodes.length→Dep (Bel t v) (sem s.nodes a)→Dep (Bel t v) (sem s.nodes b) →
 Did s c (fun x=>sem s.nodes a x || sem s.nodes b x) (g s a b)
theorem Did.mono {s:St} {c d:Nat} {φ:Asg→Bool} {r:Option (Nat × St)} (h:Did s c φ r) (hcd:c≤d):Did s d φ r:=by
 obtain ⟨b,s',h1,h2,h3,h4,h5⟩:=h
 exact ⟨b,s',h1,h2,h3,h4,by omega⟩
theorem Room.next {s s':St} {k c m:Nat} (h:Room s k) (hS:Step s s') (hb:big s'≤big s+c) (hk:c+m≤k):Room s' m :=
 ⟨hS.inv,by rw [hS.tree];exact h.few,by have:=h.room;omega⟩
theorem Room.less {s:St} {k m:Nat} (h:Room s k) (hk:m≤k):Room s m:=⟨h.inv,h.few,by have:=h.room;omega⟩
def cn (n:Nat):Nat:=if n≤4 then 0 else if n = 5 then 1 else 3
def ca (n:Nat):Nat:=if n≤4 then 0 else if n = 5 then 2 else 118
theorem cn_mono {a b:Nat} (h:a≤b):cn a≤cn b:=by unfold cn;split <;> split <;> (try split) <;> (try split) <;> omega
theorem ca_mono {a b:Nat} (h:a≤b):ca a≤ca b:=by unfold ca;split <;> split <;> (try split) <;> (try split) <;> omega
theorem Inv.facts {s:St} (h:Inv s) {i:Nat} {n:SNode} (hn:s.nodes[i]? = some n) (hd:DecOK s.tree s.nodes i n) :
  ∃ (P:Nat) (y:VN) (l r:Nat),n.pl = P∧s.tree[P]? = some y∧leafB y = false∧y.left = l∧y.right = r∧Parts s.tree s.nodes l r n.el ∧
    (∀ p∈n.el,∀ q∈n.el,sem s.nodes p.2 = sem s.nodes q.2→p = q)∧Ess (Bel s.tree l) (sem s.nodes i)∧Ess (Bel s.tree r) (sem s.nodes i)∧Dep (Bel s.tree P) (sem s.nodes i) :=
 dec_facts h (k:=i+1) (fun _ _ _ _ ha hb e=>h.canon ha hb e) (Nat.le_succ i) hn hd
theorem Inv.const0 {s:St} (h:Inv s) {i:Nat} (hi:i < s.nodes.length) (hs:∀ x,sem s.nodes i x = false):i = 0 :=
 h.canon hi (by have:=h.len;omega) (funext fun x=>by rw [hs,h.sem0])
theorem Inv.const1 {s:St} (h:Inv s) {i:Nat} (hi:i < s.nodes.length) (hs:∀ x,sem s.nodes i x = true):i = 1 :=
 h.canon hi (by have:=h.len;omega) (funext fun x=>by rw [hs,h.sem1])
theorem Inv.at_und {s:St} (h:Inv s) {i:Nat} {n:SNode} (hi:2≤i) (hn:s.nodes[i]? = some n) {Q:Nat} (hd:Dep (Bel s.tree Q) (sem s.nodes i)):∃ P:Nat,n.pl = P∧P < s.tree.length∧Und s.tree Q P:=by
 rcases h.ok i n hi hn with hl | hk
 ·obtain ⟨u,y,h1,h2,h3,h4⟩:=hl.leaf
  refine ⟨u,h1,(List.getElem?_eq_some_iff.1 h2).1,?_⟩
  have he:Ess (Bel s.tree u) (sem s.nodes i):=by
   refine ⟨fun _=>true,fun v=>decide (v≠(n.lit.natAbs:Int)),fun v hv=>?_,?_⟩
   ·have:v≠(n.lit.natAbs:Int):=fun e=>hv ((Bel.leaf h.tree h2 h3 v).2 (e.trans h4.symm))
    simp [this]
   ·rw [h.semLit hn hl,h.semLit hn hl]
    simp only [ne_eq,not_true,decide_false]
    cases decide (0 < n.lit) <;> simp
  obtain ⟨v,hv,w,z,a1,a2,a3,a4⟩:=he.meets hd
  have e1:=(Bel.leaf h.tree h2 h3 v).1 hv
  have e2:=leaf_var h.tree a1 h2 a2 h3 (a3.trans e1)
  subst e2;exact a4
 ·obtain ⟨P,y,l,r,hP,hy,hlf,hl,hr,_,_,e1,e2,_⟩:=h.facts hn hk
  exact ⟨P,hP,(List.getElem?_eq_some_iff.1 hy).1,place_und h.tree hy hlf hl hr e1 e2 hd⟩
theorem Und.nv_le {t:List VN} (hc:checkF t = 0) {v u:Nat} (h:Und t v u):nv t u≤nv t v:=by
 induction h with
 | refl=>exact Nat.le_refl _
 | step h1 _ ih =>
   rename_i u _
   obtain ⟨y,hy,hlf,hk⟩:=pa_inner hc h1
   obtain ⟨l,r,e1,e2,_⟩:=inner_ok hc hy hlf
   have:=nv_inner hc hy hlf e1 e2
   rcases hk with hk | hk
   ·have:l = u:=by omega
    subst this;omega
   ·have:r = u:=by omega
    subst this;omega
def notsS (s:St) (a b:Nat):St:={ s with nots:=(b,a) :: (a,b) :: s.nots }
theorem Inv.nots_add {s:St} (h:Inv s) {a b:Nat} (ha:a < s.nodes.length) (hb:b < s.nodes.length) (e:∀ x,sem s.nodes b x = !sem s.nodes a x):Inv (notsS s a b) :=
 ⟨h.tree,h.zero,h.one,h.ok,h.min,h.uq1,h.uq2,h.ands,fun x y hxy=>by
   have hxy':(if x = b then some a else if x = a then some b else asc s.nots x) = some y:=hxy
   show x < s.nodes.length∧y < s.nodes.length∧∀ z,sem s.nodes y z = !sem s.nodes x z
   split at hxy'
   ·cases hxy';subst_vars;exact ⟨hb,ha,fun z=>by rw [e];simp⟩
   ·split at hxy'
    ·cases hxy';subst_vars;exact ⟨ha,hb,e⟩
    ·exact h.nots x y hxy'⟩
theorem Step.nots {s s':St} (h:Step s s') {a b:Nat} (ha:a < s'.nodes.length) (hb:b < s'.nodes.length) (e:∀ x,L.sem s'.nodes b x = !L.sem s'.nodes a x):Step s (notsS s' a b) :=
 ⟨h.inv.nots_add ha hb e,h.tree,h.ext⟩
theorem mapSubs_spec {t:List VN} {r c:Nat} {g:St→Nat→Option (Nat × St)} (hg:NotM t r c g):∀ (l:List (Nat × Nat)) (s:St),s.tree = t→Room s (l.length * c) →
  (∀ p∈l,p.1 < s.nodes.length∧p.2 < s.nodes.length∧Dep (Bel t r) (sem s.nodes p.2)) →
  ∃ l' s',mapSubs g s l = some (l',s')∧Step s s'∧big s'≤big s+l.length * c∧All2 (fun p q=>q.1 = p.1∧q.2 < s'.nodes.length∧∀ x,sem s'.nodes q.2 x = !sem s.nodes p.2 x) l l'
 | [],s,_,hR,_=>⟨[],s,rfl,Step.refl hR.inv,by omega,.nil⟩
 | p :: k,s,ht,hR,hp=>by
   have hc:(p :: k).length * c = c+k.length * c:=by rw [List.length_cons,Nat.succ_mul];omega
   rw [hc] at hR ⊢
   obtain ⟨p1,p2,p3⟩:=hp p (List.mem_cons_self ..)
   obtain ⟨q,s1,h1,h2,h3,h4,h5⟩:=hg s p.2 ht (hR.less (by omega)) p2 p3
   have hsem:∀ o∈k,sem s1.nodes o.2 = sem s.nodes o.2:=fun o ho=>h2.sem hR.inv (hp o (List.mem_cons_of_mem _ ho)).2.1
   obtain ⟨l',s',g1,g2,g3,g4⟩:=mapSubs_spec hg k s1 (h2.tree.trans ht) (hR.next h2 h5 (Nat.le_refl _)) (fun o ho=>by
    obtain ⟨o1,o2,o3⟩:=hp o (List.mem_cons_of_mem _ ho)
    have:=h2.len
    exact ⟨by omega,by omega,by rw [hsem o ho];exact o3⟩)
   refine ⟨(p.1,q) :: l',s',?_,h2.trans g2,by omega,.cons ⟨rfl,?_,fun x=>?_⟩ (g4.imp_mem fun o ho o' hr=>⟨hr.1,hr.2.1,fun x=>by rw [hr.2.2 x,hsem o ho]⟩)⟩
   ·rw [mapSubs,h1];simp only;rw [g1]
   ·have:=g2.len;show q < _;omega
   ·show sem s'.nodes q x = _
    rw [g2.sem h2.inv h3];exact h4 x
theorem Parts.neg {s s':St} (hi:Inv s) (hS:Step s s') {t:List VN} {l r:Nat} {el el':List (Nat × Nat)} (h:Parts t s.nodes l r el) (hb:∀ p∈el,p.1 < s.nodes.length∧p.2 < s.nodes.length)
  (hA:All2 (fun p q=>q.1 = p.1∧q.2 < s'.nodes.length∧∀ x,sem s'.nodes q.2 x = !sem s.nodes p.2 x) el el'):Parts t s'.nodes l r el'∧(∀ q∈el',q.1 < s'.nodes.length∧q.2 < s'.nodes.length) ∧
    ∀ x,(el'.any fun q=>sem s'.nodes q.1 x && sem s'.nodes q.2 x) = !el.any fun q=>sem s.nodes q.1 x && sem s.nodes q.2 x:=by
 have hA':All2 (fun p q=>(p.1 < s.nodes.length∧p.2 < s.nodes.length)∧sem s'.nodes q.1 = sem s.nodes p.1∧q.1 < s'.nodes.length∧q.2 < s'.nodes.length∧∀ x,sem s'.nodes q.2 x = !sem s.nodes p.2 x) el el' :=
  hA.imp_mem fun p hp q hr=>⟨hb p hp,by rw [hr.1];exact hS.sem hi (hb p hp).1,by rw [hr.1];have:=(hb p hp).1;have:=hS.len;omega,hr.2⟩
 have hP:Parts t s'.nodes l r el':=by
  refine ⟨fun q hq=>?_,fun q hq=>?_,fun q hq=>?_,?_,fun x=>?_,?_,?_,?_⟩
  ·obtain ⟨p,hp,hr⟩:=hA'.right q hq
   rw [hr.2.1];exact h.pdep p hp
  ·obtain ⟨p,hp,hr⟩:=hA'.right q hq
   intro x y hxy
   rw [hr.2.2.2.2,hr.2.2.2.2,h.sdep p hp x y hxy]
  ·obtain ⟨p,hp,hr⟩:=hA'.right q hq
   rw [hr.2.1];exact h.pne p hp
  ·exact hA'.pairwise (fun a a' b b' hr hr' hs x=>by rw [hr.2.1,hr'.2.1];exact hs x) h.disj
  ·obtain ⟨p,hp,hx⟩:=h.cover x
   obtain ⟨q,hq,hr⟩:=hA'.left p hp
   exact ⟨q,hq,by rw [hr.2.1];exact hx⟩
  ·refine hA'.pairwise (fun a a' b b' hr hr' hs e=>hs ?_) h.nd
   refine hi.canon hr.1.2 hr'.1.2 (funext fun x=>?_)
   have e1:=hr.2.2.2.2 x
   have e2:=hr'.2.2.2.2 x
   rw [e,e2] at e1
   simpa using e1.symm
  ·obtain ⟨p,hp,h2⟩:=h.big
   obtain ⟨q,hq,hr⟩:=hA'.left p hp
   refine ⟨q,hq,?_⟩
   apply Classical.byContradiction
   intro hlt
   have hq:q.2 = 0∨q.2 = 1:=by omega
   rcases hq with e | e
   ·have:=hi.const1 hr.1.2 (fun x=>by have h3:=hr.2.2.2.2 x;rw [e,hS.inv.sem0] at h3;simpa using h3)
    omega
   ·have:=hi.const0 hr.1.2 (fun x=>by have h3:=hr.2.2.2.2 x;rw [e,hS.inv.sem1] at h3;simpa using h3)
    omega
  ·rw [hA.length];exact h.two
 refine ⟨hP,fun q hq=>?_,fun x=>?_⟩
 ·obtain ⟨p,hp,hr⟩:=hA'.right q hq
  exact ⟨hr.2.2.1,hr.2.2.2.1⟩
 ·obtain ⟨p,hp,hx⟩:=h.cover x
  obtain ⟨q,hq,hr⟩:=hA'.left p hp
  rw [h.at hp hx,hP.at hq (by rw [hr.2.1];exact hx),hr.2.2.2.2]
theorem putNots_did {s:St} {a k:Nat} {r:Option (Nat × St)} (hi:Inv s) (ha:a < s.nodes.length) (h:Did s k (fun x=>!sem s.nodes a x) r):Did s k (fun x=>!sem s.nodes a x) (putNots a r):=by
 obtain ⟨b,s',h1,h2,h3,h4,h5⟩:=h
 have h6:=h2.len
 have h7:=h2.sem hi ha
 subst h1
 exact ⟨b,notsS s' a b,rfl,h2.nots (by omega) h3 (fun x=>by rw [h4,h7]),h3,h4,h5⟩
theorem not_spec {t:List VN} (hc:checkF t = 0) (hfew:t.length≤11):∀ v,v < t.length→∀ f,v+2≤f→NotM t v (cn (nv t v)) (notF f):=by
 intro v
 induction v using Nat.strongRecOn with
 | ind v ih =>
   intro hv f hf s a hst hR ha hd
   subst hst
   obtain ⟨f,rfl⟩:∃ g,f = g+1:=⟨f - 1,by omega⟩
   have h:=hR.inv
   rw [notF]
   by_cases h2:a < 2
   ·rw [if_pos h2]
    have hl:=h.len
    refine ⟨1 - a,s,rfl,Step.refl h,by omega,fun x=>?_,by omega⟩
    have:a = 0∨a = 1:=by omega
    rcases this with rfl | rfl
    ·show sem s.nodes 1 x = !sem s.nodes 0 x
     rw [h.sem0];exact h.sem1 x
    ·show sem s.nodes 0 x = !sem s.nodes 1 x
     rw [h.sem1];exact h.sem0 x
   ·rw [if_neg h2]
    cases hn:asc s.nots a with
    | some b =>
      obtain ⟨_,h4,h5⟩:=h.nots a b hn
      exact ⟨b,s,rfl,Step.refl h,h4,h5,by omega⟩
    | none =>
      have hg:s.nodes[a]? = some s.nodes[a]:=List.getElem?_eq_getElem ha
      rw [hg]
      simp only
      refine putNots_did h ha ?_
      generalize s.nodes[a] = n at hg
      obtain ⟨P,hP,hPl,hPu⟩:=h.at_und (by omega) hg hd
      rcases h.ok a n (by omega) hg with hl | hk
      ·unfold notNew
       rw [if_neg hl.lit]
       obtain ⟨u,y,e1,e2,e3,e4⟩:=hl.leaf
       obtain ⟨c,s',g1,g2,g3,g4,g5⟩:=literal_spec hR (l:=-n.lit) e2 e3 (by rw [e4];omega)
       refine ⟨c,s',by rw [e1];exact g1,g2,g3,fun x=>?_,by omega⟩
       rw [g4]
       show _ = !sem s.nodes a x
       rw [h.semLit hg hl]
       have hnz:=hl.lit
       have e5:(-n.lit).natAbs = n.lit.natAbs:=by omega
       rw [e5]
       by_cases hp:0 < n.lit
       ·rw [decide_eq_true hp,decide_eq_false (by omega:¬ 0 < -n.lit)]
        cases x (n.lit.natAbs:Int) <;> rfl
       ·rw [decide_eq_false hp,decide_eq_true (by omega:0 < -n.lit)]
        cases x (n.lit.natAbs:Int) <;> rfl
      ·unfold notNew
       rw [if_pos hk.lit]
       obtain ⟨P',y,l,r,e1,e2,e3,e4,e5,e6,e7,_⟩:=h.facts hg hk
       have hPP:P' = P:=by omega
       subst hPP
       obtain ⟨l',r',b1,b2,b3,b4,b5,_⟩:=inner_ok hc e2 e3
       obtain rfl:l' = l:=by omega
       obtain rfl:r' = r:=by omega
       have hPv:=hPu.le hc
       have hnvP:=hPu.nv_le hc
       have hnvi:=nv_inner hc e2 e3 e4 e5
       have hb:∀ p∈n.el,p.1 < s.nodes.length∧p.2 < s.nodes.length:=fun p hp=>by have:=hk.kids p hp;omega
       have hll:=e6.len_l hc (by omega)
       have hlr:=e6.len_r hc (by omega) e7
       have hcost:n.el.length * cn (nv s.tree r')+(if 5≤nv s.tree P' then 1 else 0)≤cn (nv s.tree v):=by
        refine Nat.le_trans ?_ (cn_mono hnvP)
        have hv6:=nv_le hc hPl
        have hp1:=nv_pos hc l' (by omega)
        have hp2:=nv_pos hc r' (by omega)
        by_cases h5:nv s.tree r' = 5
        ·have h6:nv s.tree l' = 1:=by omega
         have h7:nv s.tree P' = 6:=by omega
         rw [h6] at hll
         rw [h5,h7,show cn 5 = 1 from rfl,show cn 6 = 3 from rfl,if_pos (by omega)]
         simp only [Nat.pow_one] at hll
         omega
        ·have h8:cn (nv s.tree r') = 0:=by unfold cn;rw [if_pos (by omega)]
         rw [h8,Nat.mul_zero,Nat.zero_add]
         unfold cn
         split <;> split <;> (try split) <;> omega
       obtain ⟨el',s1,g1,g2,g3,g4⟩:=mapSubs_spec (ih r' (by omega) (by omega) f (by omega)) n.el s rfl (hR.less (by omega)) (fun p hp=>⟨(hb p hp).1,(hb p hp).2,e6.sdep p hp⟩)
       obtain ⟨k1,k2,k3⟩:=Parts.neg h g2 e6 hb g4
       rw [←g2.tree] at k1
       obtain ⟨c,s2,m1,m2,m3,m4,m5⟩:=decide_spec (hR.next g2 g3 (m:=if 5≤nv s.tree P' then 1 else 0) hcost) (P:=P') (by rw [g2.tree];exact e2) e3 e4 e5 k1 k2
       rw [g2.tree] at m5
       refine ⟨c,s2,?_,g2.trans m2,m3,fun x=>?_,by omega⟩
       ·rw [g1,e1];exact m1
       ·rw [m4,k3]
        show _ = !sem s.nodes a x
        rw [h.semDec hg hk]
end Go.Proofs.YtmnjakejhbpkoaaGreatDoor.L
namespace Go.Proofs.YtmnjakejhbpkoaaGreatDoor.L
abbrev DisjS (ns:List SNode) (p q:Nat × Nat):Prop:=∀ x,¬ (sem ns p.1 x = true∧sem ns q.1 x = true)
structure Sp (t:List VN) (ns:List SNode) (l r:Nat) (F:Asg→Bool) (el:List (Nat × Nat)):Prop where
 ib:∀ p∈el,p.1 < ns.length∧p.2 < ns.length
 pdep:∀ p∈el,Dep (Bel t l) (sem ns p.1)
 sdep:∀ p∈el,Dep (Bel t r) (sem ns p.2)
 pne:∀ p∈el,∃ x,sem ns p.1 x = true
 disj:el.Pairwise (DisjS ns)
 cover:∀ x,∃ p∈el,sem ns p.1 x = true
 val:∀ p∈el,∀ x,sem ns p.1 x = true→sem ns p.2 x = F x
theorem Sp.step {s s':St} (hi:Inv s) (hS:Step s s') {t:List VN} {l r:Nat} {F:Asg→Bool} {el:List (Nat × Nat)} (h:Sp t s.nodes l r F el):Sp t s'.nodes l r F el where
 ib p hp:=by have:=h.ib p hp;have:=hS.len;omega
 pdep p hp:=by rw [hS.sem hi (h.ib p hp).1];exact h.pdep p hp
 sdep p hp:=by rw [hS.sem hi (h.ib p hp).2];exact h.sdep p hp
 pne p hp:=by rw [hS.sem hi (h.ib p hp).1];exact h.pne p hp
 disj:=h.disj.imp_of_mem fun {a b} ha hb hab x=>by rw [hS.sem hi (h.ib a ha).1,hS.sem hi (h.ib b hb).1];exact hab x
 cover x:=by
  obtain ⟨p,hp,hx⟩:=h.cover x
  exact ⟨p,hp,by rw [hS.sem hi (h.ib p hp).1];exact hx⟩
 val p hp x hx:=by
  rw [hS.sem hi (h.ib p hp).1] at hx
  rw [hS.sem hi (h.ib p hp).2];exact h.val p hp x hx
theorem Parts.sp {t:List VN} {ns:List SNode} {l r:Nat} {el:List (Nat × Nat)} (h:Parts t ns l r el) (hb:∀ p∈el,p.1 < ns.length∧p.2 < ns.length):Sp t ns l r (fun x=>el.any fun q=>sem ns q.1 x && sem ns q.2 x) el :=
 ⟨hb,h.pdep,h.sdep,h.pne,h.disj,h.cover,fun _ hp _ hx=>(h.at hp hx).symm⟩
theorem meetS_some {s:St} (hc:checkF s.tree = 0) {a b:Nat} (ha:a < s.tree.length) (hb:b < s.tree.length):meetS s a b = some (meetT s.tree a b):=by
 unfold meetS
 rw [if_pos ⟨hc,by omega,by omega,by omega,by omega⟩]
 rfl
theorem one_pow (n:Nat):1≤2 ^ n:=Nat.one_le_two_pow
theorem two_pow {n:Nat} (h:1≤n):2≤2 ^ n:=by
 have:=Nat.pow_le_pow_right (n:=2) (by omega) h
 simpa using this
theorem spread_spec {t:List VN} (hc:checkF t = 0) {P:Nat} {y:VN} {l r:Nat} (hy:t[P]? = some y) (hlf:leafB y = false) (hl:y.left = l) (hr:y.right = r) {c:Nat} {g:St→Nat→Option (Nat × St)} (hg:NotM t l c g)
  {s:St} (ht:s.tree = t) (hR:Room s c) {a:Nat} (h2:2≤a) (ha:a < s.nodes.length) (hd:Dep (Bel t P) (sem s.nodes a)) :
  ∃ el s',spreadF g s a P = some (el,s')∧Step s s'∧big s'≤big s+c∧Sp t s'.nodes l r (sem s.nodes a) el∧el.length≤2 ^ nv t l∧el.length≤2 ^ (2 ^ nv t r):=by
 have h:=hR.inv
 subst ht
 have hP:P < s.tree.length:=(List.getElem?_eq_some_iff.1 hy).1
 obtain ⟨l',r',b1,b2,b3,b4,b5,b6,b7⟩:=inner_ok hc hy hlf
 obtain rfl:l' = l:=by omega
 obtain rfl:r' = r:=by omega
 have hn:s.nodes[a]? = some s.nodes[a]:=List.getElem?_eq_getElem ha
 generalize s.nodes[a] = n at hn
 obtain ⟨Q,hQ,hQl,hQu⟩:=h.at_und h2 hn hd
 have hlen:=h.len
 have np1:=nv_pos hc l' (by omega)
 have np2:=nv_pos hc r' (by omega)
 unfold spreadF
 rw [hn]
 simp only
 by_cases e:n.pl = (P:Int)
 ·rw [if_pos e]
  rcases h.ok a n h2 hn with hlit | hk
  ·obtain ⟨u,z,e1,e2,e3,_⟩:=hlit.leaf
   have:u = P:=by omega
   subst this
   rw [hy] at e2;cases e2;rw [hlf] at e3;cases e3
  ·obtain ⟨P',y',l,r,e1,e2,e3,e4,e5,e6,e7,_⟩:=h.facts hn hk
   have hPP:P' = P:=by omega
   subst hPP
   rw [hy] at e2;cases e2
   obtain rfl:l = l':=by omega
   obtain rfl:r = r':=by omega
   have hb:∀ p∈n.el,p.1 < s.nodes.length∧p.2 < s.nodes.length:=fun p hp=>by have:=hk.kids p hp;omega
   refine ⟨n.el,s,rfl,Step.refl h,by omega,?_,e6.len_l hc (by omega),e6.len_r hc (by omega) e7⟩
   have:=e6.sp hb
   rw [show sem s.nodes a = fun x=>n.el.any fun p=>sem s.nodes p.1 x && sem s.nodes p.2 x from funext fun x=>h.semDec hn hk x]
   exact this
 ·rw [if_neg e,hy]
  simp only
  rw [hQ,hl,meetS_some hc hQl (by omega)]
  simp only
  have hside:Und s.tree l' Q∨Und s.tree r' Q:=by
   rcases hQu.kids hc hy hl hr with e' | h3 | h3
   ·omega
   ·exact .inl h3
   ·exact .inr h3
  have hdQ:Dep (Bel s.tree Q) (sem s.nodes a):=by
   obtain ⟨P',f1,f2,f3⟩:=h.place h2 hn
   have:P' = Q:=by omega
   subst this;exact f3
  by_cases hm:((meetT s.tree Q l':Nat):Int) = (l':Int)
  ·rw [if_pos hm]
   have hu:Und s.tree l' Q:=(meet_und hc hQl (by omega)).1 (by omega)
   have hda:Dep (Bel s.tree l') (sem s.nodes a):=hdQ.mono fun v hv=>hv.up hu
   obtain ⟨b,s1,g1,g2,g3,g4,g5⟩:=hg s a rfl hR ha hda
   rw [g1]
   have hsa:=g2.sem h ha
   have hl1:=g2.len
   have hi1:=g2.inv
   refine ⟨[(a,1),(b,0)],s1,rfl,g2,g5,⟨fun p hp=>?_,fun p hp=>?_,fun p hp=>?_,fun p hp=>?_,?_,fun x=>?_,fun p hp x hx=>?_⟩,?_,?_⟩
   ·simp only [List.mem_cons,List.not_mem_nil,or_false] at hp
    rcases hp with rfl | rfl <;> simp <;> omega
   ·simp only [List.mem_cons,List.not_mem_nil,or_false] at hp
    rcases hp with rfl | rfl
    ·show Dep _ (sem s1.nodes a);rw [hsa];exact hda
    ·intro x z hxz
     show sem s1.nodes b x = sem s1.nodes b z
     rw [g4,g4]
     show (!_) = (!_)
     rw [hda x z hxz]
   ·simp only [List.mem_cons,List.not_mem_nil,or_false] at hp
    rcases hp with rfl | rfl
    ·intro x z _;show sem s1.nodes 1 x = sem s1.nodes 1 z;rw [hi1.sem1,hi1.sem1]
    ·intro x z _;show sem s1.nodes 0 x = sem s1.nodes 0 z;rw [hi1.sem0,hi1.sem0]
   ·simp only [List.mem_cons,List.not_mem_nil,or_false] at hp
    rcases hp with rfl | rfl
    ·apply Classical.byContradiction
     intro hno
     have:=h.const0 ha (fun x=>by
      cases hx:sem s.nodes a x
      ·rfl
      ·exact absurd ⟨x,by show sem s1.nodes a x = true;rw [hsa];exact hx⟩ hno)
     omega
    ·apply Classical.byContradiction
     intro hno
     have:=h.const1 ha (fun x=>by
      cases hx:sem s.nodes a x
      ·exact absurd ⟨x,by show sem s1.nodes b x = true;rw [g4];show (!_) = true;rw [hx];rfl⟩ hno
      ·rfl)
     omega
   ·rw [List.pairwise_cons]
    refine ⟨fun q hq x=>?_,List.pairwise_singleton _ _⟩
    rw [List.mem_singleton] at hq
    subst hq
    show ¬ (sem s1.nodes a x = true∧sem s1.nodes b x = true)
    rw [g4,hsa]
    show ¬ (sem s.nodes a x = true∧(!sem s.nodes a x) = true)
    cases sem s.nodes a x <;> simp
   ·cases hx:sem s.nodes a x
    ·exact ⟨(b,0),by simp,by show sem s1.nodes b x = true;rw [g4];show (!_) = true;rw [hx];rfl⟩
    ·exact ⟨(a,1),by simp,by show sem s1.nodes a x = true;rw [hsa];exact hx⟩
   ·simp only [List.mem_cons,List.not_mem_nil,or_false] at hp
    rcases hp with rfl | rfl
    ·have hx':sem s1.nodes a x = true:=hx
     rw [hsa] at hx'
     show sem s1.nodes 1 x = _
     rw [hi1.sem1,hx']
    ·have hx':sem s1.nodes b x = true:=hx
     rw [g4] at hx'
     have hx'':(!sem s.nodes a x) = true:=hx'
     show sem s1.nodes 0 x = _
     rw [hi1.sem0]
     cases hh:sem s.nodes a x
     ·rfl
     ·rw [hh] at hx'';cases hx''
   ·show 2≤_;exact two_pow np1
   ·show 2≤_;exact two_pow (one_pow _)
  ·rw [if_neg hm]
   have hu:Und s.tree r' Q:=by
    rcases hside with h3 | h3
    ·exact absurd (by rw [(meet_und hc hQl (by omega)).2 h3]) hm
    ·exact h3
   have hda:Dep (Bel s.tree r') (sem s.nodes a):=hdQ.mono fun v hv=>hv.up hu
   refine ⟨[(1,a)],s,rfl,Step.refl h,by omega,⟨fun p hp=>?_,fun p hp=>?_,fun p hp=>?_,fun p hp=>?_,List.pairwise_singleton _ _,fun x=>⟨(1,a),by simp,h.sem1 x⟩,fun p hp x hx=>?_⟩,?_,?_⟩
   ·rw [List.mem_singleton] at hp;subst hp;exact ⟨by show 1 < _;omega,ha⟩
   ·rw [List.mem_singleton] at hp;subst hp;intro x z _;show sem s.nodes 1 x = sem s.nodes 1 z;rw [h.sem1,h.sem1]
   ·rw [List.mem_singleton] at hp;subst hp;exact hda
   ·rw [List.mem_singleton] at hp;subst hp;exact ⟨fun _=>true,h.sem1 _⟩
   ·rw [List.mem_singleton] at hp;subst hp;rfl
   ·exact one_pow _
   ·exact one_pow _
structure PairOK (t:List VN) (ns:List SNode) (l r:Nat) (p:Nat × Nat):Prop where
 b1:p.1 < ns.length
 b2:p.2 < ns.length
 d1:Dep (Bel t l) (sem ns p.1)
 d2:Dep (Bel t r) (sem ns p.2)
theorem PairOK.step {s s':St} (hi:Inv s) (hS:Step s s') {t:List VN} {l r:Nat} {p:Nat × Nat} (h:PairOK t s.nodes l r p):PairOK t s'.nodes l r p :=
 ⟨by have:=h.b1;have:=hS.len;omega,by have:=h.b2;have:=hS.len;omega,by rw [hS.sem hi h.b1];exact h.d1,by rw [hS.sem hi h.b2];exact h.d2⟩
structure ProdOK (n n':List SNode) (p q o:Nat × Nat):Prop where
 b1:o.1 < n'.length
 b2:o.2 < n'.length
 ne:∃ x,sem n' o.1 x = true
 e1:∀ x,sem n' o.1 x = (sem n p.1 x && sem n q.1 x)
 e2:∀ x,sem n' o.2 x = (sem n p.2 x && sem n q.2 x)
theorem ProdOK.step {n:List SNode} {s s':St} (hi:Inv s) (hS:Step s s') {p q o:Nat × Nat} (h:ProdOK n s.nodes p q o):ProdOK n s'.nodes p q o :=
 ⟨by have:=h.b1;have:=hS.len;omega,by have:=h.b2;have:=hS.len;omega,by rw [hS.sem hi h.b1];exact h.ne,by rw [hS.sem hi h.b1];exact h.e1,by rw [hS.sem hi h.b2];exact h.e2⟩
theorem ProdOK.from {t:List VN} {l r:Nat} {s s':St} {n':List SNode} (hi:Inv s) (hS:Step s s') {p q o:Nat × Nat} (hp:PairOK t s.nodes l r p) (hq:PairOK t s.nodes l r q) (h:ProdOK s'.nodes n' p q o):ProdOK s.nodes n' p q o :=
 ⟨h.b1,h.b2,h.ne,fun x=>by rw [h.e1,hS.sem hi hp.b1,hS.sem hi hq.b1],fun x=>by rw [h.e2,hS.sem hi hp.b2,hS.sem hi hq.b2]⟩
theorem row_spec {t:List VN} {l r cl cr:Nat} {af:St→Nat→Nat→Option (Nat × St)} (hl:AndM t l cl af) (hr:AndM t r cr af) (p:Nat × Nat):∀ (right:List (Nat × Nat)) (s:St) (out:List (Nat × Nat)),s.tree = t→Room s (right.length * (cl+cr)) →
  PairOK t s.nodes l r p→(∀ q∈right,PairOK t s.nodes l r q) →
  ∃ new s',andRow af p right s out = some (out++new,s')∧Step s s'∧big s'≤big s+right.length * (cl+cr)∧new.length≤right.length ∧
    (∀ o∈new,∃ q∈right,ProdOK s.nodes s'.nodes p q o) ∧
    (∀ q∈right,∀ x,sem s.nodes p.1 x = true→sem s.nodes q.1 x = true→∃ o∈new,sem s'.nodes o.1 x = true) ∧
    (right.Pairwise (DisjS s.nodes)→new.Pairwise (DisjS s'.nodes))
 | [],s,out,_,hR,_,_=>⟨[],s,by rw [andRow,List.append_nil],Step.refl hR.inv,by omega,Nat.le_refl _,(fun _ h=>by cases h),(fun _ h=>by cases h),fun _=>.nil⟩
 | q :: k,s,out,ht,hR,hp,hq=>by
   have hc:(q :: k).length * (cl+cr) = (cl+cr)+k.length * (cl+cr):=by rw [List.length_cons,Nat.succ_mul];omega
   rw [hc] at hR ⊢
   have hi:=hR.inv
   have hq0:=hq q (List.mem_cons_self ..)
   obtain ⟨pr,s1,h1,h2,h3,h4,h5⟩:=hl s p.1 q.1 ht (hR.less (by omega)) hp.b1 hq0.b1 hp.d1 hq0.d1
   have hi1:=h2.inv
   have hk1:∀ q∈k,PairOK t s1.nodes l r q:=fun q' hq'=>(hq q' (List.mem_cons_of_mem _ hq')).step hi h2
   rw [andRow,h1]
   simp only
   by_cases e:pr = 0
   ·rw [if_pos e]
    subst e
    obtain ⟨new,s',g1,g2,g3,g4,g5,g6,g7⟩:=row_spec hl hr p k s1 out (h2.tree.trans ht) (hR.next h2 h5 (by omega)) (hp.step hi h2) hk1
    refine ⟨new,s',g1,h2.trans g2,by omega,by simp only [List.length_cons];omega,fun o ho=>?_,fun q' hq' x hx1 hx2=>?_,fun hpw=>?_⟩
    ·obtain ⟨q',hq',hh⟩:=g5 o ho
     exact ⟨q',List.mem_cons_of_mem _ hq',hh.from hi h2 hp (hq q' (List.mem_cons_of_mem _ hq'))⟩
    ·rcases List.mem_cons.1 hq' with rfl | hq'
     ·have h6:=h4 x
      have h7:sem s1.nodes 0 x = (sem s.nodes p.1 x && sem s.nodes q'.1 x):=h6
      rw [hi1.sem0,hx1,hx2] at h7;cases h7
     ·exact g6 q' hq' x (by rw [h2.sem hi hp.b1];exact hx1) (by rw [h2.sem hi (hq q' (List.mem_cons_of_mem _ hq')).b1];exact hx2)
    ·rw [List.pairwise_cons] at hpw
     exact g7 (hpw.2.imp_of_mem fun {a b} ha hb hab x=>by
      rw [h2.sem hi (hq a (List.mem_cons_of_mem _ ha)).b1,h2.sem hi (hq b (List.mem_cons_of_mem _ hb)).b1];exact hab x)
   ·rw [if_neg e]
    have hp1:=hp.step hi h2
    have hq1:=hq0.step hi h2
    obtain ⟨su,s2,k1,k2,k3,k4,k5⟩:=hr s1 p.2 q.2 (h2.tree.trans ht) (hR.next h2 h5 (m:=cr) (by omega)) hp1.b2 hq1.b2 hp1.d2 hq1.d2
    rw [k1]
    simp only
    have h12:=h2.trans k2
    have hi2:=k2.inv
    have hk2:∀ q∈k,PairOK t s2.nodes l r q:=fun q' hq'=>(hq q' (List.mem_cons_of_mem _ hq')).step hi h12
    obtain ⟨new,s',g1,g2,g3,g4,g5,g6,g7⟩:=row_spec hl hr p k s2 (out++[(pr,su)]) (h12.tree.trans ht) (hR.next h12 (c:=cl+cr) (by omega) (by omega)) (hp.step hi h12) hk2
    have hpr2:pr < s2.nodes.length:=by have:=k2.len;omega
    have hprod:ProdOK s.nodes s2.nodes p q (pr,su):=by
     have e1:∀ x,sem s2.nodes pr x = (sem s.nodes p.1 x && sem s.nodes q.1 x):=fun x=>by rw [k2.sem hi1 h3];exact h4 x
     refine ⟨hpr2,k3,?_,e1,fun x=>?_⟩
     ·apply Classical.byContradiction
      intro hno
      exact e (hi2.const0 hpr2 fun x=>by
       cases hx:sem s2.nodes pr x
       ·rfl
       ·exact absurd ⟨x,hx⟩ hno)
     ·show sem s2.nodes su x = _
      rw [k4,h2.sem hi hp.b2,h2.sem hi hq0.b2]
    have hprod':=hprod.step hi2 g2
    refine ⟨(pr,su) :: new,s',by rw [g1,List.append_assoc];rfl,h12.trans g2,by omega,by simp only [List.length_cons];omega,fun o ho=>?_,fun q' hq' x hx1 hx2=>?_,fun hpw=>?_⟩
    ·rcases List.mem_cons.1 ho with rfl | ho
     ·exact ⟨q,List.mem_cons_self ..,hprod'⟩
     ·obtain ⟨q',hq',hh⟩:=g5 o ho
      exact ⟨q',List.mem_cons_of_mem _ hq',hh.from hi h12 hp (hq q' (List.mem_cons_of_mem _ hq'))⟩
    ·rcases List.mem_cons.1 hq' with rfl | hq'
     ·exact ⟨(pr,su),List.mem_cons_self ..,by rw [hprod'.e1,hx1,hx2];rfl⟩
     ·obtain ⟨o,ho,hx⟩:=g6 q' hq' x (by rw [h12.sem hi hp.b1];exact hx1) (by rw [h12.sem hi (hq q' (List.mem_cons_of_mem _ hq')).b1];exact hx2)
      exact ⟨o,List.mem_cons_of_mem _ ho,hx⟩
    ·rw [List.pairwise_cons] at hpw ⊢
     refine ⟨fun o ho x hx=>?_,g7 (hpw.2.imp_of_mem fun {a b} ha hb hab x=>by
      rw [h12.sem hi (hq a (List.mem_cons_of_mem _ ha)).b1,h12.sem hi (hq b (List.mem_cons_of_mem _ hb)).b1];exact hab x)⟩
     obtain ⟨q',hq',hh⟩:=g5 o ho
     have hh':=hh.from hi h12 hp (hq q' (List.mem_cons_of_mem _ hq'))
     rw [hprod'.e1,hh'.e1,Bool.and_eq_true,Bool.and_eq_true] at hx
     exact hpw.1 q' hq' x ⟨hx.1.2,hx.2.2⟩
theorem all_spec {t:List VN} {l r cl cr:Nat} {af:St→Nat→Nat→Option (Nat × St)} (hl:AndM t l cl af) (hr:AndM t r cr af) (right:List (Nat × Nat)):∀ (left:List (Nat × Nat)) (s:St) (out:List (Nat × Nat)),s.tree = t→Room s (left.length * (right.length * (cl+cr))) →
  (∀ p∈left,PairOK t s.nodes l r p)→(∀ q∈right,PairOK t s.nodes l r q) →
  ∃ new s',andAll af right left s out = some (out++new,s')∧Step s s'∧big s'≤big s+left.length * (right.length * (cl+cr))∧new.length≤left.length * right.length ∧
    (∀ o∈new,∃ p∈left,∃ q∈right,ProdOK s.nodes s'.nodes p q o) ∧
    (∀ p∈left,∀ q∈right,∀ x,sem s.nodes p.1 x = true→sem s.nodes q.1 x = true→∃ o∈new,sem s'.nodes o.1 x = true) ∧
    (right.Pairwise (DisjS s.nodes)→left.Pairwise (DisjS s.nodes)→new.Pairwise (DisjS s'.nodes))
 | [],s,out,_,hR,_,_=>⟨[],s,by rw [andAll,List.append_nil],Step.refl hR.inv,by omega,by simp,(fun _ h=>by cases h),(fun _ h=>by cases h),fun _ _=>.nil⟩
 | p :: k,s,out,ht,hR,hp,hq=>by
   have hc:(p :: k).length * (right.length * (cl+cr)) = right.length * (cl+cr)+k.length * (right.length * (cl+cr)):=by rw [List.length_cons,Nat.succ_mul];omega
   have hc2:(p :: k).length * right.length = right.length+k.length * right.length:=by rw [List.length_cons,Nat.succ_mul];omega
   rw [hc] at hR ⊢
   rw [hc2]
   have hi:=hR.inv
   have hp0:=hp p (List.mem_cons_self ..)
   obtain ⟨n1,s1,h1,h2,h3,h4,h5,h6,h7⟩:=row_spec hl hr p right s out ht (hR.less (by omega)) hp0 hq
   obtain ⟨n2,s',g1,g2,g3,g4,g5,g6,g7⟩:=all_spec hl hr right k s1 (out++n1) (h2.tree.trans ht) (hR.next h2 h3 (Nat.le_refl _)) (fun p' hp'=>(hp p' (List.mem_cons_of_mem _ hp')).step hi h2) (fun q hq'=>(hq q hq').step hi h2)
   have hi1:=h2.inv
   rw [andAll,h1]
   simp only
   refine ⟨n1++n2,s',by rw [g1,List.append_assoc],h2.trans g2,by omega,by rw [List.length_append];omega,fun o ho=>?_,fun p' hp' q hq' x hx1 hx2=>?_,fun hpr hpl=>?_⟩
   ·rcases List.mem_append.1 ho with ho | ho
    ·obtain ⟨q,hq',hh⟩:=h5 o ho
     exact ⟨p,List.mem_cons_self ..,q,hq',hh.step hi1 g2⟩
    ·obtain ⟨p',hp',q,hq',hh⟩:=g5 o ho
     exact ⟨p',List.mem_cons_of_mem _ hp',q,hq',hh.from hi h2 (hp p' (List.mem_cons_of_mem _ hp')) (hq q hq')⟩
   ·rcases List.mem_cons.1 hp' with rfl | hp'
    ·obtain ⟨o,ho,hx⟩:=h6 q hq' x hx1 hx2
     obtain ⟨q'',_,hh⟩:=h5 o ho
     exact ⟨o,List.mem_append_left _ ho,by rw [g2.sem hi1 hh.b1];exact hx⟩
    ·obtain ⟨o,ho,hx⟩:=g6 p' hp' q hq' x (by rw [h2.sem hi (hp p' (List.mem_cons_of_mem _ hp')).b1];exact hx1) (by rw [h2.sem hi (hq q hq').b1];exact hx2)
     exact ⟨o,List.mem_append_right _ ho,hx⟩
   ·rw [List.pairwise_cons] at hpl
    rw [List.pairwise_append]
    refine ⟨(h7 hpr).imp_of_mem fun {a b} ha hb hab x=>?_,g7 (hpr.imp_of_mem fun {a b} ha hb hab x=>?_) (hpl.2.imp_of_mem fun {a b} ha hb hab x=>?_),fun a ha b hb x hx=>?_⟩
    ·obtain ⟨_,_,ka⟩:=h5 a ha
     obtain ⟨_,_,kb⟩:=h5 b hb
     rw [g2.sem hi1 ka.b1,g2.sem hi1 kb.b1];exact hab x
    ·rw [h2.sem hi (hq a ha).b1,h2.sem hi (hq b hb).b1];exact hab x
    ·rw [h2.sem hi (hp a (List.mem_cons_of_mem _ ha)).b1,h2.sem hi (hp b (List.mem_cons_of_mem _ hb)).b1];exact hab x
    ·obtain ⟨q,hq',ka⟩:=h5 a ha
     obtain ⟨p',hp',q'',hq'',kb⟩:=g5 b hb
     have ka':=ka.step hi1 g2
     have kb':=kb.from hi h2 (hp p' (List.mem_cons_of_mem _ hp')) (hq q'' hq'')
     rw [ka'.e1,kb'.e1,Bool.and_eq_true,Bool.and_eq_true] at hx
     exact hpl.1 p' hp' x ⟨hx.1.1,hx.2.1⟩
theorem prods_sp {t:List VN} {s s':St} (hS:Step s s') {l r:Nat} {F G:Asg→Bool} {left right new:List (Nat × Nat)} (hL:Sp t s.nodes l r F left) (hRr:Sp t s.nodes l r G right)
  (h1:∀ o∈new,∃ p∈left,∃ q∈right,ProdOK s.nodes s'.nodes p q o) (h2:∀ p∈left,∀ q∈right,∀ x,sem s.nodes p.1 x = true→sem s.nodes q.1 x = true→∃ o∈new,sem s'.nodes o.1 x = true)
  (h3:right.Pairwise (DisjS s.nodes)→left.Pairwise (DisjS s.nodes)→new.Pairwise (DisjS s'.nodes)):Sp t s'.nodes l r (fun x=>F x && G x) new:=by
 refine ⟨fun o ho=>?_,fun o ho=>?_,fun o ho=>?_,fun o ho=>?_,h3 hRr.disj hL.disj,fun x=>?_,fun o ho x hx=>?_⟩
 ·obtain ⟨_,_,_,_,k⟩:=h1 o ho;exact ⟨k.b1,k.b2⟩
 ·obtain ⟨p,hp,q,hq,k⟩:=h1 o ho
  intro x y hxy
  rw [k.e1,k.e1,hL.pdep p hp x y hxy,hRr.pdep q hq x y hxy]
 ·obtain ⟨p,hp,q,hq,k⟩:=h1 o ho
  intro x y hxy
  rw [k.e2,k.e2,hL.sdep p hp x y hxy,hRr.sdep q hq x y hxy]
 ·obtain ⟨_,_,_,_,k⟩:=h1 o ho;exact k.ne
 ·obtain ⟨p,hp,px⟩:=hL.cover x
  obtain ⟨q,hq,qx⟩:=hRr.cover x
  exact h2 p hp q hq x px qx
 ·obtain ⟨p,hp,q,hq,k⟩:=h1 o ho
  rw [k.e1,Bool.and_eq_true] at hx
  rw [k.e2,hL.val p hp x hx.1,hRr.val q hq x hx.2]
end Go.Proofs.YtmnjakejhbpkoaaGreatDoor.L
namespace Go.Proofs.YtmnjakejhbpkoaaGreatDoor.L
structure Mk (s:St) (done m:List (Nat × Nat)) (u:List Nat):Prop where
 nd:u.Nodup
 mem:∀ z,z∈u↔∃ p∈done,p.2 = z
 some:∀ z∈u,∃ q,asc m z = some q∧q < s.nodes.length∧∀ x,sem s.nodes q x = true↔∃ p∈done,p.2 = z∧sem s.nodes p.1 x = true
 none:∀ z,z∉u→asc m z = none
 len:u.length≤done.length
theorem mkStep_spec {t:List VN} {l r co:Nat} {of:St→Nat→Nat→Option (Nat × St)} (ho:OrM t l co of):∀ (rest:List (Nat × Nat)) (s:St) (done m:List (Nat × Nat)) (u:List Nat),s.tree = t→Room s (rest.length * co) →
  (∀ p∈done,PairOK t s.nodes l r p)→(∀ p∈rest,PairOK t s.nodes l r p)→Mk s done m u →
  ∃ s' m' u',mkStep of rest s m u = some (s',m',u')∧Step s s'∧big s'≤big s+rest.length * co∧Mk s' (done++rest) m' u'
 | [],s,done,m,u,_,hR,_,_,hM=>⟨s,m,u,rfl,Step.refl hR.inv,by omega,by rw [List.append_nil];exact hM⟩
 | p :: k,s,done,m,u,ht,hR,hd,hr,hM=>by
   have hc:(p :: k).length * co = co+k.length * co:=by rw [List.length_cons,Nat.succ_mul];omega
   rw [hc] at hR ⊢
   have hi:=hR.inv
   have hp:=hr p (List.mem_cons_self ..)
   rw [show done++p :: k = (done++[p])++k by simp]
   rw [mkStep]
   have hmem:∀ z,(∃ o∈done++[p],o.2 = z)↔(∃ o∈done,o.2 = z)∨p.2 = z:=fun z=>by
    constructor
    ·rintro ⟨o,ho',e⟩
     rcases List.mem_append.1 ho' with h | h
     ·exact .inl ⟨o,h,e⟩
     ·rw [List.mem_singleton] at h;subst h;exact .inr e
    ·rintro (⟨o,ho',e⟩ | e)
     ·exact ⟨o,List.mem_append_left _ ho',e⟩
     ·exact ⟨p,by simp,e⟩
   have hmem2:∀ (ns:List SNode) z x,(∃ o∈done++[p],o.2 = z∧sem ns o.1 x = true)↔(∃ o∈done,o.2 = z∧sem ns o.1 x = true)∨(p.2 = z∧sem ns p.1 x = true):=fun ns z x=>by
    constructor
    ·rintro ⟨o,ho',e⟩
     rcases List.mem_append.1 ho' with h | h
     ·exact .inl ⟨o,h,e⟩
     ·rw [List.mem_singleton] at h;subst h;exact .inr e
    ·rintro (⟨o,ho',e⟩ | e)
     ·exact ⟨o,List.mem_append_left _ ho',e⟩
     ·exact ⟨p,by simp,e⟩
   by_cases hu:p.2∈u
   ·obtain ⟨q,hq1,hq2,hq3⟩:=hM.some _ hu
    rw [hq1]
    simp only
    have hqd:Dep (Bel t l) (sem s.nodes q):=fun x y hxy=>by
     rw [Bool.eq_iff_iff,hq3,hq3]
     constructor
     ·rintro ⟨o,ho',e1,e2⟩
      exact ⟨o,ho',e1,by rw [←(hd o ho').d1 x y hxy];exact e2⟩
     ·rintro ⟨o,ho',e1,e2⟩
      exact ⟨o,ho',e1,by rw [(hd o ho').d1 x y hxy];exact e2⟩
    obtain ⟨z,s1,h1,h2,h3,h4,h5⟩:=ho s q p.1 ht (hR.less (by omega)) hq2 hp.b1 hqd hp.d1
    rw [h1]
    simp only
    have hM1:Mk s1 (done++[p]) ((p.2,z) :: m) u:=by
     refine ⟨hM.nd,fun w=>?_,fun w hw=>?_,fun w hw=>?_,by rw [List.length_append];have:=hM.len;omega⟩
     ·rw [hmem,←hM.mem]
      refine ⟨.inl,fun h=>h.elim id fun (e:p.2 = w)=>by rw [←e];exact hu⟩
     ·rw [asc_cons]
      by_cases e:w = p.2
      ·subst e
       refine ⟨z,if_pos rfl,h3,fun x=>?_⟩
       rw [h4,hmem2]
       show (sem s.nodes q x || sem s.nodes p.1 x) = true↔_
       rw [Bool.or_eq_true,hq3,h2.sem hi hp.b1]
       refine or_congr ⟨?_,?_⟩ ⟨fun h=>⟨rfl,h⟩,fun h=>h.2⟩
       ·rintro ⟨o,ho',e1,e2⟩;exact ⟨o,ho',e1,by rw [h2.sem hi (hd o ho').b1];exact e2⟩
       ·rintro ⟨o,ho',e1,e2⟩;exact ⟨o,ho',e1,by rw [←h2.sem hi (hd o ho').b1];exact e2⟩
      ·obtain ⟨q',k1,k2,k3⟩:=hM.some w hw
       refine ⟨q',by rw [if_neg e];exact k1,by have:=h2.len;omega,fun x=>?_⟩
       rw [hmem2,h2.sem hi k2,k3]
       constructor
       ·rintro ⟨o,ho',e1,e2⟩;exact .inl ⟨o,ho',e1,by rw [h2.sem hi (hd o ho').b1];exact e2⟩
       ·rintro (⟨o,ho',e1,e2⟩ | ⟨e1,_⟩)
        ·exact ⟨o,ho',e1,by rw [←h2.sem hi (hd o ho').b1];exact e2⟩
        ·exact absurd e1.symm e
     ·rw [asc_cons,if_neg (fun e:w = p.2=>hw (by rw [e];exact hu))];exact hM.none w hw
    obtain ⟨s',m',u',g1,g2,g3,g4⟩:=mkStep_spec (r:=r) ho k s1 (done++[p]) ((p.2,z) :: m) u (h2.tree.trans ht) (hR.next h2 h5 (Nat.le_refl _))
     (fun o ho'=>(by
       rcases List.mem_append.1 ho' with h | h
       ·exact hd o h
       ·rw [List.mem_singleton] at h;subst h;exact hp:PairOK t s.nodes l r o).step hi h2) (fun o ho'=>(hr o (List.mem_cons_of_mem _ ho')).step hi h2) hM1
    exact ⟨s',m',u',g1,h2.trans g2,by omega,g4⟩
   ·rw [hM.none _ hu]
    simp only
    have hM1:Mk s (done++[p]) ((p.2,p.1) :: m) (u++[p.2]):=by
     refine ⟨?_,fun w=>?_,fun w hw=>?_,fun w hw=>?_,by rw [List.length_append,List.length_append];have:=hM.len;simp only [List.length_singleton];omega⟩
     ·rw [List.nodup_append]
      refine ⟨hM.nd,by simp,fun a ha b hb e=>?_⟩
      rw [List.mem_singleton] at hb
      subst hb;subst e;exact hu ha
     ·rw [hmem,←hM.mem,List.mem_append,List.mem_singleton]
      exact ⟨fun h=>h.imp id Eq.symm,fun h=>h.imp id Eq.symm⟩
     ·rw [asc_cons]
      by_cases e:w = p.2
      ·subst e
       refine ⟨p.1,if_pos rfl,hp.b1,fun x=>?_⟩
       rw [hmem2]
       refine ⟨fun h=>.inr ⟨rfl,h⟩,fun h=>h.elim (fun ⟨o,ho',e1,_⟩=>absurd ((hM.mem _).2 ⟨o,ho',e1⟩) hu) fun h=>h.2⟩
      ·rw [List.mem_append,List.mem_singleton] at hw
       obtain ⟨q',k1,k2,k3⟩:=hM.some w (hw.resolve_right e)
       refine ⟨q',by rw [if_neg e];exact k1,k2,fun x=>?_⟩
       rw [hmem2,k3]
       exact ⟨.inl,fun h=>h.elim id fun h=>absurd h.1.symm e⟩
     ·rw [List.mem_append,List.mem_singleton,not_or] at hw
      rw [asc_cons,if_neg hw.2];exact hM.none w hw.1
    obtain ⟨s',m',u',g1,g2,g3,g4⟩:=mkStep_spec (r:=r) ho k s (done++[p]) ((p.2,p.1) :: m) (u++[p.2]) ht (hR.less (by omega))
     (fun o ho'=>by
       rcases List.mem_append.1 ho' with h | h
       ·exact hd o h
       ·rw [List.mem_singleton] at h;subst h;exact hp) (fun o ho'=>hr o (List.mem_cons_of_mem _ ho')) hM1
    exact ⟨s',m',u',g1,g2,by omega,g4⟩
theorem pairwise_mem {α:Type} {R:α→α→Prop} (hs:∀ a b,R a b→R b a):∀ {l:List α},l.Pairwise R→∀ a∈l,∀ b∈l,a≠b→R a b
 | [],_,a,ha,_,_,_=>by cases ha
 | c :: k,h,a,ha,b,hb,hne=>by
   rw [List.pairwise_cons] at h
   rcases List.mem_cons.1 ha with rfl | ha'
   ·rcases List.mem_cons.1 hb with rfl | hb'
    ·exact absurd rfl hne
    ·exact h.1 b hb'
   ·rcases List.mem_cons.1 hb with rfl | hb'
    ·exact hs _ _ (h.1 a ha')
    ·exact pairwise_mem hs h.2 a ha' b hb' hne
theorem ascD_some {m:List (Nat × Nat)} {z q:Nat} (h:asc m z = some q):ascD m z = q:=by unfold ascD;rw [h]
theorem mk_parts {t:List VN} {s:St} {l r:Nat} {F:Asg→Bool} {el m:List (Nat × Nat)} {u:List Nat} (h:Sp t s.nodes l r F el) (hM:Mk s el m u) (h2:2≤u.length) (hb:∃ z∈u,2≤z) :
  Parts t s.nodes l r (u.map fun x=>(ascD m x,x))∧(∀ p∈u.map (fun x=>(ascD m x,x)),p.1 < s.nodes.length∧p.2 < s.nodes.length) ∧
   ∀ x,((u.map fun x=>(ascD m x,x)).any fun q=>sem s.nodes q.1 x && sem s.nodes q.2 x) = F x:=by
 have hq:∀ z∈u,ascD m z < s.nodes.length∧∀ x,sem s.nodes (ascD m z) x = true↔∃ p∈el,p.2 = z∧sem s.nodes p.1 x = true:=fun z hz=>by
  obtain ⟨q,h1,h2,h3⟩:=hM.some z hz
  rw [ascD_some h1];exact ⟨h2,h3⟩
 have hel:∀ z∈u,∃ p∈el,p.2 = z:=fun z hz=>(hM.mem z).1 hz
 have hP:Parts t s.nodes l r (u.map fun x=>(ascD m x,x)):=by
  refine ⟨fun p hp=>?_,fun p hp=>?_,fun p hp=>?_,?_,fun x=>?_,?_,?_,?_⟩
  ·obtain ⟨z,hz,rfl⟩:=List.mem_map.1 hp
   intro x y hxy
   show sem s.nodes (ascD m z) x = sem s.nodes (ascD m z) y
   rw [Bool.eq_iff_iff,(hq z hz).2,(hq z hz).2]
   constructor
   ·rintro ⟨o,ho,e1,e2⟩;exact ⟨o,ho,e1,by rw [←h.pdep o ho x y hxy];exact e2⟩
   ·rintro ⟨o,ho,e1,e2⟩;exact ⟨o,ho,e1,by rw [h.pdep o ho x y hxy];exact e2⟩
  ·obtain ⟨z,hz,rfl⟩:=List.mem_map.1 hp
   obtain ⟨o,ho,e⟩:=hel z hz
   have:=h.sdep o ho
   rw [e] at this;exact this
  ·obtain ⟨z,hz,rfl⟩:=List.mem_map.1 hp
   obtain ⟨o,ho,e⟩:=hel z hz
   obtain ⟨x,hx⟩:=h.pne o ho
   exact ⟨x,((hq z hz).2 x).2 ⟨o,ho,e,hx⟩⟩
  ·rw [List.pairwise_map]
   refine hM.nd.imp_of_mem fun {a b} ha hb hab x hx=>?_
   obtain ⟨o,ho,e1,e2⟩:=((hq a ha).2 x).1 hx.1
   obtain ⟨o',ho',e1',e2'⟩:=((hq b hb).2 x).1 hx.2
   exact pairwise_mem (R:=DisjS s.nodes) (fun a b hab x hx=>hab x ⟨hx.2,hx.1⟩) h.disj o ho o' ho' (fun e=>hab (by rw [←e1,←e1',e])) x ⟨e2,e2'⟩
  ·obtain ⟨o,ho,hx⟩:=h.cover x
   have hz:o.2∈u:=(hM.mem _).2 ⟨o,ho,rfl⟩
   exact ⟨_,List.mem_map.2 ⟨o.2,hz,rfl⟩,((hq _ hz).2 x).2 ⟨o,ho,rfl,hx⟩⟩
  ·rw [List.pairwise_map];exact hM.nd
  ·obtain ⟨z,hz,h2⟩:=hb
   exact ⟨_,List.mem_map.2 ⟨z,hz,rfl⟩,h2⟩
  ·rw [List.length_map];exact h2
 refine ⟨hP,fun p hp=>?_,fun x=>?_⟩
 ·obtain ⟨z,hz,rfl⟩:=List.mem_map.1 hp
  obtain ⟨o,ho,e⟩:=hel z hz
  have:=(h.ib o ho).2
  exact ⟨(hq z hz).1,by show z < _;omega⟩
 ·obtain ⟨o,ho,hx⟩:=h.cover x
  have hz:o.2∈u:=(hM.mem _).2 ⟨o,ho,rfl⟩
  have hx':=((hq _ hz).2 x).2 ⟨o,ho,rfl,hx⟩
  rw [hP.at (List.mem_map.2 ⟨o.2,hz,rfl⟩) hx']
  exact h.val o ho x hx
theorem nodup_small {u:List Nat} (hn:u.Nodup) (h:∀ z∈u,z < 2):u.length≤2:=nodup_lt u 2 hn h
theorem make_spec {t:List VN} {P:Nat} {y:VN} {l r:Nat} (hy:t[P]? = some y) (hlf:leafB y = false) (hl:y.left = l) (hr:y.right = r) {co:Nat} {of:St→Nat→Nat→Option (Nat × St)} (ho:OrM t l co of)
  {s:St} (ht:s.tree = t) {F:Asg→Bool} {el:List (Nat × Nat)} (hR:Room s (el.length * co+if 5≤nv t P then 1 else 0)) (hsp:Sp t s.nodes l r F el) (hlen:el.length≤1048576) :
  Did s (el.length * co+if 5≤nv t P then 1 else 0) F (makeF of s P el):=by
 have hi:=hR.inv
 obtain ⟨s1,m,u,h1,h2,h3,hM⟩:=mkStep_spec (r:=r) ho el s [] [] [] ht (hR.less (by omega)) (fun _ h=>by cases h) (fun p hp=>⟨(hsp.ib p hp).1,(hsp.ib p hp).2,hsp.pdep p hp,hsp.sdep p hp⟩)
  ⟨List.nodup_nil,fun z=>⟨(fun h=>by cases h),(fun ⟨_,h,_⟩=>by cases h)⟩,(fun _ h=>by cases h),fun _ _=>rfl,Nat.le_refl _⟩
 rw [List.nil_append] at hM
 have hsp1:=hsp.step hi h2
 have hR1:Room s1 (if 5≤nv t P then 1 else 0):=hR.next h2 h3 (Nat.le_refl _)
 have hi1:=h2.inv
 have hdec:2≤u.length→(∃ z∈u,2≤z)→Did s (el.length * co+if 5≤nv t P then 1 else 0) F (decideF s1 P (u.map fun x=>(ascD m x,x))):=fun hu hb=>by
  obtain ⟨k1,k2,k3⟩:=mk_parts hsp1 hM hu hb
  have ht1:s1.tree = t:=h2.tree.trans ht
  rw [←ht1] at k1 hy
  obtain ⟨c,s2,g1,g2,g3,g4,g5⟩:=decide_spec hR1 hy hlf hl hr k1 k2
  rw [ht1] at g5
  exact ⟨c,s2,g1,h2.trans g2,g3,fun x=>by rw [g4,k3],by omega⟩
 unfold makeF
 rw [if_pos hlen,h1]
 simp only
 have hne:u≠[]:=fun e=>by
  obtain ⟨p,hp,_⟩:=hsp.cover (fun _=>true)
  have:=(hM.mem p.2).2 ⟨p,hp,rfl⟩
  rw [e] at this;cases this
 match u,hM,hdec,hne with
 | [x],hM,_,_ =>
   simp only
   obtain ⟨p,hp,e⟩:=(hM.mem x).1 (by simp)
   refine ⟨x,s1,rfl,h2,by have:=(hsp1.ib p hp).2;omega,fun z=>?_,by omega⟩
   obtain ⟨o,ho',hx⟩:=hsp1.cover z
   have:o.2∈[x]:=(hM.mem o.2).2 ⟨o,ho',rfl⟩
   rw [List.mem_singleton] at this
   have:=hsp1.val o ho' z hx
   rw [←this];congr 1;omega
 | [x,w],hM,hdec,_ =>
   simp only
   by_cases hs:x < 2∧w < 2
   ·rw [if_pos hs]
    have hnd:=hM.nd
    rw [List.nodup_cons,List.mem_singleton] at hnd
    have h1u:1∈[x,w]:=by
     have:x = 1∨w = 1:=by omega
     rcases this with rfl | rfl <;> simp
    obtain ⟨q,g1,g2,g3⟩:=hM.some 1 h1u
    rw [ascD_some g1]
    refine ⟨q,s1,rfl,h2,g2,fun z=>?_,by omega⟩
    obtain ⟨o,ho',hx⟩:=hsp1.cover z
    have hv:=hsp1.val o ho' z hx
    have hu:o.2∈[x,w]:=(hM.mem o.2).2 ⟨o,ho',rfl⟩
    have:o.2 = 0∨o.2 = 1:=by simp at hu;omega
    rcases this with e | e
    ·rw [e,hi1.sem0] at hv
     rw [←hv]
     cases hq:sem s1.nodes q z
     ·rfl
     ·obtain ⟨o',ho'',e',hx'⟩:=(g3 z).1 hq
      have:=pairwise_mem (R:=DisjS s1.nodes) (fun a b hab x hx=>hab x ⟨hx.2,hx.1⟩) hsp1.disj o ho' o' ho'' (fun ee=>by rw [ee] at e;omega) z
      exact absurd ⟨hx,hx'⟩ this
    ·rw [e,hi1.sem1] at hv
     rw [←hv]
     exact (g3 z).2 ⟨o,ho',e,hx⟩
   ·rw [if_neg hs]
    have hbig:∃ z∈[x,w],2≤z:=by
     by_cases e:x < 2
     ·exact ⟨w,by simp,by omega⟩
     ·exact ⟨x,by simp,by omega⟩
    exact hdec (by simp) hbig
 | x :: w ::v :: k,hM,hdec,_ =>
   simp only
   refine hdec (by simp) ?_
   apply Classical.byContradiction
   intro hno
   have:=nodup_small hM.nd (fun z hz=>by
    apply Classical.byContradiction
    intro hz2
    exact hno ⟨z,hz,by omega⟩)
   simp at this
theorem or_spec {t:List VN} {v c d:Nat} {nf:St→Nat→Option (Nat × St)} {af:St→Nat→Nat→Option (Nat × St)} (hn:NotM t v c nf) (ha:AndM t v d af):OrM t v (3 * c+d) (orF nf af):=by
 intro s a b ht hR hal hbl hda hdb
 have hi:=hR.inv
 obtain ⟨x,s1,h1,h2,h3,h4,h5⟩:=hn s a ht (hR.less (by omega)) hal hda
 have hb1:=h2.sem hi hbl
 obtain ⟨y,s2,g1,g2,g3,g4,g5⟩:=hn s1 b (h2.tree.trans ht) (hR.next h2 h5 (m:=c) (by omega)) (by have:=h2.len;omega) (by rw [hb1];exact hdb)
 have hx2:=g2.sem h2.inv h3
 have h12:=h2.trans g2
 have hx:∀ z,sem s2.nodes x z = !sem s.nodes a z:=fun z=>by rw [hx2];exact h4 z
 have hy:∀ z,sem s2.nodes y z = !sem s.nodes b z:=fun z=>by rw [g4];show (!_) = _;rw [hb1]
 obtain ⟨w,s3,k1,k2,k3,k4,k5⟩:=ha s2 x y (h12.tree.trans ht) (hR.next h12 (c:=2 * c) (m:=d) (by omega) (by omega)) (by have:=g2.len;omega) g3
  (fun p q hpq=>by rw [hx,hx,hda p q hpq]) (fun p q hpq=>by rw [hy,hy,hdb p q hpq])
 have hw:∀ z,sem s3.nodes w z = (!sem s.nodes a z && !sem s.nodes b z):=fun z=>by rw [k4];show (sem s2.nodes x z && sem s2.nodes y z) = _;rw [hx,hy]
 have h13:=h12.trans k2
 obtain ⟨e,s4,m1,m2,m3,m4,m5⟩:=hn s3 w (h13.tree.trans ht) (hR.next h13 (c:=2 * c+d) (m:=c) (by omega) (by omega)) k3
  (fun p q hpq=>by rw [hw,hw,hda p q hpq,hdb p q hpq])
 refine ⟨e,s4,?_,h13.trans m2,m3,fun z=>?_,by omega⟩
 ·unfold orF
  rw [h1];simp only
  rw [g1];simp only
  rw [k1];simp only
  exact m1
 ·rw [m4]
  show (!sem s3.nodes w z) = (sem s.nodes a z || sem s.nodes b z)
  rw [hw]
  cases sem s.nodes a z <;> cases sem s.nodes b z <;> rfl
end Go.Proofs.YtmnjakejhbpkoaaGreatDoor.L
namespace Go.Proofs.YtmnjakejhbpkoaaGreatDoor.L
theorem and_cost {nl nr e1 e2 n:Nat} (h1:1≤nl) (h2:1≤nr) (h6:nl+nr≤6) (a1:e1≤2 ^ nl) (a2:e1≤2 ^ (2 ^ nr)) (b1:e2≤2 ^ nl) (b2:e2≤2 ^ (2 ^ nr)) (hn:n≤e1 * e2) :
  cn (nl+nr)+(cn nl+cn nl)+e1 * (e2 * (ca nl+ca nr))+(n * (3 * cn nl+ca nl)+if 5≤nl+nr then 1 else 0)≤ca (nl+nr):=by
 by_cases hl5:nl = 5
 ·have hr1:nr = 1:=by omega
  subst hl5;subst hr1
  have e1':e1≤4:=a2
  have e2':e2≤4:=b2
  have hm:e1 * e2≤4 * 4:=Nat.mul_le_mul e1' e2'
  have:e1 * (e2 * (ca 5+ca 1)) = e1 * e2 * 2:=by rw [Nat.mul_assoc];rfl
  rw [this,show cn (5+1) = 3 from rfl,show cn 5 = 1 from rfl,show ca 5 = 2 from rfl,show ca (5+1) = 118 from rfl,if_pos (by omega)]
  omega
 ·have c1:cn nl = 0:=by unfold cn;rw [if_pos (by omega)]
  have c2:ca nl = 0:=by unfold ca;rw [if_pos (by omega)]
  rw [c1,c2]
  by_cases hr5:nr = 5
  ·have hl1:nl = 1:=by omega
   subst hr5;subst hl1
   have hm:e1 * e2≤2 * 2:=Nat.mul_le_mul a1 b1
   have:e1 * (e2 * (0+ca 5)) = e1 * e2 * 2:=by rw [Nat.mul_assoc];rfl
   rw [this,show cn (1+5) = 3 from rfl,show ca (1+5) = 118 from rfl,if_pos (by omega)]
   omega
  ·have c3:ca nr = 0:=by unfold ca;rw [if_pos (by omega)]
   rw [c3]
   simp only [Nat.add_zero,Nat.mul_zero,Nat.zero_add]
   unfold cn ca
   split <;> split <;> (try split) <;> omega
def andsS (s:St) (a b c:Nat):St:={ s with ands:=((a,b),c) :: s.ands }
theorem Inv.ands_add {s:St} (h:Inv s) {a b c:Nat} (ha:a < s.nodes.length) (hb:b < s.nodes.length) (hc:c < s.nodes.length) (e:∀ x,sem s.nodes c x = (sem s.nodes a x && sem s.nodes b x)):Inv (andsS s a b c) :=
 ⟨h.tree,h.zero,h.one,h.ok,h.min,h.uq1,h.uq2,fun x y z hxy=>by
   have hxy':(if (x,y) = (a,b) then some c else asc s.ands (x,y)) = some z:=hxy
   show x < s.nodes.length∧y < s.nodes.length∧z < s.nodes.length∧∀ w,sem s.nodes z w = (sem s.nodes x w && sem s.nodes y w)
   split at hxy'
   ·rename_i e'
    cases hxy';cases e';exact ⟨ha,hb,hc,e⟩
   ·exact h.ands x y z hxy',h.nots⟩
theorem Sp.pairs {t:List VN} {ns:List SNode} {l r:Nat} {F:Asg→Bool} {el:List (Nat × Nat)} (h:Sp t ns l r F el):∀ p∈el,PairOK t ns l r p:=fun p hp=>⟨(h.ib p hp).1,(h.ib p hp).2,h.pdep p hp,h.sdep p hp⟩
theorem andNew_spec {t:List VN} (hc:checkF t = 0) (hfew:t.length≤11) {P:Nat} {y:VN} {l r:Nat} (hy:t[P]? = some y) (hlf:leafB y = false) (hl:y.left = l) (hr:y.right = r) {nf:St→Nat→Option (Nat × St)} {af:St→Nat→Nat→Option (Nat × St)}
  (hnl:NotM t l (cn (nv t l)) nf) (hal:AndM t l (ca (nv t l)) af) (har:AndM t r (ca (nv t r)) af) {s:St} (ht:s.tree = t) {a b c0:Nat} (hR:Room s c0) (hcost:c0+cn (nv t P) = ca (nv t P)) (ha2:2≤a) (hb2:2≤b) (ha:a < s.nodes.length) (hb:b < s.nodes.length)
  (hda:Dep (Bel t P) (sem s.nodes a)) (hdb:Dep (Bel t P) (sem s.nodes b)) (hm:meetS s (plOf s a) (plOf s b) = some P) :
  Did s c0 (fun x=>sem s.nodes a x && sem s.nodes b x) (andNew nf af s a b):=by
 have hi:=hR.inv
 have hP:P < t.length:=(List.getElem?_eq_some_iff.1 hy).1
 obtain ⟨l',r',b1,b2,b3,b4,b5,b6,b7⟩:=inner_ok hc hy hlf
 obtain rfl:l' = l:=by omega
 obtain rfl:r' = r:=by omega
 have hnv:=nv_inner hc hy hlf hl hr
 have np1:=nv_pos hc l' (by omega)
 have np2:=nv_pos hc r' (by omega)
 have nP:=nv_le hc hP
 unfold andNew
 rw [hm]
 simp only
 have hbase:cn (nv t l')+cn (nv t l')≤c0:=by
  have:=and_cost (e1:=0) (e2:=0) (n:=0) np1 np2 (by omega) (Nat.zero_le _) (Nat.zero_le _) (Nat.zero_le _) (Nat.zero_le _) (Nat.zero_le _)
  rw [←hnv] at this
  omega
 obtain ⟨right,s1,h1,h2,h3,h4,h5,h6⟩:=spread_spec hc hy hlf hl hr hnl ht (hR.less (by omega)) hb2 hb hdb
 rw [h1]
 simp only
 have ha1:=h2.sem hi ha
 obtain ⟨left,s2,g1,g2,g3,g4,g5,g6⟩:=spread_spec hc hy hlf hl hr hnl (h2.tree.trans ht) (hR.next h2 h3 (m:=cn (nv t l')) (by omega)) ha2 (by have:=h2.len;omega) (by rw [ha1];exact hda)
 rw [g1]
 simp only
 have h12:=h2.trans g2
 have h4':=h4.step h2.inv g2
 rw [ha1] at g4
 have hcost1:=and_cost (e1:=left.length) (e2:=right.length) (n:=left.length * right.length) np1 np2 (by omega) g5 g6 h5 h6 (Nat.le_refl _)
 rw [←hnv] at hcost1
 obtain ⟨new,s3,k1,k2,k3,k4,k5,k6,k7⟩:=all_spec hal har right left s2 [] (h12.tree.trans ht) (hR.next h12 (c:=cn (nv t l')+cn (nv t l')) (by omega) (by omega)) g4.pairs h4'.pairs
 rw [k1]
 simp only
 rw [List.nil_append]
 have h13:=h12.trans k2
 have hsp:=prods_sp k2 g4 h4' k5 k6 k7
 have hcost2:=and_cost (e1:=left.length) (e2:=right.length) (n:=new.length) np1 np2 (by omega) g5 g6 h5 h6 k4
 rw [←hnv] at hcost2
 have hlen:new.length≤1048576:=by
  have e1:left.length≤2 ^ 6:=Nat.le_trans g5 (Nat.pow_le_pow_right (by omega) (by omega))
  have e2:right.length≤2 ^ 6:=Nat.le_trans h5 (Nat.pow_le_pow_right (by omega) (by omega))
  have e3:=Nat.mul_le_mul e1 e2
  have e4:(2:Nat) ^ 6 * 2 ^ 6 = 4096:=rfl
  omega
 obtain ⟨c,s4,m1,m2,m3,m4,m5⟩:=make_spec hy hlf hl hr (or_spec hnl hal) (h13.tree.trans ht) (hR.next h13 (c:=cn (nv t l')+cn (nv t l')+left.length * (right.length * (ca (nv t l')+ca (nv t r')))) (by omega) (by omega)) hsp hlen
 rw [m1]
 simp only
 have h14:=h13.trans m2
 have hl14:=h14.len
 have sa:=h14.sem hi ha
 have sb:=h14.sem hi hb
 refine ⟨c,andsS s4 a b c,rfl,⟨h14.inv.ands_add (by omega) (by omega) m3 (fun x=>by rw [m4,sa,sb]),h14.tree,h14.ext⟩,m3,m4,?_⟩
 show big s4≤_
 omega
theorem andOrd_spec {t:List VN} (hc:checkF t = 0) (hfew:t.length≤11) {v:Nat} (hv:v < t.length) {f:Nat} (hf:v+2≤f) (ih:∀ m,m < v→m < t.length→AndM t m (ca (nv t m)) (andF f))
  {s:St} (ht:s.tree = t) (hR:Room s (ca (nv t v))) {a b:Nat} (hab:a≤b) (hb:b < s.nodes.length) (hda:Dep (Bel t v) (sem s.nodes a)) (hdb:Dep (Bel t v) (sem s.nodes b)) :
  Did s (ca (nv t v)) (fun x=>sem s.nodes a x && sem s.nodes b x) (andOrd (notF f) (andF f) s a b):=by
 have hi:=hR.inv
 have ha:a < s.nodes.length:=by omega
 unfold andOrd
 by_cases h0:a = 0∨a = b
 ·rw [if_pos h0]
  refine ⟨a,s,rfl,Step.refl hi,ha,fun x=>?_,by omega⟩
  rcases h0 with rfl | rfl
  ·show sem s.nodes 0 x = (sem s.nodes 0 x && sem s.nodes b x)
   rw [hi.sem0];rfl
  ·show sem s.nodes a x = (sem s.nodes a x && sem s.nodes a x)
   rw [Bool.and_self]
 rw [if_neg h0]
 by_cases h1:a = 1
 ·rw [if_pos h1]
  subst h1
  exact ⟨b,s,rfl,Step.refl hi,hb,fun x=>by show sem s.nodes b x = (sem s.nodes 1 x && sem s.nodes b x);rw [hi.sem1,Bool.true_and],by omega⟩
 rw [if_neg h1]
 have ha2:2≤a:=by omega
 have hb2:2≤b:=by omega
 have hna:s.nodes[a]? = some s.nodes[a]:=List.getElem?_eq_getElem ha
 have hnb:s.nodes[b]? = some s.nodes[b]:=List.getElem?_eq_getElem hb
 subst ht
 obtain ⟨Pa,ea,la,ua⟩:=hi.at_und ha2 hna hda
 obtain ⟨Pb,eb,lb,ub⟩:=hi.at_und hb2 hnb hdb
 obtain ⟨m1,m2,m3⟩:=meet_spec hc la lb
 have hmv:=m3 v ua ub
 generalize hMM:meetT s.tree Pa Pb = M at m1 m2 m3 hmv
 have hM:M < s.tree.length:=hmv.lt hv
 have hMv:=hmv.le hc
 have hnvM:=hmv.nv_le hc
 have hpa:Dep (Bel s.tree M) (sem s.nodes a):=by
  obtain ⟨P',f1,_,f3⟩:=hi.place ha2 hna
  have:P' = Pa:=by omega
  subst this;exact f3.mono fun x hx=>hx.up m1
 have hpb:Dep (Bel s.tree M) (sem s.nodes b):=by
  obtain ⟨P',f1,_,f3⟩:=hi.place hb2 hnb
  have:P' = Pb:=by omega
  subst this;exact f3.mono fun x hx=>hx.up m2
 have hcle:cn (nv s.tree M)≤ca (nv s.tree M):=by unfold cn ca;split <;> (try split) <;> omega
 have hca:=ca_mono hnvM
 obtain ⟨na,s1,g1,g2,g3,g4,g5⟩:=not_spec hc hfew M hM f (by omega) s a rfl (hR.less (by omega)) ha hpa
 rw [g1]
 simp only
 have hi1:=g2.inv
 have hl1:=g2.len
 have sa:=g2.sem hi ha
 have sb:=g2.sem hi hb
 by_cases hne:na = b
 ·rw [if_pos hne]
  refine ⟨0,s1,rfl,g2,by omega,fun x=>?_,by omega⟩
  rw [hi1.sem0]
  have h7:=g4 x
  rw [hne,sb] at h7
  show false = (sem s.nodes a x && sem s.nodes b x)
  rw [h7]
  show false = (sem s.nodes a x && !sem s.nodes a x)
  cases sem s.nodes a x <;> rfl
 rw [if_neg hne]
 cases hands:asc s1.ands (a,b) with
 | some c =>
   obtain ⟨_,_,k3,k4⟩:=hi1.ands a b c hands
   exact ⟨c,s1,rfl,g2,k3,fun x=>by rw [k4,sa,sb],by omega⟩
 | none =>
   simp only
   have hy:s.tree[M]? = some s.tree[M]:=List.getElem?_eq_getElem hM
   generalize s.tree[M] = y at hy
   cases hlf:leafB y
   ·obtain ⟨l,r,b1,b2,b3,b4,b5,_⟩:=inner_ok hc hy hlf
    have hR1:Room s1 (ca (nv s.tree M) - cn (nv s.tree M)):=(hR.less hca).next g2 g5 (by omega)
    have hext:∀ {i:Nat},i < s.nodes.length→s1.nodes[i]? = s.nodes[i]?:=fun hi'=>by
     obtain ⟨m,hm⟩:=g2.ext
     rw [hm,List.getElem?_append_left hi']
    have pla:plOf s1 a = (Pa:Int):=by unfold plOf;rw [hext ha,hna];exact ea
    have plb:plOf s1 b = (Pb:Int):=by unfold plOf;rw [hext hb,hnb];exact eb
    have hmeet:meetS s1 (plOf s1 a) (plOf s1 b) = some M:=by
     rw [pla,plb,meetS_some (by rw [g2.tree];exact hc) (by rw [g2.tree];exact la) (by rw [g2.tree];exact lb),g2.tree,hMM]
    have hnl:=not_spec hc hfew l (by omega) f (by omega)
    obtain ⟨c,s',k1,k2,k3,k4,k5⟩:=andNew_spec hc hfew hy hlf b1 b2 hnl (ih l (by omega) (by omega)) (ih r (by omega) (by omega)) g2.tree hR1 (by omega) ha2 hb2 (by omega) (by omega) (by rw [sa];exact hpa) (by rw [sb];exact hpb) hmeet
    exact ⟨c,s',k1,g2.trans k2,k3,fun x=>by rw [k4,sa,sb],by omega⟩
   ·-- both lie at one leaf: then they are equal,or each other's negation
    exfalso
    have qa:=m1.leaf hc hy hlf
    have qb:=m2.leaf hc hy hlf
    have lit:∀ i,2≤i→(hil:i < s.nodes.length)→(s.nodes[i]).pl = (M:Int)→LitOK s.tree s.nodes[i]:=fun i h2 hil hpl=>by
     rcases hi.ok i _ h2 (List.getElem?_eq_getElem hil) with hl | hk
     ·exact hl
     ·obtain ⟨P',y',_,_,e1,e2,e3,_⟩:=hk.parts
      have:P' = M:=by omega
      subst this
      rw [hy] at e2;cases e2;rw [hlf] at e3;cases e3
    have la':=lit a ha2 ha (by omega)
    have lb':=lit b hb2 hb (by omega)
    obtain ⟨u1,z1,c1,c2,c3,c4⟩:=la'.leaf
    obtain ⟨u2,z2,d1,d2,d3,d4⟩:=lb'.leaf
    have:u1 = u2:=by omega
    subst this
    rw [c2] at d2;cases d2
    have hvar:(s.nodes[a]).lit.natAbs = (s.nodes[b]).lit.natAbs:=by omega
    by_cases hsg:decide (0 < (s.nodes[a]).lit) = decide (0 < (s.nodes[b]).lit)
    ·exact h0 (.inr (hi.canon ha hb (funext fun x=>by rw [hi.semLit hna la',hi.semLit hnb lb',hvar,hsg])))
    ·refine hne (hi1.canon g3 (by omega) (funext fun x=>?_))
     rw [g4,sb]
     show (!sem s.nodes a x) = _
     rw [hi.semLit hna la',hi.semLit hnb lb',hvar]
     revert hsg
     cases decide (0 < (s.nodes[a]).lit) <;> cases decide (0 < (s.nodes[b]).lit) <;> cases x ((s.nodes[b]).lit.natAbs:Int) <;> simp
theorem and_spec {t:List VN} (hc:checkF t = 0) (hfew:t.length≤11):∀ v,v < t.length→∀ f,v+3≤f→AndM t v (ca (nv t v)) (andF f):=by
 intro v
 induction v using Nat.strongRecOn with
 | ind v ih =>
   intro hv f hf s a b ht hR ha hb hda hdb
   obtain ⟨f,rfl⟩:∃ g,f = g+1:=⟨f - 1,by omega⟩
   rw [andF]
   have ih':∀ m,m < v→m < t.length→AndM t m (ca (nv t m)) (andF f):=fun m h1 h2=>ih m h1 h2 f (by omega)
   split
   ·have:=andOrd_spec hc hfew hv (f:=f) (by omega) ih' ht hR (a:=b) (b:=a) (by omega) ha hdb hda
    rw [show (fun x=>sem s.nodes a x && sem s.nodes b x) = fun x=>sem s.nodes b x && sem s.nodes a x from funext fun x=>Bool.and_comm ..]
    exact this
   ·exact andOrd_spec hc hfew hv (f:=f) (by omega) ih' ht hR (by omega) hb hda hdb
end Go.Proofs.YtmnjakejhbpkoaaGreatDoor.L
