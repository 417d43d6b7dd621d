import Derived.Test.YtemnmcfmabamcaaGreatDoorYVt
set_option linter.unusedSimpArgs false
set_option linter.unusedVariables false
set_option maxRecDepth 100000
namespace Go.Proofs.YtemnmcfmabamcaaGreatDoor.L
theorem Zdd{f:Nat→Bool}{i j:Nat}:Zbr f i j=true↔j=i∨f j=true:=by
 unfold Zbr;split <;> simp_all
theorem ZmP:∀(t:List VN) (i:Nat) (sc sc':(Nat→Bool) × (Nat→Bool)) (f:Nat→Int),Zca t i sc=some sc' →
  (∀j,sc.2 j=true→j<i→ZdC t i f j=f j) ∧
  (∀k (hk:k<t.length),Zai t[k]=false→ZdC t i f t[k].left.toNat=(i+k:Nat)∧ZdC t i f t[k].right.toNat=(i+k:Nat))
 | [],i,sc,sc',f,h=>⟨fun _ _ _=>rfl,fun k hk=>absurd hk (Nat.not_lt_zero _)⟩
 | x :: r,i,sc,sc',f,h=>by
   unfold Zca at h
   split at h
   ·cases h
   rename_i mm h1
   obtain⟨g1,g2⟩:=ZmP r (i+1) mm sc' (ZdH i x f) h;have hs:Zcc i x sc=some mm:=h1;unfold Zcc at h1
   split at h1
   ·rename_i hl
    split at h1
    ·cases h1
    simp only[ZrJ]at h1;subst h1;refine⟨fun j hj wP=>?_,fun k hk bD=>?_⟩
    ·rw[ZdC,g1 j hj (by omega)]
     simp[ZdH,hl,Zht,show j≠i from by omega]
    ·cases k with
     | zero=>simp only[List.getElem_cons_zero]at bD;rw[hl]at bD;cases bD
     | succ k =>
       have:=g2 k (by simpa using hk) (by simpa using bD);simp only[List.getElem_cons_succ,ZdC];rw[show i+(k+1)=i+1+k from by omega];exact this
   ·rename_i hl
    split at h1
    ·cases h1
    split at h1
    ·cases h1
    rename_i c hc
    split at h1
    ·cases h1
    rename_i c' gE
    simp only[ZrJ]at h1;obtain⟨a1,a2,a3,a4⟩:=Zcv hc;obtain⟨b1,b2,b3,b4⟩:=Zcv gE;subst h1
    have aJ:x.left.toNat≠x.right.toNat:=fun e=>by
     rw[a4,←e]at b3;simp[Zbr]at b3
    have aU:sc.2 x.right.toNat=false:=by
     cases hh:sc.2 x.right.toNat
     ·rfl
     ·rw[a4]at b3;simp[Zbr,hh]at b3
    refine⟨fun j hj wP=>?_,fun k hk bD=>?_⟩
    ·have e1:j≠x.left.toNat:=fun e=>by rw[e,a3]at hj;cases hj
     have e2:j≠x.right.toNat:=fun e=>by rw[e,aU]at hj;cases hj
     rw[ZdC,g1 j (by rw[b4,a4];simp[Zbr,hj]) (by omega)];simp[ZdH,hl,Zht,show j≠i from by omega,e1,e2]
    ·cases k with
     | zero =>
       simp only[List.getElem_cons_zero,ZdC]
       constructor
       ·rw[g1 _ (by rw[b4,a4];simp[Zbr]) (by omega)]
        simp[ZdH,hl,Zht,aJ]
       ·rw[g1 _ (by rw[b4];simp[Zbr]) (by omega)]
        simp[ZdH,hl,Zht]
     | succ k =>
       have:=g2 k (by simpa using hk) (by simpa using bD);simp only[List.getElem_cons_succ,ZdC];rw[show i+(k+1)=i+1+k from by omega];exact this
theorem ZmN:∀(t:List VN) (i:Nat) (sc sc':(Nat→Bool) × (Nat→Bool)),Zca t i sc=some sc'→∀j,sc'.2 j=true→sc.2 j=true∨∃k,∃hk:k<t.length,Zai t[k]=false∧(t[k].left=j∨t[k].right=j)
 | [],i,sc,sc',h,j,hj=>by
   simp only[Zca,ZrJ]at h;subst h;exact .inl hj
 | x :: r,i,sc,sc',h,j,hj=>by
   unfold Zca at h
   split at h
   ·cases h
   rename_i mm h1
   rcases ZmN r (i+1) mm sc' h j hj with h2|⟨k,hk,h3,h4⟩
   ·rcases Zdy h1 with ⟨_,e⟩|⟨hl,_,h4,_,h6,_,_,e⟩
    ·rw[e]at h2;exact .inl h2
    ·rw[e]at h2
     rcases Zdd.1 h2 with h2|h2
     ·exact .inr ⟨0,by simp,hl,.inr (by simp only[List.getElem_cons_zero];omega)⟩
     ·rcases Zdd.1 h2 with h2|h2
      ·exact .inr ⟨0,by simp,hl,.inl (by simp only[List.getElem_cons_zero];omega)⟩
      ·exact .inl h2
   ·exact .inr ⟨k+1,by simpa using hk,by simpa using h3,by simpa using h4⟩
theorem Zj0:∀(t:List VN) (i:Nat) (sc sc':(Nat→Bool) × (Nat→Bool)),Zca t i sc=some sc' →
  (∀k (hk:k<t.length),Zai t[k]=true→sc.1 t[k].var.toNat=false) ∧
  (∀k m (hk:k<t.length) (hm:m<t.length),Zai t[k]=true→Zai t[m]=true→t[k].var.toNat=t[m].var.toNat→k=m)
 | [],i,sc,sc',h=>⟨fun k hk=>absurd hk (Nat.not_lt_zero _),fun k m hk=>absurd hk (Nat.not_lt_zero _)⟩
 | x :: r,i,sc,sc',h=>by
   unfold Zca at h
   split at h
   ·cases h
   rename_i mm h1
   obtain⟨g1,g2⟩:=Zj0 r (i+1) mm sc' h
   have key:(Zai x=true→sc.1 x.var.toNat=false∧mm.1=Zbr sc.1 x.var.toNat)∧(Zai x=false→mm.1=sc.1):=by
    unfold Zcc at h1
    split at h1
    ·rename_i hl
     split at h1
     ·cases h1
     rename_i hv
     simp only[ZrJ]at h1;subst h1;exact⟨fun _=>⟨by simpa using hv,rfl⟩,fun h=>by rw[hl]at h;cases h⟩
    ·rename_i hl
     refine⟨fun h=>absurd h hl,fun _=>?_⟩
     split at h1
     ·cases h1
     split at h1
     ·cases h1
     split at h1
     ·cases h1
     simp only[ZrJ]at h1;subst h1;rfl
   have ar:∀v,mm.1 v=false→sc.1 v=false:=fun v hv=>by
    cases hl:Zai x
    ·rw[key.2 hl]at hv;exact hv
    ·rw[(key.1 hl).2]at hv
     simp only[Zbr]at hv
     split at hv
     ·cases hv
     ·exact hv
   have sY:∀k (hk:k<r.length),Zai x=true→Zai r[k]=true→x.var.toNat≠r[k].var.toNat:=fun k hk hl bD e=>by
    have:=g1 k hk bD;rw[(key.1 hl).2,←e]at this;simp[Zbr]at this
   refine⟨fun k hk hl=>?_,fun k m hk hm bD ui e=>?_⟩
   ·cases k with
    | zero=>exact(key.1 hl).1
    | succ k=>exact ar _ (g1 k (by simpa using hk) (by simpa using hl))
   ·cases k with
    | zero =>
      cases m with
      | zero=>rfl
      | succ m=>exact absurd e (sY m (by simpa using hm) bD (by simpa using ui))
    | succ k =>
      cases m with
      | zero=>exact absurd e.symm (sY k (by simpa using hk) ui (by simpa using bD))
      | succ m=>exact congrArg (·+1) (g2 k m (by simpa using hk) (by simpa using hm) (by simpa using bD) (by simpa using ui) (by simpa using e))
def pa (t:List VN)(j:Nat):Nat:=(Zjj t j).toNat
theorem ZkT{t:List VN}(h:Zae t=0){j:Nat}(hj:j+1<t.length):j<pa t j∧pa t j<t.length:=by
 have:=Zna h hj;unfold pa;omega
theorem inner_ok{t:List VN}(h:Zae t=0){v:Nat}{x:VN}(hx:t[v]? =some x)(hl:Zai x=false) :
  ∃l r:Nat,x.left=l∧x.right=r∧l<v∧r<v∧l≠r∧pa t l=v∧pa t r=v:=by
 obtain⟨_,_,sc,hs,_⟩:=Zam h;obtain⟨hv,rfl⟩:=Zrw hx;obtain⟨_,b1,b2,b3,b4,b5⟩:=Zdw t 0 _ sc hs v hv hl;obtain⟨_,g⟩:=ZmP t 0 _ sc (fun _=>0) hs;obtain⟨g1,g2⟩:=g v hv hl;refine⟨t[v].left.toNat,t[v].right.toNat,by omega,by omega,by omega,by omega,by omega,?_,?_⟩
 ·unfold pa Zjj;rw[g1];simp
 ·unfold pa Zjj;rw[g2];simp
theorem Zhb{t:List VN}(h:Zae t=0){j:Nat}(hj:j+1<t.length):∃x,t[pa t j]? =some x∧Zai x=false∧(x.left=j∨x.right=j):=by
 obtain⟨_,_,sc,hs,hc⟩:=Zam h;rcases ZmN t 0 _ sc hs j (hc j hj) with h1|⟨k,hk,h1,h2⟩
 ·cases h1
 ·have hx:t[k]? =some t[k]:=Zry hk
  obtain⟨l,r,e1,e2,_,_,_,e3,e4⟩:=inner_ok h hx h1
  have:pa t j=k:=by
   rcases h2 with h2|h2
   ·rw[e1]at h2;rw[←e3];congr 1;omega
   ·rw[e2]at h2;rw[←e4];congr 1;omega
  rw[this];exact⟨_,hx,h1,h2⟩
theorem leaf_var{t:List VN}(h:Zae t=0){u v:Nat}{x y:VN}(hx:t[u]? =some x)(hy:t[v]? =some y)(mZ:Zai x=true)(hly:Zai y=true)(e:x.var=y.var):u=v:=by
 obtain⟨_,_,sc,hs,_⟩:=Zam h;obtain⟨hu,rfl⟩:=Zrw hx;obtain⟨hv,rfl⟩:=Zrw hy;exact(Zj0 t 0 _ sc hs).2 u v hu hv mZ hly (by rw[e])
inductive Und (t:List VN) (v:Nat):Nat→Prop
 | refl:Und t v v
 | step {u:Nat}:u+1<t.length→Und t v (pa t u)→Und t v u
theorem Und.le{t:List VN}(h:Zae t=0){v u:Nat}(hu:Und t v u):u≤v:=by
 induction hu with
 | refl=>exact ZrQ _
 | step h1 _ ih=>have:=ZkT h h1;omega
theorem Und.trans{t:List VN}{w v u:Nat}(h1:Und t w v)(h2:Und t v u):Und t w u:=by
 induction h2 with
 | refl=>exact h1
 | step h3 _ ih=>exact .step h3 ih
theorem Und.linear{t:List VN}(h:Zae t=0){v w u:Nat}(h1:Und t v u)(h2:Und t w u)(fE:v≤w):Und t w v:=by
 induction h1 with
 | refl=>exact h2
 | step h3 h4 ih =>
   cases h2 with
   | refl=>have:=h4.le h;have:=ZkT h h3;omega
   | step _ h5=>exact ih h5
theorem Und.root{t:List VN}(h:Zae t=0):∀(n u:Nat),u<t.length→t.length≤u+n→Und t (t.length - 1) u
 | 0,u,hu,hn=>by omega
 | n+1,u,hu,hn=>by
   by_cases hr:u+1=t.length
   ·have:u=t.length - 1:=by omega
    rw[←this];exact .refl
   ·have aD:u+1<t.length:=by omega
    have:=ZkT h aD;exact .step aD (Und.root h n (pa t u) this.2 (by omega))
theorem Und.kids{t:List VN}(h:Zae t=0){v u:Nat}{x:VN}{l r:Nat}(hx:t[v]? =some x)(hl:x.left=l)(hr:x.right=r)(hu:Und t v u):u=v∨Und t l u∨Und t r u:=by
 induction hu with
 | refl=>exact .inl rfl
 | step h1 h2 ih =>
   rename_i u
   rcases ih with e|e|e
   ·obtain⟨y,hy,_,hc⟩:=Zhb h h1
    rw[e,hx]at hy
    cases hy
    rcases hc with hc|hc
    ·have:l=u:=by omega
     subst this;exact .inr (.inl .refl)
    ·have:r=u:=by omega
     subst this;exact .inr (.inr .refl)
   ·exact .inr (.inl (.step h1 e))
   ·exact .inr (.inr (.step h1 e))
theorem Und.kid{t:List VN}(h:Zae t=0){v:Nat}{x:VN}{l r:Nat}(hx:t[v]? =some x)(aI:Zai x=false)(hl:x.left=l)(hr:x.right=r):Und t v l∧Und t v r:=by
 obtain⟨l',r',e1,e2,h1,h2,_,e3,e4⟩:=inner_ok h hx aI;obtain rfl:l'=l:=by omega
 obtain rfl:r'=r:=by omega
 have hv:v<t.length:=(Zrw hx).1;exact⟨.step (by omega) (by rw[e3];exact .refl),.step (by omega) (by rw[e4];exact .refl)⟩
theorem Und.apart{t:List VN}(h:Zae t=0){v u:Nat}{x:VN}{l r:Nat}(hx:t[v]? =some x)(aI:Zai x=false)(hl:x.left=l)(hr:x.right=r)(h1:Und t l u)(h2:Und t r u):False:=by
 obtain⟨l',r',e1,e2,b1,b2,b3,e3,e4⟩:=inner_ok h hx aI;obtain rfl:l'=l:=by omega
 obtain rfl:r'=r:=by omega
 rcases Nat.lt_or_ge l' r' with aD|eE
 ·have:=h1.linear h h2 (by omega)
  cases this with
  | refl=>omega
  | step _ h6=>rw[e3]at h6;have:=h6.le h;omega
 ·have:=h2.linear h h1 eE
  cases this with
  | refl=>omega
  | step _ h6=>rw[e4]at h6;have:=h6.le h;omega
theorem Und.leaf{t:List VN}(h:Zae t=0){v u:Nat}{x:VN}(hx:t[v]? =some x)(aI:Zai x=true)(hu:Und t v u):u=v:=by
 induction hu with
 | refl=>rfl
 | step h1 h2 ih =>
   obtain⟨y,hy,hly,_⟩:=Zhb h h1;rw[ih,hx]at hy
   cases hy
   rw[aI]at hly;cases hly
theorem Und.lt{t:List VN}{v u:Nat}(hu:Und t v u)(hv:v<t.length):u<t.length:=by
 cases hu with
 | refl=>exact hv
 | step h1 _=>omega
theorem Zey{t:List VN}(hc:Zae t=0):∀(f a b:Nat),a<t.length→b<t.length→t.length+t.length≤f+a+b →
  Und t (Zga (Zjj t) f a b) a∧Und t (Zga (Zjj t) f a b) b∧∀w,Und t w a→Und t w b→Und t w (Zga (Zjj t) f a b)
 | 0,a,b,ha,hb,h=>by omega
 | f+1,a,b,ha,hb,h=>by
   rw[Zga]
   by_cases e:a=b
   ·subst e;rw[if_pos rfl];exact⟨.refl,.refl,fun _ h _=>h⟩
   ·rw[if_neg e]
    by_cases hl:a<b
    ·rw[if_pos hl]
     have hp:=ZkT hc (show a+1<t.length by omega);obtain⟨h1,h2,h3⟩:=Zey hc f (pa t a) b hp.2 hb (by omega);refine⟨.step (by omega) h1,h2,fun w hwa pY=>h3 w ?_ pY⟩
     cases hwa with
     | refl=>have:=pY.le hc;omega
     | step _ h4=>exact h4
    ·rw[if_neg hl]
     have hp:=ZkT hc (show b+1<t.length by omega);obtain⟨h1,h2,h3⟩:=Zey hc f a (pa t b) ha hp.2 (by omega);refine⟨h1,.step (by omega) h2,fun w hwa pY=>h3 w hwa ?_⟩
     cases pY with
     | refl=>have:=hwa.le hc;omega
     | step _ h4=>exact h4
theorem ZhW{t:List VN}(hc:Zae t=0){a b:Nat}(ha:a<t.length)(hb:b<t.length) :
  Und t (ZdB t a b) a∧Und t (ZdB t a b) b∧∀w,Und t w a→Und t w b→Und t w (ZdB t a b) :=
 Zey hc _ a b ha hb (by omega)
theorem ZjR{t:List VN}(hc:Zae t=0){a b:Nat}(ha:a<t.length)(hb:b<t.length):ZdB t a b=b↔Und t b a:=by
 obtain⟨h1,h2,h3⟩:=ZhW hc ha hb
 constructor
 ·intro e;rw[e]at h1;exact h1
 ·intro h
  have h4:=(h3 b h .refl).le hc;have h5:=h2.le hc;omega
def Bel (t:List VN)(v:Nat)(x:Int):Prop:=∃u y,t[u]? =some y∧Zai y=true∧y.var=x∧Und t v u
theorem Bel.kids{t:List VN}(h:Zae t=0){v:Nat}{y:VN}{l r:Nat}(hx:t[v]? =some y)(aI:Zai y=false)(hl:y.left=l)(hr:y.right=r)(x:Int):Bel t v x↔Bel t l x∨Bel t r x:=by
 constructor
 ·rintro⟨u,z,h1,h2,h3,h4⟩
  rcases h4.kids h hx hl hr with rfl|h5|h5
  ·rw[hx]at h1;cases h1;rw[aI]at h2;cases h2
  ·exact .inl ⟨u,z,h1,h2,h3,h5⟩
  ·exact .inr ⟨u,z,h1,h2,h3,h5⟩
 ·obtain⟨k1,k2⟩:=Und.kid h hx aI hl hr
  rintro(⟨u,z,h1,h2,h3,h4⟩|⟨u,z,h1,h2,h3,h4⟩)
  ·exact⟨u,z,h1,h2,h3,k1.trans h4⟩
  ·exact⟨u,z,h1,h2,h3,k2.trans h4⟩
theorem Bel.apart{t:List VN}(h:Zae t=0){v:Nat}{y:VN}{l r:Nat}(hx:t[v]? =some y)(aI:Zai y=false)(hl:y.left=l)(hr:y.right=r){x:Int}(h1:Bel t l x)(h2:Bel t r x):False:=by
 obtain⟨u,z,a1,a2,a3,a4⟩:=h1;obtain⟨u',z',b1,b2,b3,b4⟩:=h2;obtain rfl:=leaf_var h a1 b1 a2 b2 (a3.trans b3.symm);exact Und.apart h hx aI hl hr a4 b4
theorem Bel.up{t:List VN}{v w:Nat}{x:Int}(h:Bel t v x)(hw:Und t w v):Bel t w x:=by
 obtain⟨u,z,a1,a2,a3,a4⟩:=h;exact⟨u,z,a1,a2,a3,hw.trans a4⟩
theorem Bel.leaf{t:List VN}(h:Zae t=0){v:Nat}{y:VN}(hx:t[v]? =some y)(aI:Zai y=true)(x:Int):Bel t v x↔x=y.var:=by
 constructor
 ·rintro⟨u,z,h1,h2,h3,h4⟩
  have e:=h4.leaf h hx aI;rw[e,hx]at h1
  cases h1
  exact h3.symm
 ·rintro rfl
  exact⟨v,y,hx,aI,rfl,.refl⟩
theorem Bel.range{t:List VN}{v:Nat}{x:Int}(h:Bel t v x):1≤x∧x≤128:=by
 obtain⟨u,z,_,h2,rfl,_⟩:=h;simp only[Zai,ZrK,ZrN]at h2;exact h2.2
end Go.Proofs.YtemnmcfmabamcaaGreatDoor.L
namespace Go.Proofs.YtemnmcfmabamcaaGreatDoor.L
theorem Zes(p:Nat→Bool):∀n,(∀i,(List.range n).find? p=some i→i<n∧p i=true∧∀j,j<i→p j=false)∧((List.range n).find? p=none→∀j,j<n→p j=false)
 | 0=>by simp
 | n+1=>by
   obtain⟨h1,h2⟩:=Zes p n;rw[List.range_succ,List.find?_append]
   cases hf:(List.range n).find? p with
   | some i =>
     obtain⟨a,b,c⟩:=h1 i hf;simp only[Option.some_or,ZrJ];refine⟨?_,fun e=>by cases e⟩;rintro i rfl;exact⟨by omega,b,c⟩
   | none =>
     have h3:=h2 hf;simp only[Option.none_or]
     cases hp:p n
     ·simp only[List.find?_cons,hp,List.find?_nil]
      refine⟨(fun _ e=>by cases e),fun _ j hj=>?_⟩
      by_cases e:j=n
      ·subst e;exact hp
      ·exact h3 j (by omega)
     ·simp only[List.find?_cons,hp,ZrJ]
      refine⟨?_,fun e=>by cases e⟩;rintro i rfl;exact⟨by omega,hp,h3⟩
theorem ZgT(a b:Zax)(i:Nat)(hi:i<128):((a &&& ~~~b) ||| (b &&& ~~~a)).getLsbD i=(a.getLsbD i !=b.getLsbD i):=by
 simp only[BitVec.getLsbD_or,BitVec.getLsbD_and,BitVec.getLsbD_not,hi,decide_true,Bool.true_and]
 cases a.getLsbD i <;> cases b.getLsbD i <;> rfl
theorem ZaL(a b:Zax):ZaX a b=true↔∃k,k<128∧a.getLsbD k=false∧b.getLsbD k=true∧∀j,j<k→a.getLsbD j=b.getLsbD j:=by
 obtain⟨h1,h2⟩:=Zes (fun i=>((a &&& ~~~b) ||| (b &&& ~~~a)).getLsbD i) 128;unfold ZaX Zb2
 cases hf:(List.range 128).find? (fun i=>((a &&& ~~~b) ||| (b &&& ~~~a)).getLsbD i) with
 | none =>
   have h3:=h2 hf;simp only[Nat.lt_irrefl,decide_false,Bool.false_and,Bool.false_eq_true,false_iff];rintro⟨k,hk,ha,hb,_⟩;have:=h3 k hk;rw[ZgT _ _ _ hk,ha,hb]at this
   cases this
 | some i =>
   obtain⟨g1,g2,g3⟩:=h1 i hf;simp only[Nat.succ_pos,decide_true,Bool.true_and]
   have hh:ZaZ a ((i+1:Nat):Int)=a.getLsbD i:=by
    have e1:decide ((1:Int)≤((i+1:Nat):Int))=true:=ZrI (by omega);have e2:decide (((i+1:Nat):Int)≤128)=true:=ZrI (by omega);have e3:(((i+1:Nat):Int) - 1).toNat=i:=by omega
    rw[ZaZ,e1,e2,e3];rfl
   rw[hh];have hd:(a.getLsbD i !=b.getLsbD i)=true:=by rw[←ZgT _ _ _ g1];exact g2
   have he:∀j,j<i→a.getLsbD j=b.getLsbD j:=fun j hj=>by
    have:=g3 j hj;rw[ZgT _ _ _ (by omega)]at this;simpa using this
   constructor
   ·intro h
    have ha:a.getLsbD i=false:=by simpa using h
    exact⟨i,g1,ha,by rw[ha]at hd;simpa using hd,he⟩
   ·rintro⟨k,hk,ha,hb,hj⟩
    rcases Nat.lt_trichotomy i k with h|h|h
    ·have:=hj i h;rw[this]at hd;simp at hd
    ·subst h;simp[ha]
    ·have:=he k h;rw[ha,hb]at this;cases this
theorem Zbe(a:Zax):ZaX a a=false:=by
 cases h:ZaX a a
 ·rfl
 ·obtain⟨k,_,h1,h2,_⟩:=(ZaL _ _).1 h
  rw[h1]at h2;cases h2
theorem ZdM{a b c:Zax}(h1:ZaX a b=true)(h2:ZaX b c=true):ZaX a c=true:=by
 obtain⟨k,hk,a1,a2,a3⟩:=(ZaL _ _).1 h1;obtain⟨m,hm,b1,b2,b3⟩:=(ZaL _ _).1 h2;refine(ZaL _ _).2 ?_;rcases Nat.lt_trichotomy k m with h|h|h
 ·exact⟨k,hk,a1,by rw[←b3 k h];exact a2,fun j hj=>(a3 j hj).trans (b3 j (by omega))⟩
 ·subst h;rw[a2]at b1;cases b1
 ·exact⟨m,hm,by rw[a3 m h];exact b1,b2,fun j hj=>(a3 j (by omega)).trans (b3 j hj)⟩
theorem ZbC{a b:Zax}(h1:ZaX a b=true):ZaX b a=false:=by
 cases h:ZaX b a
 ·rfl
 ·have:=ZdM h1 h;rw[Zbe]at this;cases this
theorem Zgq(p:Nat→Bool):∀n,(∃i,i<n∧p i=true)→∃i,i<n∧p i=true∧∀j,j<i→p j=false:=fun n ⟨i,h1,h2⟩=>by
 obtain⟨g1,g2⟩:=Zes p n
 cases hf:(List.range n).find? p with
 | none=>have:=g2 hf i h1;rw[h2]at this;cases this
 | some k=>exact⟨k,g1 k hf⟩
theorem ZfD{a b:Zax}(h:a≠b):ZaX a b=true∨ZaX b a=true:=by
 have:∃i,i<128∧(a.getLsbD i !=b.getLsbD i)=true:=by
  apply ZrO
  intro hn
  apply h
  apply BitVec.eq_of_getLsbD_eq
  intro i hi
  apply ZrO
  intro aJ;exact hn ⟨i,hi,by simpa using aJ⟩
 obtain⟨i,h1,h2,h3⟩:=Zgq (fun i=>a.getLsbD i !=b.getLsbD i) 128 this;have he:∀j,j<i→a.getLsbD j=b.getLsbD j:=fun j hj=>by simpa using h3 j hj
 cases ha:a.getLsbD i
 ·exact .inl ((ZaL _ _).2 ⟨i,h1,ha,by rw[ha]at h2;simpa using h2,he⟩)
 ·refine .inr ((ZaL _ _).2 ⟨i,h1,by rw[ha]at h2;simpa using h2,ha,fun j hj=>(he j hj).symm⟩)
def leS (a b:Zax):Prop:=a=b∨ZaX a b=true
theorem leS.trans{a b c:Zax}(h1:leS a b)(h2:leS b c):leS a c:=by
 rcases h1 with rfl|h1
 ·exact h2
 ·rcases h2 with rfl|h2
  ·exact .inr h1
  ·exact .inr (ZdM h1 h2)
theorem leS.antisymm{a b:Zax}(h1:leS a b)(h2:leS b a):a=b:=by
 rcases h1 with h1|h1
 ·exact h1
 ·rcases h2 with h2|h2
  ·exact h2.symm
  ·rw[ZbC h1]at h2;cases h2
theorem Zev{a b:Zax}(h:ZaX a b=false):leS b a:=by
 by_cases e:a=b
 ·exact .inl e.symm
 ·rcases ZfD e with h1|h1
  ·rw[h]at h1;cases h1
  ·exact .inr h1
section
variable {α:Type}{lt:α→α→Bool}
theorem ZgZ(p:α):∀(l:List α) (x:α),x∈Zhr lt p l↔x=p∨x∈l
 | [],x=>by simp[Zhr]
 | q :: r,x=>by
   unfold Zhr
   split
   ·simp
   ·simp only[List.mem_cons,ZgZ p r]
    constructor
    ·rintro(h|h|h)
     ·exact .inr (.inl h)
     ·exact .inl h
     ·exact .inr (.inr h)
    ·rintro(h|h|h)
     ·exact .inr (.inl h)
     ·exact .inl h
     ·exact .inr (.inr h)
theorem Zh8:∀(l:List α) (x:α),x∈Zcb lt l↔x∈l
 | [],x=>by simp[Zcb]
 | p :: r,x=>by rw[Zcb,ZgZ,Zh8 r];simp
theorem Zn0(p:α):∀(l:List α),(Zhr lt p l).length=l.length+1
 | []=>rfl
 | q :: r=>by
   unfold Zhr
   split
   ·rfl
   ·simp[Zn0 p r]
theorem Zcu(p:α):∀(l:List α),(Zhr lt p l).Perm (p :: l)
 | []=>List.Perm.refl _
 | q :: r=>by
   unfold Zhr
   split
   ·exact List.Perm.refl _
   ·exact((Zcu p r).cons q).trans (List.Perm.swap p q r)
theorem Za4:∀(l:List α),(Zcb lt l).Perm l
 | []=>List.Perm.refl _
 | p :: r=>(Zcu p _).trans ((Za4 r).cons p)
theorem Zb3(ht:∀a b c,lt a b=true→lt b c=true→lt a c=true)(p:α):∀(l:List α),l.Pairwise (fun a b=>lt a b=true)→(∀q∈l,lt p q=true∨lt q p=true)→(Zhr lt p l).Pairwise (fun a b=>lt a b=true)
 | [],_,_=>by simp[Zhr]
 | q :: r,h,hq=>by
   unfold Zhr;rw[List.pairwise_cons]at h
   split
   ·rename_i hl
    refine List.pairwise_cons.2 ⟨fun x hx=>?_,List.pairwise_cons.2 h⟩;rcases List.mem_cons.1 hx with rfl|hx
    ·exact hl
    ·exact ht _ _ _ hl (h.1 x hx)
   ·rename_i hl
    refine List.pairwise_cons.2 ⟨fun x hx=>?_,Zb3 ht p r h.2 (fun y hy=>hq y (ZrA _ hy))⟩;rcases (ZgZ p r x).1 hx with rfl|hx
    ·rcases hq q (ZrL ..) with h1|h1
     ·exact absurd h1 hl
     ·exact h1
    ·exact h.1 x hx
theorem ZbO(ht:∀a b c,lt a b=true→lt b c=true→lt a c=true):∀(l:List α),Zbz lt l=true→(Zcb lt l).Pairwise (fun a b=>lt a b=true)
 | [],_=>List.Pairwise.nil
 | p :: r,h=>by
   simp only[Zbz,ZrK,List.all_eq_true,Bool.or_eq_true]at h;rw[Zcb];exact Zb3 ht p _ (ZbO ht r h.2) (fun q hq=>h.1 q ((Zh8 r q).1 hq))
theorem Zc1:∀(l:List α),l.Pairwise (fun a b=>lt a b=true∨lt b a=true)→Zbz lt l=true
 | [],_=>rfl
 | p :: r,h=>by
   rw[List.pairwise_cons]at h;simp only[Zbz,ZrK,List.all_eq_true,Bool.or_eq_true];exact⟨h.1,Zc1 r h.2⟩
theorem sorted_eq(ha:∀a b,lt a b=true→lt b a=true→False):∀(l m:List α),l.Pairwise (fun a b=>lt a b=true)→m.Pairwise (fun a b=>lt a b=true)→(∀x,x∈l↔x∈m)→l=m
 | [],[],_,_,_=>rfl
 | [],q :: r,_,_,h=>by have:=(h q).2 (ZrL ..);cases this
 | p :: r,[],_,_,h=>by have:=(h p).1 (ZrL ..);cases this
 | p :: r,q :: k,h1,h2,h=>by
   rw[List.pairwise_cons]at h1 h2
   have e:p=q:=by
    rcases List.mem_cons.1 ((h p).1 (ZrL ..)) with e|e
    ·exact e
    ·rcases List.mem_cons.1 ((h q).2 (ZrL ..)) with e2|e2
     ·exact e2.symm
     ·exact(ha _ _ (h1.1 q e2) (h2.1 p e)).elim
   subst e;rw[sorted_eq ha r k h1.2 h2.2 (fun x=>?_)];have gG:p∉r:=fun hm=>ha _ _ (h1.1 p hm) (h1.1 p hm)
   have gH:p∉k:=fun hm=>ha _ _ (h2.1 p hm) (h2.1 p hm)
   constructor
   ·intro hx
    rcases List.mem_cons.1 ((h x).1 (ZrA _ hx)) with e|e
    ·subst e;exact absurd hx gG
    ·exact e
   ·intro hx
    rcases List.mem_cons.1 ((h x).2 (ZrA _ hx)) with e|e
    ·subst e;exact absurd hx gH
    ·exact e
end
end Go.Proofs.YtemnmcfmabamcaaGreatDoor.L
namespace Go.Proofs.YtemnmcfmabamcaaGreatDoor.L
abbrev Asg:=Int→Bool
def ZoX:Nat→List Zac→Nat→Asg→Bool
 | 0,_,_,_=>false
 | f+1,ns,i,x=>match ns[i]? with
   | none=>false
   | some n=>if n.lit≠0 then x (n.lit.natAbs:Int) ==decide (0<n.lit) else if n.el=[] then decide (i=1) else n.el.any fun p=>ZoX f ns p.1 x && ZoX f ns p.2 x
def sem (ns:List Zac)(i:Nat)(x:Asg):Bool:=ZoX (i+1) ns i x
def Kids(ns:List Zac):Prop:=∀(i:Nat) (n:Zac),ns[i]? =some n→∀p∈n.el,p.1<i∧p.2<i
theorem Zcq{α:Type}{l:List α}{f g:α→Bool}(h:∀p∈l,f p=g p):l.any f=l.any g:=by
 induction l with
 | nil=>rfl
 | cons a r ih=>rw[List.any_cons,List.any_cons,h a (ZrL ..),ih (fun p hp=>h p (ZrA _ hp))]
theorem ZfT{ns m:List Zac}(hk:Kids ns)(x:Asg):∀(i f g:Nat),i<f→i<g→i<ns.length→ZoX f (ns++m) i x=ZoX g ns i x:=by
 intro i
 induction i using Nat.strongRecOn with
 | ind i ih =>
   intro f g hf hg hi;obtain⟨f,rfl⟩:∃f',f=f'+1:=⟨f - 1,by omega⟩;obtain⟨g,rfl⟩:∃g',g=g'+1:=⟨g - 1,by omega⟩;rw[ZoX,ZoX,List.getElem?_append_left hi,Zry hi];simp only
   split
   ·rfl
   ·split
    ·rfl
    ·refine Zcq fun p hp=>?_
     obtain⟨h1,h2⟩:=hk i _ (Zry hi) p hp;rw[ih p.1 h1 f g (by omega) (by omega) (by omega),ih p.2 h2 f g (by omega) (by omega) (by omega)]
theorem Zba{ns m:List Zac}(hk:Kids ns){i:Nat}(hi:i<ns.length):sem (ns++m) i=sem ns i:=by
 funext x;exact ZfT hk x i _ _ (Nat.lt_succ_self _) (Nat.lt_succ_self _) hi
theorem sem_node{ns:List Zac}(hk:Kids ns){i:Nat}{n:Zac}(hn:ns[i]? =some n)(x:Asg) :
  sem ns i x=if n.lit≠0 then x (n.lit.natAbs:Int) ==decide (0<n.lit) else if n.el=[] then decide (i=1) else n.el.any fun p=>sem ns p.1 x && sem ns p.2 x:=by
 rw[sem,ZoX,hn];simp only
 split
 ·rfl
 ·split
  ·rfl
  ·refine Zcq fun p hp=>?_
   obtain⟨h1,h2⟩:=hk i n hn p hp;have hi:=(Zrw hn).1;have e1:=ZfT (m:=[]) hk x p.1 i (p.1+1) h1 (Nat.lt_succ_self _) (by omega);have e2:=ZfT (m:=[]) hk x p.2 i (p.2+1) h2 (Nat.lt_succ_self _) (by omega);rw[List.append_nil]at e1 e2;rw[e1,e2];rfl
def Dep (S:Int→Prop)(φ:Asg→Bool):Prop:=∀x y:Asg,(∀v,S v→x v=y v)→φ x=φ y
theorem Dep.mono{S T:Int→Prop}{φ:Asg→Bool}(h:Dep S φ)(hs:∀v,S v→T v):Dep T φ:=fun x y gW=>h x y fun v hv=>gW v (hs v hv)
def asg (m:Zax):Asg:=fun v=>ZaZ m v
def constN:Zac:={ pl:=-1,lit:=0,el:=[],le:=0 }
structure Zei (t:List VN) (n:Zac):Prop where
 el:n.el=[]
 lit:n.lit≠0
 leaf:∃(u:Nat) (y:VN),n.pl=u∧t[u]? =some y∧Zai y=true∧y.var=(n.lit.natAbs:Int)
 le:n.le=if 0<n.lit then ofS [n.lit] else 0
structure ZaA (t:List VN) (ns:List Zac) (l r:Nat) (el:List (Nat × Nat)):Prop where
 pdep:∀p∈el,Dep (Bel t l) (sem ns p.1)
 sdep:∀p∈el,Dep (Bel t r) (sem ns p.2)
 pne:∀p∈el,∃x,sem ns p.1 x=true
 disj:el.Pairwise fun p q=>∀x,¬ (sem ns p.1 x=true∧sem ns q.1 x=true)
 cover:∀x,∃p∈el,sem ns p.1 x=true
 nd:el.Pairwise fun p q=>p.2≠q.2
 big:∃p∈el,2≤p.2
 two:2≤el.length
structure Zb9 (t:List VN) (ns:List Zac) (i:Nat) (n:Zac):Prop where
 lit:n.lit=0
 kids:∀p∈n.el,p.1<i∧p.2<i
 parts:∃(P:Nat) (y:VN) (l r:Nat),n.pl=P∧t[P]? =some y∧Zai y=false∧y.left=l∧y.right=r∧ZaA t ns l r n.el
 sorted:n.el.Pairwise fun p q=>Za9 ns p q=true
 le:n.le=(Za8 ns n.el).2
structure Min (ns:List Zac) (i:Nat):Prop where
 sat:sem ns i (asg (ZaG ns i))=true
 le:∀m,sem ns i (asg m)=true→leS (ZaG ns i) m
def Zbq (n:Zac):Key:=(n.pl,n.lit,n.el)
structure Inv (s:St):Prop where
 tree:Zae s.tree=0
 zero:s.nodes[0]? =some constN
 one:s.nodes[1]? =some constN
 ok:∀(i:Nat) (n:Zac),2≤i→s.nodes[i]? =some n→Zei s.tree n∨Zb9 s.tree s.nodes i n
 min:∀i,1≤i→i<s.nodes.length→Min s.nodes i
 uq1:∀(k:Key) (i:Nat),asc s.uniq k=some i→2≤i∧∃n,s.nodes[i]? =some n∧Zbq n=k
 uq2:∀(i:Nat) (n:Zac),2≤i→s.nodes[i]? =some n→asc s.uniq (Zbq n)=some i
 ands:∀a b c,asc s.ands (a,b)=some c→a<s.nodes.length∧b<s.nodes.length∧c<s.nodes.length∧∀x,sem s.nodes c x=(sem s.nodes a x && sem s.nodes b x)
 nots:∀a b,asc s.nots a=some b→a<s.nodes.length∧b<s.nodes.length∧∀x,sem s.nodes b x= !sem s.nodes a x
theorem Inv.kids{s:St}(h:Inv s):Kids s.nodes:=fun i n hn p hp=>by
 rcases Nat.lt_or_ge i 2 with hi|hi
 ·have:n=constN:=by
   have:i=0∨i=1:=by omega
   rcases this with rfl|rfl
   ·rw[h.zero]at hn;exact(Option.some.inj hn).symm
   ·rw[h.one]at hn;exact(Option.some.inj hn).symm
  subst this;cases hp
 ·rcases h.ok i n hi hn with h1|h1
  ·rw[h1.el]at hp;cases hp
  ·exact h1.kids p hp
theorem Inv.len{s:St}(h:Inv s):2≤s.nodes.length:=by
 have:=(Zrw h.one).1;omega
theorem Inv.sem0{s:St}(h:Inv s)(x:Asg):sem s.nodes 0 x=false:=by
 rw[sem_node h.kids h.zero];simp[constN]
theorem Inv.sem1{s:St}(h:Inv s)(x:Asg):sem s.nodes 1 x=true:=by
 rw[sem_node h.kids h.one];simp[constN]
theorem Inv.semLit{s:St}(h:Inv s){i:Nat}{n:Zac}(hn:s.nodes[i]? =some n)(hl:Zei s.tree n)(x:Asg):sem s.nodes i x=(x (n.lit.natAbs:Int) ==decide (0<n.lit)):=by
 rw[sem_node h.kids hn,if_pos hl.lit]
theorem Inv.semDec{s:St}(h:Inv s){i:Nat}{n:Zac}(hn:s.nodes[i]? =some n)(hl:Zb9 s.tree s.nodes i n)(x:Asg):sem s.nodes i x=n.el.any fun p=>sem s.nodes p.1 x && sem s.nodes p.2 x:=by
 obtain⟨P,y,l,r,_,_,_,_,_,hp⟩:=hl.parts;have aJ:n.el≠[]:=fun e=>by have:=hp.two;rw[e]at this;simp at this
 rw[sem_node h.kids hn,if_neg (by simp[hl.lit]),if_neg aJ]
noncomputable def mix (S:Int→Prop) (x y:Asg):Asg:=fun v=>open Classical in if S v then x v else y v
theorem ZqC{S:Int→Prop}{x y:Asg}{v:Int}(h:S v):mix S x y v=x v:=if_pos h
theorem ZfG{S:Int→Prop}{x y:Asg}{v:Int}(h:¬ S v):mix S x y v=y v:=if_neg h
theorem ZaA.at{t:List VN}{ns:List Zac}{l r:Nat}{el:List (Nat × Nat)}(h:ZaA t ns l r el){p:Nat × Nat}(hp:p∈el){x:Asg}(hx:sem ns p.1 x=true) :
  (el.any fun q=>sem ns q.1 x && sem ns q.2 x)=sem ns p.2 x:=by
 have hd:∀(l:List (Nat × Nat)) (q:Nat × Nat),(l.Pairwise fun p q=>∀x,¬ (sem ns p.1 x=true∧sem ns q.1 x=true))→p∈l→q∈l→sem ns q.1 x=true→q=p:=by
  intro l q
  induction l with
  | nil=>intro _ hp;cases hp
  | cons a k ih =>
    intro fu hp hq ze;rw[List.pairwise_cons]at fu;rcases List.mem_cons.1 hp with rfl|cH
    ·rcases List.mem_cons.1 hq with rfl|bG
     ·rfl
     ·exact absurd ⟨hx,ze⟩ (fu.1 q bG x)
    ·rcases List.mem_cons.1 hq with rfl|bG
     ·exact absurd ⟨ze,hx⟩ (fu.1 p cH x)
     ·exact ih fu.2 cH bG ze
 have huniq:∀q∈el,sem ns q.1 x=true→q=p:=fun q hq ze=>hd el q h.disj hp hq ze
 cases hs:sem ns p.2 x
 ·rw[List.any_eq_false]
  intro q hq hc;simp only[ZrK]at hc;have:=huniq q hq hc.1;subst this;rw[hs]at hc;cases hc.2
 ·rw[List.any_eq_true]
  exact⟨p,hp,by rw[hx,hs];rfl⟩
theorem Dep.mixL{S:Int→Prop}{φ:Asg→Bool}(h:Dep S φ)(x y:Asg):φ (mix S x y)=φ x:=h _ _ fun _ hv=>ZqC hv
theorem Dep.mixR{S T:Int→Prop}{φ:Asg→Bool}(h:Dep T φ)(hd:∀v,S v→T v→False)(x y:Asg):φ (mix S x y)=φ y:=h _ _ fun v hv=>ZfG (fun hs=>hd v hs hv)
end Go.Proofs.YtemnmcfmabamcaaGreatDoor.L
namespace Go.Proofs.YtemnmcfmabamcaaGreatDoor.L
def Ess (S:Int→Prop)(φ:Asg→Bool):Prop:=∃x y:Asg,(∀v,¬ S v→x v=y v)∧φ x≠φ y
theorem Ess.meets{S T:Int→Prop}{φ:Asg→Bool}(h:Ess S φ)(hd:Dep T φ):∃v,S v∧T v:=by
 obtain⟨x,y,h1,h2⟩:=h
 apply ZrO
 intro hn;exact h2 (hd x y fun v hv=>h1 v fun hs=>hn ⟨v,hs,hv⟩)
theorem Bel.one{t:List VN}(hc:Zae t=0){a b:Nat}{v:Int}(h1:Bel t a v)(h2:Bel t b v):∃u,Und t a u∧Und t b u:=by
 obtain⟨u,z,a1,a2,a3,a4⟩:=h1;obtain⟨u',z',b1,b2,b3,b4⟩:=h2;obtain rfl:=leaf_var hc a1 b1 a2 b2 (a3.trans b3.symm);exact⟨u,a4,b4⟩
theorem Zb6{t:List VN}(hc:Zae t=0){P Q:Nat}{y:VN}{l r:Nat}(hx:t[P]? =some y)(aI:Zai y=false)(hl:y.left=l)(hr:y.right=r){φ:Asg→Bool}
  (e1:Ess (Bel t l) φ) (e2:Ess (Bel t r) φ) (hd:Dep (Bel t Q) φ):Und t Q P:=by
 obtain⟨v,v1,v2⟩:=e1.meets hd;obtain⟨w,w1,w2⟩:=e2.meets hd;obtain⟨a,a1,a2⟩:=Bel.one hc v1 v2;obtain⟨b,b1,b2⟩:=Bel.one hc w1 w2;have cz:¬ Und t l Q:=fun h=>Und.apart hc hx aI hl hr (h.trans b2) b1
 have hq:Und t Q l:=by
  rcases Nat.lt_or_ge Q l with h|h
  ·exact absurd (a2.linear hc a1 (by omega)) cz
  ·exact a1.linear hc a2 h
 obtain⟨l',r',c1,c2,c3,c4,c5,c6,c7⟩:=inner_ok hc hx aI;obtain rfl:l'=l:=by omega
 cases hq with
 | refl=>exact absurd .refl cz
 | step _ h=>rw[c6]at h;exact h
theorem ZaA.sub_eq{t:List VN}(hc:Zae t=0){P:Nat}{y:VN}{l r:Nat}(hx:t[P]? =some y)(aI:Zai y=false)(hl:y.left=l)(hr:y.right=r){n1 n2:List Zac}{e1 e2:List (Nat × Nat)}
  (h1:ZaA t n1 l r e1) (h2:ZaA t n2 l r e2) (he:∀x,(e1.any fun q=>sem n1 q.1 x && sem n1 q.2 x)=e2.any fun q=>sem n2 q.1 x && sem n2 q.2 x)
  {p q:Nat × Nat}(hp:p∈e1) (hq:q∈e2) {x:Asg}(px:sem n1 p.1 x=true) (qx:sem n2 q.1 x=true):sem n1 p.2=sem n2 q.2:=by
 funext z
 have eT:∀v,Bel t l v→Bel t r v→False:=fun v a b=>Bel.apart hc hx aI hl hr a b
 have a1:=h1.at hp (x:=mix (Bel t l) x z) (by rw[(h1.pdep p hp).mixL];exact px);have a2:=h2.at hq (x:=mix (Bel t l) x z) (by rw[(h2.pdep q hq).mixL];exact qx);rw[(h1.sdep p hp).mixR eT]at a1;rw[(h2.sdep q hq).mixR eT]at a2;rw[←a1,←a2];exact he _
theorem ZcL{t:List VN}(hc:Zae t=0){P:Nat}{y:VN}{l r:Nat}(hx:t[P]? =some y)(aI:Zai y=false)(hl:y.left=l)(hr:y.right=r){n1 n2:List Zac}{e1 e2:List (Nat × Nat)}
  (h1:ZaA t n1 l r e1) (h2:ZaA t n2 l r e2) (he:∀x,(e1.any fun q=>sem n1 q.1 x && sem n1 q.2 x)=e2.any fun q=>sem n2 q.1 x && sem n2 q.2 x)
  (d1:∀p∈e1,∀q∈e1,sem n1 p.2=sem n1 q.2→p=q) (d2:∀p∈e2,∀q∈e2,sem n2 p.2=sem n2 q.2→p=q) :
  ∀p∈e1,∃q∈e2,sem n1 p.1=sem n2 q.1∧sem n1 p.2=sem n2 q.2:=by
 intro p hp;obtain⟨x,px⟩:=h1.pne p hp;obtain⟨q,hq,qx⟩:=h2.cover x;have hs:=ZaA.sub_eq hc hx aI hl hr h1 h2 he hp hq px qx;refine⟨q,hq,?_,hs⟩
 funext z
 rw[Bool.eq_iff_iff]
 constructor
 ·intro pz
  obtain⟨q',bG,qz⟩:=h2.cover z;have hs':=ZaA.sub_eq hc hx aI hl hr h1 h2 he hp bG pz qz;rw[d2 q hq q' bG (hs.symm.trans hs')];exact qz
 ·intro qz
  obtain⟨p',cH,pz⟩:=h1.cover z;have hs':=ZaA.sub_eq hc hx aI hl hr h1 h2 he cH hq pz qz;rw[d1 p hp p' cH (hs.trans hs'.symm)];exact pz
theorem ZaA.essL{t:List VN}(hc:Zae t=0){P:Nat}{y:VN}{l r:Nat}(hx:t[P]? =some y)(aI:Zai y=false)(hl:y.left=l)(hr:y.right=r){ns:List Zac}{el:List (Nat × Nat)}
  (h:ZaA t ns l r el) (hd:∀p∈el,∀q∈el,sem ns p.2=sem ns q.2→p=q):Ess (Bel t l) (fun x=>el.any fun q=>sem ns q.1 x && sem ns q.2 x):=by
 have eT:∀v,Bel t l v→Bel t r v→False:=fun v a b=>Bel.apart hc hx aI hl hr a b
 obtain⟨p,q,hp,hq,jN⟩:∃p q,p∈el∧q∈el∧p≠q:=by
  have h2:=h.two;have hn:=h.nd
  match el,h2,hn with
  | a :: b :: k,_,hn =>
    rw[List.pairwise_cons]at hn;exact⟨a,b,ZrL ..,ZrA _ (ZrL ..),fun e=>hn.1 b (ZrL ..) (by rw[e])⟩
 have aJ:sem ns p.2≠sem ns q.2:=fun e=>jN (hd p hp q hq e)
 obtain⟨z,hz⟩:∃z,sem ns p.2 z≠sem ns q.2 z:=by
  apply ZrO
  intro hn;exact aJ (funext fun z=>ZrO fun hz=>hn ⟨z,hz⟩)
 obtain⟨xp,px⟩:=h.pne p hp;obtain⟨xq,qx⟩:=h.pne q hq;refine⟨mix (Bel t l) xp z,mix (Bel t l) xq z,fun v hv=>by rw[ZfG hv,ZfG hv],?_⟩;have a1:=h.at hp (x:=mix (Bel t l) xp z) (by rw[(h.pdep p hp).mixL];exact px);have a2:=h.at hq (x:=mix (Bel t l) xq z) (by rw[(h.pdep q hq).mixL];exact qx);rw[(h.sdep p hp).mixR eT]at a1;rw[(h.sdep q hq).mixR eT]at a2
 show (el.any _)≠(el.any _)
 rw[a1,a2];exact hz
theorem ZaA.essR{t:List VN}(hc:Zae t=0){P:Nat}{y:VN}{l r:Nat}(hx:t[P]? =some y)(aI:Zai y=false)(hl:y.left=l)(hr:y.right=r){ns:List Zac}{el:List (Nat × Nat)}
  (h:ZaA t ns l r el) (hd:∃p∈el,∃z1 z2,sem ns p.2 z1≠sem ns p.2 z2):Ess (Bel t r) (fun x=>el.any fun q=>sem ns q.1 x && sem ns q.2 x):=by
 have eT:∀v,Bel t l v→Bel t r v→False:=fun v a b=>Bel.apart hc hx aI hl hr a b
 obtain⟨p,hp,z1,z2,hz⟩:=hd;obtain⟨x,px⟩:=h.pne p hp;refine⟨mix (Bel t r) z1 x,mix (Bel t r) z2 x,fun v hv=>by rw[ZfG hv,ZfG hv],?_⟩
 have gG:∀z,sem ns p.1 (mix (Bel t r) z x)=true:=fun z=>by
  rw[(h.pdep p hp).mixR (fun v a b=>eT v b a)];exact px
 have a1:=h.at hp (gG z1);have a2:=h.at hp (gG z2);rw[(h.sdep p hp).mixL]at a1 a2
 show (el.any _)≠(el.any _)
 rw[a1,a2];exact hz
theorem ZaA.dep{t:List VN}(hc:Zae t=0){P:Nat}{y:VN}{l r:Nat}(hx:t[P]? =some y)(aI:Zai y=false)(hl:y.left=l)(hr:y.right=r){ns:List Zac}{el:List (Nat × Nat)}
  (h:ZaA t ns l r el):Dep (Bel t P) (fun x=>el.any fun q=>sem ns q.1 x && sem ns q.2 x):=by
 intro x z wt;refine Zcq fun p hp=>?_
 rw[(h.pdep p hp) x z (fun v hv=>wt v ((Bel.kids hc hx aI hl hr v).2 (.inl hv))),(h.sdep p hp) x z (fun v hv=>wt v ((Bel.kids hc hx aI hl hr v).2 (.inr hv)))]
theorem const_not{φ:Asg→Bool}{v:Int}{b:Bool}(h:∀x,φ x=(x v ==b)):∃z1 z2,φ z1≠φ z2 :=
 ⟨fun _=>true,fun _=>false,by rw[h,h];cases b <;> simp⟩
theorem Ess.const_not{S:Int→Prop}{φ:Asg→Bool}(h:Ess S φ):∃z1 z2,φ z1≠φ z2:=by
 obtain⟨x,y,_,h2⟩:=h;exact⟨x,y,h2⟩
theorem Inv.kind{s:St}(h:Inv s){i:Nat}(hi:i<s.nodes.length):i=0∨i=1∨(2≤i∧∃n,s.nodes[i]? =some n∧(Zei s.tree n∨Zb9 s.tree s.nodes i n)):=by
 rcases Nat.lt_or_ge i 2 with h2|h2
 ·omega
 ·exact .inr (.inr ⟨h2,_,Zry hi,h.ok i _ h2 (Zry hi)⟩)
theorem Zb1{s:St}(h:Inv s){k i:Nat}(ih:∀a b,a<k→b<k→a<s.nodes.length→b<s.nodes.length→sem s.nodes a=sem s.nodes b→a=b)(s8:i≤k){n:Zac}(hn:s.nodes[i]? =some n)(hd:Zb9 s.tree s.nodes i n) :
  ∃(P:Nat) (y:VN) (l r:Nat),n.pl=P∧s.tree[P]? =some y∧Zai y=false∧y.left=l∧y.right=r∧ZaA s.tree s.nodes l r n.el ∧
    (∀p∈n.el,∀q∈n.el,sem s.nodes p.2=sem s.nodes q.2→p=q)∧Ess (Bel s.tree l) (sem s.nodes i)∧Ess (Bel s.tree r) (sem s.nodes i)∧Dep (Bel s.tree P) (sem s.nodes i):=by
 obtain⟨P,y,l,r,hP,hy,aI,hl,hr,hp⟩:=hd.parts;have hi:i<s.nodes.length:=(Zrw hn).1
 have jJ:∀p∈n.el,∀q∈n.el,sem s.nodes p.2=sem s.nodes q.2→p=q:=fun p cH q hq e=>by
  have a1:=hd.kids p cH;have a2:=hd.kids q hq;have e2:=ih p.2 q.2 (by omega) (by omega) (by omega) (by omega) e
  apply ZrO
  intro aJ
  have sr:∀(l:List (Nat × Nat)),(l.Pairwise fun p q=>p.2≠q.2)→p∈l→q∈l→False:=by
   intro l
   induction l with
   | nil=>intro _ hp;cases hp
   | cons a m ihl =>
     intro fu h1 h2;rw[List.pairwise_cons]at fu;rcases List.mem_cons.1 h1 with rfl|dI
     ·rcases List.mem_cons.1 h2 with rfl|dJ
      ·exact aJ rfl
      ·exact fu.1 q dJ e2
     ·rcases List.mem_cons.1 h2 with rfl|dJ
      ·exact fu.1 p dI e2.symm
      ·exact ihl fu.2 dI dJ
  exact sr _ hp.nd cH hq
 have eg:sem s.nodes i=fun x=>n.el.any fun p=>sem s.nodes p.1 x && sem s.nodes p.2 x:=funext fun x=>h.semDec hn hd x
 have qZ:∃p∈n.el,∃z1 z2,sem s.nodes p.2 z1≠sem s.nodes p.2 z2:=by
  obtain⟨p,cH,h2⟩:=hp.big;refine⟨p,cH,?_⟩;have a1:=hd.kids p cH;have iE:=h.len
  apply ZrO
  intro hn;have y5:∀z,sem s.nodes p.2 z=sem s.nodes p.2 (fun _=>true):=fun z=>ZrO fun hz=>hn ⟨z,_,hz⟩
  cases hv:sem s.nodes p.2 (fun _=>true)
  ·have:=ih p.2 0 (by omega) (by omega) (by omega) (by omega) (funext fun z=>by rw[y5 z,hv,h.sem0])
   omega
  ·have:=ih p.2 1 (by omega) (by omega) (by omega) (by omega) (funext fun z=>by rw[y5 z,hv,h.sem1])
   omega
 refine⟨P,y,l,r,hP,hy,aI,hl,hr,hp,jJ,?_,?_,?_⟩
 ·rw[eg];exact ZaA.essL h.tree hy aI hl hr hp jJ
 ·rw[eg];exact ZaA.essR h.tree hy aI hl hr hp qZ
 ·rw[eg];exact ZaA.dep h.tree hy aI hl hr hp
theorem ZiM{ns:List Zac}(a b:Nat × Nat)(h1:Za9 ns a b=true)(h2:Za9 ns b a=true):False:=by
 unfold Za9 at h1 h2;rw[ZbC h1]at h2;cases h2
theorem ZlC{s:St}(h:Inv s):∀k i j,i<k→j<k→i<s.nodes.length→j<s.nodes.length→sem s.nodes i=sem s.nodes j→i=j:=by
 intro k
 induction k with
 | zero=>intro i j hi;omega
 | succ k ih =>
   -- a decision node is no constant and no literal,and is found again
   have ya:∀i n,i≤k→s.nodes[i]? =some n→Zb9 s.tree s.nodes i n→∀(c:Bool),¬ ∀x,sem s.nodes i x=c:=fun i n hi hn hd c hc=>by
    obtain⟨_,_,_,_,_,_,_,_,_,_,_,e1,_,_⟩:=Zb1 h ih hi hn hd;obtain⟨z1,z2,hz⟩:=e1.const_not;exact hz (by rw[hc,hc])
   have wS:∀i n,s.nodes[i]? =some n→Zei s.tree n→∀(c:Bool),¬ ∀x,sem s.nodes i x=c:=fun i n hn hl c hc=>by
    obtain⟨z1,z2,hz⟩:=const_not (fun x=>h.semLit hn hl x);exact hz (by rw[hc,hc])
   have sd:∀i j n m,j≤k→s.nodes[i]? =some n→s.nodes[j]? =some m→Zei s.tree n→Zb9 s.tree s.nodes j m→sem s.nodes i=sem s.nodes j→False:=fun i j n m hj hn hm hl hd e=>by
    obtain⟨P,y,l,r,_,hy,aI,bF,jT,_,_,e1,e2,_⟩:=Zb1 h ih hj hm hd;obtain⟨u,z,hu,hz,dC,cP⟩:=hl.leaf
    have jj:Dep (Bel s.tree u) (sem s.nodes j):=by
     rw[←e];intro x x' hx;rw[h.semLit hn hl,h.semLit hn hl,hx _ ((Bel.leaf h.tree hz dC _).2 cP.symm)]
    have:=(Zb6 h.tree hy aI bF jT e1 e2 jj).leaf h.tree hz dC;rw[this,hz]at hy
    cases hy
    rw[dC]at aI;cases aI
   have aH:∀i j (n m:Zac),2≤i→2≤j→s.nodes[i]? =some n→s.nodes[j]? =some m→Zbq n=Zbq m→i=j:=fun i j n m hi hj hn hm e=>by
    have a1:=h.uq2 i n hi hn;have a2:=h.uq2 j m hj hm;rw[e,a2]at a1;exact(Option.some.inj a1).symm
   intro i j hi hj ex db e
   have nk:∀a,a<s.nodes.length→a≤k→(∀x,sem s.nodes a x=false)→a=0:=fun a ha hak hs=>by
    rcases h.kind ha with rfl|rfl|⟨h2,n,hn,hl|hd⟩
    ·rfl
    ·have:=hs (fun _=>true);rw[h.sem1]at this;cases this
    ·exact(wS a n hn hl _ hs).elim
    ·exact(ya a n hak hn hd _ hs).elim
   have dw:∀a,a<s.nodes.length→a≤k→(∀x,sem s.nodes a x=true)→a=1:=fun a ha hak hs=>by
    rcases h.kind ha with rfl|rfl|⟨h2,n,hn,hl|hd⟩
    ·have:=hs (fun _=>true);rw[h.sem0]at this;cases this
    ·rfl
    ·exact(wS a n hn hl _ hs).elim
    ·exact(ya a n hak hn hd _ hs).elim
   rcases h.kind ex with rfl|rfl|⟨jx,n,hn,cR⟩
   ·exact(nk j db (by omega) (fun x=>by rw[←e];exact h.sem0 x)).symm
   ·exact(dw j db (by omega) (fun x=>by rw[←e];exact h.sem1 x)).symm
   ·rcases h.kind db with rfl|rfl|⟨py,m,hm,gS⟩
    ·exact nk i ex (by omega) (fun x=>by rw[e];exact h.sem0 x)
    ·exact dw i ex (by omega) (fun x=>by rw[e];exact h.sem1 x)
    ·rcases cR with hl|hd
     ·rcases gS with eK|iL
      ·-- two literals
       refine aH i j n m jx py hn hm ?_
       have o0:∀x:Asg,(x (n.lit.natAbs:Int) ==decide (0<n.lit))=(x (m.lit.natAbs:Int) ==decide (0<m.lit)):=fun x=>by
        rw[←h.semLit hn hl,←h.semLit hm eK,e]
       have tH:decide (0<n.lit)=decide (0<m.lit):=by
        have:=o0 (fun _=>true);simpa using this
       have hv:n.lit.natAbs=m.lit.natAbs:=by
        apply ZrO
        intro aJ;have:=o0 (fun v=>decide (v=(n.lit.natAbs:Int)));rw[tH]at this;have h2:¬ ((m.lit.natAbs:Int)=(n.lit.natAbs:Int)):=by omega
        simp only[decide_true,h2,decide_false]at this
        cases hb:decide (0<m.lit) <;> rw[hb]at this <;> simp at this
       have jL:n.lit=m.lit:=by
        have a1:=hl.lit;have a2:=eK.lit;have:(0<n.lit)↔(0<m.lit):=by simpa using tH
        omega
       obtain⟨u,z,hu,hz,dC,cP⟩:=hl.leaf;obtain⟨u',z',pW,qG,vT,vU⟩:=eK.leaf;have:=leaf_var h.tree hz qG dC vT (by rw[cP,vU,hv]);unfold Zbq;rw[hu,pW,this,jL,hl.el,eK.el]
      ·exact(sd i j n m (by omega) hn hm hl iL e).elim
     ·rcases gS with eK|iL
      ·exact(sd j i m n (by omega) hm hn eK hd e.symm).elim
      ·refine aH i j n m jx py hn hm ?_
       obtain⟨P,y,l,r,hP,hy,aI,bF,jT,hp,jJ,e1,e2,jj⟩:=Zb1 h ih (by omega) hn hd;obtain⟨P',y',l',r',hP',lL,nJ,vP,vQ,cH,kU,mM,pf,mT⟩:=Zb1 h ih (by omega) hm iL;have u1:=Zb6 h.tree hy aI bF jT e1 e2 (by rw[e];exact mT);have u2:=Zb6 h.tree lL nJ vP vQ mM pf (by rw[←e];exact jj);have tj:P=P':=by have:=u1.le h.tree;have:=u2.le h.tree;omega
       subst tj;rw[hy]at lL
       cases lL
       obtain rfl:l=l':=by omega
       obtain rfl:r=r':=by omega
       have o0:∀x,(n.el.any fun q=>sem s.nodes q.1 x && sem s.nodes q.2 x)=m.el.any fun q=>sem s.nodes q.1 x && sem s.nodes q.2 x:=fun x=>by
        rw[←h.semDec hn hd,←h.semDec hm iL,e]
       have m1:=ZcL h.tree hy aI bF jT hp cH o0 jJ kU;have m2:=ZcL h.tree hy aI bF jT cH hp (fun x=>(o0 x).symm) kU jJ
       have cN:n.el=m.el:=by
        refine sorted_eq ZiM _ _ hd.sorted iL.sorted fun p=>⟨fun de=>?_,fun de=>?_⟩
        ·obtain⟨q,hq,g1,g2⟩:=m1 p de
         have b1:=hd.kids p de;have b2:=iL.kids q hq;have c1:=ih p.1 q.1 (by omega) (by omega) (by omega) (by omega) g1;have c2:=ih p.2 q.2 (by omega) (by omega) (by omega) (by omega) g2;rw[show p=q from Prod.ext c1 c2];exact hq
        ·obtain⟨q,hq,g1,g2⟩:=m2 p de
         have b1:=iL.kids p de;have b2:=hd.kids q hq;have c1:=ih p.1 q.1 (by omega) (by omega) (by omega) (by omega) g1;have c2:=ih p.2 q.2 (by omega) (by omega) (by omega) (by omega) g2;rw[show p=q from Prod.ext c1 c2];exact hq
       unfold Zbq;rw[hP,hP',hd.lit,iL.lit,cN]
theorem Inv.canon{s:St}(h:Inv s){i j:Nat}(hi:i<s.nodes.length)(hj:j<s.nodes.length)(e:sem s.nodes i=sem s.nodes j):i=j :=
 ZlC h (i+j+1) i j (by omega) (by omega) hi hj e
end Go.Proofs.YtemnmcfmabamcaaGreatDoor.L
namespace Go.Proofs.YtemnmcfmabamcaaGreatDoor.L
def vlF:Nat→List VN→Nat→List Int
 | 0,_,_=>[]
 | f+1,t,v=>match t[v]? with
   | none=>[]
   | some y=>if Zai y=true then [y.var] else vlF f t y.left.toNat++vlF f t y.right.toNat
def vl (t:List VN)(v:Nat):List Int:=vlF (v+1) t v
def nv (t:List VN)(v:Nat):Nat:=(vl t v).length
theorem Zka{t:List VN}(hc:Zae t=0):∀(v f g:Nat),v<f→v<g→vlF f t v=vlF g t v:=by
 intro v
 induction v using Nat.strongRecOn with
 | ind v ih =>
   intro f g hf hg;obtain⟨f,rfl⟩:∃f',f=f'+1:=⟨f - 1,by omega⟩;obtain⟨g,rfl⟩:∃g',g=g'+1:=⟨g - 1,by omega⟩;rw[vlF,vlF]
   cases hy:t[v]? with
   | none=>rfl
   | some y =>
     simp only
     split
     ·rfl
     ·rename_i hl
      obtain⟨l,r,e1,e2,h1,h2,_⟩:=inner_ok hc hy (by simpa using hl);have a1:y.left.toNat=l:=by omega
      have a2:y.right.toNat=r:=by omega
      rw[a1,a2,ih l h1 f g (by omega) (by omega),ih r h2 f g (by omega) (by omega)]
theorem Zf3{t:List VN}{v:Nat}{y:VN}(hy:t[v]? =some y)(hl:Zai y=true):vl t v=[y.var]:=by
 rw[vl,vlF,hy];simp[hl]
theorem Ze9{t:List VN}(hc:Zae t=0){v:Nat}{y:VN}{l r:Nat}(hy:t[v]? =some y)(aI:Zai y=false)(hl:y.left=l)(hr:y.right=r):vl t v=vl t l++vl t r:=by
 obtain⟨l',r',e1,e2,h1,h2,_⟩:=inner_ok hc hy aI;obtain rfl:l'=l:=by omega
 obtain rfl:r'=r:=by omega
 have a1:y.left.toNat=l':=by omega
 have a2:y.right.toNat=r':=by omega
 rw[vl,vlF,hy];simp only[aI,Bool.false_eq_true,if_false,a1,a2];rw[Zka hc l' v (l'+1) h1 (by omega),Zka hc r' v (r'+1) h2 (by omega)]
 rfl
theorem ZeN{t:List VN}(hc:Zae t=0):∀(v:Nat),v<t.length→∀x,x∈vl t v↔Bel t v x:=by
 intro v
 induction v using Nat.strongRecOn with
 | ind v ih =>
   intro hv x;have hy:t[v]? =some t[v]:=Zry hv
   cases hl:Zai t[v]
   ·obtain⟨l,r,e1,e2,h1,h2,_⟩:=inner_ok hc hy hl
    rw[Ze9 hc hy hl e1 e2,List.mem_append,ih l h1 (by omega),ih r h2 (by omega),Bel.kids hc hy hl e1 e2]
   ·rw[Zf3 hy hl,Bel.leaf hc hy hl,List.mem_singleton]
theorem Zcg{t:List VN}(hc:Zae t=0):∀(v:Nat),v<t.length→1≤nv t v:=by
 intro v
 induction v using Nat.strongRecOn with
 | ind v ih =>
   intro hv;have hy:t[v]? =some t[v]:=Zry hv
   cases hl:Zai t[v]
   ·obtain⟨l,r,e1,e2,h1,h2,_⟩:=inner_ok hc hy hl
    have:=ih l h1 (by omega);unfold nv at *;rw[Ze9 hc hy hl e1 e2,ZrB];omega
   ·unfold nv;rw[Zf3 hy hl];simp
theorem Zdq{t:List VN}(hc:Zae t=0){v:Nat}{y:VN}{l r:Nat}(hy:t[v]? =some y)(aI:Zai y=false)(hl:y.left=l)(hr:y.right=r):nv t v=nv t l+nv t r:=by
 unfold nv;rw[Ze9 hc hy aI hl hr,ZrB]
theorem Zcx{α:Type}[DecidableEq α]:∀(l m:List α),l.Nodup→(∀x∈l,x∈m)→l.length≤m.length
 | [],_,_,_=>Nat.zero_le _
 | a :: r,m,hn,hs=>by
   rw[List.nodup_cons]at hn;have ha:a∈m:=hs a (ZrL ..)
   have:=Zcx r (m.erase a) hn.2 (fun x hx=>by
    have aJ:x≠a:=fun e=>hn.1 (e ▸ hx)
    exact(List.mem_erase_of_ne aJ).2 (hs x (ZrA _ hx)))
   rw[List.length_erase_of_mem ha]at this;have:0<m.length:=List.length_pos_of_mem ha;simp only[ZrP];omega
theorem nodup_lt(l:List Nat)(n:Nat)(hn:l.Nodup)(h:∀x∈l,x<n):l.length≤n:=by
 have:=Zcx l (List.range n) hn (fun x hx=>List.mem_range.2 (h x hx));simpa using this
theorem Zc6{α β:Type}{f:α→β}:∀(l:List α),l.Nodup→(∀x∈l,∀y∈l,f x=f y→x=y)→(l.map f).Nodup
 | [],_,_=>List.nodup_nil
 | a :: r,hn,hi=>by
   rw[List.nodup_cons]at hn;rw[List.map_cons,List.nodup_cons];refine⟨fun hm=>?_,Zc6 r hn.2 (fun x hx y hy=>hi x (ZrA _ hx) y (ZrA _ hy))⟩;obtain⟨x,hx,e⟩:=List.mem_map.1 hm;exact hn.1 (hi x (ZrA _ hx) a (ZrL ..) e ▸ hx)
def ulF:Nat→List VN→Nat→List Nat
 | 0,_,_=>[]
 | f+1,t,v=>match t[v]? with
   | none=>[]
   | some y=>if Zai y=true then [v] else v :: (ulF f t y.left.toNat++ulF f t y.right.toNat)
theorem ZoD{t:List VN}(hc:Zae t=0):∀(v f:Nat),v<f→v<t.length→(ulF f t v).Nodup∧(∀u∈ulF f t v,Und t v u)∧(ulF f t v).length+1=2*nv t v:=by
 intro v
 induction v using Nat.strongRecOn with
 | ind v ih =>
   intro f hf hv;obtain⟨f,rfl⟩:∃f',f=f'+1:=⟨f - 1,by omega⟩;have hy:t[v]? =some t[v]:=Zry hv;rw[ulF,hy]
   cases hl:Zai t[v]
   ·obtain⟨l,r,e1,e2,h1,h2,_⟩:=inner_ok hc hy hl
    have a1:(t[v]).left.toNat=l:=by omega
    have a2:(t[v]).right.toNat=r:=by omega
    obtain⟨i1,i2,i3⟩:=ih l h1 f (by omega) (by omega);obtain⟨j1,j2,j3⟩:=ih r h2 f (by omega) (by omega);obtain⟨k1,k2⟩:=Und.kid hc hy hl e1 e2;simp only[hl,Bool.false_eq_true,if_false,a1,a2];refine⟨?_,fun u hu=>?_,?_⟩
    ·rw[List.nodup_cons,List.nodup_append]
     refine⟨fun hm=>?_,i1,j1,fun a ha b hb e=>?_⟩
     ·rcases List.mem_append.1 hm with hm|hm
      ·have:=(i2 v hm).le hc;omega
      ·have:=(j2 v hm).le hc;omega
     ·subst e;exact Und.apart hc hy hl e1 e2 (i2 a ha) (j2 a hb)
    ·rcases List.mem_cons.1 hu with rfl|hu
     ·exact .refl
     ·rcases List.mem_append.1 hu with hu|hu
      ·exact k1.trans (i2 u hu)
      ·exact k2.trans (j2 u hu)
    ·rw[Zdq hc hy hl e1 e2,ZrP,ZrB];omega
   ·simp only[hl,if_true]
    refine⟨by simp,fun u hu=>?_,?_⟩
    ·rw[List.mem_singleton]at hu;subst hu;exact .refl
    ·unfold nv;rw[Zf3 hy hl];rfl
theorem nv_le{t:List VN}(hc:Zae t=0){v:Nat}(hv:v<t.length):2*nv t v≤t.length+1:=by
 obtain⟨h1,h2,h3⟩:=ZoD hc v (v+1) (by omega) hv;have:=nodup_lt _ t.length h1 (fun u hu=>(h2 u hu).lt hv);omega
def Zm0:List Int→List (List Int)
 | []=>[[]]
 | a :: r=>Zm0 r++(Zm0 r).map (a :: ·)
theorem Zhj:∀l,(Zm0 l).length=2 ^ l.length
 | []=>rfl
 | a :: r=>by rw[Zm0,ZrB,List.length_map,Zhj r,ZrP,Nat.pow_succ];omega
theorem ZcC(p:Int→Bool):∀l:List Int,l.filter p∈Zm0 l
 | []=>by simp[Zm0]
 | a :: r=>by
   rw[List.filter_cons,Zm0,List.mem_append]
   split
   ·exact .inr (List.mem_map.2 ⟨_,ZcC p r,rfl⟩)
   ·exact .inl (ZcC p r)
def ZqW (m:List Int):Asg:=fun v=>decide (v∈m)
theorem ZgS{l:List Int}{φ:Asg→Bool}(h:Dep (·∈l) φ)(x:Asg):φ x=φ (ZqW (l.filter x)) :=
 h _ _ fun v hv=>by
   show x v=decide (v∈l.filter x)
   rw[Bool.eq_iff_iff,decide_eq_true_iff,List.mem_filter];exact⟨fun hx=>⟨hv,hx⟩,fun hx=>hx.2⟩
def tab (l:List Int)(φ:Asg→Bool):List Bool:=(Zm0 l).map fun m=>φ (ZqW m)
theorem ZeE(l:List Int)(φ:Asg→Bool):(tab l φ).length=2 ^ l.length:=by rw[tab,List.length_map,Zhj]
theorem Zm2{l:List Int}{φ ψ:Asg→Bool}(h1:Dep (·∈l) φ)(h2:Dep (·∈l) ψ)(e:tab l φ=tab l ψ):φ=ψ:=by
 funext x
 rw[ZgS h1,ZgS h2];exact List.map_inj_left.1 e _ (ZcC x l)
def ZdK:List Bool→Nat
 | []=>0
 | b :: r=>b.toNat+2*ZdK r
theorem ZgO:∀l,ZdK l<2 ^ l.length
 | []=>by simp[ZdK]
 | b :: r=>by
   have:=ZgO r;rw[ZdK,ZrP,Nat.pow_succ]
   cases b <;> simp <;> omega
theorem Zfi:∀l m:List Bool,l.length=m.length→ZdK l=ZdK m→l=m
 | [],[],_,_=>rfl
 | [],b :: r,h,_=>by cases h
 | b :: r,[],h,_=>by cases h
 | b :: r,c :: k,h,e=>by
   simp only[ZdK]at e;have hb:b.toNat=c.toNat:=by cases b <;> cases c <;> simp at e ⊢ <;> omega
   have:ZdK r=ZdK k:=by omega
   rw[Zfi r k (by simpa using h) this]
   cases b <;> cases c <;> simp at hb ⊢
theorem Inv.place{s:St}(h:Inv s){i:Nat}{n:Zac}(hi:2≤i)(hn:s.nodes[i]? =some n):∃P:Nat,n.pl=P∧P<s.tree.length∧Dep (Bel s.tree P) (sem s.nodes i):=by
 rcases h.ok i n hi hn with hl|hd
 ·obtain⟨u,y,h1,h2,h3,h4⟩:=hl.leaf
  refine⟨u,h1,(Zrw h2).1,fun x x' hx=>?_⟩;rw[h.semLit hn hl,h.semLit hn hl,hx _ ((Bel.leaf h.tree h2 h3 _).2 h4.symm)]
 ·obtain⟨P,y,l,r,h1,h2,h3,h4,h5,h6⟩:=hd.parts
  refine⟨P,h1,(Zrw h2).1,?_⟩;rw[show sem s.nodes i=fun x=>n.el.any fun p=>sem s.nodes p.1 x && sem s.nodes p.2 x from funext fun x=>h.semDec hn hd x];exact ZaA.dep h.tree h2 h3 h4 h5 h6
def ZnI (t:List VN)(n:Zac):Bool:=decide (0≤n.pl) && decide (5≤nv t n.pl.toNat)
def bigAt(s:St)(i:Nat):Bool:=match s.nodes[i]? with
 | none=>false
 | some n=>ZnI s.tree n
def big (s:St):Nat:=((List.range s.nodes.length).filter (bigAt s)).length
theorem ZeH{α:Type}(p:α→Bool):∀l:List α,(l.filter p).length+(l.filter fun x=>!p x).length=l.length
 | []=>rfl
 | a :: r=>by
   have:=ZeH p r;rw[List.filter_cons,List.filter_cons]
   cases p a <;> simp <;> omega
theorem Zoe{s:St}(h:Inv s)(ht:s.tree.length≤11):s.nodes.length≤2+11*65536+big s:=by
 have hp:=ZeH (bigAt s) (List.range s.nodes.length);rw[List.length_range]at hp
 let code:Nat→Nat:=fun i=>if i<2 then i else match s.nodes[i]? with
  | none=>0
  | some n=>2+n.pl.toNat*65536+ZdK (tab (vl s.tree n.pl.toNat) (sem s.nodes i))
 have mR:∀i,2≤i→i<s.nodes.length→bigAt s i=false→∃(n:Zac) (P:Nat),s.nodes[i]? =some n∧n.pl=P∧P<s.tree.length∧Dep (·∈vl s.tree P) (sem s.nodes i) ∧
   code i=2+P*65536+ZdK (tab (vl s.tree P) (sem s.nodes i))∧ZdK (tab (vl s.tree P) (sem s.nodes i))<65536:=fun i hi ex hb=>by
  have hn:s.nodes[i]? =some s.nodes[i]:=Zry ex;obtain⟨P,h1,h2,h3⟩:=h.place hi hn;have h4:(s.nodes[i]).pl.toNat=P:=by omega
  refine⟨_,P,hn,h1,h2,h3.mono fun v hv=>(ZeN h.tree P h2 v).2 hv,?_,?_⟩
  ·show (if i<2 then i else _)=_
   rw[if_neg (by omega),hn];simp only[h4]
  ·have ot:nv s.tree P≤4:=by
    rw[bigAt,hn]at hb;simp only[ZnI,h4,Bool.and_eq_false_iff,decide_eq_false_iff_not]at hb;rcases hb with hb|hb
    ·omega
    ·omega
   have h5:=ZgO (tab (vl s.tree P) (sem s.nodes i));rw[ZeE]at h5;have h6:2 ^ (vl s.tree P).length≤2 ^ 4:=Nat.pow_le_pow_right (by omega) ot;have h7:2 ^ (2 ^ (vl s.tree P).length)≤2 ^ (2 ^ 4):=Nat.pow_le_pow_right (by omega) h6;have h8:2 ^ (2 ^ 4)=65536:=by decide
   omega
 have fE:((List.range s.nodes.length).filter fun x=>!bigAt s x).length≤2+11*65536:=by
  rw[←List.length_map (f:=code)];refine nodup_lt _ _ (Zc6 _ (List.Pairwise.filter _ List.nodup_range) fun i hi j hj e=>?_) fun c hc=>?_
  ·rw[List.mem_filter,List.mem_range]at hi hj
   have bi:bigAt s i=false:=by simpa using hi.2
   have bj:bigAt s j=false:=by simpa using hj.2
   rcases Nat.lt_or_ge i 2 with h1|h1
   ·rcases Nat.lt_or_ge j 2 with h2|h2
    ·simpa [code,h1,h2] using e
    ·obtain⟨_,P,_,_,_,_,e2,_⟩:=mR j h2 hj.1 bj
     have e1:code i=i:=if_pos h1;omega
   ·obtain⟨n,P,_,_,_,d1,e1,c1⟩:=mR i h1 hi.1 bi
    rcases Nat.lt_or_ge j 2 with h2|h2
    ·have e2:code j=j:=if_pos h2
     omega
    ·obtain⟨m,Q,_,_,_,d2,e2,c2⟩:=mR j h2 hj.1 bj
     have qR:P=Q:=by omega
     subst qR;have:=Zfi _ _ (by rw[ZeE,ZeE]) (show ZdK (tab (vl s.tree P) (sem s.nodes i))=ZdK (tab (vl s.tree P) (sem s.nodes j)) by omega);exact h.canon hi.1 hj.1 (Zm2 d1 d2 this)
  ·obtain⟨i,hi,rfl⟩:=List.mem_map.1 hc
   rw[List.mem_filter,List.mem_range]at hi;rcases Nat.lt_or_ge i 2 with h1|h1
   ·have e1:code i=i:=if_pos h1
    omega
   ·obtain⟨n,P,_,_,hP,_,e1,c1⟩:=mR i h1 hi.1 (by simpa using hi.2)
    omega
 unfold big;omega
theorem ZaA.nodup{t:List VN}{ns:List Zac}{l r:Nat}{el:List (Nat × Nat)}(h:ZaA t ns l r el):el.Nodup :=
 List.Pairwise.imp (fun bT e=>bT (by rw[e])) h.nd
theorem ZaA.len_l{t:List VN}(hc:Zae t=0){ns:List Zac}{l r:Nat}{el:List (Nat × Nat)}(hl:l<t.length)(h:ZaA t ns l r el):el.length≤2 ^ nv t l:=by
 have hex:∀p,∃m,p∈el→m∈Zm0 (vl t l)∧sem ns p.1 (ZqW m)=true:=fun p=>by
  by_cases hp:p∈el
  ·obtain⟨x,hx⟩:=h.pne p hp
   have hd:Dep (·∈vl t l) (sem ns p.1):=(h.pdep p hp).mono fun v hv=>(ZeN hc l hl v).2 hv
   exact⟨_,fun _=>⟨ZcC x (vl t l),by rw[←ZgS hd];exact hx⟩⟩
  ·exact⟨[],fun cH=>absurd cH hp⟩
 let f:Nat × Nat→List Int:=fun p=>Classical.choose (hex p)
 have hf:∀p∈el,f p∈Zm0 (vl t l)∧sem ns p.1 (ZqW (f p))=true:=fun p hp=>Classical.choose_spec (hex p) hp
 have hn:(el.map f).Nodup:=Zc6 el h.nodup fun p hp q hq e=>by
  have a1:=(hf p hp).2;have a2:=(hf q hq).2;rw[e]at a1
  apply ZrO
  intro aJ
  have hd:∀(k:List (Nat × Nat)),(k.Pairwise fun p q=>∀x,¬ (sem ns p.1 x=true∧sem ns q.1 x=true))→p∈k→q∈k→False:=by
   intro k
   induction k with
   | nil=>intro _ hp;cases hp
   | cons a m ihl =>
     intro fu h1 h2;rw[List.pairwise_cons]at fu;rcases List.mem_cons.1 h1 with rfl|dI
     ·rcases List.mem_cons.1 h2 with rfl|dJ
      ·exact aJ rfl
      ·exact fu.1 q dJ _ ⟨a1,a2⟩
     ·rcases List.mem_cons.1 h2 with rfl|dJ
      ·exact fu.1 p dI _ ⟨a2,a1⟩
      ·exact ihl fu.2 dI dJ
  exact hd el h.disj hp hq
 have:=Zcx (el.map f) (Zm0 (vl t l)) hn (fun m hm=>by
  obtain⟨p,hp,rfl⟩:=List.mem_map.1 hm;exact(hf p hp).1)
 rwa [List.length_map,Zhj]at this
theorem ZaA.len_r{t:List VN}(hc:Zae t=0){ns:List Zac}{l r:Nat}{el:List (Nat × Nat)}(hr:r<t.length)(h:ZaA t ns l r el)(hd:∀p∈el,∀q∈el,sem ns p.2=sem ns q.2→p=q):el.length≤2 ^ (2 ^ nv t r):=by
 have hn:(el.map fun p=>ZdK (tab (vl t r) (sem ns p.2))).Nodup:=Zc6 el h.nodup fun p hp q hq e=>by
  have d1:Dep (·∈vl t r) (sem ns p.2):=(h.sdep p hp).mono fun v hv=>(ZeN hc r hr v).2 hv
  have d2:Dep (·∈vl t r) (sem ns q.2):=(h.sdep q hq).mono fun v hv=>(ZeN hc r hr v).2 hv
  exact hd p hp q hq (Zm2 d1 d2 (Zfi _ _ (by rw[ZeE,ZeE]) e))
 have:=nodup_lt _ (2 ^ (2 ^ nv t r)) hn (fun c gE=>by
  obtain⟨p,_,rfl⟩:=List.mem_map.1 gE;have:=ZgO (tab (vl t r) (sem ns p.2))
  rwa [ZeE]at this)
 rwa [List.length_map]at this
end Go.Proofs.YtemnmcfmabamcaaGreatDoor.L
namespace Go.Proofs.YtemnmcfmabamcaaGreatDoor.L
theorem ZdV(s:Zax)(v:Int)(i:Nat)(hi:i<128):(Zb8 s v).getLsbD i=(s.getLsbD i || decide (v=(i:Int)+1)):=by
 unfold Zb8
 split
 ·rw[BitVec.getLsbD_or,BitVec.getLsbD_twoPow]
  congr 1
  rw[Bool.eq_iff_iff];simp;omega
 ·have:¬ v=(i:Int)+1:=by omega
  simp[this]
theorem ZhG(l:List Int)(i:Nat)(hi:i<128):∀s:Zax,(l.foldl Zb8 s).getLsbD i=(s.getLsbD i || l.any fun x=>decide (x=(i:Int)+1)):=by
 induction l with
 | nil=>intro s;simp
 | cons x r ih =>
   intro s;rw[List.foldl_cons,ih,ZdV _ _ _ hi,List.any_cons,Bool.or_assoc]
theorem Zbg(m:Zax)(i:Nat)(hi:i<128):ZaZ m ((i:Int)+1)=m.getLsbD i:=by
 have e1:decide ((1:Int)≤(i:Int)+1)=true:=ZrI (by omega);have e2:decide ((i:Int)+1≤128)=true:=ZrI (by omega);have e3:((i:Int)+1 - 1).toNat=i:=by omega
 rw[ZaZ,e1,e2,e3];rfl
theorem Zct{m:Zax}{v:Int}(h:ZaZ m v=true):1≤v∧v≤128:=by
 simp only[ZaZ,ZrK,ZrN]at h;exact h.1
theorem ZgW{m:Zax}{v:Int}(h:¬ (1≤v∧v≤128)):ZaZ m v=false:=by
 cases hh:ZaZ m v
 ·rfl
 ·exact absurd (Zct hh) h
noncomputable def ZkK (S:Int→Prop):Zax:=open Classical in ofS (((List.range 128).map fun i:Nat=>(i:Int)+1).filter fun v=>decide (S v))
theorem ZeY(S:Int→Prop)(i:Nat)(hi:i<128):(ZkK S).getLsbD i=true↔S ((i:Int)+1):=by
 classical
 unfold ZkK ofS;rw[ZhG _ _ hi];have h0:(0:Zax).getLsbD i=false:=BitVec.getLsbD_zero;rw[h0,Bool.false_or,List.any_eq_true]
 constructor
 ·rintro⟨x,hx,hxi⟩
  rw[List.mem_filter]at hx;have e:x=(i:Int)+1:=of_decide_eq_true hxi;have:=of_decide_eq_true hx.2;rw[e]at this;exact this
 ·intro h
  exact⟨_,List.mem_filter.2 ⟨List.mem_map.2 ⟨i,List.mem_range.2 hi,rfl⟩,ZrI h⟩,ZrI rfl⟩
noncomputable def onS (S:Int→Prop) (m:Zax):Zax:=m &&& ZkK S
theorem ZqH{S:Int→Prop}{m:Zax}{v:Int}(h:S v):ZaZ (onS S m) v=ZaZ m v:=by
 by_cases hv:1≤v∧v≤128
 ·obtain⟨i,hi,rfl⟩:∃i:Nat,i<128∧v=(i:Int)+1:=⟨(v - 1).toNat,by omega,by omega⟩
  rw[Zbg _ _ hi,Zbg _ _ hi,onS,BitVec.getLsbD_and,(ZeY S i hi).2 h,Bool.and_true]
 ·rw[ZgW hv,ZgW hv]
theorem ZpT{S:Int→Prop}{m:Zax}{v:Int}(h:¬ S v):ZaZ (onS S m) v=false:=by
 by_cases hv:1≤v∧v≤128
 ·obtain⟨i,hi,rfl⟩:∃i:Nat,i<128∧v=(i:Int)+1:=⟨(v - 1).toNat,by omega,by omega⟩
  rw[Zbg _ _ hi,onS,BitVec.getLsbD_and]
  cases hb:(ZkK S).getLsbD i
  ·simp
  ·exact absurd ((ZeY S i hi).1 hb) h
 ·exact ZgW hv
theorem sub_le{a m:Zax}(h:∀i,i<128→a.getLsbD i=true→m.getLsbD i=true):leS a m:=by
 refine Zev ?_
 cases hl:ZaX m a
 ·rfl
 ·obtain⟨k,hk,h1,h2,_⟩:=(ZaL _ _).1 hl
  rw[h k hk h2]at h1;cases h1
theorem ZpZ{a b:Zax}(h:∀i,i<128→a.getLsbD i=b.getLsbD i):a=b:=BitVec.eq_of_getLsbD_eq fun i hi=>h i hi
theorem Ziz{S:Int→Prop}{φ:Asg→Bool}(h:Dep S φ)(m:Zax):φ (asg (onS S m))=φ (asg m):=h _ _ fun _ hv=>ZqH hv
theorem Min.le_in{ns:List Zac}{i:Nat}(h:Min ns i){S:Int→Prop}(hd:Dep S (sem ns i)){v:Int}(hv:ZaZ (ZaG ns i) v=true):S v:=by
 have h1:leS (ZaG ns i) (onS S (ZaG ns i)):=h.le _ (by rw[Ziz hd];exact h.sat)
 have h2:leS (onS S (ZaG ns i)) (ZaG ns i):=sub_le fun k hk hb=>by
  rw[onS,BitVec.getLsbD_and,ZrK]at hb;exact hb.1
 have e:=h1.antisymm h2;rw[e]at hv
 apply ZrO
 intro hn;rw[ZpT hn]at hv;cases hv
theorem ZlY(a b:Zax)(v:Int):ZaZ (a ||| b) v=(ZaZ a v || ZaZ b v):=by
 simp only[ZaZ,BitVec.getLsbD_or]
 cases decide (1≤v) <;> cases decide (v≤128) <;> simp
theorem ZoE{S T:Int→Prop}(eT:∀v,S v→T v→False){a b m:Zax}(ha:leS a (onS S m))(hb:leS b (onS T m))(ia:∀v,ZaZ a v=true→S v)(ib:∀v,ZaZ b v=true→T v):leS (a ||| b) m:=by
 refine Zev ?_
 cases hl:ZaX m (a ||| b)
 ·rfl
 obtain⟨k,hk,h1,h2,h3⟩:=(ZaL _ _).1 hl
 exfalso
 -- one side,where the difference lies
 have side:∀(S T:Int→Prop) (a b:Zax),(∀v,S v→T v→False)→leS a (onS S m)→(∀v,ZaZ a v=true→S v)→(∀v,ZaZ b v=true→T v)→a.getLsbD k=true→(∀j,j<k→m.getLsbD j=(a ||| b).getLsbD j)→False:=by
  intro S T a b eT ha ia ib hka h3;have hS:∀j,j<128→a.getLsbD j=true→S ((j:Int)+1):=fun j hj h=>ia _ (by rw[Zbg _ _ hj];exact h)
  have hT:∀j,j<128→b.getLsbD j=true→T ((j:Int)+1):=fun j hj h=>ib _ (by rw[Zbg _ _ hj];exact h)
  have eX:ZaX (onS S m) a=true:=by
   refine(ZaL _ _).2 ⟨k,hk,by rw[onS,BitVec.getLsbD_and,h1];rfl,hka,fun j hj=>?_⟩;have ke:j<128:=by omega
   have e:=h3 j hj;rw[BitVec.getLsbD_or]at e;rw[onS,BitVec.getLsbD_and,e]
   by_cases hs:S ((j:Int)+1)
   ·rw[(ZeY S j ke).2 hs,Bool.and_true]
    cases hb:b.getLsbD j
    ·simp
    ·exact(eT _ hs (hT j ke hb)).elim
   ·have h4:(ZkK S).getLsbD j=false:=by
     cases hb:(ZkK S).getLsbD j
     ·rfl
     ·exact absurd ((ZeY S j ke).1 hb) hs
    rw[h4,Bool.and_false]
    cases hb:a.getLsbD j
    ·rfl
    ·exact absurd (hS j ke hb) hs
  rcases ha with e|aD
  ·rw[←e,Zbe]at eX;cases eX
  ·rw[ZbC aD]at eX;cases eX
 rw[BitVec.getLsbD_or,Bool.or_eq_true]at h2;rcases h2 with h2|h2
 ·exact side S T a b eT ha ia ib h2 h3
 ·exact side T S b a (fun v h4 h5=>eT v h5 h4) hb ib ia h2 (fun j hj=>by rw[h3 j hj,BitVec.getLsbD_or,BitVec.getLsbD_or,Bool.or_comm])
theorem ZiJ(ns:List Zac)(el:List (Nat × Nat))(h:∃p∈el,p.2≠0) :
  (∃p∈el,p.2≠0∧(Za8 ns el).2=(ZaG ns p.1 ||| ZaG ns p.2))∧∀p∈el,p.2≠0→leS (Za8 ns el).2 (ZaG ns p.1 ||| ZaG ns p.2):=by
 have gen:∀(l:List (Nat × Nat)) (a:Bool × Zax),
   (((l.foldl (Zau ns) a).1=true→a.1=true∧∀p∈l,p.2=0) ∧
   ((l.foldl (Zau ns) a).1=false→((a.1=false∧(l.foldl (Zau ns) a).2=a.2)∨∃p∈l,p.2≠0∧(l.foldl (Zau ns) a).2=(ZaG ns p.1 ||| ZaG ns p.2)) ∧
     (a.1=false→leS (l.foldl (Zau ns) a).2 a.2)∧∀p∈l,p.2≠0→leS (l.foldl (Zau ns) a).2 (ZaG ns p.1 ||| ZaG ns p.2))):=by
  intro l
  induction l with
  | nil =>
    intro a;simp only[List.foldl_nil];exact⟨fun h=>⟨h,fun p hp=>by cases hp⟩,fun h=>⟨.inl ⟨h,trivial⟩,fun _=>.inl rfl,fun p hp=>by cases hp⟩⟩
  | cons q r ih =>
    intro a;rw[List.foldl_cons];obtain⟨g1,g2⟩:=ih (Zau ns a q)
    by_cases hq:q.2=0
    ·have e:Zau ns a q=a:=by simp[Zau,hq]
     rw[e]at g1 g2 ⊢;refine⟨fun h=>?_,fun h=>?_⟩
     ·obtain⟨c1,c2⟩:=g1 h
      refine⟨c1,fun p hp=>?_⟩;rcases List.mem_cons.1 hp with rfl|hp
      ·exact hq
      ·exact c2 p hp
     ·obtain⟨c1,c2,c3⟩:=g2 h
      refine⟨c1.imp id fun ⟨p,hp,hh⟩=>⟨p,ZrA _ hp,hh⟩,c2,fun p hp aJ=>?_⟩;rcases List.mem_cons.1 hp with rfl|hp
      ·exact absurd hq aJ
      ·exact c3 p hp aJ
    ·have e:Zau ns a q=if (a.1 || ZaX (ZaG ns q.1 ||| ZaG ns q.2) a.2)=true then (false,ZaG ns q.1 ||| ZaG ns q.2) else a:=by simp[Zau,hq]
     by_cases hc:(a.1 || ZaX (ZaG ns q.1 ||| ZaG ns q.2) a.2)=true
     ·rw[if_pos hc]at e
      rw[e]at g1 g2 ⊢;refine⟨fun h=>?_,fun h=>?_⟩
      ·have:=(g1 h).1;cases this
      ·obtain⟨c1,c2,c3⟩:=g2 h
       refine⟨.inr ?_,fun ha=>?_,fun p hp aJ=>?_⟩
       ·rcases c1 with ⟨_,c1⟩|⟨p,hp,hh⟩
        ·exact⟨q,ZrL ..,hq,c1⟩
        ·exact⟨p,ZrA _ hp,hh⟩
       ·rw[ha,Bool.false_or]at hc
        exact(c2 rfl).trans (.inr hc)
       ·rcases List.mem_cons.1 hp with rfl|hp
        ·exact c2 rfl
        ·exact c3 p hp aJ
     ·rw[if_neg hc]at e
      have gE:a.1=false∧ZaX (ZaG ns q.1 ||| ZaG ns q.2) a.2=false:=by simpa using hc
      rw[e]at g1 g2 ⊢;refine⟨fun h=>?_,fun h=>?_⟩
      ·have:=(g1 h).1;rw[gE.1]at this;cases this
      ·obtain⟨c1,c2,c3⟩:=g2 h
       refine⟨c1.imp id fun ⟨p,hp,hh⟩=>⟨p,ZrA _ hp,hh⟩,c2,fun p hp aJ=>?_⟩;rcases List.mem_cons.1 hp with rfl|hp
       ·exact(c2 gE.1).trans (Zev gE.2)
       ·exact c3 p hp aJ
 obtain⟨g1,g2⟩:=gen el (true,0)
 have hf:(el.foldl (Zau ns) (true,0)).1=false:=by
  cases hb:(el.foldl (Zau ns) (true,0)).1
  ·rfl
  ·obtain⟨p,hp,aJ⟩:=h
   exact absurd ((g1 hb).2 p hp) aJ
 obtain⟨c1,_,c3⟩:=g2 hf;exact⟨c1.elim (fun ⟨h1,_⟩=>by cases h1) id,c3⟩
theorem ZaA.least{t:List VN}(hc:Zae t=0){P:Nat}{y:VN}{l r:Nat}(hx:t[P]? =some y)(aI:Zai y=false)(hl:y.left=l)(hr:y.right=r){ns:List Zac}{el:List (Nat × Nat)}
  (h:ZaA t ns l r el) (h0:∀x,sem ns 0 x=false) (hm:∀p∈el,Min ns p.1∧(p.2≠0→Min ns p.2)) :
  (el.any fun q=>sem ns q.1 (asg (Za8 ns el).2) && sem ns q.2 (asg (Za8 ns el).2))=true ∧
  ∀m,(el.any fun q=>sem ns q.1 (asg m) && sem ns q.2 (asg m))=true→leS (Za8 ns el).2 m:=by
 have eT:∀v,Bel t l v→Bel t r v→False:=fun v a b=>Bel.apart hc hx aI hl hr a b
 obtain⟨⟨p,hp,aJ,e⟩,dr⟩:=ZiJ ns el (by obtain⟨p,hp,h2⟩:=h.big;exact⟨p,hp,by omega⟩);have inl:∀q∈el,∀v,ZaZ (ZaG ns q.1) v=true→Bel t l v:=fun q hq v hv=>(hm q hq).1.le_in (h.pdep q hq) hv
 have inr:∀q∈el,q.2≠0→∀v,ZaZ (ZaG ns q.2) v=true→Bel t r v:=fun q hq h2 v hv=>((hm q hq).2 h2).le_in (h.sdep q hq) hv
 refine⟨?_,fun m jy=>?_⟩
 ·rw[e,List.any_eq_true]
  refine⟨p,hp,?_⟩
  have a1:sem ns p.1 (asg (ZaG ns p.1 ||| ZaG ns p.2))=sem ns p.1 (asg (ZaG ns p.1)):=h.pdep p hp _ _ fun v hv=>by
   show ZaZ _ _=ZaZ _ _
   rw[ZlY]
   cases hb:ZaZ (ZaG ns p.2) v
   ·simp
   ·exact(eT v hv (inr p hp aJ v hb)).elim
  have a2:sem ns p.2 (asg (ZaG ns p.1 ||| ZaG ns p.2))=sem ns p.2 (asg (ZaG ns p.2)):=h.sdep p hp _ _ fun v hv=>by
   show ZaZ _ _=ZaZ _ _
   rw[ZlY]
   cases hb:ZaZ (ZaG ns p.1) v
   ·simp
   ·exact(eT v (inl p hp v hb) hv).elim
  rw[a1,a2,(hm p hp).1.sat,((hm p hp).2 aJ).sat];rfl
 ·rw[List.any_eq_true]at jy
  obtain⟨q,hq,hs⟩:=jy;rw[ZrK]at hs;have h2:q.2≠0:=fun e0=>by rw[e0,h0]at hs;cases hs.2
  refine(dr q hq h2).trans (ZoE eT ?_ ?_ (inl q hq) (inr q hq h2))
  ·exact(hm q hq).1.le _ (by rw[Ziz (h.pdep q hq)];exact hs.1)
  ·exact((hm q hq).2 h2).le _ (by rw[Ziz (h.sdep q hq)];exact hs.2)
end Go.Proofs.YtemnmcfmabamcaaGreatDoor.L
namespace Go.Proofs.YtemnmcfmabamcaaGreatDoor.L
theorem Zdo{ns m:List Zac}{i:Nat}(hi:i<ns.length):ZaG (ns++m) i=ZaG ns i:=by
 unfold ZaG;rw[List.getElem?_append_left hi]
theorem ZaA.app{t:List VN}{ns m:List Zac}(hk:Kids ns){l r:Nat}{el:List (Nat × Nat)}(h:ZaA t ns l r el)(hi:∀p∈el,p.1<ns.length∧p.2<ns.length):ZaA t (ns++m) l r el where
 pdep p hp:=by rw[Zba hk (hi p hp).1];exact h.pdep p hp
 sdep p hp:=by rw[Zba hk (hi p hp).2];exact h.sdep p hp
 pne p hp:=by rw[Zba hk (hi p hp).1];exact h.pne p hp
 disj:=h.disj.imp_of_mem fun {a b} ha hb bT=>by rw[Zba hk (hi a ha).1,Zba hk (hi b hb).1];exact bT
 cover x:=by
  obtain⟨p,hp,hx⟩:=h.cover x;exact⟨p,hp,by rw[Zba hk (hi p hp).1];exact hx⟩
 nd:=h.nd
 big:=h.big
 two:=h.two
theorem Zl8{ns m:List Zac}{p q:Nat × Nat}(hp:p.1<ns.length)(hq:q.1<ns.length):Za9 (ns++m) p q=Za9 ns p q:=by
 unfold Za9;rw[Zdo hp,Zdo hq]
theorem ZkG{ns m:List Zac}{el:List (Nat × Nat)}(hi:∀p∈el,p.1<ns.length∧p.2<ns.length):Za8 (ns++m) el=Za8 ns el:=by
 unfold Za8
 have:∀(l:List (Nat × Nat)) (a:Bool × Zax),(∀p∈l,p.1<ns.length∧p.2<ns.length)→l.foldl (Zau (ns++m)) a=l.foldl (Zau ns) a:=by
  intro l
  induction l with
  | nil=>intro a _;rfl
  | cons q r ih =>
    intro a h;have hq:=h q (ZrL ..);rw[List.foldl_cons,List.foldl_cons,ih _ fun p hp=>h p (ZrA _ hp)]
    congr 1
    unfold Zau;rw[Zdo hq.1,Zdo hq.2]
 exact this el _ hi
theorem Zb9.app{t:List VN}{ns m:List Zac}(hk:Kids ns){i:Nat}{n:Zac}(hi:i≤ns.length)(h:Zb9 t ns i n):Zb9 t (ns++m) i n:=by
 have hb:∀p∈n.el,p.1<ns.length∧p.2<ns.length:=fun p hp=>by have:=h.kids p hp;omega
 obtain⟨P,y,l,r,h1,h2,h3,h4,h5,h6⟩:=h.parts;exact⟨h.lit,h.kids,⟨P,y,l,r,h1,h2,h3,h4,h5,h6.app hk hb⟩,h.sorted.imp_of_mem fun {a b} ha cQ bT=>by rw[Zl8 (hb a ha).1 (hb b cQ).1];exact bT,by rw[ZkG hb];exact h.le⟩
theorem Min.app{ns m:List Zac}(hk:Kids ns){i:Nat}(hi:i<ns.length)(h:Min ns i):Min (ns++m) i:=by
 refine⟨?_,fun x hx=>?_⟩
 ·rw[Zba hk hi,Zdo hi];exact h.sat
 ·rw[Zdo hi];rw[Zba hk hi]at hx;exact h.le x hx
theorem ZaH{α β:Type}[DecidableEq α](p:α × β)(l:List (α × β))(a:α):asc (p :: l) a=if a=p.1 then some p.2 else asc l a:=rfl
def Zls (s:St)(n:Zac):St:={ s with nodes:=s.nodes++[n],uniq:=((n.pl,n.lit,n.el),s.nodes.length) :: s.uniq }
theorem Inv.add{s:St}(h:Inv s){n:Zac}(hn:asc s.uniq (Zbq n)=none)(rO:Zei s.tree n∨Zb9 s.tree s.nodes s.nodes.length n)(dr:Min (s.nodes++[n]) s.nodes.length):Inv (Zls s n):=by
 have hk:=h.kids;have hl:=h.len;have dG:∀ {i:Nat},i<s.nodes.length→(s.nodes++[n])[i]? =s.nodes[i]?:=fun hi=>List.getElem?_append_left hi
 have dW:(s.nodes++[n])[s.nodes.length]? =some n:=by rw[List.getElem?_append_right (ZrQ _)];simp
 have jW:∀(i:Nat) (x:Zac),(s.nodes++[n])[i]? =some x→(i<s.nodes.length∧s.nodes[i]? =some x)∨(i=s.nodes.length∧x=n):=fun i x hx=>by
  have aD:i<(s.nodes++[n]).length:=(Zrw hx).1;rw[ZrB,List.length_singleton]at aD;rcases Nat.lt_or_ge i s.nodes.length with h1|h1
  ·exact .inl ⟨h1,by rw[dG h1]at hx;exact hx⟩
  ·have e:i=s.nodes.length:=by omega
   subst e;rw[dW]at hx;exact .inr ⟨rfl,(Option.some.inj hx).symm⟩
 refine⟨h.tree,?_,?_,fun i x hi hx=>?_,fun i hi ex=>?_,fun k i hki=>?_,fun i x hi hx=>?_,fun a b c hc=>?_,fun a b hb=>?_⟩
 ·show (s.nodes++[n])[0]? =_;rw[dG (by omega)];exact h.zero
 ·show (s.nodes++[n])[1]? =_;rw[dG (by omega)];exact h.one
 ·rcases jW i x hx with ⟨h1,h2⟩|⟨rfl,rfl⟩
  ·exact(h.ok i x hi h2).imp id fun hd=>hd.app hk (by omega)
  ·exact rO.imp id fun hd=>hd.app hk (ZrQ _)
 ·have yp:i<s.nodes.length+1:=by simpa [Zls] using ex
  rcases Nat.lt_or_ge i s.nodes.length with h1|h1
  ·exact(h.min i hi h1).app hk h1
  ·have e:i=s.nodes.length:=by omega
   subst e;exact dr
 ·have uf:(if k=(n.pl,n.lit,n.el) then some s.nodes.length else asc s.uniq k)=some i:=hki
  split at uf
  ·rename_i e
   have:s.nodes.length=i:=Option.some.inj uf;subst this;exact⟨hl,n,dW,e.symm⟩
  ·obtain⟨h1,x,h2,h3⟩:=h.uq1 k i uf
   exact⟨h1,x,by show (s.nodes++[n])[i]? =_;rw[dG (Zrw h2).1];exact h2,h3⟩
 ·show (if Zbq x=(n.pl,n.lit,n.el) then some s.nodes.length else asc s.uniq (Zbq x))=some i
  rcases jW i x hx with ⟨h1,h2⟩|⟨rfl,rfl⟩
  ·have h3:=h.uq2 i x hi h2
   rw[if_neg (fun e=>by
    have e':Zbq x=Zbq n:=e;rw[e',hn]at h3;cases h3)]
   exact h3
  ·exact if_pos rfl
 ·obtain⟨h1,h2,h3,h4⟩:=h.ands a b c hc
  show a<(s.nodes++[n]).length∧b<(s.nodes++[n]).length∧c<(s.nodes++[n]).length∧∀x,sem (s.nodes++[n]) c x=(sem (s.nodes++[n]) a x && sem (s.nodes++[n]) b x)
  rw[ZrB,Zba hk h1,Zba hk h2,Zba hk h3];exact⟨by omega,by omega,by omega,h4⟩
 ·obtain⟨h1,h2,h3⟩:=h.nots a b hb
  show a<(s.nodes++[n]).length∧b<(s.nodes++[n]).length∧∀x,sem (s.nodes++[n]) b x= !sem (s.nodes++[n]) a x
  rw[ZrB,Zba hk h1,Zba hk h2];exact⟨by omega,by omega,h3⟩
structure Step (s s':St):Prop where
 inv:Inv s'
 tree:s'.tree=s.tree
 ext:∃m,s'.nodes=s.nodes++m
theorem Step.refl{s:St}(h:Inv s):Step s s:=⟨h,rfl,[],by simp⟩
theorem Step.trans{a b c:St}(h:Step a b)(k:Step b c):Step a c:=by
 obtain⟨m,hm⟩:=h.ext;obtain⟨n,hn⟩:=k.ext;exact⟨k.inv,k.tree.trans h.tree,m++n,by rw[hn,hm,List.append_assoc]⟩
theorem Step.len{s s':St}(h:Step s s'):s.nodes.length≤s'.nodes.length:=by
 obtain⟨m,hm⟩:=h.ext;rw[hm,ZrB];omega
theorem Step.sem{s s':St}(h:Step s s')(hi:Inv s){i:Nat}(hl:i<s.nodes.length):L.sem s'.nodes i=L.sem s.nodes i:=by
 obtain⟨m,hm⟩:=h.ext;rw[hm];exact Zba hi.kids hl
theorem Zpn{s:St}(n:Zac):big (Zls s n)=big s+if ZnI s.tree n=true then 1 else 0:=by
 unfold big;have aX:(Zls s n).nodes.length=s.nodes.length+1:=by simp[Zls]
 rw[aX,List.range_succ,List.filter_append,ZrB]
 congr 1
 ·congr 1
  apply List.filter_congr
  intro i hi;rw[List.mem_range]at hi;unfold bigAt;rw[show (Zls s n).nodes[i]? =s.nodes[i]? from List.getElem?_append_left hi]
  rfl
 ·have:bigAt (Zls s n) s.nodes.length=ZnI s.tree n:=by
   unfold bigAt;rw[show (Zls s n).nodes[s.nodes.length]? =some n from by show (s.nodes++[n])[s.nodes.length]? =_;rw[List.getElem?_append_right (ZrQ _)];simp]
   rfl
  rw[List.filter_cons,this]
  split <;> simp_all
structure Room (s:St) (k:Nat):Prop where
 inv:Inv s
 few:s.tree.length≤11
 room:big s+k≤300000
theorem Room.len{s:St}{k:Nat}(h:Room s k):s.nodes.length≤1020898:=by
 have:=Zoe h.inv h.few;have:=h.room;omega
theorem Zbs{ns:List Zac}{n:Zac}:(ns++[n])[ns.length]? =some n:=by rw[List.getElem?_append_right (ZrQ _)];simp
theorem Zg3{s:St}(h:Inv s){n:Zac}(hk:∀p∈n.el,p.1<s.nodes.length∧p.2<s.nodes.length):Kids (s.nodes++[n]):=by
 intro i x hx p hp;have aD:i<(s.nodes++[n]).length:=(Zrw hx).1;rw[ZrB,List.length_singleton]at aD;rcases Nat.lt_or_ge i s.nodes.length with h1|h1
 ·rw[List.getElem?_append_left h1]at hx
  exact h.kids i x hx p hp
 ·have e:i=s.nodes.length:=by omega
  subst e;rw[Zbs]at hx
  cases hx
  exact hk p hp
theorem Zjt{s:St}{k:Nat}(hR:Room s k){n:Zac}(hs:Zde n)(rO:Zei s.tree n∨Zb9 s.tree s.nodes s.nodes.length n)(dr:Min (s.nodes++[n]) s.nodes.length) :
  ∃c s',Zqd s n=some (c,s')∧Step s s'∧c<s'.nodes.length∧sem s'.nodes c=sem (s.nodes++[n]) s.nodes.length∧big s'≤big s+if ZnI s.tree n=true then 1 else 0:=by
 have h:=hR.inv;have aX:=hR.len
 have jY:∀p∈n.el,p.1<s.nodes.length∧p.2<s.nodes.length:=fun p hp=>by
  rcases rO with hl|hd
  ·rw[hl.el]at hp;cases hp
  ·exact hd.kids p hp
 unfold Zqd;rw[if_pos hs]
 cases ha:asc s.uniq (n.pl,n.lit,n.el) with
 | some i =>
   obtain⟨h2,x,hx,hkx⟩:=h.uq1 _ _ ha;have ex:i<s.nodes.length:=(Zrw hx).1;refine⟨i,s,rfl,Step.refl h,ex,?_,by omega⟩
   funext y
   have e2:x.lit=n.lit:=congrArg (fun k:Key=>k.2.1) hkx;have e3:x.el=n.el:=congrArg (fun k:Key=>k.2.2) hkx;rw[sem_node h.kids hx,sem_node (Zg3 h jY) Zbs,e2,e3]
   split
   ·rfl
   ·rename_i hl
    have aJ:n.el≠[]:=by
     rcases rO with eK|hd
     ·exact absurd eK.lit (by simpa using hl)
     ·obtain⟨P,y,l,r,_,_,_,_,_,hp⟩:=hd.parts
      intro e;have:=hp.two;rw[e]at this;simp at this
    rw[if_neg aJ,if_neg aJ];refine Zcq fun p hp=>?_
    rw[Zba h.kids (jY p hp).1,Zba h.kids (jY p hp).2]
 | none =>
   simp only;rw[if_pos (by omega)];have aM:Step s (Zls s n):=⟨h.add ha rO dr,rfl,[n],rfl⟩;exact⟨_,Zls s n,rfl,aM,by simp[Zls],rfl,by rw[Zpn];omega⟩
theorem literal_spec{s:St}{k:Nat}(hR:Room s k){l:Int}{u:Nat}{y:VN}(hy:s.tree[u]? =some y)(aI:Zai y=true)(hv:y.var=(l.natAbs:Int)) :
  ∃c s',Zbc s l u=some (c,s')∧Step s s'∧c<s'.nodes.length∧(∀x,sem s'.nodes c x=(x (l.natAbs:Int) ==decide (0<l)))∧big s'≤big s:=by
 have h:=hR.inv;have bu:=hR.few;have hu:u<s.tree.length:=(Zrw hy).1
 have pJ:1≤y.var∧y.var≤128:=by
  simp only[Zai,ZrK,ZrN]at aI;exact aI.2
 have eM:l≠0:=by omega
 have jL:Zei s.tree (ZjN l u):=⟨rfl,eM,⟨u,y,rfl,hy,aI,hv⟩,rfl⟩;have jY:∀p∈(ZjN l u).el,p.1<s.nodes.length∧p.2<s.nodes.length:=fun p hp=>by cases hp
 have eg:∀x,sem (s.nodes++[ZjN l u]) s.nodes.length x=(x (l.natAbs:Int) ==decide (0<l)):=fun x=>by
  rw[sem_node (Zg3 h jY) Zbs];exact if_pos eM
 have fE:ZaG (s.nodes++[ZjN l u]) s.nodes.length=if 0<l then ofS [l] else 0:=by
  unfold ZaG;rw[Zbs];rfl
 have jg:0<l→∀i,i<128→((ofS [l]).getLsbD i=true↔l=(i:Int)+1):=fun _ i hi=>by
  unfold ofS;rw[ZhG _ _ hi];have h0:(0:Zax).getLsbD i=false:=BitVec.getLsbD_zero;rw[h0];simp
 have dr:Min (s.nodes++[ZjN l u]) s.nodes.length:=by
  refine⟨?_,fun m hm=>?_⟩
  ·rw[eg,fE]
   by_cases hp:0<l
   ·rw[if_pos hp]
    have e:((l.natAbs:Nat):Int)=(((l - 1).toNat:Nat):Int)+1:=by omega
    show (ZaZ (ofS [l]) (l.natAbs:Int) ==_)=true
    rw[e,Zbg _ _ (by omega),(jg hp _ (by omega)).2 (by omega)];simp[hp]
   ·rw[if_neg hp]
    show (ZaZ 0 (l.natAbs:Int) ==_)=true
    have:ZaZ (0:Zax) (l.natAbs:Int)=false:=by simp[ZaZ]
    rw[this];simp[hp]
  ·rw[fE]
   rw[eg]at hm;refine sub_le fun i hi hb=>?_
   by_cases hp:0<l
   ·rw[if_pos hp]at hb
    have e:=(jg hp i hi).1 hb
    have gS:ZaZ m (l.natAbs:Int)=true:=by
     have:(ZaZ m (l.natAbs:Int) ==decide (0<l))=true:=hm;simpa [hp] using this
    rw[show ((l.natAbs:Nat):Int)=(i:Int)+1 by omega,Zbg _ _ hi]at gS;exact gS
   ·rw[if_neg hp]at hb
    have h0:(0:Zax).getLsbD i=false:=BitVec.getLsbD_zero;rw[h0]at hb;cases hb
 have fw:Zde (ZjN l u):=⟨by show (-1:Int)≤u;omega,by show (u:Int)≤1048576;omega,by show -1048576≤l;omega,by show l≤1048576;omega,by simp[ZjN],fun p hp=>by cases hp⟩;obtain⟨c,s',h1,h2,h3,h4,h5⟩:=Zjt hR fw (.inl jL) dr;refine⟨c,s',h1,h2,h3,fun x=>by rw[h4];exact eg x,?_⟩
 have jp:ZnI s.tree (ZjN l u)=false:=by
  have:nv s.tree u=1:=by unfold nv;rw[Zf3 hy aI];rfl
  simp[ZnI,ZjN,this]
 rw[jp]at h5;simpa using h5
theorem ZaA.perm{t:List VN}{ns:List Zac}{l r:Nat}{el e2:List (Nat × Nat)}(h:ZaA t ns l r el)(hp:e2.Perm el):ZaA t ns l r e2 where
 pdep p hm:=h.pdep p (hp.mem_iff.1 hm)
 sdep p hm:=h.sdep p (hp.mem_iff.1 hm)
 pne p hm:=h.pne p (hp.mem_iff.1 hm)
 disj:=(hp.pairwise_iff (fun {a b} bT x hx=>bT x ⟨hx.2,hx.1⟩)).2 h.disj
 cover x:=by
  obtain⟨p,hm,hx⟩:=h.cover x;exact⟨p,hp.mem_iff.2 hm,hx⟩
 nd:=(hp.pairwise_iff (fun {a b} bT e=>bT e.symm)).2 h.nd
 big:=by
  obtain⟨p,hm,hx⟩:=h.big;exact⟨p,hp.mem_iff.2 hm,hx⟩
 two:=by rw[hp.length_eq];exact h.two
theorem ZgL{α:Type}{l m:List α}{f:α→Bool}(hp:l.Perm m):l.any f=m.any f:=by
 rw[Bool.eq_iff_iff,List.any_eq_true,List.any_eq_true];exact⟨fun ⟨x,hx,h⟩=>⟨x,hp.mem_iff.1 hx,h⟩,fun ⟨x,hx,h⟩=>⟨x,hp.mem_iff.2 hx,h⟩⟩
theorem Inv.ne0{s:St}(h:Inv s){i:Nat}(hx:∃x,sem s.nodes i x=true):1≤i:=by
 obtain⟨x,hx⟩:=hx;rcases Nat.eq_zero_or_pos i with e|e
 ·rw[e,h.sem0]at hx;cases hx
 ·exact e
end Go.Proofs.YtemnmcfmabamcaaGreatDoor.L
namespace Go.Proofs.YtemnmcfmabamcaaGreatDoor.L
def Zf8 (s:St)(P:Nat)(el:List (Nat × Nat)):Zac:={ pl:=P,lit:=0,el:=Zcb (Za9 s.nodes) el,le:=(Za8 s.nodes (Zcb (Za9 s.nodes) el)).2 }
theorem ZgQ{s:St}(h:Inv s){t:List VN}{l r:Nat}{el:List (Nat × Nat)}(hp:ZaA t s.nodes l r el)(hi:∀p∈el,p.1<s.nodes.length∧p.2<s.nodes.length):∀p∈el,Min s.nodes p.1∧(p.2≠0→Min s.nodes p.2):=fun p hm =>
 ⟨h.min _ (h.ne0 (hp.pne p hm)) (hi p hm).1,fun h0=>h.min _ (by omega) (hi p hm).2⟩
theorem Zgp{s:St}(h:Inv s){t:List VN}{l r:Nat}{el:List (Nat × Nat)}(hp:ZaA t s.nodes l r el)(hi:∀p∈el,p.1<s.nodes.length∧p.2<s.nodes.length):Zbz (Za9 s.nodes) el=true :=
 Zc1 _ (hp.disj.imp_of_mem fun {a b} ha hb bT=>by
  refine ZfD fun e=>?_
  have h1:=(ZgQ h hp hi a ha).1.sat;have h2:=(ZgQ h hp hi b hb).1.sat;rw[←e]at h2;exact bT _ ⟨h1,h2⟩)
theorem Zpu{s:St}(h:Inv s){P:Nat}{y:VN}{l r:Nat}(hy:s.tree[P]? =some y)(aI:Zai y=false)(hl:y.left=l)(hr:y.right=r){el:List (Nat × Nat)}(hp:ZaA s.tree s.nodes l r el)
  (hi:∀p∈el,p.1<s.nodes.length∧p.2<s.nodes.length):Zb9 s.tree s.nodes s.nodes.length (Zf8 s P el):=by
 have bJ:(Zcb (Za9 s.nodes) el).Perm el:=Za4 el;refine⟨rfl,fun p hm=>hi p (bJ.mem_iff.1 hm),⟨P,y,l,r,rfl,hy,aI,hl,hr,hp.perm bJ⟩,?_,rfl⟩;exact ZbO (lt:=Za9 s.nodes) (fun a b c h1 h2=>ZdM h1 h2) el (Zgp h hp hi)
theorem ZgP{s:St}(h:Inv s){P:Nat}{t:List VN}{l r:Nat}{el:List (Nat × Nat)}(hp:ZaA t s.nodes l r el)
  (hi:∀p∈el,p.1<s.nodes.length∧p.2<s.nodes.length) (x:Asg):sem (s.nodes++[Zf8 s P el]) s.nodes.length x=el.any fun q=>sem s.nodes q.1 x && sem s.nodes q.2 x:=by
 have bJ:(Zcb (Za9 s.nodes) el).Perm el:=Za4 el;have pw:∀p∈(Zf8 s P el).el,p.1<s.nodes.length∧p.2<s.nodes.length:=fun p hm=>hi p (bJ.mem_iff.1 hm)
 have aJ:(Zf8 s P el).el≠[]:=fun e=>by
  have h2:=hp.two;have h3:=bJ.length_eq;rw[show Zcb (Za9 s.nodes) el=[] from e]at h3;simp only[List.length_nil]at h3;omega
 rw[sem_node (Zg3 h pw) Zbs,if_neg (fun hh=>hh rfl),if_neg aJ,←ZgL bJ];exact Zcq fun p hm=>by rw[Zba h.kids (pw p hm).1,Zba h.kids (pw p hm).2]
theorem ZnQ{s:St}(h:Inv s){P:Nat}{y:VN}{l r:Nat}(hy:s.tree[P]? =some y)(aI:Zai y=false)(hl:y.left=l)(hr:y.right=r){el:List (Nat × Nat)}(hp:ZaA s.tree s.nodes l r el)
  (hi:∀p∈el,p.1<s.nodes.length∧p.2<s.nodes.length):Min (s.nodes++[Zf8 s P el]) s.nodes.length:=by
 have bJ:(Zcb (Za9 s.nodes) el).Perm el:=Za4 el;have fE:ZaG (s.nodes++[Zf8 s P el]) s.nodes.length=(Za8 s.nodes (Zcb (Za9 s.nodes) el)).2:=by unfold ZaG;rw[Zbs];rfl
 obtain⟨g1,g2⟩:=ZaA.least h.tree hy aI hl hr (hp.perm bJ) h.sem0 (fun p hm=>ZgQ h hp hi p (bJ.mem_iff.1 hm));refine⟨?_,fun m hm=>?_⟩
 ·rw[ZgP h hp hi,fE,←ZgL bJ];exact g1
 ·rw[fE]
  rw[ZgP h hp hi,←ZgL bJ]at hm;exact g2 m hm
theorem Zkm{s:St}{k:Nat}(hR:Room s k){P:Nat}{y:VN}{l r:Nat}(hy:s.tree[P]? =some y)(aI:Zai y=false)(hl:y.left=l){el:List (Nat × Nat)}(hp:ZaA s.tree s.nodes l r el)
  (hi:∀p∈el,p.1<s.nodes.length∧p.2<s.nodes.length):Zde (Zf8 s P el):=by
 have h:=hR.inv;have bu:=hR.few;have aX:=hR.len;have bJ:(Zcb (Za9 s.nodes) el).Perm el:=Za4 el;have hP:P<s.tree.length:=(Zrw hy).1
 have lC:l<s.tree.length:=by
  obtain⟨l',r',e1,_,h1,_⟩:=inner_ok h.tree hy aI;omega
 have cN:=hp.len_l h.tree lC;have ot:=nv_le h.tree lC;have h2:2 ^ nv s.tree l≤2 ^ 6:=Nat.pow_le_pow_right (by omega) (by omega);have h3:(2:Nat) ^ 6=64:=rfl;have h4:el.length≤64:=by rw[←h3];exact ZrC cN h2
 have e1:(Zf8 s P el).pl=(P:Int):=rfl;have e2:(Zf8 s P el).lit=0:=rfl;have e3:(Zf8 s P el).el.length=el.length:=bJ.length_eq;unfold Zde;rw[e1,e2,e3];refine⟨by omega,by omega,by omega,by omega,by omega,fun p hm=>?_⟩;have:=hi p (bJ.mem_iff.1 hm);omega
theorem Zfk{s:St}{k:Nat}(hR:Room s k){P:Nat}{y:VN}{l r:Nat}(hy:s.tree[P]? =some y)(aI:Zai y=false)(hl:y.left=l)(hr:y.right=r){el:List (Nat × Nat)}(hp:ZaA s.tree s.nodes l r el)
  (hi:∀p∈el,p.1<s.nodes.length∧p.2<s.nodes.length) :
  ∃c s',ZbB s P el=some (c,s')∧Step s s'∧c<s'.nodes.length∧(∀x,sem s'.nodes c x=el.any fun q=>sem s.nodes q.1 x && sem s.nodes q.2 x)∧big s'≤big s+if 5≤nv s.tree P then 1 else 0:=by
 have h:=hR.inv;have aJ:el≠[]:=fun e=>by have:=hp.two;rw[e]at this;simp at this
 obtain⟨c,s',h1,h2,h3,h4,h5⟩:=Zjt hR (Zkm hR hy aI hl hp hi) (.inr (Zpu h hy aI hl hr hp hi)) (ZnQ h hy aI hl hr hp hi);refine⟨c,s',?_,h2,h3,fun x=>by rw[h4];exact ZgP h hp hi x,?_⟩
 ·unfold ZbB
  rw[if_pos ⟨aJ,List.all_eq_true.2 fun p hm=>by simp[hi p hm],Zgp h hp hi⟩];exact h1
 ·have hb:ZnI s.tree (Zf8 s P el)=decide (5≤nv s.tree P):=by
   unfold ZnI;rw[show (Zf8 s P el).pl=(P:Int) from rfl,ZrI (by omega:(0:Int)≤P),Bool.true_and];rfl
  rw[hb]at h5;simpa using h5
end Go.Proofs.YtemnmcfmabamcaaGreatDoor.L
namespace Go.Proofs.YtemnmcfmabamcaaGreatDoor.L
inductive ZeT {α β:Type}(R:α→β→Prop):List α→List β→Prop
 | nil:ZeT R [] []
 | cons {a:α}{b:β}{l:List α}{m:List β}:R a b→ZeT R l m→ZeT R (a :: l) (b :: m)
theorem ZeT.imp_mem{α β:Type}{R S:α→β→Prop}:∀ {l:List α}{m:List β},ZeT R l m→(∀a∈l,∀b,R a b→S a b)→ZeT S l m
 | _,_,.nil,_=>.nil
 | _,_,.cons h k,f=>.cons (f _ (ZrL ..) _ h) (k.imp_mem fun a ha=>f a (ZrA _ ha))
theorem ZeT.length{α β:Type}{R:α→β→Prop}:∀ {l:List α}{m:List β},ZeT R l m→m.length=l.length
 | _,_,.nil=>rfl
 | _,_,.cons _ k=>by simp[k.length]
theorem ZeT.right{α β:Type}{R:α→β→Prop}:∀ {l:List α}{m:List β},ZeT R l m→∀b∈m,∃a∈l,R a b
 | _,_,.nil,b,hb=>by cases hb
 | _,_,.cons (a:=a) h k,b,hb=>by
   rcases List.mem_cons.1 hb with rfl|hb
   ·exact⟨a,ZrL ..,h⟩
   ·obtain⟨c,hc,hr⟩:=k.right b hb
    exact⟨c,ZrA _ hc,hr⟩
theorem ZeT.left{α β:Type}{R:α→β→Prop}:∀ {l:List α}{m:List β},ZeT R l m→∀a∈l,∃b∈m,R a b
 | _,_,.nil,a,ha=>by cases ha
 | _,_,.cons (b:=b) h k,a,ha=>by
   rcases List.mem_cons.1 ha with rfl|ha
   ·exact⟨b,ZrL ..,h⟩
   ·obtain⟨c,hc,hr⟩:=k.left a ha
    exact⟨c,ZrA _ hc,hr⟩
theorem ZeT.pairwise{α β:Type}{R:α→β→Prop}{S:α→α→Prop}{T:β→β→Prop}(f:∀a a' b b',R a b→R a' b'→S a a'→T b b') :
  ∀ {l:List α}{m:List β},ZeT R l m→l.Pairwise S→m.Pairwise T
 | _,_,.nil,_=>.nil
 | _,_,.cons h k,hp=>by
   rw[List.pairwise_cons]at hp ⊢;refine⟨fun b hb=>?_,k.pairwise f hp.2⟩;obtain⟨a,ha,hr⟩:=k.right b hb;exact f _ _ _ _ h hr (hp.1 a ha)
def Did (s:St)(c:Nat)(φ:Asg→Bool)(r:Option (Nat × St)):Prop:=∃b s',r=some (b,s')∧Step s s'∧b<s'.nodes.length∧(∀x,sem s'.nodes b x=φ x)∧big s'≤big s+c
def Zql (t:List VN)(v c:Nat)(g:St→Nat→Option (Nat × St)):Prop:=∀s a,s.tree=t→Room s c→a<s.nodes.length→Dep (Bel t v) (sem s.nodes a)→Did s c (fun x=>!sem s.nodes a x) (g s a)
def Znq (t:List VN)(v c:Nat)(g:St→Nat→Nat→Option (Nat × St)):Prop:=∀s a b,s.tree=t→Room s c→a<s.nodes.length→b<s.nodes.length→Dep (Bel t v) (sem s.nodes a)→Dep (Bel t v) (sem s.nodes b) →
 Did s c (fun x=>sem s.nodes a x && sem s.nodes b x) (g s a b)
def OrM (t:List VN)(v c:Nat)(g:St→Nat→Nat→Option (Nat × St)):Prop:=∀s a b,s.tree=t→Room s c→a<s.nodes.length→b<s.nodes.length→Dep (Bel t v) (sem s.nodes a)→Dep (Bel t v) (sem s.nodes b) →
 Did s c (fun x=>sem s.nodes a x || sem s.nodes b x) (g s a b)
theorem Did.mono{s:St}{c d:Nat}{φ:Asg→Bool}{r:Option (Nat × St)}(h:Did s c φ r)(hcd:c≤d):Did s d φ r:=by
 obtain⟨b,s',h1,h2,h3,h4,h5⟩:=h;exact⟨b,s',h1,h2,h3,h4,by omega⟩
theorem Room.next{s s':St}{k c m:Nat}(h:Room s k)(hS:Step s s')(hb:big s'≤big s+c)(hk:c+m≤k):Room s' m :=
 ⟨hS.inv,by rw[hS.tree];exact h.few,by have:=h.room;omega⟩
theorem Room.less{s:St}{k m:Nat}(h:Room s k)(hk:m≤k):Room s m:=⟨h.inv,h.few,by have:=h.room;omega⟩
def cn (n:Nat):Nat:=if n≤4 then 0 else if n=5 then 1 else 3
def ca (n:Nat):Nat:=if n≤4 then 0 else if n=5 then 2 else 118
theorem Zps{a b:Nat}(h:a≤b):cn a≤cn b:=by unfold cn;split <;> split <;> (try split) <;> (try split) <;> omega
theorem Zpo{a b:Nat}(h:a≤b):ca a≤ca b:=by unfold ca;split <;> split <;> (try split) <;> (try split) <;> omega
theorem Inv.facts{s:St}(h:Inv s){i:Nat}{n:Zac}(hn:s.nodes[i]? =some n)(hd:Zb9 s.tree s.nodes i n) :
  ∃(P:Nat) (y:VN) (l r:Nat),n.pl=P∧s.tree[P]? =some y∧Zai y=false∧y.left=l∧y.right=r∧ZaA s.tree s.nodes l r n.el ∧
    (∀p∈n.el,∀q∈n.el,sem s.nodes p.2=sem s.nodes q.2→p=q)∧Ess (Bel s.tree l) (sem s.nodes i)∧Ess (Bel s.tree r) (sem s.nodes i)∧Dep (Bel s.tree P) (sem s.nodes i) :=
 Zb1 h (k:=i+1) (fun _ _ _ _ ha hb e=>h.canon ha hb e) (Nat.le_succ i) hn hd
theorem Inv.const0{s:St}(h:Inv s){i:Nat}(hi:i<s.nodes.length)(hs:∀x,sem s.nodes i x=false):i=0 :=
 h.canon hi (by have:=h.len;omega) (funext fun x=>by rw[hs,h.sem0])
theorem Inv.const1{s:St}(h:Inv s){i:Nat}(hi:i<s.nodes.length)(hs:∀x,sem s.nodes i x=true):i=1 :=
 h.canon hi (by have:=h.len;omega) (funext fun x=>by rw[hs,h.sem1])
theorem Inv.at_und{s:St}(h:Inv s){i:Nat}{n:Zac}(hi:2≤i)(hn:s.nodes[i]? =some n){Q:Nat}(hd:Dep (Bel s.tree Q) (sem s.nodes i)):∃P:Nat,n.pl=P∧P<s.tree.length∧Und s.tree Q P:=by
 rcases h.ok i n hi hn with hl|hk
 ·obtain⟨u,y,h1,h2,h3,h4⟩:=hl.leaf
  refine⟨u,h1,(Zrw h2).1,?_⟩
  have he:Ess (Bel s.tree u) (sem s.nodes i):=by
   refine⟨fun _=>true,fun v=>decide (v≠(n.lit.natAbs:Int)),fun v hv=>?_,?_⟩
   ·have:v≠(n.lit.natAbs:Int):=fun e=>hv ((Bel.leaf h.tree h2 h3 v).2 (e.trans h4.symm))
    simp[this]
   ·rw[h.semLit hn hl,h.semLit hn hl]
    simp only[ne_eq,not_true,decide_false]
    cases decide (0<n.lit) <;> simp
  obtain⟨v,hv,w,z,a1,a2,a3,a4⟩:=he.meets hd;have e1:=(Bel.leaf h.tree h2 h3 v).1 hv;have e2:=leaf_var h.tree a1 h2 a2 h3 (a3.trans e1);subst e2;exact a4
 ·obtain⟨P,y,l,r,hP,hy,aI,hl,hr,_,_,e1,e2,_⟩:=h.facts hn hk
  exact⟨P,hP,(Zrw hy).1,Zb6 h.tree hy aI hl hr e1 e2 hd⟩
theorem Und.nv_le{t:List VN}(hc:Zae t=0){v u:Nat}(h:Und t v u):nv t u≤nv t v:=by
 induction h with
 | refl=>exact ZrQ _
 | step h1 _ ih =>
   rename_i u _
   obtain⟨y,hy,aI,hk⟩:=Zhb hc h1;obtain⟨l,r,e1,e2,_⟩:=inner_ok hc hy aI;have:=Zdq hc hy aI e1 e2;rcases hk with hk|hk
   ·have:l=u:=by omega
    subst this;omega
   ·have:r=u:=by omega
    subst this;omega
def ZpR (s:St)(a b:Nat):St:={ s with nots:=(b,a) :: (a,b) :: s.nots }
theorem Inv.nots_add{s:St}(h:Inv s){a b:Nat}(ha:a<s.nodes.length)(hb:b<s.nodes.length)(e:∀x,sem s.nodes b x= !sem s.nodes a x):Inv (ZpR s a b) :=
 ⟨h.tree,h.zero,h.one,h.ok,h.min,h.uq1,h.uq2,h.ands,fun x y gW=>by
   have js:(if x=b then some a else if x=a then some b else asc s.nots x)=some y:=gW
   show x<s.nodes.length∧y<s.nodes.length∧∀z,sem s.nodes y z= !sem s.nodes x z
   split at js
   ·cases js;subst_vars;exact⟨hb,ha,fun z=>by rw[e];simp⟩
   ·split at js
    ·cases js;subst_vars;exact⟨ha,hb,e⟩
    ·exact h.nots x y js⟩
theorem Step.nots{s s':St}(h:Step s s'){a b:Nat}(ha:a<s'.nodes.length)(hb:b<s'.nodes.length)(e:∀x,L.sem s'.nodes b x= !L.sem s'.nodes a x):Step s (ZpR s' a b) :=
 ⟨h.inv.nots_add ha hb e,h.tree,h.ext⟩
theorem ZeM{t:List VN}{r c:Nat}{g:St→Nat→Option (Nat × St)}(hg:Zql t r c g):∀(l:List (Nat × Nat)) (s:St),s.tree=t→Room s (l.length*c) →
  (∀p∈l,p.1<s.nodes.length∧p.2<s.nodes.length∧Dep (Bel t r) (sem s.nodes p.2)) →
  ∃l' s',Zb4 g s l=some (l',s')∧Step s s'∧big s'≤big s+l.length*c∧ZeT (fun p q=>q.1=p.1∧q.2<s'.nodes.length∧∀x,sem s'.nodes q.2 x= !sem s.nodes p.2 x) l l'
 | [],s,_,hR,_=>⟨[],s,rfl,Step.refl hR.inv,by omega,.nil⟩
 | p :: k,s,ht,hR,hp=>by
   have hc:(p :: k).length*c=c+k.length*c:=by rw[ZrP,Nat.succ_mul];omega
   rw[hc]at hR ⊢;obtain⟨p1,p2,p3⟩:=hp p (ZrL ..);obtain⟨q,s1,h1,h2,h3,h4,h5⟩:=hg s p.2 ht (hR.less (by omega)) p2 p3;have eg:∀o∈k,sem s1.nodes o.2=sem s.nodes o.2:=fun o ho=>h2.sem hR.inv (hp o (ZrA _ ho)).2.1
   obtain⟨l',s',g1,g2,g3,g4⟩:=ZeM hg k s1 (h2.tree.trans ht) (hR.next h2 h5 (ZrQ _)) (fun o ho=>by
    obtain⟨o1,o2,o3⟩:=hp o (ZrA _ ho);have:=h2.len;exact⟨by omega,by omega,by rw[eg o ho];exact o3⟩)
   refine⟨(p.1,q) :: l',s',?_,h2.trans g2,by omega,.cons ⟨rfl,?_,fun x=>?_⟩ (g4.imp_mem fun o ho o' hr=>⟨hr.1,hr.2.1,fun x=>by rw[hr.2.2 x,eg o ho]⟩)⟩
   ·rw[Zb4,h1];simp only;rw[g1]
   ·have:=g2.len;show q<_;omega
   ·show sem s'.nodes q x=_
    rw[g2.sem h2.inv h3];exact h4 x
theorem ZaA.neg{s s':St}(hi:Inv s)(hS:Step s s'){t:List VN}{l r:Nat}{el mN:List (Nat × Nat)}(h:ZaA t s.nodes l r el)(hb:∀p∈el,p.1<s.nodes.length∧p.2<s.nodes.length)
  (hA:ZeT (fun p q=>q.1=p.1∧q.2<s'.nodes.length∧∀x,sem s'.nodes q.2 x= !sem s.nodes p.2 x) el mN):ZaA t s'.nodes l r mN∧(∀q∈mN,q.1<s'.nodes.length∧q.2<s'.nodes.length) ∧
    ∀x,(mN.any fun q=>sem s'.nodes q.1 x && sem s'.nodes q.2 x)= !el.any fun q=>sem s.nodes q.1 x && sem s.nodes q.2 x:=by
 have qL:ZeT (fun p q=>(p.1<s.nodes.length∧p.2<s.nodes.length)∧sem s'.nodes q.1=sem s.nodes p.1∧q.1<s'.nodes.length∧q.2<s'.nodes.length∧∀x,sem s'.nodes q.2 x= !sem s.nodes p.2 x) el mN :=
  hA.imp_mem fun p hp q hr=>⟨hb p hp,by rw[hr.1];exact hS.sem hi (hb p hp).1,by rw[hr.1];have:=(hb p hp).1;have:=hS.len;omega,hr.2⟩
 have hP:ZaA t s'.nodes l r mN:=by
  refine⟨fun q hq=>?_,fun q hq=>?_,fun q hq=>?_,?_,fun x=>?_,?_,?_,?_⟩
  ·obtain⟨p,hp,hr⟩:=qL.right q hq
   rw[hr.2.1];exact h.pdep p hp
  ·obtain⟨p,hp,hr⟩:=qL.right q hq
   intro x y gW;rw[hr.2.2.2.2,hr.2.2.2.2,h.sdep p hp x y gW]
  ·obtain⟨p,hp,hr⟩:=qL.right q hq
   rw[hr.2.1];exact h.pne p hp
  ·exact qL.pairwise (fun a a' b b' hr rV hs x=>by rw[hr.2.1,rV.2.1];exact hs x) h.disj
  ·obtain⟨p,hp,hx⟩:=h.cover x
   obtain⟨q,hq,hr⟩:=qL.left p hp;exact⟨q,hq,by rw[hr.2.1];exact hx⟩
  ·refine qL.pairwise (fun a a' b b' hr rV hs e=>hs ?_) h.nd
   refine hi.canon hr.1.2 rV.1.2 (funext fun x=>?_);have e1:=hr.2.2.2.2 x;have e2:=rV.2.2.2.2 x;rw[e,e2]at e1;simpa using e1.symm
  ·obtain⟨p,hp,h2⟩:=h.big
   obtain⟨q,hq,hr⟩:=qL.left p hp;refine⟨q,hq,?_⟩
   apply ZrO
   intro aD;have hq:q.2=0∨q.2=1:=by omega
   rcases hq with e|e
   ·have:=hi.const1 hr.1.2 (fun x=>by have h3:=hr.2.2.2.2 x;rw[e,hS.inv.sem0]at h3;simpa using h3)
    omega
   ·have:=hi.const0 hr.1.2 (fun x=>by have h3:=hr.2.2.2.2 x;rw[e,hS.inv.sem1]at h3;simpa using h3)
    omega
  ·rw[hA.length];exact h.two
 refine⟨hP,fun q hq=>?_,fun x=>?_⟩
 ·obtain⟨p,hp,hr⟩:=qL.right q hq
  exact⟨hr.2.2.1,hr.2.2.2.1⟩
 ·obtain⟨p,hp,hx⟩:=h.cover x
  obtain⟨q,hq,hr⟩:=qL.left p hp;rw[h.at hp hx,hP.at hq (by rw[hr.2.1];exact hx),hr.2.2.2.2]
theorem Zi2{s:St}{a k:Nat}{r:Option (Nat × St)}(hi:Inv s)(ha:a<s.nodes.length)(h:Did s k (fun x=>!sem s.nodes a x) r):Did s k (fun x=>!sem s.nodes a x) (Zi1 a r):=by
 obtain⟨b,s',h1,h2,h3,h4,h5⟩:=h;have h6:=h2.len;have h7:=h2.sem hi ha;subst h1;exact⟨b,ZpR s' a b,rfl,h2.nots (by omega) h3 (fun x=>by rw[h4,h7]),h3,h4,h5⟩
theorem not_spec{t:List VN}(hc:Zae t=0)(bu:t.length≤11):∀v,v<t.length→∀f,v+2≤f→Zql t v (cn (nv t v)) (Zof f):=by
 intro v
 induction v using Nat.strongRecOn with
 | ind v ih =>
   intro hv f hf s a aM hR ha hd;subst aM;obtain⟨f,rfl⟩:∃g,f=g+1:=⟨f - 1,by omega⟩;have h:=hR.inv;rw[Zof]
   by_cases h2:a<2
   ·rw[if_pos h2]
    have hl:=h.len;refine⟨1 - a,s,rfl,Step.refl h,by omega,fun x=>?_,by omega⟩;have:a=0∨a=1:=by omega
    rcases this with rfl|rfl
    ·show sem s.nodes 1 x= !sem s.nodes 0 x
     rw[h.sem0];exact h.sem1 x
    ·show sem s.nodes 0 x= !sem s.nodes 1 x
     rw[h.sem1];exact h.sem0 x
   ·rw[if_neg h2]
    cases hn:asc s.nots a with
    | some b =>
      obtain⟨_,h4,h5⟩:=h.nots a b hn;exact⟨b,s,rfl,Step.refl h,h4,h5,by omega⟩
    | none =>
      have hg:s.nodes[a]? =some s.nodes[a]:=Zry ha;rw[hg];simp only;refine Zi2 h ha ?_;generalize s.nodes[a]=n at hg;obtain⟨P,hP,ja,hPu⟩:=h.at_und (by omega) hg hd;rcases h.ok a n (by omega) hg with hl|hk
      ·unfold ZhZ
       rw[if_neg hl.lit];obtain⟨u,y,e1,e2,e3,e4⟩:=hl.leaf;obtain⟨c,s',g1,g2,g3,g4,g5⟩:=literal_spec hR (l:=-n.lit) e2 e3 (by rw[e4];omega);refine⟨c,s',by rw[e1];exact g1,g2,g3,fun x=>?_,by omega⟩;rw[g4]
       show _= !sem s.nodes a x
       rw[h.semLit hg hl];have hnz:=hl.lit;have e5:(-n.lit).natAbs=n.lit.natAbs:=by omega
       rw[e5]
       by_cases hp:0<n.lit
       ·rw[ZrI hp,ZrH (by omega:¬ 0 < -n.lit)]
        cases x (n.lit.natAbs:Int) <;> rfl
       ·rw[ZrH hp,ZrI (by omega:0 < -n.lit)]
        cases x (n.lit.natAbs:Int) <;> rfl
      ·unfold ZhZ
       rw[if_pos hk.lit];obtain⟨P',y,l,r,e1,e2,e3,e4,e5,e6,e7,_⟩:=h.facts hg hk;have tj:P'=P:=by omega
       subst tj;obtain⟨l',r',b1,b2,b3,b4,b5,_⟩:=inner_ok hc e2 e3;obtain rfl:l'=l:=by omega
       obtain rfl:r'=r:=by omega
       have hPv:=hPu.le hc;have hnvP:=hPu.nv_le hc;have hnvi:=Zdq hc e2 e3 e4 e5;have hb:∀p∈n.el,p.1<s.nodes.length∧p.2<s.nodes.length:=fun p hp=>by have:=hk.kids p hp;omega
       have lC:=e6.len_l hc (by omega);have gn:=e6.len_r hc (by omega) e7
       have sV:n.el.length*cn (nv s.tree r')+(if 5≤nv s.tree P' then 1 else 0)≤cn (nv s.tree v):=by
        refine ZrC ?_ (Zps hnvP);have oB:=nv_le hc ja;have gG:=Zcg hc l' (by omega);have gH:=Zcg hc r' (by omega)
        by_cases h5:nv s.tree r'=5
        ·have h6:nv s.tree l'=1:=by omega
         have h7:nv s.tree P'=6:=by omega
         rw[h6]at lC;rw[h5,h7,show cn 5=1 from rfl,show cn 6=3 from rfl,if_pos (by omega)];simp only[Nat.pow_one]at lC;omega
        ·have h8:cn (nv s.tree r')=0:=by unfold cn;rw[if_pos (by omega)]
         rw[h8,Nat.mul_zero,Nat.zero_add];unfold cn
         split <;> split <;> (try split) <;> omega
       obtain⟨mN,s1,g1,g2,g3,g4⟩:=ZeM (ih r' (by omega) (by omega) f (by omega)) n.el s rfl (hR.less (by omega)) (fun p hp=>⟨(hb p hp).1,(hb p hp).2,e6.sdep p hp⟩);obtain⟨k1,k2,k3⟩:=ZaA.neg h g2 e6 hb g4;rw[←g2.tree]at k1;obtain⟨c,s2,m1,m2,m3,m4,m5⟩:=Zfk (hR.next g2 g3 (m:=if 5≤nv s.tree P' then 1 else 0) sV) (P:=P') (by rw[g2.tree];exact e2) e3 e4 e5 k1 k2;rw[g2.tree]at m5;refine⟨c,s2,?_,g2.trans m2,m3,fun x=>?_,by omega⟩
       ·rw[g1,e1];exact m1
       ·rw[m4,k3]
        show _= !sem s.nodes a x
        rw[h.semDec hg hk]
end Go.Proofs.YtemnmcfmabamcaaGreatDoor.L
namespace Go.Proofs.YtemnmcfmabamcaaGreatDoor.L
abbrev Zfa(ns:List Zac)(p q:Nat × Nat):Prop:=∀x,¬ (sem ns p.1 x=true∧sem ns q.1 x=true)
structure Sp (t:List VN) (ns:List Zac) (l r:Nat) (F:Asg→Bool) (el:List (Nat × Nat)):Prop where
 ib:∀p∈el,p.1<ns.length∧p.2<ns.length
 pdep:∀p∈el,Dep (Bel t l) (sem ns p.1)
 sdep:∀p∈el,Dep (Bel t r) (sem ns p.2)
 pne:∀p∈el,∃x,sem ns p.1 x=true
 disj:el.Pairwise (Zfa ns)
 cover:∀x,∃p∈el,sem ns p.1 x=true
 val:∀p∈el,∀x,sem ns p.1 x=true→sem ns p.2 x=F x
theorem Sp.step{s s':St}(hi:Inv s)(hS:Step s s'){t:List VN}{l r:Nat}{F:Asg→Bool}{el:List (Nat × Nat)}(h:Sp t s.nodes l r F el):Sp t s'.nodes l r F el where
 ib p hp:=by have:=h.ib p hp;have:=hS.len;omega
 pdep p hp:=by rw[hS.sem hi (h.ib p hp).1];exact h.pdep p hp
 sdep p hp:=by rw[hS.sem hi (h.ib p hp).2];exact h.sdep p hp
 pne p hp:=by rw[hS.sem hi (h.ib p hp).1];exact h.pne p hp
 disj:=h.disj.imp_of_mem fun {a b} ha hb bT x=>by rw[hS.sem hi (h.ib a ha).1,hS.sem hi (h.ib b hb).1];exact bT x
 cover x:=by
  obtain⟨p,hp,hx⟩:=h.cover x;exact⟨p,hp,by rw[hS.sem hi (h.ib p hp).1];exact hx⟩
 val p hp x hx:=by
  rw[hS.sem hi (h.ib p hp).1]at hx;rw[hS.sem hi (h.ib p hp).2];exact h.val p hp x hx
theorem ZaA.sp{t:List VN}{ns:List Zac}{l r:Nat}{el:List (Nat × Nat)}(h:ZaA t ns l r el)(hb:∀p∈el,p.1<ns.length∧p.2<ns.length):Sp t ns l r (fun x=>el.any fun q=>sem ns q.1 x && sem ns q.2 x) el :=
 ⟨hb,h.pdep,h.sdep,h.pne,h.disj,h.cover,fun _ hp _ hx=>(h.at hp hx).symm⟩
theorem ZbY{s:St}(hc:Zae s.tree=0){a b:Nat}(ha:a<s.tree.length)(hb:b<s.tree.length):Zgb s a b=some (ZdB s.tree a b):=by
 unfold Zgb;rw[if_pos ⟨hc,by omega,by omega,by omega,by omega⟩]
 rfl
theorem Zg9(n:Nat):1≤2 ^ n:=Nat.one_le_two_pow
theorem Zm9{n:Nat}(h:1≤n):2≤2 ^ n:=by
 have:=Nat.pow_le_pow_right (n:=2) (by omega) h;simpa using this
theorem ZfV{t:List VN}(hc:Zae t=0){P:Nat}{y:VN}{l r:Nat}(hy:t[P]? =some y)(aI:Zai y=false)(hl:y.left=l)(hr:y.right=r){c:Nat}{g:St→Nat→Option (Nat × St)}(hg:Zql t l c g)
  {s:St}(ht:s.tree=t) (hR:Room s c) {a:Nat}(h2:2≤a) (ha:a<s.nodes.length) (hd:Dep (Bel t P) (sem s.nodes a)) :
  ∃el s',Zdf g s a P=some (el,s')∧Step s s'∧big s'≤big s+c∧Sp t s'.nodes l r (sem s.nodes a) el∧el.length≤2 ^ nv t l∧el.length≤2 ^ (2 ^ nv t r):=by
 have h:=hR.inv;subst ht;have hP:P<s.tree.length:=(Zrw hy).1;obtain⟨l',r',b1,b2,b3,b4,b5,b6,b7⟩:=inner_ok hc hy aI;obtain rfl:l'=l:=by omega
 obtain rfl:r'=r:=by omega
 have hn:s.nodes[a]? =some s.nodes[a]:=Zry ha;generalize s.nodes[a]=n at hn;obtain⟨Q,hQ,xe,hQu⟩:=h.at_und h2 hn hd;have aX:=h.len;have ry:=Zcg hc l' (by omega);have tS:=Zcg hc r' (by omega);unfold Zdf;rw[hn];simp only
 by_cases e:n.pl=(P:Int)
 ·rw[if_pos e]
  rcases h.ok a n h2 hn with jL|hk
  ·obtain⟨u,z,e1,e2,e3,_⟩:=jL.leaf
   have:u=P:=by omega
   subst this;rw[hy]at e2;cases e2;rw[aI]at e3;cases e3
  ·obtain⟨P',y',l,r,e1,e2,e3,e4,e5,e6,e7,_⟩:=h.facts hn hk
   have tj:P'=P:=by omega
   subst tj;rw[hy]at e2;cases e2;obtain rfl:l=l':=by omega
   obtain rfl:r=r':=by omega
   have hb:∀p∈n.el,p.1<s.nodes.length∧p.2<s.nodes.length:=fun p hp=>by have:=hk.kids p hp;omega
   refine⟨n.el,s,rfl,Step.refl h,by omega,?_,e6.len_l hc (by omega),e6.len_r hc (by omega) e7⟩;have:=e6.sp hb;rw[show sem s.nodes a=fun x=>n.el.any fun p=>sem s.nodes p.1 x && sem s.nodes p.2 x from funext fun x=>h.semDec hn hk x];exact this
 ·rw[if_neg e,hy]
  simp only;rw[hQ,hl,ZbY hc xe (by omega)];simp only
  have zk:Und s.tree l' Q∨Und s.tree r' Q:=by
   rcases hQu.kids hc hy hl hr with e'|h3|h3
   ·omega
   ·exact .inl h3
   ·exact .inr h3
  have hdQ:Dep (Bel s.tree Q) (sem s.nodes a):=by
   obtain⟨P',f1,f2,f3⟩:=h.place h2 hn;have:P'=Q:=by omega
   subst this;exact f3
  by_cases hm:((ZdB s.tree Q l':Nat):Int)=(l':Int)
  ·rw[if_pos hm]
   have hu:Und s.tree l' Q:=(ZjR hc xe (by omega)).1 (by omega);have kz:Dep (Bel s.tree l') (sem s.nodes a):=hdQ.mono fun v hv=>hv.up hu
   obtain⟨b,s1,g1,g2,g3,g4,g5⟩:=hg s a rfl hR ha kz;rw[g1];have uz:=g2.sem h ha;have fN:=g2.len;have ew:=g2.inv;refine⟨[(a,1),(b,0)],s1,rfl,g2,g5,⟨fun p hp=>?_,fun p hp=>?_,fun p hp=>?_,fun p hp=>?_,?_,fun x=>?_,fun p hp x hx=>?_⟩,?_,?_⟩
   ·simp only[List.mem_cons,List.not_mem_nil,or_false]at hp
    rcases hp with rfl|rfl <;> simp <;> omega
   ·simp only[List.mem_cons,List.not_mem_nil,or_false]at hp
    rcases hp with rfl|rfl
    ·show Dep _ (sem s1.nodes a);rw[uz];exact kz
    ·intro x z wt
     show sem s1.nodes b x=sem s1.nodes b z
     rw[g4,g4]
     show (!_)=(!_)
     rw[kz x z wt]
   ·simp only[List.mem_cons,List.not_mem_nil,or_false]at hp
    rcases hp with rfl|rfl
    ·intro x z _;show sem s1.nodes 1 x=sem s1.nodes 1 z;rw[ew.sem1,ew.sem1]
    ·intro x z _;show sem s1.nodes 0 x=sem s1.nodes 0 z;rw[ew.sem0,ew.sem0]
   ·simp only[List.mem_cons,List.not_mem_nil,or_false]at hp
    rcases hp with rfl|rfl
    ·apply ZrO
     intro cz
     have:=h.const0 ha (fun x=>by
      cases hx:sem s.nodes a x
      ·rfl
      ·exact absurd ⟨x,by show sem s1.nodes a x=true;rw[uz];exact hx⟩ cz)
     omega
    ·apply ZrO
     intro cz
     have:=h.const1 ha (fun x=>by
      cases hx:sem s.nodes a x
      ·exact absurd ⟨x,by show sem s1.nodes b x=true;rw[g4];show (!_)=true;rw[hx];rfl⟩ cz
      ·rfl)
     omega
   ·rw[List.pairwise_cons]
    refine⟨fun q hq x=>?_,List.pairwise_singleton _ _⟩;rw[List.mem_singleton]at hq;subst hq
    show ¬ (sem s1.nodes a x=true∧sem s1.nodes b x=true)
    rw[g4,uz]
    show ¬ (sem s.nodes a x=true∧(!sem s.nodes a x)=true)
    cases sem s.nodes a x <;> simp
   ·cases hx:sem s.nodes a x
    ·exact⟨(b,0),by simp,by show sem s1.nodes b x=true;rw[g4];show (!_)=true;rw[hx];rfl⟩
    ·exact⟨(a,1),by simp,by show sem s1.nodes a x=true;rw[uz];exact hx⟩
   ·simp only[List.mem_cons,List.not_mem_nil,or_false]at hp
    rcases hp with rfl|rfl
    ·have bn:sem s1.nodes a x=true:=hx
     rw[uz]at bn
     show sem s1.nodes 1 x=_
     rw[ew.sem1,bn]
    ·have bn:sem s1.nodes b x=true:=hx
     rw[g4]at bn;have hx'':(!sem s.nodes a x)=true:=bn
     show sem s1.nodes 0 x=_
     rw[ew.sem0]
     cases hh:sem s.nodes a x
     ·rfl
     ·rw[hh]at hx'';cases hx''
   ·show 2≤_;exact Zm9 ry
   ·show 2≤_;exact Zm9 (Zg9 _)
  ·rw[if_neg hm]
   have hu:Und s.tree r' Q:=by
    rcases zk with h3|h3
    ·exact absurd (by rw[(ZjR hc xe (by omega)).2 h3]) hm
    ·exact h3
   have kz:Dep (Bel s.tree r') (sem s.nodes a):=hdQ.mono fun v hv=>hv.up hu
   refine⟨[(1,a)],s,rfl,Step.refl h,by omega,⟨fun p hp=>?_,fun p hp=>?_,fun p hp=>?_,fun p hp=>?_,List.pairwise_singleton _ _,fun x=>⟨(1,a),by simp,h.sem1 x⟩,fun p hp x hx=>?_⟩,?_,?_⟩
   ·rw[List.mem_singleton]at hp;subst hp;exact⟨by show 1<_;omega,ha⟩
   ·rw[List.mem_singleton]at hp;subst hp;intro x z _;show sem s.nodes 1 x=sem s.nodes 1 z;rw[h.sem1,h.sem1]
   ·rw[List.mem_singleton]at hp;subst hp;exact kz
   ·rw[List.mem_singleton]at hp;subst hp;exact⟨fun _=>true,h.sem1 _⟩
   ·rw[List.mem_singleton]at hp;subst hp;rfl
   ·exact Zg9 _
   ·exact Zg9 _
structure Zb0 (t:List VN) (ns:List Zac) (l r:Nat) (p:Nat × Nat):Prop where
 b1:p.1<ns.length
 b2:p.2<ns.length
 d1:Dep (Bel t l) (sem ns p.1)
 d2:Dep (Bel t r) (sem ns p.2)
theorem Zb0.step{s s':St}(hi:Inv s)(hS:Step s s'){t:List VN}{l r:Nat}{p:Nat × Nat}(h:Zb0 t s.nodes l r p):Zb0 t s'.nodes l r p :=
 ⟨by have:=h.b1;have:=hS.len;omega,by have:=h.b2;have:=hS.len;omega,by rw[hS.sem hi h.b1];exact h.d1,by rw[hS.sem hi h.b2];exact h.d2⟩
structure ZdD (n n':List Zac) (p q o:Nat × Nat):Prop where
 b1:o.1<n'.length
 b2:o.2<n'.length
 ne:∃x,sem n' o.1 x=true
 e1:∀x,sem n' o.1 x=(sem n p.1 x && sem n q.1 x)
 e2:∀x,sem n' o.2 x=(sem n p.2 x && sem n q.2 x)
theorem ZdD.step{n:List Zac}{s s':St}(hi:Inv s)(hS:Step s s'){p q o:Nat × Nat}(h:ZdD n s.nodes p q o):ZdD n s'.nodes p q o :=
 ⟨by have:=h.b1;have:=hS.len;omega,by have:=h.b2;have:=hS.len;omega,by rw[hS.sem hi h.b1];exact h.ne,by rw[hS.sem hi h.b1];exact h.e1,by rw[hS.sem hi h.b2];exact h.e2⟩
theorem ZdD.from{t:List VN}{l r:Nat}{s s':St}{n':List Zac}(hi:Inv s)(hS:Step s s'){p q o:Nat × Nat}(hp:Zb0 t s.nodes l r p)(hq:Zb0 t s.nodes l r q)(h:ZdD s'.nodes n' p q o):ZdD s.nodes n' p q o :=
 ⟨h.b1,h.b2,h.ne,fun x=>by rw[h.e1,hS.sem hi hp.b1,hS.sem hi hq.b1],fun x=>by rw[h.e2,hS.sem hi hp.b2,hS.sem hi hq.b2]⟩
theorem Zhe{t:List VN}{l r cl cr:Nat}{af:St→Nat→Nat→Option (Nat × St)}(hl:Znq t l cl af)(hr:Znq t r cr af)(p:Nat × Nat):∀(right:List (Nat × Nat)) (s:St) (out:List (Nat × Nat)),s.tree=t→Room s (right.length*(cl+cr)) →
  Zb0 t s.nodes l r p→(∀q∈right,Zb0 t s.nodes l r q) →
  ∃new s',ZbS af p right s out=some (out++new,s')∧Step s s'∧big s'≤big s+right.length*(cl+cr)∧new.length≤right.length ∧
    (∀o∈new,∃q∈right,ZdD s.nodes s'.nodes p q o) ∧
    (∀q∈right,∀x,sem s.nodes p.1 x=true→sem s.nodes q.1 x=true→∃o∈new,sem s'.nodes o.1 x=true) ∧
    (right.Pairwise (Zfa s.nodes)→new.Pairwise (Zfa s'.nodes))
 | [],s,out,_,hR,_,_=>⟨[],s,by rw[ZbS,List.append_nil],Step.refl hR.inv,by omega,ZrQ _,(fun _ h=>by cases h),(fun _ h=>by cases h),fun _=>.nil⟩
 | q :: k,s,out,ht,hR,hp,hq=>by
   have hc:(q :: k).length*(cl+cr)=(cl+cr)+k.length*(cl+cr):=by rw[ZrP,Nat.succ_mul];omega
   rw[hc]at hR ⊢;have hi:=hR.inv;have qB:=hq q (ZrL ..);obtain⟨pr,s1,h1,h2,h3,h4,h5⟩:=hl s p.1 q.1 ht (hR.less (by omega)) hp.b1 qB.b1 hp.d1 qB.d1;have ew:=h2.inv;have li:∀q∈k,Zb0 t s1.nodes l r q:=fun q' bG=>(hq q' (ZrA _ bG)).step hi h2
   rw[ZbS,h1];simp only
   by_cases e:pr=0
   ·rw[if_pos e]
    subst e;obtain⟨new,s',g1,g2,g3,g4,g5,g6,g7⟩:=Zhe hl hr p k s1 out (h2.tree.trans ht) (hR.next h2 h5 (by omega)) (hp.step hi h2) li;refine⟨new,s',g1,h2.trans g2,by omega,by simp only[ZrP];omega,fun o ho=>?_,fun q' bG x aK aO=>?_,fun fu=>?_⟩
    ·obtain⟨q',bG,hh⟩:=g5 o ho
     exact⟨q',ZrA _ bG,hh.from hi h2 hp (hq q' (ZrA _ bG))⟩
    ·rcases List.mem_cons.1 bG with rfl|bG
     ·have h6:=h4 x
      have h7:sem s1.nodes 0 x=(sem s.nodes p.1 x && sem s.nodes q'.1 x):=h6;rw[ew.sem0,aK,aO]at h7;cases h7
     ·exact g6 q' bG x (by rw[h2.sem hi hp.b1];exact aK) (by rw[h2.sem hi (hq q' (ZrA _ bG)).b1];exact aO)
    ·rw[List.pairwise_cons]at fu
     exact g7 (fu.2.imp_of_mem fun {a b} ha hb bT x=>by
      rw[h2.sem hi (hq a (ZrA _ ha)).b1,h2.sem hi (hq b (ZrA _ hb)).b1];exact bT x)
   ·rw[if_neg e]
    have gG:=hp.step hi h2;have dR:=qB.step hi h2;obtain⟨su,s2,k1,k2,k3,k4,k5⟩:=hr s1 p.2 q.2 (h2.tree.trans ht) (hR.next h2 h5 (m:=cr) (by omega)) gG.b2 dR.b2 gG.d2 dR.d2;rw[k1];simp only;have j9:=h2.trans k2;have jx:=k2.inv;have bW:∀q∈k,Zb0 t s2.nodes l r q:=fun q' bG=>(hq q' (ZrA _ bG)).step hi j9
    obtain⟨new,s',g1,g2,g3,g4,g5,g6,g7⟩:=Zhe hl hr p k s2 (out++[(pr,su)]) (j9.tree.trans ht) (hR.next j9 (c:=cl+cr) (by omega) (by omega)) (hp.step hi j9) bW;have z7:pr<s2.nodes.length:=by have:=k2.len;omega
    have z8:ZdD s.nodes s2.nodes p q (pr,su):=by
     have e1:∀x,sem s2.nodes pr x=(sem s.nodes p.1 x && sem s.nodes q.1 x):=fun x=>by rw[k2.sem ew h3];exact h4 x
     refine⟨z7,k3,?_,e1,fun x=>?_⟩
     ·apply ZrO
      intro cz
      exact e (jx.const0 z7 fun x=>by
       cases hx:sem s2.nodes pr x
       ·rfl
       ·exact absurd ⟨x,hx⟩ cz)
     ·show sem s2.nodes su x=_
      rw[k4,h2.sem hi hp.b2,h2.sem hi qB.b2]
    have lr:=z8.step jx g2;refine⟨(pr,su) :: new,s',by rw[g1,List.append_assoc];rfl,j9.trans g2,by omega,by simp only[ZrP];omega,fun o ho=>?_,fun q' bG x aK aO=>?_,fun fu=>?_⟩
    ·rcases List.mem_cons.1 ho with rfl|ho
     ·exact⟨q,ZrL ..,lr⟩
     ·obtain⟨q',bG,hh⟩:=g5 o ho
      exact⟨q',ZrA _ bG,hh.from hi j9 hp (hq q' (ZrA _ bG))⟩
    ·rcases List.mem_cons.1 bG with rfl|bG
     ·exact⟨(pr,su),ZrL ..,by rw[lr.e1,aK,aO];rfl⟩
     ·obtain⟨o,ho,hx⟩:=g6 q' bG x (by rw[j9.sem hi hp.b1];exact aK) (by rw[j9.sem hi (hq q' (ZrA _ bG)).b1];exact aO)
      exact⟨o,ZrA _ ho,hx⟩
    ·rw[List.pairwise_cons]at fu ⊢
     refine⟨fun o ho x hx=>?_,g7 (fu.2.imp_of_mem fun {a b} ha hb bT x=>by
      rw[j9.sem hi (hq a (ZrA _ ha)).b1,j9.sem hi (hq b (ZrA _ hb)).b1];exact bT x)⟩
     obtain⟨q',bG,hh⟩:=g5 o ho;have hh':=hh.from hi j9 hp (hq q' (ZrA _ bG))
     rw[lr.e1,hh'.e1,ZrK,ZrK]at hx;exact fu.1 q' bG x ⟨hx.1.2,hx.2.2⟩
theorem Zju{t:List VN}{l r cl cr:Nat}{af:St→Nat→Nat→Option (Nat × St)}(hl:Znq t l cl af)(hr:Znq t r cr af)(right:List (Nat × Nat)):∀(left:List (Nat × Nat)) (s:St) (out:List (Nat × Nat)),s.tree=t→Room s (left.length*(right.length*(cl+cr))) →
  (∀p∈left,Zb0 t s.nodes l r p)→(∀q∈right,Zb0 t s.nodes l r q) →
  ∃new s',Zcd af right left s out=some (out++new,s')∧Step s s'∧big s'≤big s+left.length*(right.length*(cl+cr))∧new.length≤left.length*right.length ∧
    (∀o∈new,∃p∈left,∃q∈right,ZdD s.nodes s'.nodes p q o) ∧
    (∀p∈left,∀q∈right,∀x,sem s.nodes p.1 x=true→sem s.nodes q.1 x=true→∃o∈new,sem s'.nodes o.1 x=true) ∧
    (right.Pairwise (Zfa s.nodes)→left.Pairwise (Zfa s.nodes)→new.Pairwise (Zfa s'.nodes))
 | [],s,out,_,hR,_,_=>⟨[],s,by rw[Zcd,List.append_nil],Step.refl hR.inv,by omega,by simp,(fun _ h=>by cases h),(fun _ h=>by cases h),fun _ _=>.nil⟩
 | p :: k,s,out,ht,hR,hp,hq=>by
   have hc:(p :: k).length*(right.length*(cl+cr))=right.length*(cl+cr)+k.length*(right.length*(cl+cr)):=by rw[ZrP,Nat.succ_mul];omega
   have fM:(p :: k).length*right.length=right.length+k.length*right.length:=by rw[ZrP,Nat.succ_mul];omega
   rw[hc]at hR ⊢;rw[fM];have hi:=hR.inv;have kq:=hp p (ZrL ..);obtain⟨n1,s1,h1,h2,h3,h4,h5,h6,h7⟩:=Zhe hl hr p right s out ht (hR.less (by omega)) kq hq;obtain⟨n2,s',g1,g2,g3,g4,g5,g6,g7⟩:=Zju hl hr right k s1 (out++n1) (h2.tree.trans ht) (hR.next h2 h3 (ZrQ _)) (fun p' cH=>(hp p' (ZrA _ cH)).step hi h2) (fun q bG=>(hq q bG).step hi h2);have ew:=h2.inv;rw[Zcd,h1];simp only;refine⟨n1++n2,s',by rw[g1,List.append_assoc],h2.trans g2,by omega,by rw[ZrB];omega,fun o ho=>?_,fun p' cH q bG x aK aO=>?_,fun gq dQ=>?_⟩
   ·rcases List.mem_append.1 ho with ho|ho
    ·obtain⟨q,bG,hh⟩:=h5 o ho
     exact⟨p,ZrL ..,q,bG,hh.step ew g2⟩
    ·obtain⟨p',cH,q,bG,hh⟩:=g5 o ho
     exact⟨p',ZrA _ cH,q,bG,hh.from hi h2 (hp p' (ZrA _ cH)) (hq q bG)⟩
   ·rcases List.mem_cons.1 cH with rfl|cH
    ·obtain⟨o,ho,hx⟩:=h6 q bG x aK aO
     obtain⟨q'',_,hh⟩:=h5 o ho;exact⟨o,List.mem_append_left _ ho,by rw[g2.sem ew hh.b1];exact hx⟩
    ·obtain⟨o,ho,hx⟩:=g6 p' cH q bG x (by rw[h2.sem hi (hp p' (ZrA _ cH)).b1];exact aK) (by rw[h2.sem hi (hq q bG).b1];exact aO)
     exact⟨o,List.mem_append_right _ ho,hx⟩
   ·rw[List.pairwise_cons]at dQ
    rw[List.pairwise_append];refine⟨(h7 gq).imp_of_mem fun {a b} ha hb bT x=>?_,g7 (gq.imp_of_mem fun {a b} ha hb bT x=>?_) (dQ.2.imp_of_mem fun {a b} ha hb bT x=>?_),fun a ha b hb x hx=>?_⟩
    ·obtain⟨_,_,ka⟩:=h5 a ha
     obtain⟨_,_,kb⟩:=h5 b hb;rw[g2.sem ew ka.b1,g2.sem ew kb.b1];exact bT x
    ·rw[h2.sem hi (hq a ha).b1,h2.sem hi (hq b hb).b1];exact bT x
    ·rw[h2.sem hi (hp a (ZrA _ ha)).b1,h2.sem hi (hp b (ZrA _ hb)).b1];exact bT x
    ·obtain⟨q,bG,ka⟩:=h5 a ha
     obtain⟨p',cH,q'',hq'',kb⟩:=g5 b hb;have ka':=ka.step ew g2;have kb':=kb.from hi h2 (hp p' (ZrA _ cH)) (hq q'' hq'')
     rw[ka'.e1,kb'.e1,ZrK,ZrK]at hx;exact dQ.1 p' cH x ⟨hx.1.1,hx.2.1⟩
theorem Zon{t:List VN}{s s':St}(hS:Step s s'){l r:Nat}{F G:Asg→Bool}{left right new:List (Nat × Nat)}(hL:Sp t s.nodes l r F left)(pj:Sp t s.nodes l r G right)
  (h1:∀o∈new,∃p∈left,∃q∈right,ZdD s.nodes s'.nodes p q o) (h2:∀p∈left,∀q∈right,∀x,sem s.nodes p.1 x=true→sem s.nodes q.1 x=true→∃o∈new,sem s'.nodes o.1 x=true)
  (h3:right.Pairwise (Zfa s.nodes)→left.Pairwise (Zfa s.nodes)→new.Pairwise (Zfa s'.nodes)):Sp t s'.nodes l r (fun x=>F x && G x) new:=by
 refine⟨fun o ho=>?_,fun o ho=>?_,fun o ho=>?_,fun o ho=>?_,h3 pj.disj hL.disj,fun x=>?_,fun o ho x hx=>?_⟩
 ·obtain⟨_,_,_,_,k⟩:=h1 o ho;exact⟨k.b1,k.b2⟩
 ·obtain⟨p,hp,q,hq,k⟩:=h1 o ho
  intro x y gW;rw[k.e1,k.e1,hL.pdep p hp x y gW,pj.pdep q hq x y gW]
 ·obtain⟨p,hp,q,hq,k⟩:=h1 o ho
  intro x y gW;rw[k.e2,k.e2,hL.sdep p hp x y gW,pj.sdep q hq x y gW]
 ·obtain⟨_,_,_,_,k⟩:=h1 o ho;exact k.ne
 ·obtain⟨p,hp,px⟩:=hL.cover x
  obtain⟨q,hq,qx⟩:=pj.cover x;exact h2 p hp q hq x px qx
 ·obtain⟨p,hp,q,hq,k⟩:=h1 o ho
  rw[k.e1,ZrK]at hx;rw[k.e2,hL.val p hp x hx.1,pj.val q hq x hx.2]
end Go.Proofs.YtemnmcfmabamcaaGreatDoor.L
namespace Go.Proofs.YtemnmcfmabamcaaGreatDoor.L
structure Mk (s:St) (done m:List (Nat × Nat)) (u:List Nat):Prop where
 nd:u.Nodup
 mem:∀z,z∈u↔∃p∈done,p.2=z
 some:∀z∈u,∃q,asc m z=some q∧q<s.nodes.length∧∀x,sem s.nodes q x=true↔∃p∈done,p.2=z∧sem s.nodes p.1 x=true
 none:∀z,z∉u→asc m z=none
 len:u.length≤done.length
theorem ZdN{t:List VN}{l r co:Nat}{of:St→Nat→Nat→Option (Nat × St)}(ho:OrM t l co of):∀(rest:List (Nat × Nat)) (s:St) (done m:List (Nat × Nat)) (u:List Nat),s.tree=t→Room s (rest.length*co) →
  (∀p∈done,Zb0 t s.nodes l r p)→(∀p∈rest,Zb0 t s.nodes l r p)→Mk s done m u →
  ∃s' m' u',ZcS of rest s m u=some (s',m',u')∧Step s s'∧big s'≤big s+rest.length*co∧Mk s' (done++rest) m' u'
 | [],s,done,m,u,_,hR,_,_,hM=>⟨s,m,u,rfl,Step.refl hR.inv,by omega,by rw[List.append_nil];exact hM⟩
 | p :: k,s,done,m,u,ht,hR,hd,hr,hM=>by
   have hc:(p :: k).length*co=co+k.length*co:=by rw[ZrP,Nat.succ_mul];omega
   rw[hc]at hR ⊢;have hi:=hR.inv;have hp:=hr p (ZrL ..);rw[show done++p :: k=(done++[p])++k by simp];rw[ZcS]
   have ag:∀z,(∃o∈done++[p],o.2=z)↔(∃o∈done,o.2=z)∨p.2=z:=fun z=>by
    constructor
    ·rintro⟨o,cT,e⟩
     rcases List.mem_append.1 cT with h|h
     ·exact .inl ⟨o,h,e⟩
     ·rw[List.mem_singleton]at h;subst h;exact .inr e
    ·rintro(⟨o,cT,e⟩|e)
     ·exact⟨o,List.mem_append_left _ cT,e⟩
     ·exact⟨p,by simp,e⟩
   have m7:∀(ns:List Zac) z x,(∃o∈done++[p],o.2=z∧sem ns o.1 x=true)↔(∃o∈done,o.2=z∧sem ns o.1 x=true)∨(p.2=z∧sem ns p.1 x=true):=fun ns z x=>by
    constructor
    ·rintro⟨o,cT,e⟩
     rcases List.mem_append.1 cT with h|h
     ·exact .inl ⟨o,h,e⟩
     ·rw[List.mem_singleton]at h;subst h;exact .inr e
    ·rintro(⟨o,cT,e⟩|e)
     ·exact⟨o,List.mem_append_left _ cT,e⟩
     ·exact⟨p,by simp,e⟩
   by_cases hu:p.2∈u
   ·obtain⟨q,dR,bX,wY⟩:=hM.some _ hu
    rw[dR];simp only
    have hqd:Dep (Bel t l) (sem s.nodes q):=fun x y gW=>by
     rw[Bool.eq_iff_iff,wY,wY]
     constructor
     ·rintro⟨o,cT,e1,e2⟩
      exact⟨o,cT,e1,by rw[←(hd o cT).d1 x y gW];exact e2⟩
     ·rintro⟨o,cT,e1,e2⟩
      exact⟨o,cT,e1,by rw[(hd o cT).d1 x y gW];exact e2⟩
    obtain⟨z,s1,h1,h2,h3,h4,h5⟩:=ho s q p.1 ht (hR.less (by omega)) bX hp.b1 hqd hp.d1;rw[h1];simp only
    have jG:Mk s1 (done++[p]) ((p.2,z) :: m) u:=by
     refine⟨hM.nd,fun w=>?_,fun w hw=>?_,fun w hw=>?_,by rw[ZrB];have:=hM.len;omega⟩
     ·rw[ag,←hM.mem]
      refine⟨.inl,fun h=>h.elim id fun (e:p.2=w)=>by rw[←e];exact hu⟩
     ·rw[ZaH]
      by_cases e:w=p.2
      ·subst e
       refine⟨z,if_pos rfl,h3,fun x=>?_⟩;rw[h4,m7]
       show (sem s.nodes q x || sem s.nodes p.1 x)=true↔_
       rw[Bool.or_eq_true,wY,h2.sem hi hp.b1];refine or_congr ⟨?_,?_⟩ ⟨fun h=>⟨rfl,h⟩,fun h=>h.2⟩
       ·rintro⟨o,cT,e1,e2⟩;exact⟨o,cT,e1,by rw[h2.sem hi (hd o cT).b1];exact e2⟩
       ·rintro⟨o,cT,e1,e2⟩;exact⟨o,cT,e1,by rw[←h2.sem hi (hd o cT).b1];exact e2⟩
      ·obtain⟨q',k1,k2,k3⟩:=hM.some w hw
       refine⟨q',by rw[if_neg e];exact k1,by have:=h2.len;omega,fun x=>?_⟩;rw[m7,h2.sem hi k2,k3]
       constructor
       ·rintro⟨o,cT,e1,e2⟩;exact .inl ⟨o,cT,e1,by rw[h2.sem hi (hd o cT).b1];exact e2⟩
       ·rintro(⟨o,cT,e1,e2⟩|⟨e1,_⟩)
        ·exact⟨o,cT,e1,by rw[←h2.sem hi (hd o cT).b1];exact e2⟩
        ·exact absurd e1.symm e
     ·rw[ZaH,if_neg (fun e:w=p.2=>hw (by rw[e];exact hu))];exact hM.none w hw
    obtain⟨s',m',u',g1,g2,g3,g4⟩:=ZdN (r:=r) ho k s1 (done++[p]) ((p.2,z) :: m) u (h2.tree.trans ht) (hR.next h2 h5 (ZrQ _))
     (fun o cT=>(by
       rcases List.mem_append.1 cT with h|h
       ·exact hd o h
       ·rw[List.mem_singleton]at h;subst h;exact hp:Zb0 t s.nodes l r o).step hi h2) (fun o cT=>(hr o (ZrA _ cT)).step hi h2) jG
    exact⟨s',m',u',g1,h2.trans g2,by omega,g4⟩
   ·rw[hM.none _ hu]
    simp only
    have jG:Mk s (done++[p]) ((p.2,p.1) :: m) (u++[p.2]):=by
     refine⟨?_,fun w=>?_,fun w hw=>?_,fun w hw=>?_,by rw[ZrB,ZrB];have:=hM.len;simp only[List.length_singleton];omega⟩
     ·rw[List.nodup_append]
      refine⟨hM.nd,by simp,fun a ha b hb e=>?_⟩;rw[List.mem_singleton]at hb;subst hb;subst e;exact hu ha
     ·rw[ag,←hM.mem,List.mem_append,List.mem_singleton]
      exact⟨fun h=>h.imp id Eq.symm,fun h=>h.imp id Eq.symm⟩
     ·rw[ZaH]
      by_cases e:w=p.2
      ·subst e
       refine⟨p.1,if_pos rfl,hp.b1,fun x=>?_⟩;rw[m7];refine⟨fun h=>.inr ⟨rfl,h⟩,fun h=>h.elim (fun ⟨o,cT,e1,_⟩=>absurd ((hM.mem _).2 ⟨o,cT,e1⟩) hu) fun h=>h.2⟩
      ·rw[List.mem_append,List.mem_singleton]at hw
       obtain⟨q',k1,k2,k3⟩:=hM.some w (hw.resolve_right e);refine⟨q',by rw[if_neg e];exact k1,k2,fun x=>?_⟩;rw[m7,k3];exact⟨.inl,fun h=>h.elim id fun h=>absurd h.1.symm e⟩
     ·rw[List.mem_append,List.mem_singleton,not_or]at hw
      rw[ZaH,if_neg hw.2];exact hM.none w hw.1
    obtain⟨s',m',u',g1,g2,g3,g4⟩:=ZdN (r:=r) ho k s (done++[p]) ((p.2,p.1) :: m) (u++[p.2]) ht (hR.less (by omega))
     (fun o cT=>by
       rcases List.mem_append.1 cT with h|h
       ·exact hd o h
       ·rw[List.mem_singleton]at h;subst h;exact hp) (fun o cT=>hr o (ZrA _ cT)) jG
    exact⟨s',m',u',g1,g2,by omega,g4⟩
theorem Zc7{α:Type}{R:α→α→Prop}(hs:∀a b,R a b→R b a):∀ {l:List α},l.Pairwise R→∀a∈l,∀b∈l,a≠b→R a b
 | [],_,a,ha,_,_,_=>by cases ha
 | c :: k,h,a,ha,b,hb,aJ=>by
   rw[List.pairwise_cons]at h;rcases List.mem_cons.1 ha with rfl|kM
   ·rcases List.mem_cons.1 hb with rfl|cQ
    ·exact absurd rfl aJ
    ·exact h.1 b cQ
   ·rcases List.mem_cons.1 hb with rfl|cQ
    ·exact hs _ _ (h.1 a kM)
    ·exact Zc7 hs h.2 a kM b cQ aJ
theorem ZhD{m:List (Nat × Nat)}{z q:Nat}(h:asc m z=some q):ZdA m z=q:=by unfold ZdA;rw[h]
theorem Zoc{t:List VN}{s:St}{l r:Nat}{F:Asg→Bool}{el m:List (Nat × Nat)}{u:List Nat}(h:Sp t s.nodes l r F el)(hM:Mk s el m u)(h2:2≤u.length)(hb:∃z∈u,2≤z) :
  ZaA t s.nodes l r (u.map fun x=>(ZdA m x,x))∧(∀p∈u.map (fun x=>(ZdA m x,x)),p.1<s.nodes.length∧p.2<s.nodes.length) ∧
   ∀x,((u.map fun x=>(ZdA m x,x)).any fun q=>sem s.nodes q.1 x && sem s.nodes q.2 x)=F x:=by
 have hq:∀z∈u,ZdA m z<s.nodes.length∧∀x,sem s.nodes (ZdA m z) x=true↔∃p∈el,p.2=z∧sem s.nodes p.1 x=true:=fun z hz=>by
  obtain⟨q,h1,h2,h3⟩:=hM.some z hz;rw[ZhD h1];exact⟨h2,h3⟩
 have cN:∀z∈u,∃p∈el,p.2=z:=fun z hz=>(hM.mem z).1 hz
 have hP:ZaA t s.nodes l r (u.map fun x=>(ZdA m x,x)):=by
  refine⟨fun p hp=>?_,fun p hp=>?_,fun p hp=>?_,?_,fun x=>?_,?_,?_,?_⟩
  ·obtain⟨z,hz,rfl⟩:=List.mem_map.1 hp
   intro x y gW
   show sem s.nodes (ZdA m z) x=sem s.nodes (ZdA m z) y
   rw[Bool.eq_iff_iff,(hq z hz).2,(hq z hz).2]
   constructor
   ·rintro⟨o,ho,e1,e2⟩;exact⟨o,ho,e1,by rw[←h.pdep o ho x y gW];exact e2⟩
   ·rintro⟨o,ho,e1,e2⟩;exact⟨o,ho,e1,by rw[h.pdep o ho x y gW];exact e2⟩
  ·obtain⟨z,hz,rfl⟩:=List.mem_map.1 hp
   obtain⟨o,ho,e⟩:=cN z hz;have:=h.sdep o ho;rw[e]at this;exact this
  ·obtain⟨z,hz,rfl⟩:=List.mem_map.1 hp
   obtain⟨o,ho,e⟩:=cN z hz;obtain⟨x,hx⟩:=h.pne o ho;exact⟨x,((hq z hz).2 x).2 ⟨o,ho,e,hx⟩⟩
  ·rw[List.pairwise_map]
   refine hM.nd.imp_of_mem fun {a b} ha hb bT x hx=>?_
   obtain⟨o,ho,e1,e2⟩:=((hq a ha).2 x).1 hx.1;obtain⟨o',cT,mM,pf⟩:=((hq b hb).2 x).1 hx.2;exact Zc7 (R:=Zfa s.nodes) (fun a b bT x hx=>bT x ⟨hx.2,hx.1⟩) h.disj o ho o' cT (fun e=>bT (by rw[←e1,←mM,e])) x ⟨e2,pf⟩
  ·obtain⟨o,ho,hx⟩:=h.cover x
   have hz:o.2∈u:=(hM.mem _).2 ⟨o,ho,rfl⟩;exact⟨_,List.mem_map.2 ⟨o.2,hz,rfl⟩,((hq _ hz).2 x).2 ⟨o,ho,rfl,hx⟩⟩
  ·rw[List.pairwise_map];exact hM.nd
  ·obtain⟨z,hz,h2⟩:=hb
   exact⟨_,List.mem_map.2 ⟨z,hz,rfl⟩,h2⟩
  ·rw[List.length_map];exact h2
 refine⟨hP,fun p hp=>?_,fun x=>?_⟩
 ·obtain⟨z,hz,rfl⟩:=List.mem_map.1 hp
  obtain⟨o,ho,e⟩:=cN z hz;have:=(h.ib o ho).2;exact⟨(hq z hz).1,by show z<_;omega⟩
 ·obtain⟨o,ho,hx⟩:=h.cover x
  have hz:o.2∈u:=(hM.mem _).2 ⟨o,ho,rfl⟩;have bn:=((hq _ hz).2 x).2 ⟨o,ho,rfl,hx⟩;rw[hP.at (List.mem_map.2 ⟨o.2,hz,rfl⟩) bn];exact h.val o ho x hx
theorem ZiV{u:List Nat}(hn:u.Nodup)(h:∀z∈u,z<2):u.length≤2:=nodup_lt u 2 hn h
theorem Zmg{t:List VN}{P:Nat}{y:VN}{l r:Nat}(hy:t[P]? =some y)(aI:Zai y=false)(hl:y.left=l)(hr:y.right=r){co:Nat}{of:St→Nat→Nat→Option (Nat × St)}(ho:OrM t l co of)
  {s:St}(ht:s.tree=t) {F:Asg→Bool}{el:List (Nat × Nat)}(hR:Room s (el.length*co+if 5≤nv t P then 1 else 0)) (tI:Sp t s.nodes l r F el) (aX:el.length≤1048576) :
  Did s (el.length*co+if 5≤nv t P then 1 else 0) F (ZkJ of s P el):=by
 have hi:=hR.inv
 obtain⟨s1,m,u,h1,h2,h3,hM⟩:=ZdN (r:=r) ho el s [] [] [] ht (hR.less (by omega)) (fun _ h=>by cases h) (fun p hp=>⟨(tI.ib p hp).1,(tI.ib p hp).2,tI.pdep p hp,tI.sdep p hp⟩)
  ⟨List.nodup_nil,fun z=>⟨(fun h=>by cases h),(fun ⟨_,h,_⟩=>by cases h)⟩,(fun _ h=>by cases h),fun _ _=>rfl,ZrQ _⟩
 rw[List.nil_append]at hM;have iG:=tI.step hi h2;have aQ:Room s1 (if 5≤nv t P then 1 else 0):=hR.next h2 h3 (ZrQ _);have ew:=h2.inv
 have ji:2≤u.length→(∃z∈u,2≤z)→Did s (el.length*co+if 5≤nv t P then 1 else 0) F (ZbB s1 P (u.map fun x=>(ZdA m x,x))):=fun hu hb=>by
  obtain⟨k1,k2,k3⟩:=Zoc iG hM hu hb;have dB:s1.tree=t:=h2.tree.trans ht;rw[←dB]at k1 hy;obtain⟨c,s2,g1,g2,g3,g4,g5⟩:=Zfk aQ hy aI hl hr k1 k2;rw[dB]at g5;exact⟨c,s2,g1,h2.trans g2,g3,fun x=>by rw[g4,k3],by omega⟩
 unfold ZkJ;rw[if_pos aX,h1];simp only
 have aJ:u≠[]:=fun e=>by
  obtain⟨p,hp,_⟩:=tI.cover (fun _=>true);have:=(hM.mem p.2).2 ⟨p,hp,rfl⟩;rw[e]at this;cases this
 match u,hM,ji,aJ with
 | [x],hM,_,_ =>
   simp only;obtain⟨p,hp,e⟩:=(hM.mem x).1 (by simp);refine⟨x,s1,rfl,h2,by have:=(iG.ib p hp).2;omega,fun z=>?_,by omega⟩;obtain⟨o,cT,hx⟩:=iG.cover z;have:o.2∈[x]:=(hM.mem o.2).2 ⟨o,cT,rfl⟩;rw[List.mem_singleton]at this;have:=iG.val o cT z hx;rw[←this];congr 1;omega
 | [x,w],hM,ji,_ =>
   simp only
   by_cases hs:x<2∧w<2
   ·rw[if_pos hs]
    have sr:=hM.nd;rw[List.nodup_cons,List.mem_singleton]at sr
    have h1u:1∈[x,w]:=by
     have:x=1∨w=1:=by omega
     rcases this with rfl|rfl <;> simp
    obtain⟨q,g1,g2,g3⟩:=hM.some 1 h1u;rw[ZhD g1];refine⟨q,s1,rfl,h2,g2,fun z=>?_,by omega⟩;obtain⟨o,cT,hx⟩:=iG.cover z;have hv:=iG.val o cT z hx;have hu:o.2∈[x,w]:=(hM.mem o.2).2 ⟨o,cT,rfl⟩;have:o.2=0∨o.2=1:=by simp at hu;omega
    rcases this with e|e
    ·rw[e,ew.sem0]at hv
     rw[←hv]
     cases hq:sem s1.nodes q z
     ·rfl
     ·obtain⟨o',ho'',e',bn⟩:=(g3 z).1 hq
      have:=Zc7 (R:=Zfa s1.nodes) (fun a b bT x hx=>bT x ⟨hx.2,hx.1⟩) iG.disj o cT o' ho'' (fun ee=>by rw[ee]at e;omega) z;exact absurd ⟨hx,bn⟩ this
    ·rw[e,ew.sem1]at hv
     rw[←hv];exact(g3 z).2 ⟨o,cT,e,hx⟩
   ·rw[if_neg hs]
    have qZ:∃z∈[x,w],2≤z:=by
     by_cases e:x<2
     ·exact⟨w,by simp,by omega⟩
     ·exact⟨x,by simp,by omega⟩
    exact ji (by simp) qZ
 | x :: w ::v :: k,hM,ji,_ =>
   simp only;refine ji (by simp) ?_
   apply ZrO
   intro cz
   have:=ZiV hM.nd (fun z hz=>by
    apply ZrO
    intro av;exact cz ⟨z,hz,by omega⟩)
   simp at this
theorem or_spec{t:List VN}{v c d:Nat}{nf:St→Nat→Option (Nat × St)}{af:St→Nat→Nat→Option (Nat × St)}(hn:Zql t v c nf)(ha:Znq t v d af):OrM t v (3*c+d) (orF nf af):=by
 intro s a b ht hR lV dv kz pu;have hi:=hR.inv;obtain⟨x,s1,h1,h2,h3,h4,h5⟩:=hn s a ht (hR.less (by omega)) lV kz;have aF:=h2.sem hi dv;obtain⟨y,s2,g1,g2,g3,g4,g5⟩:=hn s1 b (h2.tree.trans ht) (hR.next h2 h5 (m:=c) (by omega)) (by have:=h2.len;omega) (by rw[aF];exact pu);have aO:=g2.sem h2.inv h3;have j9:=h2.trans g2;have hx:∀z,sem s2.nodes x z= !sem s.nodes a z:=fun z=>by rw[aO];exact h4 z
 have hy:∀z,sem s2.nodes y z= !sem s.nodes b z:=fun z=>by rw[g4];show (!_)=_;rw[aF]
 obtain⟨w,s3,k1,k2,k3,k4,k5⟩:=ha s2 x y (j9.tree.trans ht) (hR.next j9 (c:=2*c) (m:=d) (by omega) (by omega)) (by have:=g2.len;omega) g3
  (fun p q jN=>by rw[hx,hx,kz p q jN]) (fun p q jN=>by rw[hy,hy,pu p q jN])
 have hw:∀z,sem s3.nodes w z=(!sem s.nodes a z && !sem s.nodes b z):=fun z=>by rw[k4];show (sem s2.nodes x z && sem s2.nodes y z)=_;rw[hx,hy]
 have t8:=j9.trans k2
 obtain⟨e,s4,m1,m2,m3,m4,m5⟩:=hn s3 w (t8.tree.trans ht) (hR.next t8 (c:=2*c+d) (m:=c) (by omega) (by omega)) k3
  (fun p q jN=>by rw[hw,hw,kz p q jN,pu p q jN])
 refine⟨e,s4,?_,t8.trans m2,m3,fun z=>?_,by omega⟩
 ·unfold orF
  rw[h1];simp only;rw[g1];simp only;rw[k1];simp only;exact m1
 ·rw[m4]
  show (!sem s3.nodes w z)=(sem s.nodes a z || sem s.nodes b z)
  rw[hw]
  cases sem s.nodes a z <;> cases sem s.nodes b z <;> rfl
end Go.Proofs.YtemnmcfmabamcaaGreatDoor.L
namespace Go.Proofs.YtemnmcfmabamcaaGreatDoor.L
theorem ZgK{nl nr e1 e2 n:Nat}(h1:1≤nl)(h2:1≤nr)(h6:nl+nr≤6)(a1:e1≤2 ^ nl)(a2:e1≤2 ^ (2 ^ nr))(b1:e2≤2 ^ nl)(b2:e2≤2 ^ (2 ^ nr))(hn:n≤e1*e2) :
  cn (nl+nr)+(cn nl+cn nl)+e1*(e2*(ca nl+ca nr))+(n*(3*cn nl+ca nl)+if 5≤nl+nr then 1 else 0)≤ca (nl+nr):=by
 by_cases wQ:nl=5
 ·have pI:nr=1:=by omega
  subst wQ;subst pI;have mM:e1≤4:=a2;have pf:e2≤4:=b2;have hm:e1*e2≤4*4:=Nat.mul_le_mul mM pf;have:e1*(e2*(ca 5+ca 1))=e1*e2*2:=by rw[Nat.mul_assoc];rfl
  rw[this,show cn (5+1)=3 from rfl,show cn 5=1 from rfl,show ca 5=2 from rfl,show ca (5+1)=118 from rfl,if_pos (by omega)];omega
 ·have c1:cn nl=0:=by unfold cn;rw[if_pos (by omega)]
  have c2:ca nl=0:=by unfold ca;rw[if_pos (by omega)]
  rw[c1,c2]
  by_cases qC:nr=5
  ·have fN:nl=1:=by omega
   subst qC;subst fN;have hm:e1*e2≤2*2:=Nat.mul_le_mul a1 b1;have:e1*(e2*(0+ca 5))=e1*e2*2:=by rw[Nat.mul_assoc];rfl
   rw[this,show cn (1+5)=3 from rfl,show ca (1+5)=118 from rfl,if_pos (by omega)];omega
  ·have c3:ca nr=0:=by unfold ca;rw[if_pos (by omega)]
   rw[c3];simp only[Nat.add_zero,Nat.mul_zero,Nat.zero_add];unfold cn ca
   split <;> split <;> (try split) <;> omega
def Zqp (s:St)(a b c:Nat):St:={ s with ands:=((a,b),c) :: s.ands }
theorem Inv.ands_add{s:St}(h:Inv s){a b c:Nat}(ha:a<s.nodes.length)(hb:b<s.nodes.length)(hc:c<s.nodes.length)(e:∀x,sem s.nodes c x=(sem s.nodes a x && sem s.nodes b x)):Inv (Zqp s a b c) :=
 ⟨h.tree,h.zero,h.one,h.ok,h.min,h.uq1,h.uq2,fun x y z gW=>by
   have js:(if (x,y)=(a,b) then some c else asc s.ands (x,y))=some z:=gW
   show x<s.nodes.length∧y<s.nodes.length∧z<s.nodes.length∧∀w,sem s.nodes z w=(sem s.nodes x w && sem s.nodes y w)
   split at js
   ·rename_i e'
    cases js;cases e';exact⟨ha,hb,hc,e⟩
   ·exact h.ands x y z js,h.nots⟩
theorem Sp.pairs{t:List VN}{ns:List Zac}{l r:Nat}{F:Asg→Bool}{el:List (Nat × Nat)}(h:Sp t ns l r F el):∀p∈el,Zb0 t ns l r p:=fun p hp=>⟨(h.ib p hp).1,(h.ib p hp).2,h.pdep p hp,h.sdep p hp⟩
theorem Zir{t:List VN}(hc:Zae t=0)(bu:t.length≤11){P:Nat}{y:VN}{l r:Nat}(hy:t[P]? =some y)(aI:Zai y=false)(hl:y.left=l)(hr:y.right=r){nf:St→Nat→Option (Nat × St)}{af:St→Nat→Nat→Option (Nat × St)}
  (bU:Zql t l (cn (nv t l)) nf) (lV:Znq t l (ca (nv t l)) af) (sQ:Znq t r (ca (nv t r)) af) {s:St}(ht:s.tree=t) {a b c0:Nat}(hR:Room s c0) (sV:c0+cn (nv t P)=ca (nv t P)) (po:2≤a) (aL:2≤b) (ha:a<s.nodes.length) (hb:b<s.nodes.length)
  (kz:Dep (Bel t P) (sem s.nodes a)) (pu:Dep (Bel t P) (sem s.nodes b)) (hm:Zgb s (Zld s a) (Zld s b)=some P) :
  Did s c0 (fun x=>sem s.nodes a x && sem s.nodes b x) (ZhC nf af s a b):=by
 have hi:=hR.inv;have hP:P<t.length:=(Zrw hy).1;obtain⟨l',r',b1,b2,b3,b4,b5,b6,b7⟩:=inner_ok hc hy aI;obtain rfl:l'=l:=by omega
 obtain rfl:r'=r:=by omega
 have ot:=Zdq hc hy aI hl hr;have ry:=Zcg hc l' (by omega);have tS:=Zcg hc r' (by omega);have nP:=nv_le hc hP;unfold ZhC;rw[hm];simp only
 have bI:cn (nv t l')+cn (nv t l')≤c0:=by
  have:=ZgK (e1:=0) (e2:=0) (n:=0) ry tS (by omega) (Nat.zero_le _) (Nat.zero_le _) (Nat.zero_le _) (Nat.zero_le _) (Nat.zero_le _);rw[←ot]at this;omega
 obtain⟨right,s1,h1,h2,h3,h4,h5,h6⟩:=ZfV hc hy aI hl hr bU ht (hR.less (by omega)) aL hb pu;rw[h1];simp only;have lU:=h2.sem hi ha;obtain⟨left,s2,g1,g2,g3,g4,g5,g6⟩:=ZfV hc hy aI hl hr bU (h2.tree.trans ht) (hR.next h2 h3 (m:=cn (nv t l')) (by omega)) po (by have:=h2.len;omega) (by rw[lU];exact kz);rw[g1];simp only;have j9:=h2.trans g2;have fB:=h4.step h2.inv g2;rw[lU]at g4;have uQ:=ZgK (e1:=left.length) (e2:=right.length) (n:=left.length*right.length) ry tS (by omega) g5 g6 h5 h6 (ZrQ _);rw[←ot]at uQ;obtain⟨new,s3,k1,k2,k3,k4,k5,k6,k7⟩:=Zju lV sQ right left s2 [] (j9.tree.trans ht) (hR.next j9 (c:=cn (nv t l')+cn (nv t l')) (by omega) (by omega)) g4.pairs fB.pairs;rw[k1];simp only;rw[List.nil_append];have t8:=j9.trans k2;have tI:=Zon k2 g4 fB k5 k6 k7;have uS:=ZgK (e1:=left.length) (e2:=right.length) (n:=new.length) ry tS (by omega) g5 g6 h5 h6 k4;rw[←ot]at uS
 have aX:new.length≤1048576:=by
  have e1:left.length≤2 ^ 6:=ZrC g5 (Nat.pow_le_pow_right (by omega) (by omega));have e2:right.length≤2 ^ 6:=ZrC h5 (Nat.pow_le_pow_right (by omega) (by omega));have e3:=Nat.mul_le_mul e1 e2;have e4:(2:Nat) ^ 6*2 ^ 6=4096:=rfl;omega
 obtain⟨c,s4,m1,m2,m3,m4,m5⟩:=Zmg hy aI hl hr (or_spec bU lV) (t8.tree.trans ht) (hR.next t8 (c:=cn (nv t l')+cn (nv t l')+left.length*(right.length*(ca (nv t l')+ca (nv t r')))) (by omega) (by omega)) tI aX;rw[m1];simp only;have vm:=t8.trans m2;have hl14:=vm.len;have sa:=vm.sem hi ha;have sb:=vm.sem hi hb;refine⟨c,Zqp s4 a b c,rfl,⟨vm.inv.ands_add (by omega) (by omega) m3 (fun x=>by rw[m4,sa,sb]),vm.tree,vm.ext⟩,m3,m4,?_⟩
 show big s4≤_
 omega
theorem Zfe{t:List VN}(hc:Zae t=0)(bu:t.length≤11){v:Nat}(hv:v<t.length){f:Nat}(hf:v+2≤f)(ih:∀m,m<v→m<t.length→Znq t m (ca (nv t m)) (Zlc f))
  {s:St}(ht:s.tree=t) (hR:Room s (ca (nv t v))) {a b:Nat}(bT:a≤b) (hb:b<s.nodes.length) (kz:Dep (Bel t v) (sem s.nodes a)) (pu:Dep (Bel t v) (sem s.nodes b)) :
  Did s (ca (nv t v)) (fun x=>sem s.nodes a x && sem s.nodes b x) (Zgi (Zof f) (Zlc f) s a b):=by
 have hi:=hR.inv;have ha:a<s.nodes.length:=by omega
 unfold Zgi
 by_cases h0:a=0∨a=b
 ·rw[if_pos h0]
  refine⟨a,s,rfl,Step.refl hi,ha,fun x=>?_,by omega⟩;rcases h0 with rfl|rfl
  ·show sem s.nodes 0 x=(sem s.nodes 0 x && sem s.nodes b x)
   rw[hi.sem0];rfl
  ·show sem s.nodes a x=(sem s.nodes a x && sem s.nodes a x)
   rw[Bool.and_self]
 rw[if_neg h0]
 by_cases h1:a=1
 ·rw[if_pos h1]
  subst h1;exact⟨b,s,rfl,Step.refl hi,hb,fun x=>by show sem s.nodes b x=(sem s.nodes 1 x && sem s.nodes b x);rw[hi.sem1,Bool.true_and],by omega⟩
 rw[if_neg h1];have po:2≤a:=by omega
 have aL:2≤b:=by omega
 have lF:s.nodes[a]? =some s.nodes[a]:=Zry ha;have jp:s.nodes[b]? =some s.nodes[b]:=Zry hb;subst ht;obtain⟨Pa,ea,la,ua⟩:=hi.at_und po lF kz;obtain⟨Pb,eb,lb,ub⟩:=hi.at_und aL jp pu;obtain⟨m1,m2,m3⟩:=ZhW hc la lb;have hmv:=m3 v ua ub;generalize hMM:ZdB s.tree Pa Pb=M at m1 m2 m3 hmv;have hM:M<s.tree.length:=hmv.lt hv;have hMv:=hmv.le hc;have hnvM:=hmv.nv_le hc
 have tD:Dep (Bel s.tree M) (sem s.nodes a):=by
  obtain⟨P',f1,_,f3⟩:=hi.place po lF;have:P'=Pa:=by omega
  subst this;exact f3.mono fun x hx=>hx.up m1
 have fW:Dep (Bel s.tree M) (sem s.nodes b):=by
  obtain⟨P',f1,_,f3⟩:=hi.place aL jp;have:P'=Pb:=by omega
  subst this;exact f3.mono fun x hx=>hx.up m2
 have hcle:cn (nv s.tree M)≤ca (nv s.tree M):=by unfold cn ca;split <;> (try split) <;> omega
 have wF:=Zpo hnvM;obtain⟨na,s1,g1,g2,g3,g4,g5⟩:=not_spec hc bu M hM f (by omega) s a rfl (hR.less (by omega)) ha tD;rw[g1];simp only;have ew:=g2.inv;have fN:=g2.len;have sa:=g2.sem hi ha;have sb:=g2.sem hi hb
 by_cases aJ:na=b
 ·rw[if_pos aJ]
  refine⟨0,s1,rfl,g2,by omega,fun x=>?_,by omega⟩;rw[ew.sem0];have h7:=g4 x;rw[aJ,sb]at h7
  show false=(sem s.nodes a x && sem s.nodes b x)
  rw[h7]
  show false=(sem s.nodes a x && !sem s.nodes a x)
  cases sem s.nodes a x <;> rfl
 rw[if_neg aJ]
 cases hands:asc s1.ands (a,b) with
 | some c =>
   obtain⟨_,_,k3,k4⟩:=ew.ands a b c hands;exact⟨c,s1,rfl,g2,k3,fun x=>by rw[k4,sa,sb],by omega⟩
 | none =>
   simp only;have hy:s.tree[M]? =some s.tree[M]:=Zry hM;generalize s.tree[M]=y at hy
   cases aI:Zai y
   ·obtain⟨l,r,b1,b2,b3,b4,b5,_⟩:=inner_ok hc hy aI
    have aQ:Room s1 (ca (nv s.tree M) - cn (nv s.tree M)):=(hR.less wF).next g2 g5 (by omega)
    have yf:∀ {i:Nat},i<s.nodes.length→s1.nodes[i]? =s.nodes[i]?:=fun pw=>by
     obtain⟨m,hm⟩:=g2.ext;rw[hm,List.getElem?_append_left pw]
    have pla:Zld s1 a=(Pa:Int):=by unfold Zld;rw[yf ha,lF];exact ea
    have plb:Zld s1 b=(Pb:Int):=by unfold Zld;rw[yf hb,jp];exact eb
    have ki:Zgb s1 (Zld s1 a) (Zld s1 b)=some M:=by
     rw[pla,plb,ZbY (by rw[g2.tree];exact hc) (by rw[g2.tree];exact la) (by rw[g2.tree];exact lb),g2.tree,hMM]
    have bU:=not_spec hc bu l (by omega) f (by omega);obtain⟨c,s',k1,k2,k3,k4,k5⟩:=Zir hc bu hy aI b1 b2 bU (ih l (by omega) (by omega)) (ih r (by omega) (by omega)) g2.tree aQ (by omega) po aL (by omega) (by omega) (by rw[sa];exact tD) (by rw[sb];exact fW) ki;exact⟨c,s',k1,g2.trans k2,k3,fun x=>by rw[k4,sa,sb],by omega⟩
   ·-- both lie at one leaf: then they are equal,or each other's negation
    exfalso
    have qa:=m1.leaf hc hy aI;have qb:=m2.leaf hc hy aI
    have lit:∀i,2≤i→(ex:i<s.nodes.length)→(s.nodes[i]).pl=(M:Int)→Zei s.tree s.nodes[i]:=fun i h2 ex dQ=>by
     rcases hi.ok i _ h2 (Zry ex) with hl|hk
     ·exact hl
     ·obtain⟨P',y',_,_,e1,e2,e3,_⟩:=hk.parts
      have:P'=M:=by omega
      subst this;rw[hy]at e2;cases e2;rw[aI]at e3;cases e3
    have la':=lit a po ha (by omega);have lb':=lit b aL hb (by omega);obtain⟨u1,z1,c1,c2,c3,c4⟩:=la'.leaf;obtain⟨u2,z2,d1,d2,d3,d4⟩:=lb'.leaf;have:u1=u2:=by omega
    subst this;rw[c2]at d2;cases d2;have gV:(s.nodes[a]).lit.natAbs=(s.nodes[b]).lit.natAbs:=by omega
    by_cases tH:decide (0<(s.nodes[a]).lit)=decide (0<(s.nodes[b]).lit)
    ·exact h0 (.inr (hi.canon ha hb (funext fun x=>by rw[hi.semLit lF la',hi.semLit jp lb',gV,tH])))
    ·refine aJ (ew.canon g3 (by omega) (funext fun x=>?_))
     rw[g4,sb]
     show (!sem s.nodes a x)=_
     rw[hi.semLit lF la',hi.semLit jp lb',gV]
     revert tH
     cases decide (0<(s.nodes[a]).lit) <;> cases decide (0<(s.nodes[b]).lit) <;> cases x ((s.nodes[b]).lit.natAbs:Int) <;> simp
theorem and_spec{t:List VN}(hc:Zae t=0)(bu:t.length≤11):∀v,v<t.length→∀f,v+3≤f→Znq t v (ca (nv t v)) (Zlc f):=by
 intro v
 induction v using Nat.strongRecOn with
 | ind v ih =>
   intro hv f hf s a b ht hR ha hb kz pu;obtain⟨f,rfl⟩:∃g,f=g+1:=⟨f - 1,by omega⟩;rw[Zlc];have ih':∀m,m<v→m<t.length→Znq t m (ca (nv t m)) (Zlc f):=fun m h1 h2=>ih m h1 h2 f (by omega)
   split
   ·have:=Zfe hc bu hv (f:=f) (by omega) ih' ht hR (a:=b) (b:=a) (by omega) ha pu kz
    rw[show (fun x=>sem s.nodes a x && sem s.nodes b x)=fun x=>sem s.nodes b x && sem s.nodes a x from funext fun x=>Bool.and_comm ..];exact this
   ·exact Zfe hc bu hv (f:=f) (by omega) ih' ht hR (by omega) hb kz pu
end Go.Proofs.YtemnmcfmabamcaaGreatDoor.L
