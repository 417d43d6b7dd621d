import Derived.Test.YtmnjakejhbpkoaaGreatDoorVVt
set_option linter.unusedSimpArgs false
set_option linter.unusedVariables false
set_option maxRecDepth 100000
namespace Go.Proofs.YtmnjakejhbpkoaaGreatDoor.L
theorem Zhj{f:Nat→Bool}{i j:Nat}:Zbs f i j=true↔j=i∨f j=true:=by
 unfold Zbs;split <;> simp_all
theorem Zlv:∀(t:List VN) (i:Nat) (sc sc':(Nat→Bool) × (Nat→Bool)) (f:Nat→Int),Zcs t i sc=some sc' →
  (∀j,sc.2 j=true→j<i→ZcZ t i f j=f j) ∧
  (∀k (hk:k<t.length),Zaj t[k]=false→ZcZ t i f t[k].left.toNat=(i+k:Nat)∧ZcZ t i f t[k].right.toNat=(i+k:Nat))
 | [],i,sc,sc',f,h=>⟨fun _ _ _=>rfl,fun k hk=>absurd hk (Nat.not_lt_zero _)⟩
 | x :: r,i,sc,sc',f,h=>by
   unfold Zcs at h
   split at h
   ·cases h
   rename_i jX h1
   obtain⟨g1,g2⟩:=Zlv r (i+1) jX sc' (Zc3 i x f) h;have hs:Zcl i x sc=some jX:=h1;unfold Zcl at h1
   split at h1
   ·rename_i hl
    split at h1
    ·cases h1
    simp only[Zpw]at h1;subst h1;refine⟨fun j hj lp=>?_,fun k hk az=>?_⟩
    ·rw[ZcZ,g1 j hj (by omega)]
     simp[Zc3,hl,ZgD,show j≠i from by omega]
    ·cases k with
     | zero=>simp only[List.getElem_cons_zero]at az;rw[hl]at az;cases az
     | succ k =>
       have:=g2 k (by simpa using hk) (by simpa using az);simp only[List.getElem_cons_succ,ZcZ];rw[show i+(k+1)=i+1+k from by omega];exact this
   ·rename_i hl
    split at h1
    ·cases h1
    split at h1
    ·cases h1
    rename_i c hc
    split at h1
    ·cases h1
    rename_i c' ff
    simp only[Zpw]at h1;obtain⟨a1,a2,a3,a4⟩:=Zb3 hc;obtain⟨b1,b2,b3,b4⟩:=Zb3 ff;subst h1
    have aH:x.left.toNat≠x.right.toNat:=fun e=>by
     rw[a4,←e]at b3;simp[Zbs]at b3
    have aa:sc.2 x.right.toNat=false:=by
     cases hh:sc.2 x.right.toNat
     ·rfl
     ·rw[a4]at b3;simp[Zbs,hh]at b3
    refine⟨fun j hj lp=>?_,fun k hk az=>?_⟩
    ·have e1:j≠x.left.toNat:=fun e=>by rw[e,a3]at hj;cases hj
     have e2:j≠x.right.toNat:=fun e=>by rw[e,aa]at hj;cases hj
     rw[ZcZ,g1 j (by rw[b4,a4];simp[Zbs,hj]) (by omega)];simp[Zc3,hl,ZgD,show j≠i from by omega,e1,e2]
    ·cases k with
     | zero =>
       simp only[List.getElem_cons_zero,ZcZ]
       constructor
       ·rw[g1 _ (by rw[b4,a4];simp[Zbs]) (by omega)]
        simp[Zc3,hl,ZgD,aH]
       ·rw[g1 _ (by rw[b4];simp[Zbs]) (by omega)]
        simp[Zc3,hl,ZgD]
     | succ k =>
       have:=g2 k (by simpa using hk) (by simpa using az);simp only[List.getElem_cons_succ,ZcZ];rw[show i+(k+1)=i+1+k from by omega];exact this
theorem Zlt:∀(t:List VN) (i:Nat) (sc sc':(Nat→Bool) × (Nat→Bool)),Zcs t i sc=some sc'→∀j,sc'.2 j=true→sc.2 j=true∨∃k,∃hk:k<t.length,Zaj t[k]=false∧(t[k].left=j∨t[k].right=j)
 | [],i,sc,sc',h,j,hj=>by
   simp only[Zcs,Zpw]at h;subst h;exact .inl hj
 | x :: r,i,sc,sc',h,j,hj=>by
   unfold Zcs at h
   split at h
   ·cases h
   rename_i jX h1
   rcases Zlt r (i+1) jX sc' h j hj with h2|⟨k,hk,h3,h4⟩
   ·rcases ZcX h1 with ⟨_,e⟩|⟨hl,_,h4,_,h6,_,_,e⟩
    ·rw[e]at h2;exact .inl h2
    ·rw[e]at h2
     rcases Zhj.1 h2 with h2|h2
     ·exact .inr ⟨0,by simp,hl,.inr (by simp only[List.getElem_cons_zero];omega)⟩
     ·rcases Zhj.1 h2 with h2|h2
      ·exact .inr ⟨0,by simp,hl,.inl (by simp only[List.getElem_cons_zero];omega)⟩
      ·exact .inl h2
   ·exact .inr ⟨k+1,by simpa using hk,by simpa using h3,by simpa using h4⟩
theorem ZiY:∀(t:List VN) (i:Nat) (sc sc':(Nat→Bool) × (Nat→Bool)),Zcs t i sc=some sc' →
  (∀k (hk:k<t.length),Zaj t[k]=true→sc.1 t[k].var.toNat=false) ∧
  (∀k m (hk:k<t.length) (hm:m<t.length),Zaj t[k]=true→Zaj t[m]=true→t[k].var.toNat=t[m].var.toNat→k=m)
 | [],i,sc,sc',h=>⟨fun k hk=>absurd hk (Nat.not_lt_zero _),fun k m hk=>absurd hk (Nat.not_lt_zero _)⟩
 | x :: r,i,sc,sc',h=>by
   unfold Zcs at h
   split at h
   ·cases h
   rename_i jX h1
   obtain⟨g1,g2⟩:=ZiY r (i+1) jX sc' h
   have key:(Zaj x=true→sc.1 x.var.toNat=false∧jX.1=Zbs sc.1 x.var.toNat)∧(Zaj x=false→jX.1=sc.1):=by
    unfold Zcl at h1
    split at h1
    ·rename_i hl
     split at h1
     ·cases h1
     rename_i hv
     simp only[Zpw]at h1;subst h1;exact⟨fun _=>⟨by simpa using hv,rfl⟩,fun h=>by rw[hl]at h;cases h⟩
    ·rename_i hl
     refine⟨fun h=>absurd h hl,fun _=>?_⟩
     split at h1
     ·cases h1
     split at h1
     ·cases h1
     split at h1
     ·cases h1
     simp only[Zpw]at h1;subst h1;rfl
   have dr:∀v,jX.1 v=false→sc.1 v=false:=fun v hv=>by
    cases hl:Zaj x
    ·rw[key.2 hl]at hv;exact hv
    ·rw[(key.1 hl).2]at hv
     simp only[Zbs]at hv
     split at hv
     ·cases hv
     ·exact hv
   have nM:∀k (hk:k<r.length),Zaj x=true→Zaj r[k]=true→x.var.toNat≠r[k].var.toNat:=fun k hk hl az e=>by
    have:=g1 k hk az;rw[(key.1 hl).2,←e]at this;simp[Zbs]at this
   refine⟨fun k hk hl=>?_,fun k m hk hm az en e=>?_⟩
   ·cases k with
    | zero=>exact(key.1 hl).1
    | succ k=>exact dr _ (g1 k (by simpa using hk) (by simpa using hl))
   ·cases k with
    | zero =>
      cases m with
      | zero=>rfl
      | succ m=>exact absurd e (nM m (by simpa using hm) az (by simpa using en))
    | succ k =>
      cases m with
      | zero=>exact absurd e.symm (nM k (by simpa using hk) en (by simpa using az))
      | succ m=>exact congrArg (·+1) (g2 k m (by simpa using hk) (by simpa using hm) (by simpa using az) (by simpa using en) (by simpa using e))
def pa (t:List VN)(j:Nat):Nat:=(Zim t j).toNat
theorem Zlk{t:List VN}(h:Zad t=0){j:Nat}(hj:j+1<t.length):j<pa t j∧pa t j<t.length:=by
 have:=ZlM h hj;unfold pa;omega
theorem inner_ok{t:List VN}(h:Zad t=0){v:Nat}{x:VN}(hx:t[v]? =some x)(hl:Zaj x=false) :
  ∃l r:Nat,x.left=l∧x.right=r∧l<v∧r<v∧l≠r∧pa t l=v∧pa t r=v:=by
 obtain⟨_,_,sc,hs,_⟩:=Zar h;obtain⟨hv,rfl⟩:=Zpj hx;obtain⟨_,b1,b2,b3,b4,b5⟩:=Zb8 t 0 _ sc hs v hv hl;obtain⟨_,g⟩:=Zlv t 0 _ sc (fun _=>0) hs;obtain⟨g1,g2⟩:=g v hv hl;refine⟨t[v].left.toNat,t[v].right.toNat,by omega,by omega,by omega,by omega,by omega,?_,?_⟩
 ·unfold pa Zim;rw[g1];simp
 ·unfold pa Zim;rw[g2];simp
theorem Zev{t:List VN}(h:Zad t=0){j:Nat}(hj:j+1<t.length):∃x,t[pa t j]? =some x∧Zaj x=false∧(x.left=j∨x.right=j):=by
 obtain⟨_,_,sc,hs,hc⟩:=Zar h;rcases Zlt t 0 _ sc hs j (hc j hj) with h1|⟨k,hk,h1,h2⟩
 ·cases h1
 ·have hx:t[k]? =some t[k]:=Zpl hk
  obtain⟨l,r,e1,e2,_,_,_,e3,e4⟩:=inner_ok h hx h1
  have:pa t j=k:=by
   rcases h2 with h2|h2
   ·rw[e1]at h2;rw[←e3];congr 1;omega
   ·rw[e2]at h2;rw[←e4];congr 1;omega
  rw[this];exact⟨_,hx,h1,h2⟩
theorem leaf_var{t:List VN}(h:Zad t=0){u v:Nat}{x y:VN}(hx:t[u]? =some x)(hy:t[v]? =some y)(hlx:Zaj x=true)(uO:Zaj y=true)(e:x.var=y.var):u=v:=by
 obtain⟨_,_,sc,hs,_⟩:=Zar h;obtain⟨hu,rfl⟩:=Zpj hx;obtain⟨hv,rfl⟩:=Zpj hy;exact(ZiY t 0 _ sc hs).2 u v hu hv hlx uO (by rw[e])
inductive Und (t:List VN) (v:Nat):Nat→Prop
 | refl:Und t v v
 | step {u:Nat}:u+1<t.length→Und t v (pa t u)→Und t v u
theorem Und.le{t:List VN}(h:Zad t=0){v u:Nat}(hu:Und t v u):u≤v:=by
 induction hu with
 | refl=>exact ZpD _
 | step h1 _ ih=>have:=Zlk h h1;omega
theorem Und.trans{t:List VN}{w v u:Nat}(h1:Und t w v)(h2:Und t v u):Und t w u:=by
 induction h2 with
 | refl=>exact h1
 | step h3 _ ih=>exact .step h3 ih
theorem Und.linear{t:List VN}(h:Zad t=0){v w u:Nat}(h1:Und t v u)(h2:Und t w u)(gG:v≤w):Und t w v:=by
 induction h1 with
 | refl=>exact h2
 | step h3 h4 ih =>
   cases h2 with
   | refl=>have:=h4.le h;have:=Zlk h h3;omega
   | step _ h5=>exact ih h5
theorem Und.root{t:List VN}(h:Zad t=0):∀(n u:Nat),u<t.length→t.length≤u+n→Und t (t.length - 1) u
 | 0,u,hu,hn=>by omega
 | n+1,u,hu,hn=>by
   by_cases hr:u+1=t.length
   ·have:u=t.length - 1:=by omega
    rw[←this];exact .refl
   ·have aE:u+1<t.length:=by omega
    have:=Zlk h aE;exact .step aE (Und.root h n (pa t u) this.2 (by omega))
theorem Und.kids{t:List VN}(h:Zad t=0){v u:Nat}{x:VN}{l r:Nat}(hx:t[v]? =some x)(hl:x.left=l)(hr:x.right=r)(hu:Und t v u):u=v∨Und t l u∨Und t r u:=by
 induction hu with
 | refl=>exact .inl rfl
 | step h1 h2 ih =>
   rename_i u
   rcases ih with e|e|e
   ·obtain⟨y,hy,_,hc⟩:=Zev h h1
    rw[e,hx]at hy
    cases hy
    rcases hc with hc|hc
    ·have:l=u:=by omega
     subst this;exact .inr (.inl .refl)
    ·have:r=u:=by omega
     subst this;exact .inr (.inr .refl)
   ·exact .inr (.inl (.step h1 e))
   ·exact .inr (.inr (.step h1 e))
theorem Und.kid{t:List VN}(h:Zad t=0){v:Nat}{x:VN}{l r:Nat}(hx:t[v]? =some x)(aI:Zaj x=false)(hl:x.left=l)(hr:x.right=r):Und t v l∧Und t v r:=by
 obtain⟨l',r',e1,e2,h1,h2,_,e3,e4⟩:=inner_ok h hx aI;obtain rfl:l'=l:=by omega
 obtain rfl:r'=r:=by omega
 have hv:v<t.length:=(Zpj hx).1;exact⟨.step (by omega) (by rw[e3];exact .refl),.step (by omega) (by rw[e4];exact .refl)⟩
theorem Und.apart{t:List VN}(h:Zad t=0){v u:Nat}{x:VN}{l r:Nat}(hx:t[v]? =some x)(aI:Zaj x=false)(hl:x.left=l)(hr:x.right=r)(h1:Und t l u)(h2:Und t r u):False:=by
 obtain⟨l',r',e1,e2,b1,b2,b3,e3,e4⟩:=inner_ok h hx aI;obtain rfl:l'=l:=by omega
 obtain rfl:r'=r:=by omega
 rcases Nat.lt_or_ge l' r' with aE|dC
 ·have:=h1.linear h h2 (by omega)
  cases this with
  | refl=>omega
  | step _ h6=>rw[e3]at h6;have:=h6.le h;omega
 ·have:=h2.linear h h1 dC
  cases this with
  | refl=>omega
  | step _ h6=>rw[e4]at h6;have:=h6.le h;omega
theorem Und.leaf{t:List VN}(h:Zad t=0){v u:Nat}{x:VN}(hx:t[v]? =some x)(aI:Zaj x=true)(hu:Und t v u):u=v:=by
 induction hu with
 | refl=>rfl
 | step h1 h2 ih =>
   obtain⟨y,hy,uO,_⟩:=Zev h h1;rw[ih,hx]at hy
   cases hy
   rw[aI]at uO;cases uO
theorem Und.lt{t:List VN}{v u:Nat}(hu:Und t v u)(hv:v<t.length):u<t.length:=by
 cases hu with
 | refl=>exact hv
 | step h1 _=>omega
theorem ZdT{t:List VN}(hc:Zad t=0):∀(f a b:Nat),a<t.length→b<t.length→t.length+t.length≤f+a+b →
  Und t (Zfp (Zim t) f a b) a∧Und t (Zfp (Zim t) f a b) b∧∀w,Und t w a→Und t w b→Und t w (Zfp (Zim t) f a b)
 | 0,a,b,ha,hb,h=>by omega
 | f+1,a,b,ha,hb,h=>by
   rw[Zfp]
   by_cases e:a=b
   ·subst e;rw[if_pos rfl];exact⟨.refl,.refl,fun _ h _=>h⟩
   ·rw[if_neg e]
    by_cases hl:a<b
    ·rw[if_pos hl]
     have hp:=Zlk hc (show a+1<t.length by omega);obtain⟨h1,h2,h3⟩:=ZdT hc f (pa t a) b hp.2 hb (by omega);refine⟨.step (by omega) h1,h2,fun w eE jr=>h3 w ?_ jr⟩
     cases eE with
     | refl=>have:=jr.le hc;omega
     | step _ h4=>exact h4
    ·rw[if_neg hl]
     have hp:=Zlk hc (show b+1<t.length by omega);obtain⟨h1,h2,h3⟩:=ZdT hc f a (pa t b) ha hp.2 (by omega);refine⟨h1,.step (by omega) h2,fun w eE jr=>h3 w eE ?_⟩
     cases jr with
     | refl=>have:=eE.le hc;omega
     | step _ h4=>exact h4
theorem Ze1{t:List VN}(hc:Zad t=0){a b:Nat}(ha:a<t.length)(hb:b<t.length) :
  Und t (ZcG t a b) a∧Und t (ZcG t a b) b∧∀w,Und t w a→Und t w b→Und t w (ZcG t a b) :=
 ZdT hc _ a b ha hb (by omega)
theorem ZiO{t:List VN}(hc:Zad t=0){a b:Nat}(ha:a<t.length)(hb:b<t.length):ZcG t a b=b↔Und t b a:=by
 obtain⟨h1,h2,h3⟩:=Ze1 hc ha hb
 constructor
 ·intro e;rw[e]at h1;exact h1
 ·intro h
  have h4:=(h3 b h .refl).le hc;have h5:=h2.le hc;omega
def Bel (t:List VN)(v:Nat)(x:Int):Prop:=∃u y,t[u]? =some y∧Zaj y=true∧y.var=x∧Und t v u
theorem Bel.kids{t:List VN}(h:Zad t=0){v:Nat}{y:VN}{l r:Nat}(hx:t[v]? =some y)(aI:Zaj y=false)(hl:y.left=l)(hr:y.right=r)(x:Int):Bel t v x↔Bel t l x∨Bel t r x:=by
 constructor
 ·rintro⟨u,z,h1,h2,h3,h4⟩
  rcases h4.kids h hx hl hr with rfl|h5|h5
  ·rw[hx]at h1;cases h1;rw[aI]at h2;cases h2
  ·exact .inl ⟨u,z,h1,h2,h3,h5⟩
  ·exact .inr ⟨u,z,h1,h2,h3,h5⟩
 ·obtain⟨k1,k2⟩:=Und.kid h hx aI hl hr
  rintro(⟨u,z,h1,h2,h3,h4⟩|⟨u,z,h1,h2,h3,h4⟩)
  ·exact⟨u,z,h1,h2,h3,k1.trans h4⟩
  ·exact⟨u,z,h1,h2,h3,k2.trans h4⟩
theorem Bel.apart{t:List VN}(h:Zad t=0){v:Nat}{y:VN}{l r:Nat}(hx:t[v]? =some y)(aI:Zaj y=false)(hl:y.left=l)(hr:y.right=r){x:Int}(h1:Bel t l x)(h2:Bel t r x):False:=by
 obtain⟨u,z,a1,a2,a3,a4⟩:=h1;obtain⟨u',z',b1,b2,b3,b4⟩:=h2;obtain rfl:=leaf_var h a1 b1 a2 b2 (a3.trans b3.symm);exact Und.apart h hx aI hl hr a4 b4
theorem Bel.up{t:List VN}{v w:Nat}{x:Int}(h:Bel t v x)(hw:Und t w v):Bel t w x:=by
 obtain⟨u,z,a1,a2,a3,a4⟩:=h;exact⟨u,z,a1,a2,a3,hw.trans a4⟩
theorem Bel.leaf{t:List VN}(h:Zad t=0){v:Nat}{y:VN}(hx:t[v]? =some y)(aI:Zaj y=true)(x:Int):Bel t v x↔x=y.var:=by
 constructor
 ·rintro⟨u,z,h1,h2,h3,h4⟩
  have e:=h4.leaf h hx aI;rw[e,hx]at h1
  cases h1
  exact h3.symm
 ·rintro rfl
  exact⟨v,y,hx,aI,rfl,.refl⟩
theorem Bel.range{t:List VN}{v:Nat}{x:Int}(h:Bel t v x):1≤x∧x≤128:=by
 obtain⟨u,z,_,h2,rfl,_⟩:=h;simp only[Zaj,Zpx,ZpA]at h2;exact h2.2
end Go.Proofs.YtmnjakejhbpkoaaGreatDoor.L
namespace Go.Proofs.YtmnjakejhbpkoaaGreatDoor.L
theorem ZdK(p:Nat→Bool):∀n,(∀i,(List.range n).find? p=some i→i<n∧p i=true∧∀j,j<i→p j=false)∧((List.range n).find? p=none→∀j,j<n→p j=false)
 | 0=>by simp
 | n+1=>by
   obtain⟨h1,h2⟩:=ZdK p n;rw[List.range_succ,List.find?_append]
   cases hf:(List.range n).find? p with
   | some i =>
     obtain⟨a,b,c⟩:=h1 i hf;simp only[Option.some_or,Zpw];refine⟨?_,fun e=>by cases e⟩;rintro i rfl;exact⟨by omega,b,c⟩
   | none =>
     have h3:=h2 hf;simp only[Option.none_or]
     cases hp:p n
     ·simp only[List.find?_cons,hp,List.find?_nil]
      refine⟨(fun _ e=>by cases e),fun _ j hj=>?_⟩
      by_cases e:j=n
      ·subst e;exact hp
      ·exact h3 j (by omega)
     ·simp only[List.find?_cons,hp,Zpw]
      refine⟨?_,fun e=>by cases e⟩;rintro i rfl;exact⟨by omega,hp,h3⟩
theorem Zf9(a b:Zak)(i:Nat)(hi:i<128):((a &&& ~~~b) ||| (b &&& ~~~a)).getLsbD i=(a.getLsbD i !=b.getLsbD i):=by
 simp only[BitVec.getLsbD_or,BitVec.getLsbD_and,BitVec.getLsbD_not,hi,decide_true,Bool.true_and]
 cases a.getLsbD i <;> cases b.getLsbD i <;> rfl
theorem ZaJ(a b:Zak):ZaM a b=true↔∃k,k<128∧a.getLsbD k=false∧b.getLsbD k=true∧∀j,j<k→a.getLsbD j=b.getLsbD j:=by
 obtain⟨h1,h2⟩:=ZdK (fun i=>((a &&& ~~~b) ||| (b &&& ~~~a)).getLsbD i) 128;unfold ZaM ZbL
 cases hf:(List.range 128).find? (fun i=>((a &&& ~~~b) ||| (b &&& ~~~a)).getLsbD i) with
 | none =>
   have h3:=h2 hf;simp only[Nat.lt_irrefl,decide_false,Bool.false_and,Bool.false_eq_true,false_iff];rintro⟨k,hk,ha,hb,_⟩;have:=h3 k hk;rw[Zf9 _ _ _ hk,ha,hb]at this
   cases this
 | some i =>
   obtain⟨g1,g2,g3⟩:=h1 i hf;simp only[Nat.succ_pos,decide_true,Bool.true_and]
   have hh:Zau a ((i+1:Nat):Int)=a.getLsbD i:=by
    have e1:decide ((1:Int)≤((i+1:Nat):Int))=true:=Zpv (by omega);have e2:decide (((i+1:Nat):Int)≤128)=true:=Zpv (by omega);have e3:(((i+1:Nat):Int) - 1).toNat=i:=by omega
    rw[Zau,e1,e2,e3];rfl
   rw[hh];have hd:(a.getLsbD i !=b.getLsbD i)=true:=by rw[←Zf9 _ _ _ g1];exact g2
   have he:∀j,j<i→a.getLsbD j=b.getLsbD j:=fun j hj=>by
    have:=g3 j hj;rw[Zf9 _ _ _ (by omega)]at this;simpa using this
   constructor
   ·intro h
    have ha:a.getLsbD i=false:=by simpa using h
    exact⟨i,g1,ha,by rw[ha]at hd;simpa using hd,he⟩
   ·rintro⟨k,hk,ha,hb,hj⟩
    rcases Nat.lt_trichotomy i k with h|h|h
    ·have:=hj i h;rw[this]at hd;simp at hd
    ·subst h;simp[ha]
    ·have:=he k h;rw[ha,hb]at this;cases this
theorem Zbw(a:Zak):ZaM a a=false:=by
 cases h:ZaM a a
 ·rfl
 ·obtain⟨k,_,h1,h2,_⟩:=(ZaJ _ _).1 h
  rw[h1]at h2;cases h2
theorem Zc7{a b c:Zak}(h1:ZaM a b=true)(h2:ZaM b c=true):ZaM a c=true:=by
 obtain⟨k,hk,a1,a2,a3⟩:=(ZaJ _ _).1 h1;obtain⟨m,hm,b1,b2,b3⟩:=(ZaJ _ _).1 h2;refine(ZaJ _ _).2 ?_;rcases Nat.lt_trichotomy k m with h|h|h
 ·exact⟨k,hk,a1,by rw[←b3 k h];exact a2,fun j hj=>(a3 j hj).trans (b3 j (by omega))⟩
 ·subst h;rw[a2]at b1;cases b1
 ·exact⟨m,hm,by rw[a3 m h];exact b1,b2,fun j hj=>(a3 j (by omega)).trans (b3 j hj)⟩
theorem Zcg{a b:Zak}(h1:ZaM a b=true):ZaM b a=false:=by
 cases h:ZaM b a
 ·rfl
 ·have:=Zc7 h1 h;rw[Zbw]at this;cases this
theorem Zjs(p:Nat→Bool):∀n,(∃i,i<n∧p i=true)→∃i,i<n∧p i=true∧∀j,j<i→p j=false:=fun n ⟨i,h1,h2⟩=>by
 obtain⟨g1,g2⟩:=ZdK p n
 cases hf:(List.range n).find? p with
 | none=>have:=g2 hf i h1;rw[h2]at this;cases this
 | some k=>exact⟨k,g1 k hf⟩
theorem ZeY{a b:Zak}(h:a≠b):ZaM a b=true∨ZaM b a=true:=by
 have:∃i,i<128∧(a.getLsbD i !=b.getLsbD i)=true:=by
  apply ZpB
  intro hn
  apply h
  apply BitVec.eq_of_getLsbD_eq
  intro i hi
  apply ZpB
  intro aH;exact hn ⟨i,hi,by simpa using aH⟩
 obtain⟨i,h1,h2,h3⟩:=Zjs (fun i=>a.getLsbD i !=b.getLsbD i) 128 this;have he:∀j,j<i→a.getLsbD j=b.getLsbD j:=fun j hj=>by simpa using h3 j hj
 cases ha:a.getLsbD i
 ·exact .inl ((ZaJ _ _).2 ⟨i,h1,ha,by rw[ha]at h2;simpa using h2,he⟩)
 ·refine .inr ((ZaJ _ _).2 ⟨i,h1,by rw[ha]at h2;simpa using h2,ha,fun j hj=>(he j hj).symm⟩)
def leS (a b:Zak):Prop:=a=b∨ZaM a b=true
theorem leS.trans{a b c:Zak}(h1:leS a b)(h2:leS b c):leS a c:=by
 rcases h1 with rfl|h1
 ·exact h2
 ·rcases h2 with rfl|h2
  ·exact .inr h1
  ·exact .inr (Zc7 h1 h2)
theorem leS.antisymm{a b:Zak}(h1:leS a b)(h2:leS b a):a=b:=by
 rcases h1 with h1|h1
 ·exact h1
 ·rcases h2 with h2|h2
  ·exact h2.symm
  ·rw[Zcg h1]at h2;cases h2
theorem ZdP{a b:Zak}(h:ZaM a b=false):leS b a:=by
 by_cases e:a=b
 ·exact .inl e.symm
 ·rcases ZeY e with h1|h1
  ·rw[h]at h1;cases h1
  ·exact .inr h1
section
variable {α:Type}{lt:α→α→Bool}
theorem Zgh(p:α):∀(l:List α) (x:α),x∈ZgC lt p l↔x=p∨x∈l
 | [],x=>by simp[ZgC]
 | q :: r,x=>by
   unfold ZgC
   split
   ·simp
   ·simp only[List.mem_cons,Zgh p r]
    constructor
    ·rintro(h|h|h)
     ·exact .inr (.inl h)
     ·exact .inl h
     ·exact .inr (.inr h)
    ·rintro(h|h|h)
     ·exact .inr (.inl h)
     ·exact .inl h
     ·exact .inr (.inr h)
theorem Zhk:∀(l:List α) (x:α),x∈ZbS lt l↔x∈l
 | [],x=>by simp[ZbS]
 | p :: r,x=>by rw[ZbS,Zgh,Zhk r];simp
theorem Zml(p:α):∀(l:List α),(ZgC lt p l).length=l.length+1
 | []=>rfl
 | q :: r=>by
   unfold ZgC
   split
   ·rfl
   ·simp[Zml p r]
theorem Zb2(p:α):∀(l:List α),(ZgC lt p l).Perm (p :: l)
 | []=>List.Perm.refl _
 | q :: r=>by
   unfold ZgC
   split
   ·exact List.Perm.refl _
   ·exact((Zb2 p r).cons q).trans (List.Perm.swap p q r)
theorem ZaR:∀(l:List α),(ZbS lt l).Perm l
 | []=>List.Perm.refl _
 | p :: r=>(Zb2 p _).trans ((ZaR r).cons p)
theorem ZbN(ht:∀a b c,lt a b=true→lt b c=true→lt a c=true)(p:α):∀(l:List α),l.Pairwise (fun a b=>lt a b=true)→(∀q∈l,lt p q=true∨lt q p=true)→(ZgC lt p l).Pairwise (fun a b=>lt a b=true)
 | [],_,_=>by simp[ZgC]
 | q :: r,h,hq=>by
   unfold ZgC;rw[List.pairwise_cons]at h
   split
   ·rename_i hl
    refine List.pairwise_cons.2 ⟨fun x hx=>?_,List.pairwise_cons.2 h⟩;rcases List.mem_cons.1 hx with rfl|hx
    ·exact hl
    ·exact ht _ _ _ hl (h.1 x hx)
   ·rename_i hl
    refine List.pairwise_cons.2 ⟨fun x hx=>?_,ZbN ht p r h.2 (fun y hy=>hq y (Zpn _ hy))⟩;rcases (Zgh p r x).1 hx with rfl|hx
    ·rcases hq q (Zpy ..) with h1|h1
     ·exact absurd h1 hl
     ·exact h1
    ·exact h.1 x hx
theorem ZbA(ht:∀a b c,lt a b=true→lt b c=true→lt a c=true):∀(l:List α),Zbk lt l=true→(ZbS lt l).Pairwise (fun a b=>lt a b=true)
 | [],_=>List.Pairwise.nil
 | p :: r,h=>by
   simp only[Zbk,Zpx,List.all_eq_true,Bool.or_eq_true]at h;rw[ZbS];exact ZbN ht p _ (ZbA ht r h.2) (fun q hq=>h.1 q ((Zhk r q).1 hq))
theorem ZcB:∀(l:List α),l.Pairwise (fun a b=>lt a b=true∨lt b a=true)→Zbk lt l=true
 | [],_=>rfl
 | p :: r,h=>by
   rw[List.pairwise_cons]at h;simp only[Zbk,Zpx,List.all_eq_true,Bool.or_eq_true];exact⟨h.1,ZcB r h.2⟩
theorem Zhl(ha:∀a b,lt a b=true→lt b a=true→False):∀(l m:List α),l.Pairwise (fun a b=>lt a b=true)→m.Pairwise (fun a b=>lt a b=true)→(∀x,x∈l↔x∈m)→l=m
 | [],[],_,_,_=>rfl
 | [],q :: r,_,_,h=>by have:=(h q).2 (Zpy ..);cases this
 | p :: r,[],_,_,h=>by have:=(h p).1 (Zpy ..);cases this
 | p :: r,q :: k,h1,h2,h=>by
   rw[List.pairwise_cons]at h1 h2
   have e:p=q:=by
    rcases List.mem_cons.1 ((h p).1 (Zpy ..)) with e|e
    ·exact e
    ·rcases List.mem_cons.1 ((h q).2 (Zpy ..)) with e2|e2
     ·exact e2.symm
     ·exact(ha _ _ (h1.1 q e2) (h2.1 p e)).elim
   subst e;rw[Zhl ha r k h1.2 h2.2 (fun x=>?_)];have iU:p∉r:=fun hm=>ha _ _ (h1.1 p hm) (h1.1 p hm)
   have jj:p∉k:=fun hm=>ha _ _ (h2.1 p hm) (h2.1 p hm)
   constructor
   ·intro hx
    rcases List.mem_cons.1 ((h x).1 (Zpn _ hx)) with e|e
    ·subst e;exact absurd hx iU
    ·exact e
   ·intro hx
    rcases List.mem_cons.1 ((h x).2 (Zpn _ hx)) with e|e
    ·subst e;exact absurd hx jj
    ·exact e
end
end Go.Proofs.YtmnjakejhbpkoaaGreatDoor.L
namespace Go.Proofs.YtmnjakejhbpkoaaGreatDoor.L
abbrev Asg:=Int→Bool
def ZmX:Nat→List Zaf→Nat→Asg→Bool
 | 0,_,_,_=>false
 | f+1,ns,i,x=>match ns[i]? with
   | none=>false
   | some n=>if n.lit≠0 then x (n.lit.natAbs:Int) ==decide (0<n.lit) else if n.el=[] then decide (i=1) else n.el.any fun p=>ZmX f ns p.1 x && ZmX f ns p.2 x
def sem (ns:List Zaf)(i:Nat)(x:Asg):Bool:=ZmX (i+1) ns i x
def Kids(ns:List Zaf):Prop:=∀(i:Nat) (n:Zaf),ns[i]? =some n→∀p∈n.el,p.1<i∧p.2<i
theorem ZcA{α:Type}{l:List α}{f g:α→Bool}(h:∀p∈l,f p=g p):l.any f=l.any g:=by
 induction l with
 | nil=>rfl
 | cons a r ih=>rw[List.any_cons,List.any_cons,h a (Zpy ..),ih (fun p hp=>h p (Zpn _ hp))]
theorem Zfd{ns m:List Zaf}(hk:Kids ns)(x:Asg):∀(i f g:Nat),i<f→i<g→i<ns.length→ZmX f (ns++m) i x=ZmX g ns i x:=by
 intro i
 induction i using Nat.strongRecOn with
 | ind i ih =>
   intro f g hf hg hi;obtain⟨f,rfl⟩:∃f',f=f'+1:=⟨f - 1,by omega⟩;obtain⟨g,rfl⟩:∃g',g=g'+1:=⟨g - 1,by omega⟩;rw[ZmX,ZmX,List.getElem?_append_left hi,Zpl hi];simp only
   split
   ·rfl
   ·split
    ·rfl
    ·refine ZcA fun p hp=>?_
     obtain⟨h1,h2⟩:=hk i _ (Zpl hi) p hp;rw[ih p.1 h1 f g (by omega) (by omega) (by omega),ih p.2 h2 f g (by omega) (by omega) (by omega)]
theorem ZaV{ns m:List Zaf}(hk:Kids ns){i:Nat}(hi:i<ns.length):sem (ns++m) i=sem ns i:=by
 funext x;exact Zfd hk x i _ _ (Nat.lt_succ_self _) (Nat.lt_succ_self _) hi
theorem sem_node{ns:List Zaf}(hk:Kids ns){i:Nat}{n:Zaf}(hn:ns[i]? =some n)(x:Asg) :
  sem ns i x=if n.lit≠0 then x (n.lit.natAbs:Int) ==decide (0<n.lit) else if n.el=[] then decide (i=1) else n.el.any fun p=>sem ns p.1 x && sem ns p.2 x:=by
 rw[sem,ZmX,hn];simp only
 split
 ·rfl
 ·split
  ·rfl
  ·refine ZcA fun p hp=>?_
   obtain⟨h1,h2⟩:=hk i n hn p hp;have hi:=(Zpj hn).1;have e1:=Zfd (m:=[]) hk x p.1 i (p.1+1) h1 (Nat.lt_succ_self _) (by omega);have e2:=Zfd (m:=[]) hk x p.2 i (p.2+1) h2 (Nat.lt_succ_self _) (by omega);rw[List.append_nil]at e1 e2;rw[e1,e2];rfl
def Dep (S:Int→Prop)(φ:Asg→Bool):Prop:=∀x y:Asg,(∀v,S v→x v=y v)→φ x=φ y
theorem Dep.mono{S T:Int→Prop}{φ:Asg→Bool}(h:Dep S φ)(hs:∀v,S v→T v):Dep T φ:=fun x y dH=>h x y fun v hv=>dH v (hs v hv)
def asg (m:Zak):Asg:=fun v=>Zau m v
def constN:Zaf:={ pl:=-1,lit:=0,el:=[],le:=0 }
structure Zde (t:List VN) (n:Zaf):Prop where
 el:n.el=[]
 lit:n.lit≠0
 leaf:∃(u:Nat) (y:VN),n.pl=u∧t[u]? =some y∧Zaj y=true∧y.var=(n.lit.natAbs:Int)
 le:n.le=if 0<n.lit then ofS [n.lit] else 0
structure ZaC (t:List VN) (ns:List Zaf) (l r:Nat) (el:List (Nat × Nat)):Prop where
 pdep:∀p∈el,Dep (Bel t l) (sem ns p.1)
 sdep:∀p∈el,Dep (Bel t r) (sem ns p.2)
 pne:∀p∈el,∃x,sem ns p.1 x=true
 disj:el.Pairwise fun p q=>∀x,¬ (sem ns p.1 x=true∧sem ns q.1 x=true)
 cover:∀x,∃p∈el,sem ns p.1 x=true
 nd:el.Pairwise fun p q=>p.2≠q.2
 big:∃p∈el,2≤p.2
 two:2≤el.length
structure Zcr (t:List VN) (ns:List Zaf) (i:Nat) (n:Zaf):Prop where
 lit:n.lit=0
 kids:∀p∈n.el,p.1<i∧p.2<i
 parts:∃(P:Nat) (y:VN) (l r:Nat),n.pl=P∧t[P]? =some y∧Zaj y=false∧y.left=l∧y.right=r∧ZaC t ns l r n.el
 sorted:n.el.Pairwise fun p q=>Za2 ns p q=true
 le:n.le=(ZaZ ns n.el).2
structure Min (ns:List Zaf) (i:Nat):Prop where
 sat:sem ns i (asg (ZaK ns i))=true
 le:∀m,sem ns i (asg m)=true→leS (ZaK ns i) m
def Zce (n:Zaf):Key:=(n.pl,n.lit,n.el)
structure Inv (s:St):Prop where
 tree:Zad s.tree=0
 zero:s.nodes[0]? =some constN
 one:s.nodes[1]? =some constN
 ok:∀(i:Nat) (n:Zaf),2≤i→s.nodes[i]? =some n→Zde s.tree n∨Zcr s.tree s.nodes i n
 min:∀i,1≤i→i<s.nodes.length→Min s.nodes i
 uq1:∀(k:Key) (i:Nat),asc s.uniq k=some i→2≤i∧∃n,s.nodes[i]? =some n∧Zce n=k
 uq2:∀(i:Nat) (n:Zaf),2≤i→s.nodes[i]? =some n→asc s.uniq (Zce n)=some i
 ands:∀a b c,asc s.ands (a,b)=some c→a<s.nodes.length∧b<s.nodes.length∧c<s.nodes.length∧∀x,sem s.nodes c x=(sem s.nodes a x && sem s.nodes b x)
 nots:∀a b,asc s.nots a=some b→a<s.nodes.length∧b<s.nodes.length∧∀x,sem s.nodes b x= !sem s.nodes a x
theorem Inv.kids{s:St}(h:Inv s):Kids s.nodes:=fun i n hn p hp=>by
 rcases Nat.lt_or_ge i 2 with hi|hi
 ·have:n=constN:=by
   have:i=0∨i=1:=by omega
   rcases this with rfl|rfl
   ·rw[h.zero]at hn;exact(Option.some.inj hn).symm
   ·rw[h.one]at hn;exact(Option.some.inj hn).symm
  subst this;cases hp
 ·rcases h.ok i n hi hn with h1|h1
  ·rw[h1.el]at hp;cases hp
  ·exact h1.kids p hp
theorem Inv.len{s:St}(h:Inv s):2≤s.nodes.length:=by
 have:=(Zpj h.one).1;omega
theorem Inv.sem0{s:St}(h:Inv s)(x:Asg):sem s.nodes 0 x=false:=by
 rw[sem_node h.kids h.zero];simp[constN]
theorem Inv.sem1{s:St}(h:Inv s)(x:Asg):sem s.nodes 1 x=true:=by
 rw[sem_node h.kids h.one];simp[constN]
theorem Inv.semLit{s:St}(h:Inv s){i:Nat}{n:Zaf}(hn:s.nodes[i]? =some n)(hl:Zde s.tree n)(x:Asg):sem s.nodes i x=(x (n.lit.natAbs:Int) ==decide (0<n.lit)):=by
 rw[sem_node h.kids hn,if_pos hl.lit]
theorem Inv.semDec{s:St}(h:Inv s){i:Nat}{n:Zaf}(hn:s.nodes[i]? =some n)(hl:Zcr s.tree s.nodes i n)(x:Asg):sem s.nodes i x=n.el.any fun p=>sem s.nodes p.1 x && sem s.nodes p.2 x:=by
 obtain⟨P,y,l,r,_,_,_,_,_,hp⟩:=hl.parts;have aH:n.el≠[]:=fun e=>by have:=hp.two;rw[e]at this;simp at this
 rw[sem_node h.kids hn,if_neg (by simp[hl.lit]),if_neg aH]
noncomputable def mix (S:Int→Prop) (x y:Asg):Asg:=fun v=>open Classical in if S v then x v else y v
theorem Zop{S:Int→Prop}{x y:Asg}{v:Int}(h:S v):mix S x y v=x v:=if_pos h
theorem Ze2{S:Int→Prop}{x y:Asg}{v:Int}(h:¬ S v):mix S x y v=y v:=if_neg h
theorem ZaC.at{t:List VN}{ns:List Zaf}{l r:Nat}{el:List (Nat × Nat)}(h:ZaC t ns l r el){p:Nat × Nat}(hp:p∈el){x:Asg}(hx:sem ns p.1 x=true) :
  (el.any fun q=>sem ns q.1 x && sem ns q.2 x)=sem ns p.2 x:=by
 have hd:∀(l:List (Nat × Nat)) (q:Nat × Nat),(l.Pairwise fun p q=>∀x,¬ (sem ns p.1 x=true∧sem ns q.1 x=true))→p∈l→q∈l→sem ns q.1 x=true→q=p:=by
  intro l q
  induction l with
  | nil=>intro _ hp;cases hp
  | cons a k ih =>
    intro eH hp hq tC;rw[List.pairwise_cons]at eH;rcases List.mem_cons.1 hp with rfl|cI
    ·rcases List.mem_cons.1 hq with rfl|bZ
     ·rfl
     ·exact absurd ⟨hx,tC⟩ (eH.1 q bZ x)
    ·rcases List.mem_cons.1 hq with rfl|bZ
     ·exact absurd ⟨tC,hx⟩ (eH.1 p cI x)
     ·exact ih eH.2 cI bZ tC
 have tP:∀q∈el,sem ns q.1 x=true→q=p:=fun q hq tC=>hd el q h.disj hp hq tC
 cases hs:sem ns p.2 x
 ·rw[List.any_eq_false]
  intro q hq hc;simp only[Zpx]at hc;have:=tP q hq hc.1;subst this;rw[hs]at hc;cases hc.2
 ·rw[List.any_eq_true]
  exact⟨p,hp,by rw[hx,hs];rfl⟩
theorem Dep.mixL{S:Int→Prop}{φ:Asg→Bool}(h:Dep S φ)(x y:Asg):φ (mix S x y)=φ x:=h _ _ fun _ hv=>Zop hv
theorem Dep.mixR{S T:Int→Prop}{φ:Asg→Bool}(h:Dep T φ)(hd:∀v,S v→T v→False)(x y:Asg):φ (mix S x y)=φ y:=h _ _ fun v hv=>Ze2 (fun hs=>hd v hs hv)
end Go.Proofs.YtmnjakejhbpkoaaGreatDoor.L
namespace Go.Proofs.YtmnjakejhbpkoaaGreatDoor.L
def Ess (S:Int→Prop)(φ:Asg→Bool):Prop:=∃x y:Asg,(∀v,¬ S v→x v=y v)∧φ x≠φ y
theorem Ess.meets{S T:Int→Prop}{φ:Asg→Bool}(h:Ess S φ)(hd:Dep T φ):∃v,S v∧T v:=by
 obtain⟨x,y,h1,h2⟩:=h
 apply ZpB
 intro hn;exact h2 (hd x y fun v hv=>h1 v fun hs=>hn ⟨v,hs,hv⟩)
theorem Bel.one{t:List VN}(hc:Zad t=0){a b:Nat}{v:Int}(h1:Bel t a v)(h2:Bel t b v):∃u,Und t a u∧Und t b u:=by
 obtain⟨u,z,a1,a2,a3,a4⟩:=h1;obtain⟨u',z',b1,b2,b3,b4⟩:=h2;obtain rfl:=leaf_var hc a1 b1 a2 b2 (a3.trans b3.symm);exact⟨u,a4,b4⟩
theorem ZbP{t:List VN}(hc:Zad t=0){P Q:Nat}{y:VN}{l r:Nat}(hx:t[P]? =some y)(aI:Zaj y=false)(hl:y.left=l)(hr:y.right=r){φ:Asg→Bool}
  (e1:Ess (Bel t l) φ) (e2:Ess (Bel t r) φ) (hd:Dep (Bel t Q) φ):Und t Q P:=by
 obtain⟨v,v1,v2⟩:=e1.meets hd;obtain⟨w,w1,w2⟩:=e2.meets hd;obtain⟨a,a1,a2⟩:=Bel.one hc v1 v2;obtain⟨b,b1,b2⟩:=Bel.one hc w1 w2;have bJ:¬ Und t l Q:=fun h=>Und.apart hc hx aI hl hr (h.trans b2) b1
 have hq:Und t Q l:=by
  rcases Nat.lt_or_ge Q l with h|h
  ·exact absurd (a2.linear hc a1 (by omega)) bJ
  ·exact a1.linear hc a2 h
 obtain⟨l',r',c1,c2,c3,c4,c5,c6,c7⟩:=inner_ok hc hx aI;obtain rfl:l'=l:=by omega
 cases hq with
 | refl=>exact absurd .refl bJ
 | step _ h=>rw[c6]at h;exact h
theorem ZaC.sub_eq{t:List VN}(hc:Zad t=0){P:Nat}{y:VN}{l r:Nat}(hx:t[P]? =some y)(aI:Zaj y=false)(hl:y.left=l)(hr:y.right=r){n1 n2:List Zaf}{e1 e2:List (Nat × Nat)}
  (h1:ZaC t n1 l r e1) (h2:ZaC t n2 l r e2) (he:∀x,(e1.any fun q=>sem n1 q.1 x && sem n1 q.2 x)=e2.any fun q=>sem n2 q.1 x && sem n2 q.2 x)
  {p q:Nat × Nat}(hp:p∈e1) (hq:q∈e2) {x:Asg}(px:sem n1 p.1 x=true) (qx:sem n2 q.1 x=true):sem n1 p.2=sem n2 q.2:=by
 funext z
 have dO:∀v,Bel t l v→Bel t r v→False:=fun v a b=>Bel.apart hc hx aI hl hr a b
 have a1:=h1.at hp (x:=mix (Bel t l) x z) (by rw[(h1.pdep p hp).mixL];exact px);have a2:=h2.at hq (x:=mix (Bel t l) x z) (by rw[(h2.pdep q hq).mixL];exact qx);rw[(h1.sdep p hp).mixR dO]at a1;rw[(h2.sdep q hq).mixR dO]at a2;rw[←a1,←a2];exact he _
theorem Zcj{t:List VN}(hc:Zad t=0){P:Nat}{y:VN}{l r:Nat}(hx:t[P]? =some y)(aI:Zaj y=false)(hl:y.left=l)(hr:y.right=r){n1 n2:List Zaf}{e1 e2:List (Nat × Nat)}
  (h1:ZaC t n1 l r e1) (h2:ZaC t n2 l r e2) (he:∀x,(e1.any fun q=>sem n1 q.1 x && sem n1 q.2 x)=e2.any fun q=>sem n2 q.1 x && sem n2 q.2 x)
  (d1:∀p∈e1,∀q∈e1,sem n1 p.2=sem n1 q.2→p=q) (d2:∀p∈e2,∀q∈e2,sem n2 p.2=sem n2 q.2→p=q) :
  ∀p∈e1,∃q∈e2,sem n1 p.1=sem n2 q.1∧sem n1 p.2=sem n2 q.2:=by
 intro p hp;obtain⟨x,px⟩:=h1.pne p hp;obtain⟨q,hq,qx⟩:=h2.cover x;have hs:=ZaC.sub_eq hc hx aI hl hr h1 h2 he hp hq px qx;refine⟨q,hq,?_,hs⟩
 funext z
 rw[Bool.eq_iff_iff]
 constructor
 ·intro pz
  obtain⟨q',bZ,qz⟩:=h2.cover z;have pK:=ZaC.sub_eq hc hx aI hl hr h1 h2 he hp bZ pz qz;rw[d2 q hq q' bZ (hs.symm.trans pK)];exact qz
 ·intro qz
  obtain⟨p',cI,pz⟩:=h1.cover z;have pK:=ZaC.sub_eq hc hx aI hl hr h1 h2 he cI hq pz qz;rw[d1 p hp p' cI (hs.trans pK.symm)];exact pz
theorem ZaC.essL{t:List VN}(hc:Zad t=0){P:Nat}{y:VN}{l r:Nat}(hx:t[P]? =some y)(aI:Zaj y=false)(hl:y.left=l)(hr:y.right=r){ns:List Zaf}{el:List (Nat × Nat)}
  (h:ZaC t ns l r el) (hd:∀p∈el,∀q∈el,sem ns p.2=sem ns q.2→p=q):Ess (Bel t l) (fun x=>el.any fun q=>sem ns q.1 x && sem ns q.2 x):=by
 have dO:∀v,Bel t l v→Bel t r v→False:=fun v a b=>Bel.apart hc hx aI hl hr a b
 obtain⟨p,q,hp,hq,et⟩:∃p q,p∈el∧q∈el∧p≠q:=by
  have h2:=h.two;have hn:=h.nd
  match el,h2,hn with
  | a :: b :: k,_,hn =>
    rw[List.pairwise_cons]at hn;exact⟨a,b,Zpy ..,Zpn _ (Zpy ..),fun e=>hn.1 b (Zpy ..) (by rw[e])⟩
 have aH:sem ns p.2≠sem ns q.2:=fun e=>et (hd p hp q hq e)
 obtain⟨z,hz⟩:∃z,sem ns p.2 z≠sem ns q.2 z:=by
  apply ZpB
  intro hn;exact aH (funext fun z=>ZpB fun hz=>hn ⟨z,hz⟩)
 obtain⟨xp,px⟩:=h.pne p hp;obtain⟨xq,qx⟩:=h.pne q hq;refine⟨mix (Bel t l) xp z,mix (Bel t l) xq z,fun v hv=>by rw[Ze2 hv,Ze2 hv],?_⟩;have a1:=h.at hp (x:=mix (Bel t l) xp z) (by rw[(h.pdep p hp).mixL];exact px);have a2:=h.at hq (x:=mix (Bel t l) xq z) (by rw[(h.pdep q hq).mixL];exact qx);rw[(h.sdep p hp).mixR dO]at a1;rw[(h.sdep q hq).mixR dO]at a2
 show (el.any _)≠(el.any _)
 rw[a1,a2];exact hz
theorem ZaC.essR{t:List VN}(hc:Zad t=0){P:Nat}{y:VN}{l r:Nat}(hx:t[P]? =some y)(aI:Zaj y=false)(hl:y.left=l)(hr:y.right=r){ns:List Zaf}{el:List (Nat × Nat)}
  (h:ZaC t ns l r el) (hd:∃p∈el,∃z1 z2,sem ns p.2 z1≠sem ns p.2 z2):Ess (Bel t r) (fun x=>el.any fun q=>sem ns q.1 x && sem ns q.2 x):=by
 have dO:∀v,Bel t l v→Bel t r v→False:=fun v a b=>Bel.apart hc hx aI hl hr a b
 obtain⟨p,hp,z1,z2,hz⟩:=hd;obtain⟨x,px⟩:=h.pne p hp;refine⟨mix (Bel t r) z1 x,mix (Bel t r) z2 x,fun v hv=>by rw[Ze2 hv,Ze2 hv],?_⟩
 have iU:∀z,sem ns p.1 (mix (Bel t r) z x)=true:=fun z=>by
  rw[(h.pdep p hp).mixR (fun v a b=>dO v b a)];exact px
 have a1:=h.at hp (iU z1);have a2:=h.at hp (iU z2);rw[(h.sdep p hp).mixL]at a1 a2
 show (el.any _)≠(el.any _)
 rw[a1,a2];exact hz
theorem ZaC.dep{t:List VN}(hc:Zad t=0){P:Nat}{y:VN}{l r:Nat}(hx:t[P]? =some y)(aI:Zaj y=false)(hl:y.left=l)(hr:y.right=r){ns:List Zaf}{el:List (Nat × Nat)}
  (h:ZaC t ns l r el):Dep (Bel t P) (fun x=>el.any fun q=>sem ns q.1 x && sem ns q.2 x):=by
 intro x z ue;refine ZcA fun p hp=>?_
 rw[(h.pdep p hp) x z (fun v hv=>ue v ((Bel.kids hc hx aI hl hr v).2 (.inl hv))),(h.sdep p hp) x z (fun v hv=>ue v ((Bel.kids hc hx aI hl hr v).2 (.inr hv)))]
theorem const_not{φ:Asg→Bool}{v:Int}{b:Bool}(h:∀x,φ x=(x v ==b)):∃z1 z2,φ z1≠φ z2 :=
 ⟨fun _=>true,fun _=>false,by rw[h,h];cases b <;> simp⟩
theorem Ess.const_not{S:Int→Prop}{φ:Asg→Bool}(h:Ess S φ):∃z1 z2,φ z1≠φ z2:=by
 obtain⟨x,y,_,h2⟩:=h;exact⟨x,y,h2⟩
theorem Inv.kind{s:St}(h:Inv s){i:Nat}(hi:i<s.nodes.length):i=0∨i=1∨(2≤i∧∃n,s.nodes[i]? =some n∧(Zde s.tree n∨Zcr s.tree s.nodes i n)):=by
 rcases Nat.lt_or_ge i 2 with h2|h2
 ·omega
 ·exact .inr (.inr ⟨h2,_,Zpl hi,h.ok i _ h2 (Zpl hi)⟩)
theorem ZcC{s:St}(h:Inv s){k i:Nat}(ih:∀a b,a<k→b<k→a<s.nodes.length→b<s.nodes.length→sem s.nodes a=sem s.nodes b→a=b)(nO:i≤k){n:Zaf}(hn:s.nodes[i]? =some n)(hd:Zcr s.tree s.nodes i n) :
  ∃(P:Nat) (y:VN) (l r:Nat),n.pl=P∧s.tree[P]? =some y∧Zaj y=false∧y.left=l∧y.right=r∧ZaC s.tree s.nodes l r n.el ∧
    (∀p∈n.el,∀q∈n.el,sem s.nodes p.2=sem s.nodes q.2→p=q)∧Ess (Bel s.tree l) (sem s.nodes i)∧Ess (Bel s.tree r) (sem s.nodes i)∧Dep (Bel s.tree P) (sem s.nodes i):=by
 obtain⟨P,y,l,r,hP,hy,aI,hl,hr,hp⟩:=hd.parts;have hi:i<s.nodes.length:=(Zpj hn).1
 have gm:∀p∈n.el,∀q∈n.el,sem s.nodes p.2=sem s.nodes q.2→p=q:=fun p cI q hq e=>by
  have a1:=hd.kids p cI;have a2:=hd.kids q hq;have e2:=ih p.2 q.2 (by omega) (by omega) (by omega) (by omega) e
  apply ZpB
  intro aH
  have gU:∀(l:List (Nat × Nat)),(l.Pairwise fun p q=>p.2≠q.2)→p∈l→q∈l→False:=by
   intro l
   induction l with
   | nil=>intro _ hp;cases hp
   | cons a m ihl =>
     intro eH h1 h2;rw[List.pairwise_cons]at eH;rcases List.mem_cons.1 h1 with rfl|jw
     ·rcases List.mem_cons.1 h2 with rfl|jx
      ·exact aH rfl
      ·exact eH.1 q jx e2
     ·rcases List.mem_cons.1 h2 with rfl|jx
      ·exact eH.1 p jw e2.symm
      ·exact ihl eH.2 jw jx
  exact gU _ hp.nd cI hq
 have dq:sem s.nodes i=fun x=>n.el.any fun p=>sem s.nodes p.1 x && sem s.nodes p.2 x:=funext fun x=>h.semDec hn hd x
 have o4:∃p∈n.el,∃z1 z2,sem s.nodes p.2 z1≠sem s.nodes p.2 z2:=by
  obtain⟨p,cI,h2⟩:=hp.big;refine⟨p,cI,?_⟩;have a1:=hd.kids p cI;have ox:=h.len
  apply ZpB
  intro hn;have rp:∀z,sem s.nodes p.2 z=sem s.nodes p.2 (fun _=>true):=fun z=>ZpB fun hz=>hn ⟨z,_,hz⟩
  cases hv:sem s.nodes p.2 (fun _=>true)
  ·have:=ih p.2 0 (by omega) (by omega) (by omega) (by omega) (funext fun z=>by rw[rp z,hv,h.sem0])
   omega
  ·have:=ih p.2 1 (by omega) (by omega) (by omega) (by omega) (funext fun z=>by rw[rp z,hv,h.sem1])
   omega
 refine⟨P,y,l,r,hP,hy,aI,hl,hr,hp,gm,?_,?_,?_⟩
 ·rw[dq];exact ZaC.essL h.tree hy aI hl hr hp gm
 ·rw[dq];exact ZaC.essR h.tree hy aI hl hr hp o4
 ·rw[dq];exact ZaC.dep h.tree hy aI hl hr hp
theorem Zh0{ns:List Zaf}(a b:Nat × Nat)(h1:Za2 ns a b=true)(h2:Za2 ns b a=true):False:=by
 unfold Za2 at h1 h2;rw[Zcg h1]at h2;cases h2
theorem Zkm{s:St}(h:Inv s):∀k i j,i<k→j<k→i<s.nodes.length→j<s.nodes.length→sem s.nodes i=sem s.nodes j→i=j:=by
 intro k
 induction k with
 | zero=>intro i j hi;omega
 | succ k ih =>
   -- a decision node is no constant and no literal,and is found again
   have hdc:∀i n,i≤k→s.nodes[i]? =some n→Zcr s.tree s.nodes i n→∀(c:Bool),¬ ∀x,sem s.nodes i x=c:=fun i n hi hn hd c hc=>by
    obtain⟨_,_,_,_,_,_,_,_,_,_,_,e1,_,_⟩:=ZcC h ih hi hn hd;obtain⟨z1,z2,hz⟩:=e1.const_not;exact hz (by rw[hc,hc])
   have uN:∀i n,s.nodes[i]? =some n→Zde s.tree n→∀(c:Bool),¬ ∀x,sem s.nodes i x=c:=fun i n hn hl c hc=>by
    obtain⟨z1,z2,hz⟩:=const_not (fun x=>h.semLit hn hl x);exact hz (by rw[hc,hc])
   have hld:∀i j n m,j≤k→s.nodes[i]? =some n→s.nodes[j]? =some m→Zde s.tree n→Zcr s.tree s.nodes j m→sem s.nodes i=sem s.nodes j→False:=fun i j n m hj hn hm hl hd e=>by
    obtain⟨P,y,l,r,_,hy,aI,fp,iW,_,_,e1,e2,_⟩:=ZcC h ih hj hm hd;obtain⟨u,z,hu,hz,jV,kR⟩:=hl.leaf
    have ij:Dep (Bel s.tree u) (sem s.nodes j):=by
     rw[←e];intro x x' hx;rw[h.semLit hn hl,h.semLit hn hl,hx _ ((Bel.leaf h.tree hz jV _).2 kR.symm)]
    have:=(ZbP h.tree hy aI fp iW e1 e2 ij).leaf h.tree hz jV;rw[this,hz]at hy
    cases hy
    rw[jV]at aI;cases aI
   have dX:∀i j (n m:Zaf),2≤i→2≤j→s.nodes[i]? =some n→s.nodes[j]? =some m→Zce n=Zce m→i=j:=fun i j n m hi hj hn hm e=>by
    have a1:=h.uq2 i n hi hn;have a2:=h.uq2 j m hj hm;rw[e,a2]at a1;exact(Option.some.inj a1).symm
   intro i j hi hj fl gT e
   have fQ:∀a,a<s.nodes.length→a≤k→(∀x,sem s.nodes a x=false)→a=0:=fun a ha wL hs=>by
    rcases h.kind ha with rfl|rfl|⟨h2,n,hn,hl|hd⟩
    ·rfl
    ·have:=hs (fun _=>true);rw[h.sem1]at this;cases this
    ·exact(uN a n hn hl _ hs).elim
    ·exact(hdc a n wL hn hd _ hs).elim
   have eC:∀a,a<s.nodes.length→a≤k→(∀x,sem s.nodes a x=true)→a=1:=fun a ha wL hs=>by
    rcases h.kind ha with rfl|rfl|⟨h2,n,hn,hl|hd⟩
    ·have:=hs (fun _=>true);rw[h.sem0]at this;cases this
    ·rfl
    ·exact(uN a n hn hl _ hs).elim
    ·exact(hdc a n wL hn hd _ hs).elim
   rcases h.kind fl with rfl|rfl|⟨mU,n,hn,bt⟩
   ·exact(fQ j gT (by omega) (fun x=>by rw[←e];exact h.sem0 x)).symm
   ·exact(eC j gT (by omega) (fun x=>by rw[←e];exact h.sem1 x)).symm
   ·rcases h.kind gT with rfl|rfl|⟨cx,m,hm,pB⟩
    ·exact fQ i fl (by omega) (fun x=>by rw[e];exact h.sem0 x)
    ·exact eC i fl (by omega) (fun x=>by rw[e];exact h.sem1 x)
    ·rcases bt with hl|hd
     ·rcases pB with eR|e9
      ·-- two literals
       refine dX i j n m mU cx hn hm ?_
       have ks:∀x:Asg,(x (n.lit.natAbs:Int) ==decide (0<n.lit))=(x (m.lit.natAbs:Int) ==decide (0<m.lit)):=fun x=>by
        rw[←h.semLit hn hl,←h.semLit hm eR,e]
       have lK:decide (0<n.lit)=decide (0<m.lit):=by
        have:=ks (fun _=>true);simpa using this
       have hv:n.lit.natAbs=m.lit.natAbs:=by
        apply ZpB
        intro aH;have:=ks (fun v=>decide (v=(n.lit.natAbs:Int)));rw[lK]at this;have h2:¬ ((m.lit.natAbs:Int)=(n.lit.natAbs:Int)):=by omega
        simp only[decide_true,h2,decide_false]at this
        cases hb:decide (0<m.lit) <;> rw[hb]at this <;> simp at this
       have dU:n.lit=m.lit:=by
        have a1:=hl.lit;have a2:=eR.lit;have:(0<n.lit)↔(0<m.lit):=by simpa using lK
        omega
       obtain⟨u,z,hu,hz,jV,kR⟩:=hl.leaf;obtain⟨u',z',lw,ui,pk,po⟩:=eR.leaf;have:=leaf_var h.tree hz ui jV pk (by rw[kR,po,hv]);unfold Zce;rw[hu,lw,this,dU,hl.el,eR.el]
      ·exact(hld i j n m (by omega) hn hm hl e9 e).elim
     ·rcases pB with eR|e9
      ·exact(hld j i m n (by omega) hm hn eR hd e.symm).elim
      ·refine dX i j n m mU cx hn hm ?_
       obtain⟨P,y,l,r,hP,hy,aI,fp,iW,hp,gm,e1,e2,ij⟩:=ZcC h ih (by omega) hn hd;obtain⟨P',y',l',r',ve,ly,oy,ph,pi,cI,gp,iX,jv,jO⟩:=ZcC h ih (by omega) hm e9;have u1:=ZbP h.tree hy aI fp iW e1 e2 (by rw[e];exact jO);have u2:=ZbP h.tree ly oy ph pi iX jv (by rw[←e];exact ij);have oO:P=P':=by have:=u1.le h.tree;have:=u2.le h.tree;omega
       subst oO;rw[hy]at ly
       cases ly
       obtain rfl:l=l':=by omega
       obtain rfl:r=r':=by omega
       have ks:∀x,(n.el.any fun q=>sem s.nodes q.1 x && sem s.nodes q.2 x)=m.el.any fun q=>sem s.nodes q.1 x && sem s.nodes q.2 x:=fun x=>by
        rw[←h.semDec hn hd,←h.semDec hm e9,e]
       have m1:=Zcj h.tree hy aI fp iW hp cI ks gm gp;have m2:=Zcj h.tree hy aI fp iW cI hp (fun x=>(ks x).symm) gp gm
       have cG:n.el=m.el:=by
        refine Zhl Zh0 _ _ hd.sorted e9.sorted fun p=>⟨fun ep=>?_,fun ep=>?_⟩
        ·obtain⟨q,hq,g1,g2⟩:=m1 p ep
         have b1:=hd.kids p ep;have b2:=e9.kids q hq;have c1:=ih p.1 q.1 (by omega) (by omega) (by omega) (by omega) g1;have c2:=ih p.2 q.2 (by omega) (by omega) (by omega) (by omega) g2;rw[show p=q from Prod.ext c1 c2];exact hq
        ·obtain⟨q,hq,g1,g2⟩:=m2 p ep
         have b1:=e9.kids p ep;have b2:=hd.kids q hq;have c1:=ih p.1 q.1 (by omega) (by omega) (by omega) (by omega) g1;have c2:=ih p.2 q.2 (by omega) (by omega) (by omega) (by omega) g2;rw[show p=q from Prod.ext c1 c2];exact hq
       unfold Zce;rw[hP,ve,hd.lit,e9.lit,cG]
theorem Inv.canon{s:St}(h:Inv s){i j:Nat}(hi:i<s.nodes.length)(hj:j<s.nodes.length)(e:sem s.nodes i=sem s.nodes j):i=j :=
 Zkm h (i+j+1) i j (by omega) (by omega) hi hj e
end Go.Proofs.YtmnjakejhbpkoaaGreatDoor.L
namespace Go.Proofs.YtmnjakejhbpkoaaGreatDoor.L
def vlF:Nat→List VN→Nat→List Int
 | 0,_,_=>[]
 | f+1,t,v=>match t[v]? with
   | none=>[]
   | some y=>if Zaj y=true then [y.var] else vlF f t y.left.toNat++vlF f t y.right.toNat
def vl (t:List VN)(v:Nat):List Int:=vlF (v+1) t v
def nv (t:List VN)(v:Nat):Nat:=(vl t v).length
theorem Zi6{t:List VN}(hc:Zad t=0):∀(v f g:Nat),v<f→v<g→vlF f t v=vlF g t v:=by
 intro v
 induction v using Nat.strongRecOn with
 | ind v ih =>
   intro f g hf hg;obtain⟨f,rfl⟩:∃f',f=f'+1:=⟨f - 1,by omega⟩;obtain⟨g,rfl⟩:∃g',g=g'+1:=⟨g - 1,by omega⟩;rw[vlF,vlF]
   cases hy:t[v]? with
   | none=>rfl
   | some y =>
     simp only
     split
     ·rfl
     ·rename_i hl
      obtain⟨l,r,e1,e2,h1,h2,_⟩:=inner_ok hc hy (by simpa using hl);have a1:y.left.toNat=l:=by omega
      have a2:y.right.toNat=r:=by omega
      rw[a1,a2,ih l h1 f g (by omega) (by omega),ih r h2 f g (by omega) (by omega)]
theorem ZdY{t:List VN}{v:Nat}{y:VN}(hy:t[v]? =some y)(hl:Zaj y=true):vl t v=[y.var]:=by
 rw[vl,vlF,hy];simp[hl]
theorem ZcY{t:List VN}(hc:Zad t=0){v:Nat}{y:VN}{l r:Nat}(hy:t[v]? =some y)(aI:Zaj y=false)(hl:y.left=l)(hr:y.right=r):vl t v=vl t l++vl t r:=by
 obtain⟨l',r',e1,e2,h1,h2,_⟩:=inner_ok hc hy aI;obtain rfl:l'=l:=by omega
 obtain rfl:r'=r:=by omega
 have a1:y.left.toNat=l':=by omega
 have a2:y.right.toNat=r':=by omega
 rw[vl,vlF,hy];simp only[aI,Bool.false_eq_true,if_false,a1,a2];rw[Zi6 hc l' v (l'+1) h1 (by omega),Zi6 hc r' v (r'+1) h2 (by omega)]
 rfl
theorem Zb4{t:List VN}(hc:Zad t=0):∀(v:Nat),v<t.length→∀x,x∈vl t v↔Bel t v x:=by
 intro v
 induction v using Nat.strongRecOn with
 | ind v ih =>
   intro hv x;have hy:t[v]? =some t[v]:=Zpl hv
   cases hl:Zaj t[v]
   ·obtain⟨l,r,e1,e2,h1,h2,_⟩:=inner_ok hc hy hl
    rw[ZcY hc hy hl e1 e2,List.mem_append,ih l h1 (by omega),ih r h2 (by omega),Bel.kids hc hy hl e1 e2]
   ·rw[ZdY hy hl,Bel.leaf hc hy hl,List.mem_singleton]
theorem nv_pos{t:List VN}(hc:Zad t=0):∀(v:Nat),v<t.length→1≤nv t v:=by
 intro v
 induction v using Nat.strongRecOn with
 | ind v ih =>
   intro hv;have hy:t[v]? =some t[v]:=Zpl hv
   cases hl:Zaj t[v]
   ·obtain⟨l,r,e1,e2,h1,h2,_⟩:=inner_ok hc hy hl
    have:=ih l h1 (by omega);unfold nv at *;rw[ZcY hc hy hl e1 e2,Zpo];omega
   ·unfold nv;rw[ZdY hy hl];simp
theorem nv_inner{t:List VN}(hc:Zad t=0){v:Nat}{y:VN}{l r:Nat}(hy:t[v]? =some y)(aI:Zaj y=false)(hl:y.left=l)(hr:y.right=r):nv t v=nv t l+nv t r:=by
 unfold nv;rw[ZcY hc hy aI hl hr,Zpo]
theorem ZcH{α:Type}[DecidableEq α]:∀(l m:List α),l.Nodup→(∀x∈l,x∈m)→l.length≤m.length
 | [],_,_,_=>Nat.zero_le _
 | a :: r,m,hn,hs=>by
   rw[List.nodup_cons]at hn;have ha:a∈m:=hs a (Zpy ..)
   have:=ZcH r (m.erase a) hn.2 (fun x hx=>by
    have aH:x≠a:=fun e=>hn.1 (e ▸ hx)
    exact(List.mem_erase_of_ne aH).2 (hs x (Zpn _ hx)))
   rw[List.length_erase_of_mem ha]at this;have:0<m.length:=List.length_pos_of_mem ha;simp only[ZpC];omega
theorem Zeu(l:List Nat)(n:Nat)(hn:l.Nodup)(h:∀x∈l,x<n):l.length≤n:=by
 have:=ZcH l (List.range n) hn (fun x hx=>List.mem_range.2 (h x hx));simpa using this
theorem Zdq{α β:Type}{f:α→β}:∀(l:List α),l.Nodup→(∀x∈l,∀y∈l,f x=f y→x=y)→(l.map f).Nodup
 | [],_,_=>List.nodup_nil
 | a :: r,hn,hi=>by
   rw[List.nodup_cons]at hn;rw[List.map_cons,List.nodup_cons];refine⟨fun hm=>?_,Zdq r hn.2 (fun x hx y hy=>hi x (Zpn _ hx) y (Zpn _ hy))⟩;obtain⟨x,hx,e⟩:=List.mem_map.1 hm;exact hn.1 (hi x (Zpn _ hx) a (Zpy ..) e ▸ hx)
def ulF:Nat→List VN→Nat→List Nat
 | 0,_,_=>[]
 | f+1,t,v=>match t[v]? with
   | none=>[]
   | some y=>if Zaj y=true then [v] else v :: (ulF f t y.left.toNat++ulF f t y.right.toNat)
theorem ZmI{t:List VN}(hc:Zad t=0):∀(v f:Nat),v<f→v<t.length→(ulF f t v).Nodup∧(∀u∈ulF f t v,Und t v u)∧(ulF f t v).length+1=2*nv t v:=by
 intro v
 induction v using Nat.strongRecOn with
 | ind v ih =>
   intro f hf hv;obtain⟨f,rfl⟩:∃f',f=f'+1:=⟨f - 1,by omega⟩;have hy:t[v]? =some t[v]:=Zpl hv;rw[ulF,hy]
   cases hl:Zaj t[v]
   ·obtain⟨l,r,e1,e2,h1,h2,_⟩:=inner_ok hc hy hl
    have a1:(t[v]).left.toNat=l:=by omega
    have a2:(t[v]).right.toNat=r:=by omega
    obtain⟨i1,i2,i3⟩:=ih l h1 f (by omega) (by omega);obtain⟨j1,j2,j3⟩:=ih r h2 f (by omega) (by omega);obtain⟨k1,k2⟩:=Und.kid hc hy hl e1 e2;simp only[hl,Bool.false_eq_true,if_false,a1,a2];refine⟨?_,fun u hu=>?_,?_⟩
    ·rw[List.nodup_cons,List.nodup_append]
     refine⟨fun hm=>?_,i1,j1,fun a ha b hb e=>?_⟩
     ·rcases List.mem_append.1 hm with hm|hm
      ·have:=(i2 v hm).le hc;omega
      ·have:=(j2 v hm).le hc;omega
     ·subst e;exact Und.apart hc hy hl e1 e2 (i2 a ha) (j2 a hb)
    ·rcases List.mem_cons.1 hu with rfl|hu
     ·exact .refl
     ·rcases List.mem_append.1 hu with hu|hu
      ·exact k1.trans (i2 u hu)
      ·exact k2.trans (j2 u hu)
    ·rw[nv_inner hc hy hl e1 e2,ZpC,Zpo];omega
   ·simp only[hl,if_true]
    refine⟨by simp,fun u hu=>?_,?_⟩
    ·rw[List.mem_singleton]at hu;subst hu;exact .refl
    ·unfold nv;rw[ZdY hy hl];rfl
theorem nv_le{t:List VN}(hc:Zad t=0){v:Nat}(hv:v<t.length):2*nv t v≤t.length+1:=by
 obtain⟨h1,h2,h3⟩:=ZmI hc v (v+1) (by omega) hv;have:=Zeu _ t.length h1 (fun u hu=>(h2 u hu).lt hv);omega
def ZlG:List Int→List (List Int)
 | []=>[[]]
 | a :: r=>ZlG r++(ZlG r).map (a :: ·)
theorem Zgx:∀l,(ZlG l).length=2 ^ l.length
 | []=>rfl
 | a :: r=>by rw[ZlG,Zpo,List.length_map,Zgx r,ZpC,Nat.pow_succ];omega
theorem Zcd(p:Int→Bool):∀l:List Int,l.filter p∈ZlG l
 | []=>by simp[ZlG]
 | a :: r=>by
   rw[List.filter_cons,ZlG,List.mem_append]
   split
   ·exact .inr (List.mem_map.2 ⟨_,Zcd p r,rfl⟩)
   ·exact .inl (Zcd p r)
def ZoF (m:List Int):Asg:=fun v=>decide (v∈m)
theorem Zf8{l:List Int}{φ:Asg→Bool}(h:Dep (·∈l) φ)(x:Asg):φ x=φ (ZoF (l.filter x)) :=
 h _ _ fun v hv=>by
   show x v=decide (v∈l.filter x)
   rw[Bool.eq_iff_iff,decide_eq_true_iff,List.mem_filter];exact⟨fun hx=>⟨hv,hx⟩,fun hx=>hx.2⟩
def tab (l:List Int)(φ:Asg→Bool):List Bool:=(ZlG l).map fun m=>φ (ZoF m)
theorem ZdX(l:List Int)(φ:Asg→Bool):(tab l φ).length=2 ^ l.length:=by rw[tab,List.length_map,Zgx]
theorem ZlI{l:List Int}{φ ψ:Asg→Bool}(h1:Dep (·∈l) φ)(h2:Dep (·∈l) ψ)(e:tab l φ=tab l ψ):φ=ψ:=by
 funext x
 rw[Zf8 h1,Zf8 h2];exact List.map_inj_left.1 e _ (Zcd x l)
def Zc4:List Bool→Nat
 | []=>0
 | b :: r=>b.toNat+2*Zc4 r
theorem Zf5:∀l,Zc4 l<2 ^ l.length
 | []=>by simp[Zc4]
 | b :: r=>by
   have:=Zf5 r;rw[Zc4,ZpC,Nat.pow_succ]
   cases b <;> simp <;> omega
theorem ZeG:∀l m:List Bool,l.length=m.length→Zc4 l=Zc4 m→l=m
 | [],[],_,_=>rfl
 | [],b :: r,h,_=>by cases h
 | b :: r,[],h,_=>by cases h
 | b :: r,c :: k,h,e=>by
   simp only[Zc4]at e;have hb:b.toNat=c.toNat:=by cases b <;> cases c <;> simp at e ⊢ <;> omega
   have:Zc4 r=Zc4 k:=by omega
   rw[ZeG r k (by simpa using h) this]
   cases b <;> cases c <;> simp at hb ⊢
theorem Inv.place{s:St}(h:Inv s){i:Nat}{n:Zaf}(hi:2≤i)(hn:s.nodes[i]? =some n):∃P:Nat,n.pl=P∧P<s.tree.length∧Dep (Bel s.tree P) (sem s.nodes i):=by
 rcases h.ok i n hi hn with hl|hd
 ·obtain⟨u,y,h1,h2,h3,h4⟩:=hl.leaf
  refine⟨u,h1,(Zpj h2).1,fun x x' hx=>?_⟩;rw[h.semLit hn hl,h.semLit hn hl,hx _ ((Bel.leaf h.tree h2 h3 _).2 h4.symm)]
 ·obtain⟨P,y,l,r,h1,h2,h3,h4,h5,h6⟩:=hd.parts
  refine⟨P,h1,(Zpj h2).1,?_⟩;rw[show sem s.nodes i=fun x=>n.el.any fun p=>sem s.nodes p.1 x && sem s.nodes p.2 x from funext fun x=>h.semDec hn hd x];exact ZaC.dep h.tree h2 h3 h4 h5 h6
def Zl4 (t:List VN)(n:Zaf):Bool:=decide (0≤n.pl) && decide (5≤nv t n.pl.toNat)
def bigAt(s:St)(i:Nat):Bool:=match s.nodes[i]? with
 | none=>false
 | some n=>Zl4 s.tree n
def big (s:St):Nat:=((List.range s.nodes.length).filter (bigAt s)).length
theorem Zd1{α:Type}(p:α→Bool):∀l:List α,(l.filter p).length+(l.filter fun x=>!p x).length=l.length
 | []=>rfl
 | a :: r=>by
   have:=Zd1 p r;rw[List.filter_cons,List.filter_cons]
   cases p a <;> simp <;> omega
theorem Zmv{s:St}(h:Inv s)(ht:s.tree.length≤11):s.nodes.length≤2+11*65536+big s:=by
 have hp:=Zd1 (bigAt s) (List.range s.nodes.length);rw[List.length_range]at hp
 let code:Nat→Nat:=fun i=>if i<2 then i else match s.nodes[i]? with
  | none=>0
  | some n=>2+n.pl.toNat*65536+Zc4 (tab (vl s.tree n.pl.toNat) (sem s.nodes i))
 have jN:∀i,2≤i→i<s.nodes.length→bigAt s i=false→∃(n:Zaf) (P:Nat),s.nodes[i]? =some n∧n.pl=P∧P<s.tree.length∧Dep (·∈vl s.tree P) (sem s.nodes i) ∧
   code i=2+P*65536+Zc4 (tab (vl s.tree P) (sem s.nodes i))∧Zc4 (tab (vl s.tree P) (sem s.nodes i))<65536:=fun i hi fl hb=>by
  have hn:s.nodes[i]? =some s.nodes[i]:=Zpl fl;obtain⟨P,h1,h2,h3⟩:=h.place hi hn;have h4:(s.nodes[i]).pl.toNat=P:=by omega
  refine⟨_,P,hn,h1,h2,h3.mono fun v hv=>(Zb4 h.tree P h2 v).2 hv,?_,?_⟩
  ·show (if i<2 then i else _)=_
   rw[if_neg (by omega),hn];simp only[h4]
  ·have iT:nv s.tree P≤4:=by
    rw[bigAt,hn]at hb;simp only[Zl4,h4,Bool.and_eq_false_iff,decide_eq_false_iff_not]at hb;rcases hb with hb|hb
    ·omega
    ·omega
   have h5:=Zf5 (tab (vl s.tree P) (sem s.nodes i));rw[ZdX]at h5;have h6:2 ^ (vl s.tree P).length≤2 ^ 4:=Nat.pow_le_pow_right (by omega) iT;have h7:2 ^ (2 ^ (vl s.tree P).length)≤2 ^ (2 ^ 4):=Nat.pow_le_pow_right (by omega) h6;have h8:2 ^ (2 ^ 4)=65536:=by decide
   omega
 have gG:((List.range s.nodes.length).filter fun x=>!bigAt s x).length≤2+11*65536:=by
  rw[←List.length_map (f:=code)];refine Zeu _ _ (Zdq _ (List.Pairwise.filter _ List.nodup_range) fun i hi j hj e=>?_) fun c hc=>?_
  ·rw[List.mem_filter,List.mem_range]at hi hj
   have bi:bigAt s i=false:=by simpa using hi.2
   have bj:bigAt s j=false:=by simpa using hj.2
   rcases Nat.lt_or_ge i 2 with h1|h1
   ·rcases Nat.lt_or_ge j 2 with h2|h2
    ·simpa [code,h1,h2] using e
    ·obtain⟨_,P,_,_,_,_,e2,_⟩:=jN j h2 hj.1 bj
     have e1:code i=i:=if_pos h1;omega
   ·obtain⟨n,P,_,_,_,d1,e1,c1⟩:=jN i h1 hi.1 bi
    rcases Nat.lt_or_ge j 2 with h2|h2
    ·have e2:code j=j:=if_pos h2
     omega
    ·obtain⟨m,Q,_,_,_,d2,e2,c2⟩:=jN j h2 hj.1 bj
     have hPQ:P=Q:=by omega
     subst hPQ;have:=ZeG _ _ (by rw[ZdX,ZdX]) (show Zc4 (tab (vl s.tree P) (sem s.nodes i))=Zc4 (tab (vl s.tree P) (sem s.nodes j)) by omega);exact h.canon hi.1 hj.1 (ZlI d1 d2 this)
  ·obtain⟨i,hi,rfl⟩:=List.mem_map.1 hc
   rw[List.mem_filter,List.mem_range]at hi;rcases Nat.lt_or_ge i 2 with h1|h1
   ·have e1:code i=i:=if_pos h1
    omega
   ·obtain⟨n,P,_,_,hP,_,e1,c1⟩:=jN i h1 hi.1 (by simpa using hi.2)
    omega
 unfold big;omega
theorem ZaC.nodup{t:List VN}{ns:List Zaf}{l r:Nat}{el:List (Nat × Nat)}(h:ZaC t ns l r el):el.Nodup :=
 List.Pairwise.imp (fun bA e=>bA (by rw[e])) h.nd
theorem ZaC.len_l{t:List VN}(hc:Zad t=0){ns:List Zaf}{l r:Nat}{el:List (Nat × Nat)}(hl:l<t.length)(h:ZaC t ns l r el):el.length≤2 ^ nv t l:=by
 have hex:∀p,∃m,p∈el→m∈ZlG (vl t l)∧sem ns p.1 (ZoF m)=true:=fun p=>by
  by_cases hp:p∈el
  ·obtain⟨x,hx⟩:=h.pne p hp
   have hd:Dep (·∈vl t l) (sem ns p.1):=(h.pdep p hp).mono fun v hv=>(Zb4 hc l hl v).2 hv
   exact⟨_,fun _=>⟨Zcd x (vl t l),by rw[←Zf8 hd];exact hx⟩⟩
  ·exact⟨[],fun cI=>absurd cI hp⟩
 let f:Nat × Nat→List Int:=fun p=>Classical.choose (hex p)
 have hf:∀p∈el,f p∈ZlG (vl t l)∧sem ns p.1 (ZoF (f p))=true:=fun p hp=>Classical.choose_spec (hex p) hp
 have hn:(el.map f).Nodup:=Zdq el h.nodup fun p hp q hq e=>by
  have a1:=(hf p hp).2;have a2:=(hf q hq).2;rw[e]at a1
  apply ZpB
  intro aH
  have hd:∀(k:List (Nat × Nat)),(k.Pairwise fun p q=>∀x,¬ (sem ns p.1 x=true∧sem ns q.1 x=true))→p∈k→q∈k→False:=by
   intro k
   induction k with
   | nil=>intro _ hp;cases hp
   | cons a m ihl =>
     intro eH h1 h2;rw[List.pairwise_cons]at eH;rcases List.mem_cons.1 h1 with rfl|jw
     ·rcases List.mem_cons.1 h2 with rfl|jx
      ·exact aH rfl
      ·exact eH.1 q jx _ ⟨a1,a2⟩
     ·rcases List.mem_cons.1 h2 with rfl|jx
      ·exact eH.1 p jw _ ⟨a2,a1⟩
      ·exact ihl eH.2 jw jx
  exact hd el h.disj hp hq
 have:=ZcH (el.map f) (ZlG (vl t l)) hn (fun m hm=>by
  obtain⟨p,hp,rfl⟩:=List.mem_map.1 hm;exact(hf p hp).1)
 rwa [List.length_map,Zgx]at this
theorem ZaC.len_r{t:List VN}(hc:Zad t=0){ns:List Zaf}{l r:Nat}{el:List (Nat × Nat)}(hr:r<t.length)(h:ZaC t ns l r el)(hd:∀p∈el,∀q∈el,sem ns p.2=sem ns q.2→p=q):el.length≤2 ^ (2 ^ nv t r):=by
 have hn:(el.map fun p=>Zc4 (tab (vl t r) (sem ns p.2))).Nodup:=Zdq el h.nodup fun p hp q hq e=>by
  have d1:Dep (·∈vl t r) (sem ns p.2):=(h.sdep p hp).mono fun v hv=>(Zb4 hc r hr v).2 hv
  have d2:Dep (·∈vl t r) (sem ns q.2):=(h.sdep q hq).mono fun v hv=>(Zb4 hc r hr v).2 hv
  exact hd p hp q hq (ZlI d1 d2 (ZeG _ _ (by rw[ZdX,ZdX]) e))
 have:=Zeu _ (2 ^ (2 ^ nv t r)) hn (fun c ff=>by
  obtain⟨p,_,rfl⟩:=List.mem_map.1 ff;have:=Zf5 (tab (vl t r) (sem ns p.2))
  rwa [ZdX]at this)
 rwa [List.length_map]at this
end Go.Proofs.YtmnjakejhbpkoaaGreatDoor.L
namespace Go.Proofs.YtmnjakejhbpkoaaGreatDoor.L
theorem Zdi(s:Zak)(v:Int)(i:Nat)(hi:i<128):(ZaA s v).getLsbD i=(s.getLsbD i || decide (v=(i:Int)+1)):=by
 unfold ZaA
 split
 ·rw[BitVec.getLsbD_or,BitVec.getLsbD_twoPow]
  congr 1
  rw[Bool.eq_iff_iff];simp;omega
 ·have:¬ v=(i:Int)+1:=by omega
  simp[this]
theorem ZgJ(l:List Int)(i:Nat)(hi:i<128):∀s:Zak,(l.foldl ZaA s).getLsbD i=(s.getLsbD i || l.any fun x=>decide (x=(i:Int)+1)):=by
 induction l with
 | nil=>intro s;simp
 | cons x r ih =>
   intro s;rw[List.foldl_cons,ih,Zdi _ _ _ hi,List.any_cons,Bool.or_assoc]
theorem hasS_bit(m:Zak)(i:Nat)(hi:i<128):Zau m ((i:Int)+1)=m.getLsbD i:=by
 have e1:decide ((1:Int)≤(i:Int)+1)=true:=Zpv (by omega);have e2:decide ((i:Int)+1≤128)=true:=Zpv (by omega);have e3:((i:Int)+1 - 1).toNat=i:=by omega
 rw[Zau,e1,e2,e3];rfl
theorem hasS_range{m:Zak}{v:Int}(h:Zau m v=true):1≤v∧v≤128:=by
 simp only[Zau,Zpx,ZpA]at h;exact h.1
theorem Zge{m:Zak}{v:Int}(h:¬ (1≤v∧v≤128)):Zau m v=false:=by
 cases hh:Zau m v
 ·rfl
 ·exact absurd (hasS_range hh) h
noncomputable def ZjH (S:Int→Prop):Zak:=open Classical in ofS (((List.range 128).map fun i:Nat=>(i:Int)+1).filter fun v=>decide (S v))
theorem Zeo(S:Int→Prop)(i:Nat)(hi:i<128):(ZjH S).getLsbD i=true↔S ((i:Int)+1):=by
 classical
 unfold ZjH ofS;rw[ZgJ _ _ hi];have h0:(0:Zak).getLsbD i=false:=BitVec.getLsbD_zero;rw[h0,Bool.false_or,List.any_eq_true]
 constructor
 ·rintro⟨x,hx,tT⟩
  rw[List.mem_filter]at hx;have e:x=(i:Int)+1:=of_decide_eq_true tT;have:=of_decide_eq_true hx.2;rw[e]at this;exact this
 ·intro h
  exact⟨_,List.mem_filter.2 ⟨List.mem_map.2 ⟨i,List.mem_range.2 hi,rfl⟩,Zpv h⟩,Zpv rfl⟩
noncomputable def onS (S:Int→Prop) (m:Zak):Zak:=m &&& ZjH S
theorem Zou{S:Int→Prop}{m:Zak}{v:Int}(h:S v):Zau (onS S m) v=Zau m v:=by
 by_cases hv:1≤v∧v≤128
 ·obtain⟨i,hi,rfl⟩:∃i:Nat,i<128∧v=(i:Int)+1:=⟨(v - 1).toNat,by omega,by omega⟩
  rw[hasS_bit _ _ hi,hasS_bit _ _ hi,onS,BitVec.getLsbD_and,(Zeo S i hi).2 h,Bool.and_true]
 ·rw[Zge hv,Zge hv]
theorem ZnJ{S:Int→Prop}{m:Zak}{v:Int}(h:¬ S v):Zau (onS S m) v=false:=by
 by_cases hv:1≤v∧v≤128
 ·obtain⟨i,hi,rfl⟩:∃i:Nat,i<128∧v=(i:Int)+1:=⟨(v - 1).toNat,by omega,by omega⟩
  rw[hasS_bit _ _ hi,onS,BitVec.getLsbD_and]
  cases hb:(ZjH S).getLsbD i
  ·simp
  ·exact absurd ((Zeo S i hi).1 hb) h
 ·exact Zge hv
theorem sub_le{a m:Zak}(h:∀i,i<128→a.getLsbD i=true→m.getLsbD i=true):leS a m:=by
 refine ZdP ?_
 cases hl:ZaM m a
 ·rfl
 ·obtain⟨k,hk,h1,h2,_⟩:=(ZaJ _ _).1 hl
  rw[h k hk h2]at h1;cases h1
theorem set_ext{a b:Zak}(h:∀i,i<128→a.getLsbD i=b.getLsbD i):a=b:=BitVec.eq_of_getLsbD_eq fun i hi=>h i hi
theorem ZhQ{S:Int→Prop}{φ:Asg→Bool}(h:Dep S φ)(m:Zak):φ (asg (onS S m))=φ (asg m):=h _ _ fun _ hv=>Zou hv
theorem Min.le_in{ns:List Zaf}{i:Nat}(h:Min ns i){S:Int→Prop}(hd:Dep S (sem ns i)){v:Int}(hv:Zau (ZaK ns i) v=true):S v:=by
 have h1:leS (ZaK ns i) (onS S (ZaK ns i)):=h.le _ (by rw[ZhQ hd];exact h.sat)
 have h2:leS (onS S (ZaK ns i)) (ZaK ns i):=sub_le fun k hk hb=>by
  rw[onS,BitVec.getLsbD_and,Zpx]at hb;exact hb.1
 have e:=h1.antisymm h2;rw[e]at hv
 apply ZpB
 intro hn;rw[ZnJ hn]at hv;cases hv
theorem ZkP(a b:Zak)(v:Int):Zau (a ||| b) v=(Zau a v || Zau b v):=by
 simp only[Zau,BitVec.getLsbD_or]
 cases decide (1≤v) <;> cases decide (v≤128) <;> simp
theorem ZmJ{S T:Int→Prop}(dO:∀v,S v→T v→False){a b m:Zak}(ha:leS a (onS S m))(hb:leS b (onS T m))(ia:∀v,Zau a v=true→S v)(ib:∀v,Zau b v=true→T v):leS (a ||| b) m:=by
 refine ZdP ?_
 cases hl:ZaM m (a ||| b)
 ·rfl
 obtain⟨k,hk,h1,h2,h3⟩:=(ZaJ _ _).1 hl
 exfalso
 -- one side,where the difference lies
 have side:∀(S T:Int→Prop) (a b:Zak),(∀v,S v→T v→False)→leS a (onS S m)→(∀v,Zau a v=true→S v)→(∀v,Zau b v=true→T v)→a.getLsbD k=true→(∀j,j<k→m.getLsbD j=(a ||| b).getLsbD j)→False:=by
  intro S T a b dO ha ia ib hka h3;have hS:∀j,j<128→a.getLsbD j=true→S ((j:Int)+1):=fun j hj h=>ia _ (by rw[hasS_bit _ _ hj];exact h)
  have hT:∀j,j<128→b.getLsbD j=true→T ((j:Int)+1):=fun j hj h=>ib _ (by rw[hasS_bit _ _ hj];exact h)
  have cY:ZaM (onS S m) a=true:=by
   refine(ZaJ _ _).2 ⟨k,hk,by rw[onS,BitVec.getLsbD_and,h1];rfl,hka,fun j hj=>?_⟩;have mV:j<128:=by omega
   have e:=h3 j hj;rw[BitVec.getLsbD_or]at e;rw[onS,BitVec.getLsbD_and,e]
   by_cases hs:S ((j:Int)+1)
   ·rw[(Zeo S j mV).2 hs,Bool.and_true]
    cases hb:b.getLsbD j
    ·simp
    ·exact(dO _ hs (hT j mV hb)).elim
   ·have h4:(ZjH S).getLsbD j=false:=by
     cases hb:(ZjH S).getLsbD j
     ·rfl
     ·exact absurd ((Zeo S j mV).1 hb) hs
    rw[h4,Bool.and_false]
    cases hb:a.getLsbD j
    ·rfl
    ·exact absurd (hS j mV hb) hs
  rcases ha with e|aE
  ·rw[←e,Zbw]at cY;cases cY
  ·rw[Zcg aE]at cY;cases cY
 rw[BitVec.getLsbD_or,Bool.or_eq_true]at h2;rcases h2 with h2|h2
 ·exact side S T a b dO ha ia ib h2 h3
 ·exact side T S b a (fun v h4 h5=>dO v h5 h4) hb ib ia h2 (fun j hj=>by rw[h3 j hj,BitVec.getLsbD_or,BitVec.getLsbD_or,Bool.or_comm])
theorem ZhY(ns:List Zaf)(el:List (Nat × Nat))(h:∃p∈el,p.2≠0) :
  (∃p∈el,p.2≠0∧(ZaZ ns el).2=(ZaK ns p.1 ||| ZaK ns p.2))∧∀p∈el,p.2≠0→leS (ZaZ ns el).2 (ZaK ns p.1 ||| ZaK ns p.2):=by
 have gen:∀(l:List (Nat × Nat)) (a:Bool × Zak),
   (((l.foldl (Zay ns) a).1=true→a.1=true∧∀p∈l,p.2=0) ∧
   ((l.foldl (Zay ns) a).1=false→((a.1=false∧(l.foldl (Zay ns) a).2=a.2)∨∃p∈l,p.2≠0∧(l.foldl (Zay ns) a).2=(ZaK ns p.1 ||| ZaK ns p.2)) ∧
     (a.1=false→leS (l.foldl (Zay ns) a).2 a.2)∧∀p∈l,p.2≠0→leS (l.foldl (Zay ns) a).2 (ZaK ns p.1 ||| ZaK ns p.2))):=by
  intro l
  induction l with
  | nil =>
    intro a;simp only[List.foldl_nil];exact⟨fun h=>⟨h,fun p hp=>by cases hp⟩,fun h=>⟨.inl ⟨h,trivial⟩,fun _=>.inl rfl,fun p hp=>by cases hp⟩⟩
  | cons q r ih =>
    intro a;rw[List.foldl_cons];obtain⟨g1,g2⟩:=ih (Zay ns a q)
    by_cases hq:q.2=0
    ·have e:Zay ns a q=a:=by simp[Zay,hq]
     rw[e]at g1 g2 ⊢;refine⟨fun h=>?_,fun h=>?_⟩
     ·obtain⟨c1,c2⟩:=g1 h
      refine⟨c1,fun p hp=>?_⟩;rcases List.mem_cons.1 hp with rfl|hp
      ·exact hq
      ·exact c2 p hp
     ·obtain⟨c1,c2,c3⟩:=g2 h
      refine⟨c1.imp id fun ⟨p,hp,hh⟩=>⟨p,Zpn _ hp,hh⟩,c2,fun p hp aH=>?_⟩;rcases List.mem_cons.1 hp with rfl|hp
      ·exact absurd hq aH
      ·exact c3 p hp aH
    ·have e:Zay ns a q=if (a.1 || ZaM (ZaK ns q.1 ||| ZaK ns q.2) a.2)=true then (false,ZaK ns q.1 ||| ZaK ns q.2) else a:=by simp[Zay,hq]
     by_cases hc:(a.1 || ZaM (ZaK ns q.1 ||| ZaK ns q.2) a.2)=true
     ·rw[if_pos hc]at e
      rw[e]at g1 g2 ⊢;refine⟨fun h=>?_,fun h=>?_⟩
      ·have:=(g1 h).1;cases this
      ·obtain⟨c1,c2,c3⟩:=g2 h
       refine⟨.inr ?_,fun ha=>?_,fun p hp aH=>?_⟩
       ·rcases c1 with ⟨_,c1⟩|⟨p,hp,hh⟩
        ·exact⟨q,Zpy ..,hq,c1⟩
        ·exact⟨p,Zpn _ hp,hh⟩
       ·rw[ha,Bool.false_or]at hc
        exact(c2 rfl).trans (.inr hc)
       ·rcases List.mem_cons.1 hp with rfl|hp
        ·exact c2 rfl
        ·exact c3 p hp aH
     ·rw[if_neg hc]at e
      have ff:a.1=false∧ZaM (ZaK ns q.1 ||| ZaK ns q.2) a.2=false:=by simpa using hc
      rw[e]at g1 g2 ⊢;refine⟨fun h=>?_,fun h=>?_⟩
      ·have:=(g1 h).1;rw[ff.1]at this;cases this
      ·obtain⟨c1,c2,c3⟩:=g2 h
       refine⟨c1.imp id fun ⟨p,hp,hh⟩=>⟨p,Zpn _ hp,hh⟩,c2,fun p hp aH=>?_⟩;rcases List.mem_cons.1 hp with rfl|hp
       ·exact(c2 ff.1).trans (ZdP ff.2)
       ·exact c3 p hp aH
 obtain⟨g1,g2⟩:=gen el (true,0)
 have hf:(el.foldl (Zay ns) (true,0)).1=false:=by
  cases hb:(el.foldl (Zay ns) (true,0)).1
  ·rfl
  ·obtain⟨p,hp,aH⟩:=h
   exact absurd ((g1 hb).2 p hp) aH
 obtain⟨c1,_,c3⟩:=g2 hf;exact⟨c1.elim (fun ⟨h1,_⟩=>by cases h1) id,c3⟩
theorem ZaC.least{t:List VN}(hc:Zad t=0){P:Nat}{y:VN}{l r:Nat}(hx:t[P]? =some y)(aI:Zaj y=false)(hl:y.left=l)(hr:y.right=r){ns:List Zaf}{el:List (Nat × Nat)}
  (h:ZaC t ns l r el) (h0:∀x,sem ns 0 x=false) (hm:∀p∈el,Min ns p.1∧(p.2≠0→Min ns p.2)) :
  (el.any fun q=>sem ns q.1 (asg (ZaZ ns el).2) && sem ns q.2 (asg (ZaZ ns el).2))=true ∧
  ∀m,(el.any fun q=>sem ns q.1 (asg m) && sem ns q.2 (asg m))=true→leS (ZaZ ns el).2 m:=by
 have dO:∀v,Bel t l v→Bel t r v→False:=fun v a b=>Bel.apart hc hx aI hl hr a b
 obtain⟨⟨p,hp,aH,e⟩,fW⟩:=ZhY ns el (by obtain⟨p,hp,h2⟩:=h.big;exact⟨p,hp,by omega⟩);have inl:∀q∈el,∀v,Zau (ZaK ns q.1) v=true→Bel t l v:=fun q hq v hv=>(hm q hq).1.le_in (h.pdep q hq) hv
 have inr:∀q∈el,q.2≠0→∀v,Zau (ZaK ns q.2) v=true→Bel t r v:=fun q hq h2 v hv=>((hm q hq).2 h2).le_in (h.sdep q hq) hv
 refine⟨?_,fun m ji=>?_⟩
 ·rw[e,List.any_eq_true]
  refine⟨p,hp,?_⟩
  have a1:sem ns p.1 (asg (ZaK ns p.1 ||| ZaK ns p.2))=sem ns p.1 (asg (ZaK ns p.1)):=h.pdep p hp _ _ fun v hv=>by
   show Zau _ _=Zau _ _
   rw[ZkP]
   cases hb:Zau (ZaK ns p.2) v
   ·simp
   ·exact(dO v hv (inr p hp aH v hb)).elim
  have a2:sem ns p.2 (asg (ZaK ns p.1 ||| ZaK ns p.2))=sem ns p.2 (asg (ZaK ns p.2)):=h.sdep p hp _ _ fun v hv=>by
   show Zau _ _=Zau _ _
   rw[ZkP]
   cases hb:Zau (ZaK ns p.1) v
   ·simp
   ·exact(dO v (inl p hp v hb) hv).elim
  rw[a1,a2,(hm p hp).1.sat,((hm p hp).2 aH).sat];rfl
 ·rw[List.any_eq_true]at ji
  obtain⟨q,hq,hs⟩:=ji;rw[Zpx]at hs;have h2:q.2≠0:=fun e0=>by rw[e0,h0]at hs;cases hs.2
  refine(fW q hq h2).trans (ZmJ dO ?_ ?_ (inl q hq) (inr q hq h2))
  ·exact(hm q hq).1.le _ (by rw[ZhQ (h.pdep q hq)];exact hs.1)
  ·exact((hm q hq).2 h2).le _ (by rw[ZhQ (h.sdep q hq)];exact hs.2)
end Go.Proofs.YtmnjakejhbpkoaaGreatDoor.L
namespace Go.Proofs.YtmnjakejhbpkoaaGreatDoor.L
theorem ZcT{ns m:List Zaf}{i:Nat}(hi:i<ns.length):ZaK (ns++m) i=ZaK ns i:=by
 unfold ZaK;rw[List.getElem?_append_left hi]
theorem ZaC.app{t:List VN}{ns m:List Zaf}(hk:Kids ns){l r:Nat}{el:List (Nat × Nat)}(h:ZaC t ns l r el)(hi:∀p∈el,p.1<ns.length∧p.2<ns.length):ZaC t (ns++m) l r el where
 pdep p hp:=by rw[ZaV hk (hi p hp).1];exact h.pdep p hp
 sdep p hp:=by rw[ZaV hk (hi p hp).2];exact h.sdep p hp
 pne p hp:=by rw[ZaV hk (hi p hp).1];exact h.pne p hp
 disj:=h.disj.imp_of_mem fun {a b} ha hb bA=>by rw[ZaV hk (hi a ha).1,ZaV hk (hi b hb).1];exact bA
 cover x:=by
  obtain⟨p,hp,hx⟩:=h.cover x;exact⟨p,hp,by rw[ZaV hk (hi p hp).1];exact hx⟩
 nd:=h.nd
 big:=h.big
 two:=h.two
theorem Zk1{ns m:List Zaf}{p q:Nat × Nat}(hp:p.1<ns.length)(hq:q.1<ns.length):Za2 (ns++m) p q=Za2 ns p q:=by
 unfold Za2;rw[ZcT hp,ZcT hq]
theorem ZjE{ns m:List Zaf}{el:List (Nat × Nat)}(hi:∀p∈el,p.1<ns.length∧p.2<ns.length):ZaZ (ns++m) el=ZaZ ns el:=by
 unfold ZaZ
 have:∀(l:List (Nat × Nat)) (a:Bool × Zak),(∀p∈l,p.1<ns.length∧p.2<ns.length)→l.foldl (Zay (ns++m)) a=l.foldl (Zay ns) a:=by
  intro l
  induction l with
  | nil=>intro a _;rfl
  | cons q r ih =>
    intro a h;have hq:=h q (Zpy ..);rw[List.foldl_cons,List.foldl_cons,ih _ fun p hp=>h p (Zpn _ hp)]
    congr 1
    unfold Zay;rw[ZcT hq.1,ZcT hq.2]
 exact this el _ hi
theorem Zcr.app{t:List VN}{ns m:List Zaf}(hk:Kids ns){i:Nat}{n:Zaf}(hi:i≤ns.length)(h:Zcr t ns i n):Zcr t (ns++m) i n:=by
 have hb:∀p∈n.el,p.1<ns.length∧p.2<ns.length:=fun p hp=>by have:=h.kids p hp;omega
 obtain⟨P,y,l,r,h1,h2,h3,h4,h5,h6⟩:=h.parts;exact⟨h.lit,h.kids,⟨P,y,l,r,h1,h2,h3,h4,h5,h6.app hk hb⟩,h.sorted.imp_of_mem fun {a b} ha dx bA=>by rw[Zk1 (hb a ha).1 (hb b dx).1];exact bA,by rw[ZjE hb];exact h.le⟩
theorem Min.app{ns m:List Zaf}(hk:Kids ns){i:Nat}(hi:i<ns.length)(h:Min ns i):Min (ns++m) i:=by
 refine⟨?_,fun x hx=>?_⟩
 ·rw[ZaV hk hi,ZcT hi];exact h.sat
 ·rw[ZcT hi];rw[ZaV hk hi]at hx;exact h.le x hx
theorem ZaS{α β:Type}[DecidableEq α](p:α × β)(l:List (α × β))(a:α):asc (p :: l) a=if a=p.1 then some p.2 else asc l a:=rfl
def Zkb (s:St)(n:Zaf):St:={ s with nodes:=s.nodes++[n],uniq:=((n.pl,n.lit,n.el),s.nodes.length) :: s.uniq }
theorem Inv.add{s:St}(h:Inv s){n:Zaf}(hn:asc s.uniq (Zce n)=none)(aq:Zde s.tree n∨Zcr s.tree s.nodes s.nodes.length n)(fW:Min (s.nodes++[n]) s.nodes.length):Inv (Zkb s n):=by
 have hk:=h.kids;have hl:=h.len;have cH:∀ {i:Nat},i<s.nodes.length→(s.nodes++[n])[i]? =s.nodes[i]?:=fun hi=>List.getElem?_append_left hi
 have ag:(s.nodes++[n])[s.nodes.length]? =some n:=by rw[List.getElem?_append_right (ZpD _)];simp
 have jM:∀(i:Nat) (x:Zaf),(s.nodes++[n])[i]? =some x→(i<s.nodes.length∧s.nodes[i]? =some x)∨(i=s.nodes.length∧x=n):=fun i x hx=>by
  have aE:i<(s.nodes++[n]).length:=(Zpj hx).1;rw[Zpo,List.length_singleton]at aE;rcases Nat.lt_or_ge i s.nodes.length with h1|h1
  ·exact .inl ⟨h1,by rw[cH h1]at hx;exact hx⟩
  ·have e:i=s.nodes.length:=by omega
   subst e;rw[ag]at hx;exact .inr ⟨rfl,(Option.some.inj hx).symm⟩
 refine⟨h.tree,?_,?_,fun i x hi hx=>?_,fun i hi fl=>?_,fun k i xK=>?_,fun i x hi hx=>?_,fun a b c hc=>?_,fun a b hb=>?_⟩
 ·show (s.nodes++[n])[0]? =_;rw[cH (by omega)];exact h.zero
 ·show (s.nodes++[n])[1]? =_;rw[cH (by omega)];exact h.one
 ·rcases jM i x hx with ⟨h1,h2⟩|⟨rfl,rfl⟩
  ·exact(h.ok i x hi h2).imp id fun hd=>hd.app hk (by omega)
  ·exact aq.imp id fun hd=>hd.app hk (ZpD _)
 ·have sL:i<s.nodes.length+1:=by simpa [Zkb] using fl
  rcases Nat.lt_or_ge i s.nodes.length with h1|h1
  ·exact(h.min i hi h1).app hk h1
  ·have e:i=s.nodes.length:=by omega
   subst e;exact fW
 ·have ow:(if k=(n.pl,n.lit,n.el) then some s.nodes.length else asc s.uniq k)=some i:=xK
  split at ow
  ·rename_i e
   have:s.nodes.length=i:=Option.some.inj ow;subst this;exact⟨hl,n,ag,e.symm⟩
  ·obtain⟨h1,x,h2,h3⟩:=h.uq1 k i ow
   exact⟨h1,x,by show (s.nodes++[n])[i]? =_;rw[cH (Zpj h2).1];exact h2,h3⟩
 ·show (if Zce x=(n.pl,n.lit,n.el) then some s.nodes.length else asc s.uniq (Zce x))=some i
  rcases jM i x hx with ⟨h1,h2⟩|⟨rfl,rfl⟩
  ·have h3:=h.uq2 i x hi h2
   rw[if_neg (fun e=>by
    have e':Zce x=Zce n:=e;rw[e',hn]at h3;cases h3)]
   exact h3
  ·exact if_pos rfl
 ·obtain⟨h1,h2,h3,h4⟩:=h.ands a b c hc
  show a<(s.nodes++[n]).length∧b<(s.nodes++[n]).length∧c<(s.nodes++[n]).length∧∀x,sem (s.nodes++[n]) c x=(sem (s.nodes++[n]) a x && sem (s.nodes++[n]) b x)
  rw[Zpo,ZaV hk h1,ZaV hk h2,ZaV hk h3];exact⟨by omega,by omega,by omega,h4⟩
 ·obtain⟨h1,h2,h3⟩:=h.nots a b hb
  show a<(s.nodes++[n]).length∧b<(s.nodes++[n]).length∧∀x,sem (s.nodes++[n]) b x= !sem (s.nodes++[n]) a x
  rw[Zpo,ZaV hk h1,ZaV hk h2];exact⟨by omega,by omega,h3⟩
structure Step (s s':St):Prop where
 inv:Inv s'
 tree:s'.tree=s.tree
 ext:∃m,s'.nodes=s.nodes++m
theorem Step.refl{s:St}(h:Inv s):Step s s:=⟨h,rfl,[],by simp⟩
theorem Step.trans{a b c:St}(h:Step a b)(k:Step b c):Step a c:=by
 obtain⟨m,hm⟩:=h.ext;obtain⟨n,hn⟩:=k.ext;exact⟨k.inv,k.tree.trans h.tree,m++n,by rw[hn,hm,List.append_assoc]⟩
theorem Step.len{s s':St}(h:Step s s'):s.nodes.length≤s'.nodes.length:=by
 obtain⟨m,hm⟩:=h.ext;rw[hm,Zpo];omega
theorem Step.sem{s s':St}(h:Step s s')(hi:Inv s){i:Nat}(hl:i<s.nodes.length):L.sem s'.nodes i=L.sem s.nodes i:=by
 obtain⟨m,hm⟩:=h.ext;rw[hm];exact ZaV hi.kids hl
theorem Zne{s:St}(n:Zaf):big (Zkb s n)=big s+if Zl4 s.tree n=true then 1 else 0:=by
 unfold big;have aL:(Zkb s n).nodes.length=s.nodes.length+1:=by simp[Zkb]
 rw[aL,List.range_succ,List.filter_append,Zpo]
 congr 1
 ·congr 1
  apply List.filter_congr
  intro i hi;rw[List.mem_range]at hi;unfold bigAt;rw[show (Zkb s n).nodes[i]? =s.nodes[i]? from List.getElem?_append_left hi]
  rfl
 ·have:bigAt (Zkb s n) s.nodes.length=Zl4 s.tree n:=by
   unfold bigAt;rw[show (Zkb s n).nodes[s.nodes.length]? =some n from by show (s.nodes++[n])[s.nodes.length]? =_;rw[List.getElem?_append_right (ZpD _)];simp]
   rfl
  rw[List.filter_cons,this]
  split <;> simp_all
structure Room (s:St) (k:Nat):Prop where
 inv:Inv s
 few:s.tree.length≤11
 room:big s+k≤327000
theorem Room.len{s:St}{k:Nat}(h:Room s k):s.nodes.length≤1047898:=by
 have:=Zmv h.inv h.few;have:=h.room;omega
theorem Zba{ns:List Zaf}{n:Zaf}:(ns++[n])[ns.length]? =some n:=by rw[List.getElem?_append_right (ZpD _)];simp
theorem Zgj{s:St}(h:Inv s){n:Zaf}(hk:∀p∈n.el,p.1<s.nodes.length∧p.2<s.nodes.length):Kids (s.nodes++[n]):=by
 intro i x hx p hp;have aE:i<(s.nodes++[n]).length:=(Zpj hx).1;rw[Zpo,List.length_singleton]at aE;rcases Nat.lt_or_ge i s.nodes.length with h1|h1
 ·rw[List.getElem?_append_left h1]at hx
  exact h.kids i x hx p hp
 ·have e:i=s.nodes.length:=by omega
  subst e;rw[Zba]at hx
  cases hx
  exact hk p hp
theorem Zit{s:St}{k:Nat}(hR:Room s k){n:Zaf}(hs:Zdu n)(aq:Zde s.tree n∨Zcr s.tree s.nodes s.nodes.length n)(fW:Min (s.nodes++[n]) s.nodes.length) :
  ∃c s',ZnY s n=some (c,s')∧Step s s'∧c<s'.nodes.length∧sem s'.nodes c=sem (s.nodes++[n]) s.nodes.length∧big s'≤big s+if Zl4 s.tree n=true then 1 else 0:=by
 have h:=hR.inv;have aL:=hR.len
 have iy:∀p∈n.el,p.1<s.nodes.length∧p.2<s.nodes.length:=fun p hp=>by
  rcases aq with hl|hd
  ·rw[hl.el]at hp;cases hp
  ·exact hd.kids p hp
 unfold ZnY;rw[if_pos hs]
 cases ha:asc s.uniq (n.pl,n.lit,n.el) with
 | some i =>
   obtain⟨h2,x,hx,hkx⟩:=h.uq1 _ _ ha;have fl:i<s.nodes.length:=(Zpj hx).1;refine⟨i,s,rfl,Step.refl h,fl,?_,by omega⟩
   funext y
   have e2:x.lit=n.lit:=congrArg (fun k:Key=>k.2.1) hkx;have e3:x.el=n.el:=congrArg (fun k:Key=>k.2.2) hkx;rw[sem_node h.kids hx,sem_node (Zgj h iy) Zba,e2,e3]
   split
   ·rfl
   ·rename_i hl
    have aH:n.el≠[]:=by
     rcases aq with eR|hd
     ·exact absurd eR.lit (by simpa using hl)
     ·obtain⟨P,y,l,r,_,_,_,_,_,hp⟩:=hd.parts
      intro e;have:=hp.two;rw[e]at this;simp at this
    rw[if_neg aH,if_neg aH];refine ZcA fun p hp=>?_
    rw[ZaV h.kids (iy p hp).1,ZaV h.kids (iy p hp).2]
 | none =>
   simp only;rw[if_pos (by omega)];have aW:Step s (Zkb s n):=⟨h.add ha aq fW,rfl,[n],rfl⟩;exact⟨_,Zkb s n,rfl,aW,by simp[Zkb],rfl,by rw[Zne];omega⟩
theorem literal_spec{s:St}{k:Nat}(hR:Room s k){l:Int}{u:Nat}{y:VN}(hy:s.tree[u]? =some y)(aI:Zaj y=true)(hv:y.var=(l.natAbs:Int)) :
  ∃c s',Zbq s l u=some (c,s')∧Step s s'∧c<s'.nodes.length∧(∀x,sem s'.nodes c x=(x (l.natAbs:Int) ==decide (0<l)))∧big s'≤big s:=by
 have h:=hR.inv;have aY:=hR.few;have hu:u<s.tree.length:=(Zpj hy).1
 have xo:1≤y.var∧y.var≤128:=by
  simp only[Zaj,Zpx,ZpA]at aI;exact aI.2
 have dT:l≠0:=by omega
 have dU:Zde s.tree (ZiJ l u):=⟨rfl,dT,⟨u,y,rfl,hy,aI,hv⟩,rfl⟩;have iy:∀p∈(ZiJ l u).el,p.1<s.nodes.length∧p.2<s.nodes.length:=fun p hp=>by cases hp
 have dq:∀x,sem (s.nodes++[ZiJ l u]) s.nodes.length x=(x (l.natAbs:Int) ==decide (0<l)):=fun x=>by
  rw[sem_node (Zgj h iy) Zba];exact if_pos dT
 have gG:ZaK (s.nodes++[ZiJ l u]) s.nodes.length=if 0<l then ofS [l] else 0:=by
  unfold ZaK;rw[Zba];rfl
 have ra:0<l→∀i,i<128→((ofS [l]).getLsbD i=true↔l=(i:Int)+1):=fun _ i hi=>by
  unfold ofS;rw[ZgJ _ _ hi];have h0:(0:Zak).getLsbD i=false:=BitVec.getLsbD_zero;rw[h0];simp
 have fW:Min (s.nodes++[ZiJ l u]) s.nodes.length:=by
  refine⟨?_,fun m hm=>?_⟩
  ·rw[dq,gG]
   by_cases hp:0<l
   ·rw[if_pos hp]
    have e:((l.natAbs:Nat):Int)=(((l - 1).toNat:Nat):Int)+1:=by omega
    show (Zau (ofS [l]) (l.natAbs:Int) ==_)=true
    rw[e,hasS_bit _ _ (by omega),(ra hp _ (by omega)).2 (by omega)];simp[hp]
   ·rw[if_neg hp]
    show (Zau 0 (l.natAbs:Int) ==_)=true
    have:Zau (0:Zak) (l.natAbs:Int)=false:=by simp[Zau]
    rw[this];simp[hp]
  ·rw[gG]
   rw[dq]at hm;refine sub_le fun i hi hb=>?_
   by_cases hp:0<l
   ·rw[if_pos hp]at hb
    have e:=(ra hp i hi).1 hb
    have pB:Zau m (l.natAbs:Int)=true:=by
     have:(Zau m (l.natAbs:Int) ==decide (0<l))=true:=hm;simpa [hp] using this
    rw[show ((l.natAbs:Nat):Int)=(i:Int)+1 by omega,hasS_bit _ _ hi]at pB;exact pB
   ·rw[if_neg hp]at hb
    have h0:(0:Zak).getLsbD i=false:=BitVec.getLsbD_zero;rw[h0]at hb;cases hb
 have gJ:Zdu (ZiJ l u):=⟨by show (-1:Int)≤u;omega,by show (u:Int)≤1048576;omega,by show -1048576≤l;omega,by show l≤1048576;omega,by simp[ZiJ],fun p hp=>by cases hp⟩;obtain⟨c,s',h1,h2,h3,h4,h5⟩:=Zit hR gJ (.inl dU) fW;refine⟨c,s',h1,h2,h3,fun x=>by rw[h4];exact dq x,?_⟩
 have fD:Zl4 s.tree (ZiJ l u)=false:=by
  have:nv s.tree u=1:=by unfold nv;rw[ZdY hy aI];rfl
  simp[Zl4,ZiJ,this]
 rw[fD]at h5;simpa using h5
theorem ZaC.perm{t:List VN}{ns:List Zaf}{l r:Nat}{el e2:List (Nat × Nat)}(h:ZaC t ns l r el)(hp:e2.Perm el):ZaC t ns l r e2 where
 pdep p hm:=h.pdep p (hp.mem_iff.1 hm)
 sdep p hm:=h.sdep p (hp.mem_iff.1 hm)
 pne p hm:=h.pne p (hp.mem_iff.1 hm)
 disj:=(hp.pairwise_iff (fun {a b} bA x hx=>bA x ⟨hx.2,hx.1⟩)).2 h.disj
 cover x:=by
  obtain⟨p,hm,hx⟩:=h.cover x;exact⟨p,hp.mem_iff.2 hm,hx⟩
 nd:=(hp.pairwise_iff (fun {a b} bA e=>bA e.symm)).2 h.nd
 big:=by
  obtain⟨p,hm,hx⟩:=h.big;exact⟨p,hp.mem_iff.2 hm,hx⟩
 two:=by rw[hp.length_eq];exact h.two
theorem Zf1{α:Type}{l m:List α}{f:α→Bool}(hp:l.Perm m):l.any f=m.any f:=by
 rw[Bool.eq_iff_iff,List.any_eq_true,List.any_eq_true];exact⟨fun ⟨x,hx,h⟩=>⟨x,hp.mem_iff.1 hx,h⟩,fun ⟨x,hx,h⟩=>⟨x,hp.mem_iff.2 hx,h⟩⟩
theorem Inv.ne0{s:St}(h:Inv s){i:Nat}(hx:∃x,sem s.nodes i x=true):1≤i:=by
 obtain⟨x,hx⟩:=hx;rcases Nat.eq_zero_or_pos i with e|e
 ·rw[e,h.sem0]at hx;cases hx
 ·exact e
end Go.Proofs.YtmnjakejhbpkoaaGreatDoor.L
namespace Go.Proofs.YtmnjakejhbpkoaaGreatDoor.L
def Zj3 (s:St)(P:Nat)(el:List (Nat × Nat)):Zaf:={ pl:=P,lit:=0,el:=ZbS (Za2 s.nodes) el,le:=(ZaZ s.nodes (ZbS (Za2 s.nodes) el)).2 }
theorem Zf7{s:St}(h:Inv s){t:List VN}{l r:Nat}{el:List (Nat × Nat)}(hp:ZaC t s.nodes l r el)(hi:∀p∈el,p.1<s.nodes.length∧p.2<s.nodes.length):∀p∈el,Min s.nodes p.1∧(p.2≠0→Min s.nodes p.2):=fun p hm =>
 ⟨h.min _ (h.ne0 (hp.pne p hm)) (hi p hm).1,fun h0=>h.min _ (by omega) (hi p hm).2⟩
theorem ZfB{s:St}(h:Inv s){t:List VN}{l r:Nat}{el:List (Nat × Nat)}(hp:ZaC t s.nodes l r el)(hi:∀p∈el,p.1<s.nodes.length∧p.2<s.nodes.length):Zbk (Za2 s.nodes) el=true :=
 ZcB _ (hp.disj.imp_of_mem fun {a b} ha hb bA=>by
  refine ZeY fun e=>?_
  have h1:=(Zf7 h hp hi a ha).1.sat;have h2:=(Zf7 h hp hi b hb).1.sat;rw[←e]at h2;exact bA _ ⟨h1,h2⟩)
theorem Zno{s:St}(h:Inv s){P:Nat}{y:VN}{l r:Nat}(hy:s.tree[P]? =some y)(aI:Zaj y=false)(hl:y.left=l)(hr:y.right=r){el:List (Nat × Nat)}(hp:ZaC s.tree s.nodes l r el)
  (hi:∀p∈el,p.1<s.nodes.length∧p.2<s.nodes.length):Zcr s.tree s.nodes s.nodes.length (Zj3 s P el):=by
 have bC:(ZbS (Za2 s.nodes) el).Perm el:=ZaR el;refine⟨rfl,fun p hm=>hi p (bC.mem_iff.1 hm),⟨P,y,l,r,rfl,hy,aI,hl,hr,hp.perm bC⟩,?_,rfl⟩;exact ZbA (lt:=Za2 s.nodes) (fun a b c h1 h2=>Zc7 h1 h2) el (ZfB h hp hi)
theorem Zf6{s:St}(h:Inv s){P:Nat}{t:List VN}{l r:Nat}{el:List (Nat × Nat)}(hp:ZaC t s.nodes l r el)
  (hi:∀p∈el,p.1<s.nodes.length∧p.2<s.nodes.length) (x:Asg):sem (s.nodes++[Zj3 s P el]) s.nodes.length x=el.any fun q=>sem s.nodes q.1 x && sem s.nodes q.2 x:=by
 have bC:(ZbS (Za2 s.nodes) el).Perm el:=ZaR el;have kO:∀p∈(Zj3 s P el).el,p.1<s.nodes.length∧p.2<s.nodes.length:=fun p hm=>hi p (bC.mem_iff.1 hm)
 have aH:(Zj3 s P el).el≠[]:=fun e=>by
  have h2:=hp.two;have h3:=bC.length_eq;rw[show ZbS (Za2 s.nodes) el=[] from e]at h3;simp only[List.length_nil]at h3;omega
 rw[sem_node (Zgj h kO) Zba,if_neg (fun hh=>hh rfl),if_neg aH,←Zf1 bC];exact ZcA fun p hm=>by rw[ZaV h.kids (kO p hm).1,ZaV h.kids (kO p hm).2]
theorem Zmb{s:St}(h:Inv s){P:Nat}{y:VN}{l r:Nat}(hy:s.tree[P]? =some y)(aI:Zaj y=false)(hl:y.left=l)(hr:y.right=r){el:List (Nat × Nat)}(hp:ZaC s.tree s.nodes l r el)
  (hi:∀p∈el,p.1<s.nodes.length∧p.2<s.nodes.length):Min (s.nodes++[Zj3 s P el]) s.nodes.length:=by
 have bC:(ZbS (Za2 s.nodes) el).Perm el:=ZaR el;have gG:ZaK (s.nodes++[Zj3 s P el]) s.nodes.length=(ZaZ s.nodes (ZbS (Za2 s.nodes) el)).2:=by unfold ZaK;rw[Zba];rfl
 obtain⟨g1,g2⟩:=ZaC.least h.tree hy aI hl hr (hp.perm bC) h.sem0 (fun p hm=>Zf7 h hp hi p (bC.mem_iff.1 hm));refine⟨?_,fun m hm=>?_⟩
 ·rw[Zf6 h hp hi,gG,←Zf1 bC];exact g1
 ·rw[gG]
  rw[Zf6 h hp hi,←Zf1 bC]at hm;exact g2 m hm
theorem Zjo{s:St}{k:Nat}(hR:Room s k){P:Nat}{y:VN}{l r:Nat}(hy:s.tree[P]? =some y)(aI:Zaj y=false)(hl:y.left=l){el:List (Nat × Nat)}(hp:ZaC s.tree s.nodes l r el)
  (hi:∀p∈el,p.1<s.nodes.length∧p.2<s.nodes.length):Zdu (Zj3 s P el):=by
 have h:=hR.inv;have aY:=hR.few;have aL:=hR.len;have bC:(ZbS (Za2 s.nodes) el).Perm el:=ZaR el;have hP:P<s.tree.length:=(Zpj hy).1
 have gz:l<s.tree.length:=by
  obtain⟨l',r',e1,_,h1,_⟩:=inner_ok h.tree hy aI;omega
 have cG:=hp.len_l h.tree gz;have iT:=nv_le h.tree gz;have h2:2 ^ nv s.tree l≤2 ^ 6:=Nat.pow_le_pow_right (by omega) (by omega);have h3:(2:Nat) ^ 6=64:=rfl;have h4:el.length≤64:=by rw[←h3];exact Zpp cG h2
 have e1:(Zj3 s P el).pl=(P:Int):=rfl;have e2:(Zj3 s P el).lit=0:=rfl;have e3:(Zj3 s P el).el.length=el.length:=bC.length_eq;unfold Zdu;rw[e1,e2,e3];refine⟨by omega,by omega,by omega,by omega,by omega,fun p hm=>?_⟩;have:=hi p (bC.mem_iff.1 hm);omega
theorem ZeI{s:St}{k:Nat}(hR:Room s k){P:Nat}{y:VN}{l r:Nat}(hy:s.tree[P]? =some y)(aI:Zaj y=false)(hl:y.left=l)(hr:y.right=r){el:List (Nat × Nat)}(hp:ZaC s.tree s.nodes l r el)
  (hi:∀p∈el,p.1<s.nodes.length∧p.2<s.nodes.length) :
  ∃c s',Zbn s P el=some (c,s')∧Step s s'∧c<s'.nodes.length∧(∀x,sem s'.nodes c x=el.any fun q=>sem s.nodes q.1 x && sem s.nodes q.2 x)∧big s'≤big s+if 5≤nv s.tree P then 1 else 0:=by
 have h:=hR.inv;have aH:el≠[]:=fun e=>by have:=hp.two;rw[e]at this;simp at this
 obtain⟨c,s',h1,h2,h3,h4,h5⟩:=Zit hR (Zjo hR hy aI hl hp hi) (.inr (Zno h hy aI hl hr hp hi)) (Zmb h hy aI hl hr hp hi);refine⟨c,s',?_,h2,h3,fun x=>by rw[h4];exact Zf6 h hp hi x,?_⟩
 ·unfold Zbn
  rw[if_pos ⟨aH,List.all_eq_true.2 fun p hm=>by simp[hi p hm],ZfB h hp hi⟩];exact h1
 ·have hb:Zl4 s.tree (Zj3 s P el)=decide (5≤nv s.tree P):=by
   unfold Zl4;rw[show (Zj3 s P el).pl=(P:Int) from rfl,Zpv (by omega:(0:Int)≤P),Bool.true_and];rfl
  rw[hb]at h5;simpa using h5
end Go.Proofs.YtmnjakejhbpkoaaGreatDoor.L
namespace Go.Proofs.YtmnjakejhbpkoaaGreatDoor.L
inductive Zek {α β:Type}(R:α→β→Prop):List α→List β→Prop
 | nil:Zek R [] []
 | cons {a:α}{b:β}{l:List α}{m:List β}:R a b→Zek R l m→Zek R (a :: l) (b :: m)
theorem Zek.imp_mem{α β:Type}{R S:α→β→Prop}:∀ {l:List α}{m:List β},Zek R l m→(∀a∈l,∀b,R a b→S a b)→Zek S l m
 | _,_,.nil,_=>.nil
 | _,_,.cons h k,f=>.cons (f _ (Zpy ..) _ h) (k.imp_mem fun a ha=>f a (Zpn _ ha))
theorem Zek.length{α β:Type}{R:α→β→Prop}:∀ {l:List α}{m:List β},Zek R l m→m.length=l.length
 | _,_,.nil=>rfl
 | _,_,.cons _ k=>by simp[k.length]
theorem Zek.right{α β:Type}{R:α→β→Prop}:∀ {l:List α}{m:List β},Zek R l m→∀b∈m,∃a∈l,R a b
 | _,_,.nil,b,hb=>by cases hb
 | _,_,.cons (a:=a) h k,b,hb=>by
   rcases List.mem_cons.1 hb with rfl|hb
   ·exact⟨a,Zpy ..,h⟩
   ·obtain⟨c,hc,hr⟩:=k.right b hb
    exact⟨c,Zpn _ hc,hr⟩
theorem Zek.left{α β:Type}{R:α→β→Prop}:∀ {l:List α}{m:List β},Zek R l m→∀a∈l,∃b∈m,R a b
 | _,_,.nil,a,ha=>by cases ha
 | _,_,.cons (b:=b) h k,a,ha=>by
   rcases List.mem_cons.1 ha with rfl|ha
   ·exact⟨b,Zpy ..,h⟩
   ·obtain⟨c,hc,hr⟩:=k.left a ha
    exact⟨c,Zpn _ hc,hr⟩
theorem Zek.pairwise{α β:Type}{R:α→β→Prop}{S:α→α→Prop}{T:β→β→Prop}(f:∀a a' b b',R a b→R a' b'→S a a'→T b b') :
  ∀ {l:List α}{m:List β},Zek R l m→l.Pairwise S→m.Pairwise T
 | _,_,.nil,_=>.nil
 | _,_,.cons h k,hp=>by
   rw[List.pairwise_cons]at hp ⊢;refine⟨fun b hb=>?_,k.pairwise f hp.2⟩;obtain⟨a,ha,hr⟩:=k.right b hb;exact f _ _ _ _ h hr (hp.1 a ha)
def Did (s:St)(c:Nat)(φ:Asg→Bool)(r:Option (Nat × St)):Prop:=∃b s',r=some (b,s')∧Step s s'∧b<s'.nodes.length∧(∀x,sem s'.nodes b x=φ x)∧big s'≤big s+c
def ZnW (t:List VN)(v c:Nat)(g:St→Nat→Option (Nat × St)):Prop:=∀s a,s.tree=t→Room s c→a<s.nodes.length→Dep (Bel t v) (sem s.nodes a)→Did s c (fun x=>!sem s.nodes a x) (g s a)
def Zir (t:List VN)(v c:Nat)(g:St→Nat→Nat→Option (Nat × St)):Prop:=∀s a b,s.tree=t→Room s c→a<s.nodes.length→b<s.nodes.length→Dep (Bel t v) (sem s.nodes a)→Dep (Bel t v) (sem s.nodes b) →
 Did s c (fun x=>sem s.nodes a x && sem s.nodes b x) (g s a b)
def OrM (t:List VN)(v c:Nat)(g:St→Nat→Nat→Option (Nat × St)):Prop:=∀s a b,s.tree=t→Room s c→a<s.nodes.length→b<s.nodes.length→Dep (Bel t v) (sem s.nodes a)→Dep (Bel t v) (sem s.nodes b) →
 Did s c (fun x=>sem s.nodes a x || sem s.nodes b x) (g s a b)
theorem Did.mono{s:St}{c d:Nat}{φ:Asg→Bool}{r:Option (Nat × St)}(h:Did s c φ r)(hcd:c≤d):Did s d φ r:=by
 obtain⟨b,s',h1,h2,h3,h4,h5⟩:=h;exact⟨b,s',h1,h2,h3,h4,by omega⟩
theorem Room.next{s s':St}{k c m:Nat}(h:Room s k)(hS:Step s s')(hb:big s'≤big s+c)(hk:c+m≤k):Room s' m :=
 ⟨hS.inv,by rw[hS.tree];exact h.few,by have:=h.room;omega⟩
theorem Room.less{s:St}{k m:Nat}(h:Room s k)(hk:m≤k):Room s m:=⟨h.inv,h.few,by have:=h.room;omega⟩
def cn (n:Nat):Nat:=if n≤4 then 0 else if n=5 then 1 else 3
def ca (n:Nat):Nat:=if n≤4 then 0 else if n=5 then 2 else 118
theorem Znl{a b:Nat}(h:a≤b):cn a≤cn b:=by unfold cn;split <;> split <;> (try split) <;> (try split) <;> omega
theorem Zng{a b:Nat}(h:a≤b):ca a≤ca b:=by unfold ca;split <;> split <;> (try split) <;> (try split) <;> omega
theorem Inv.facts{s:St}(h:Inv s){i:Nat}{n:Zaf}(hn:s.nodes[i]? =some n)(hd:Zcr s.tree s.nodes i n) :
  ∃(P:Nat) (y:VN) (l r:Nat),n.pl=P∧s.tree[P]? =some y∧Zaj y=false∧y.left=l∧y.right=r∧ZaC s.tree s.nodes l r n.el ∧
    (∀p∈n.el,∀q∈n.el,sem s.nodes p.2=sem s.nodes q.2→p=q)∧Ess (Bel s.tree l) (sem s.nodes i)∧Ess (Bel s.tree r) (sem s.nodes i)∧Dep (Bel s.tree P) (sem s.nodes i) :=
 ZcC h (k:=i+1) (fun _ _ _ _ ha hb e=>h.canon ha hb e) (Nat.le_succ i) hn hd
theorem Inv.const0{s:St}(h:Inv s){i:Nat}(hi:i<s.nodes.length)(hs:∀x,sem s.nodes i x=false):i=0 :=
 h.canon hi (by have:=h.len;omega) (funext fun x=>by rw[hs,h.sem0])
theorem Inv.const1{s:St}(h:Inv s){i:Nat}(hi:i<s.nodes.length)(hs:∀x,sem s.nodes i x=true):i=1 :=
 h.canon hi (by have:=h.len;omega) (funext fun x=>by rw[hs,h.sem1])
theorem Inv.at_und{s:St}(h:Inv s){i:Nat}{n:Zaf}(hi:2≤i)(hn:s.nodes[i]? =some n){Q:Nat}(hd:Dep (Bel s.tree Q) (sem s.nodes i)):∃P:Nat,n.pl=P∧P<s.tree.length∧Und s.tree Q P:=by
 rcases h.ok i n hi hn with hl|hk
 ·obtain⟨u,y,h1,h2,h3,h4⟩:=hl.leaf
  refine⟨u,h1,(Zpj h2).1,?_⟩
  have he:Ess (Bel s.tree u) (sem s.nodes i):=by
   refine⟨fun _=>true,fun v=>decide (v≠(n.lit.natAbs:Int)),fun v hv=>?_,?_⟩
   ·have:v≠(n.lit.natAbs:Int):=fun e=>hv ((Bel.leaf h.tree h2 h3 v).2 (e.trans h4.symm))
    simp[this]
   ·rw[h.semLit hn hl,h.semLit hn hl]
    simp only[ne_eq,not_true,decide_false]
    cases decide (0<n.lit) <;> simp
  obtain⟨v,hv,w,z,a1,a2,a3,a4⟩:=he.meets hd;have e1:=(Bel.leaf h.tree h2 h3 v).1 hv;have e2:=leaf_var h.tree a1 h2 a2 h3 (a3.trans e1);subst e2;exact a4
 ·obtain⟨P,y,l,r,hP,hy,aI,hl,hr,_,_,e1,e2,_⟩:=h.facts hn hk
  exact⟨P,hP,(Zpj hy).1,ZbP h.tree hy aI hl hr e1 e2 hd⟩
theorem Und.nv_le{t:List VN}(hc:Zad t=0){v u:Nat}(h:Und t v u):nv t u≤nv t v:=by
 induction h with
 | refl=>exact ZpD _
 | step h1 _ ih =>
   rename_i u _
   obtain⟨y,hy,aI,hk⟩:=Zev hc h1;obtain⟨l,r,e1,e2,_⟩:=inner_ok hc hy aI;have:=nv_inner hc hy aI e1 e2;rcases hk with hk|hk
   ·have:l=u:=by omega
    subst this;omega
   ·have:r=u:=by omega
    subst this;omega
def ZnI (s:St)(a b:Nat):St:={ s with nots:=(b,a) :: (a,b) :: s.nots }
theorem Inv.nots_add{s:St}(h:Inv s){a b:Nat}(ha:a<s.nodes.length)(hb:b<s.nodes.length)(e:∀x,sem s.nodes b x= !sem s.nodes a x):Inv (ZnI s a b) :=
 ⟨h.tree,h.zero,h.one,h.ok,h.min,h.uq1,h.uq2,h.ands,fun x y dH=>by
   have gN:(if x=b then some a else if x=a then some b else asc s.nots x)=some y:=dH
   show x<s.nodes.length∧y<s.nodes.length∧∀z,sem s.nodes y z= !sem s.nodes x z
   split at gN
   ·cases gN;subst_vars;exact⟨hb,ha,fun z=>by rw[e];simp⟩
   ·split at gN
    ·cases gN;subst_vars;exact⟨ha,hb,e⟩
    ·exact h.nots x y gN⟩
theorem Step.nots{s s':St}(h:Step s s'){a b:Nat}(ha:a<s'.nodes.length)(hb:b<s'.nodes.length)(e:∀x,L.sem s'.nodes b x= !L.sem s'.nodes a x):Step s (ZnI s' a b) :=
 ⟨h.inv.nots_add ha hb e,h.tree,h.ext⟩
theorem Zd7{t:List VN}{r c:Nat}{g:St→Nat→Option (Nat × St)}(hg:ZnW t r c g):∀(l:List (Nat × Nat)) (s:St),s.tree=t→Room s (l.length*c) →
  (∀p∈l,p.1<s.nodes.length∧p.2<s.nodes.length∧Dep (Bel t r) (sem s.nodes p.2)) →
  ∃l' s',ZbO g s l=some (l',s')∧Step s s'∧big s'≤big s+l.length*c∧Zek (fun p q=>q.1=p.1∧q.2<s'.nodes.length∧∀x,sem s'.nodes q.2 x= !sem s.nodes p.2 x) l l'
 | [],s,_,hR,_=>⟨[],s,rfl,Step.refl hR.inv,by omega,.nil⟩
 | p :: k,s,ht,hR,hp=>by
   have hc:(p :: k).length*c=c+k.length*c:=by rw[ZpC,Nat.succ_mul];omega
   rw[hc]at hR ⊢;obtain⟨p1,p2,p3⟩:=hp p (Zpy ..);obtain⟨q,s1,h1,h2,h3,h4,h5⟩:=hg s p.2 ht (hR.less (by omega)) p2 p3;have dq:∀o∈k,sem s1.nodes o.2=sem s.nodes o.2:=fun o ho=>h2.sem hR.inv (hp o (Zpn _ ho)).2.1
   obtain⟨l',s',g1,g2,g3,g4⟩:=Zd7 hg k s1 (h2.tree.trans ht) (hR.next h2 h5 (ZpD _)) (fun o ho=>by
    obtain⟨o1,o2,o3⟩:=hp o (Zpn _ ho);have:=h2.len;exact⟨by omega,by omega,by rw[dq o ho];exact o3⟩)
   refine⟨(p.1,q) :: l',s',?_,h2.trans g2,by omega,.cons ⟨rfl,?_,fun x=>?_⟩ (g4.imp_mem fun o ho o' hr=>⟨hr.1,hr.2.1,fun x=>by rw[hr.2.2 x,dq o ho]⟩)⟩
   ·rw[ZbO,h1];simp only;rw[g1]
   ·have:=g2.len;show q<_;omega
   ·show sem s'.nodes q x=_
    rw[g2.sem h2.inv h3];exact h4 x
theorem ZaC.neg{s s':St}(hi:Inv s)(hS:Step s s'){t:List VN}{l r:Nat}{el iN:List (Nat × Nat)}(h:ZaC t s.nodes l r el)(hb:∀p∈el,p.1<s.nodes.length∧p.2<s.nodes.length)
  (hA:Zek (fun p q=>q.1=p.1∧q.2<s'.nodes.length∧∀x,sem s'.nodes q.2 x= !sem s.nodes p.2 x) el iN):ZaC t s'.nodes l r iN∧(∀q∈iN,q.1<s'.nodes.length∧q.2<s'.nodes.length) ∧
    ∀x,(iN.any fun q=>sem s'.nodes q.1 x && sem s'.nodes q.2 x)= !el.any fun q=>sem s.nodes q.1 x && sem s.nodes q.2 x:=by
 have mD:Zek (fun p q=>(p.1<s.nodes.length∧p.2<s.nodes.length)∧sem s'.nodes q.1=sem s.nodes p.1∧q.1<s'.nodes.length∧q.2<s'.nodes.length∧∀x,sem s'.nodes q.2 x= !sem s.nodes p.2 x) el iN :=
  hA.imp_mem fun p hp q hr=>⟨hb p hp,by rw[hr.1];exact hS.sem hi (hb p hp).1,by rw[hr.1];have:=(hb p hp).1;have:=hS.len;omega,hr.2⟩
 have hP:ZaC t s'.nodes l r iN:=by
  refine⟨fun q hq=>?_,fun q hq=>?_,fun q hq=>?_,?_,fun x=>?_,?_,?_,?_⟩
  ·obtain⟨p,hp,hr⟩:=mD.right q hq
   rw[hr.2.1];exact h.pdep p hp
  ·obtain⟨p,hp,hr⟩:=mD.right q hq
   intro x y dH;rw[hr.2.2.2.2,hr.2.2.2.2,h.sdep p hp x y dH]
  ·obtain⟨p,hp,hr⟩:=mD.right q hq
   rw[hr.2.1];exact h.pne p hp
  ·exact mD.pairwise (fun a a' b b' hr jT hs x=>by rw[hr.2.1,jT.2.1];exact hs x) h.disj
  ·obtain⟨p,hp,hx⟩:=h.cover x
   obtain⟨q,hq,hr⟩:=mD.left p hp;exact⟨q,hq,by rw[hr.2.1];exact hx⟩
  ·refine mD.pairwise (fun a a' b b' hr jT hs e=>hs ?_) h.nd
   refine hi.canon hr.1.2 jT.1.2 (funext fun x=>?_);have e1:=hr.2.2.2.2 x;have e2:=jT.2.2.2.2 x;rw[e,e2]at e1;simpa using e1.symm
  ·obtain⟨p,hp,h2⟩:=h.big
   obtain⟨q,hq,hr⟩:=mD.left p hp;refine⟨q,hq,?_⟩
   apply ZpB
   intro aE;have hq:q.2=0∨q.2=1:=by omega
   rcases hq with e|e
   ·have:=hi.const1 hr.1.2 (fun x=>by have h3:=hr.2.2.2.2 x;rw[e,hS.inv.sem0]at h3;simpa using h3)
    omega
   ·have:=hi.const0 hr.1.2 (fun x=>by have h3:=hr.2.2.2.2 x;rw[e,hS.inv.sem1]at h3;simpa using h3)
    omega
  ·rw[hA.length];exact h.two
 refine⟨hP,fun q hq=>?_,fun x=>?_⟩
 ·obtain⟨p,hp,hr⟩:=mD.right q hq
  exact⟨hr.2.2.1,hr.2.2.2.1⟩
 ·obtain⟨p,hp,hx⟩:=h.cover x
  obtain⟨q,hq,hr⟩:=mD.left p hp;rw[h.at hp hx,hP.at hq (by rw[hr.2.1];exact hx),hr.2.2.2.2]
theorem Zia{s:St}{a k:Nat}{r:Option (Nat × St)}(hi:Inv s)(ha:a<s.nodes.length)(h:Did s k (fun x=>!sem s.nodes a x) r):Did s k (fun x=>!sem s.nodes a x) (Zh9 a r):=by
 obtain⟨b,s',h1,h2,h3,h4,h5⟩:=h;have h6:=h2.len;have h7:=h2.sem hi ha;subst h1;exact⟨b,ZnI s' a b,rfl,h2.nots (by omega) h3 (fun x=>by rw[h4,h7]),h3,h4,h5⟩
theorem not_spec{t:List VN}(hc:Zad t=0)(aY:t.length≤11):∀v,v<t.length→∀f,v+2≤f→ZnW t v (cn (nv t v)) (Zlb f):=by
 intro v
 induction v using Nat.strongRecOn with
 | ind v ih =>
   intro hv f hf s a aW hR ha hd;subst aW;obtain⟨f,rfl⟩:∃g,f=g+1:=⟨f - 1,by omega⟩;have h:=hR.inv;rw[Zlb]
   by_cases h2:a<2
   ·rw[if_pos h2]
    have hl:=h.len;refine⟨1 - a,s,rfl,Step.refl h,by omega,fun x=>?_,by omega⟩;have:a=0∨a=1:=by omega
    rcases this with rfl|rfl
    ·show sem s.nodes 1 x= !sem s.nodes 0 x
     rw[h.sem0];exact h.sem1 x
    ·show sem s.nodes 0 x= !sem s.nodes 1 x
     rw[h.sem1];exact h.sem0 x
   ·rw[if_neg h2]
    cases hn:asc s.nots a with
    | some b =>
      obtain⟨_,h4,h5⟩:=h.nots a b hn;exact⟨b,s,rfl,Step.refl h,h4,h5,by omega⟩
    | none =>
      have hg:s.nodes[a]? =some s.nodes[a]:=Zpl ha;rw[hg];simp only;refine Zia h ha ?_;generalize s.nodes[a]=n at hg;obtain⟨P,hP,tl,hPu⟩:=h.at_und (by omega) hg hd;rcases h.ok a n (by omega) hg with hl|hk
      ·unfold Zg8
       rw[if_neg hl.lit];obtain⟨u,y,e1,e2,e3,e4⟩:=hl.leaf;obtain⟨c,s',g1,g2,g3,g4,g5⟩:=literal_spec hR (l:=-n.lit) e2 e3 (by rw[e4];omega);refine⟨c,s',by rw[e1];exact g1,g2,g3,fun x=>?_,by omega⟩;rw[g4]
       show _= !sem s.nodes a x
       rw[h.semLit hg hl];have hnz:=hl.lit;have e5:(-n.lit).natAbs=n.lit.natAbs:=by omega
       rw[e5]
       by_cases hp:0<n.lit
       ·rw[Zpv hp,Zpu (by omega:¬ 0 < -n.lit)]
        cases x (n.lit.natAbs:Int) <;> rfl
       ·rw[Zpu hp,Zpv (by omega:0 < -n.lit)]
        cases x (n.lit.natAbs:Int) <;> rfl
      ·unfold Zg8
       rw[if_pos hk.lit];obtain⟨P',y,l,r,e1,e2,e3,e4,e5,e6,e7,_⟩:=h.facts hg hk;have oO:P'=P:=by omega
       subst oO;obtain⟨l',r',b1,b2,b3,b4,b5,_⟩:=inner_ok hc e2 e3;obtain rfl:l'=l:=by omega
       obtain rfl:r'=r:=by omega
       have hPv:=hPu.le hc;have x6:=hPu.nv_le hc;have hnvi:=nv_inner hc e2 e3 e4 e5;have hb:∀p∈n.el,p.1<s.nodes.length∧p.2<s.nodes.length:=fun p hp=>by have:=hk.kids p hp;omega
       have gz:=e6.len_l hc (by omega);have dV:=e6.len_r hc (by omega) e7
       have gk:n.el.length*cn (nv s.tree r')+(if 5≤nv s.tree P' then 1 else 0)≤cn (nv s.tree v):=by
        refine Zpp ?_ (Znl x6);have gL:=nv_le hc tl;have iU:=nv_pos hc l' (by omega);have jj:=nv_pos hc r' (by omega)
        by_cases h5:nv s.tree r'=5
        ·have h6:nv s.tree l'=1:=by omega
         have h7:nv s.tree P'=6:=by omega
         rw[h6]at gz;rw[h5,h7,show cn 5=1 from rfl,show cn 6=3 from rfl,if_pos (by omega)];simp only[Nat.pow_one]at gz;omega
        ·have h8:cn (nv s.tree r')=0:=by unfold cn;rw[if_pos (by omega)]
         rw[h8,Nat.mul_zero,Nat.zero_add];unfold cn
         split <;> split <;> (try split) <;> omega
       obtain⟨iN,s1,g1,g2,g3,g4⟩:=Zd7 (ih r' (by omega) (by omega) f (by omega)) n.el s rfl (hR.less (by omega)) (fun p hp=>⟨(hb p hp).1,(hb p hp).2,e6.sdep p hp⟩);obtain⟨k1,k2,k3⟩:=ZaC.neg h g2 e6 hb g4;rw[←g2.tree]at k1;obtain⟨c,s2,m1,m2,m3,m4,m5⟩:=ZeI (hR.next g2 g3 (m:=if 5≤nv s.tree P' then 1 else 0) gk) (P:=P') (by rw[g2.tree];exact e2) e3 e4 e5 k1 k2;rw[g2.tree]at m5;refine⟨c,s2,?_,g2.trans m2,m3,fun x=>?_,by omega⟩
       ·rw[g1,e1];exact m1
       ·rw[m4,k3]
        show _= !sem s.nodes a x
        rw[h.semDec hg hk]
end Go.Proofs.YtmnjakejhbpkoaaGreatDoor.L
namespace Go.Proofs.YtmnjakejhbpkoaaGreatDoor.L
abbrev Zey(ns:List Zaf)(p q:Nat × Nat):Prop:=∀x,¬ (sem ns p.1 x=true∧sem ns q.1 x=true)
structure Sp (t:List VN) (ns:List Zaf) (l r:Nat) (F:Asg→Bool) (el:List (Nat × Nat)):Prop where
 ib:∀p∈el,p.1<ns.length∧p.2<ns.length
 pdep:∀p∈el,Dep (Bel t l) (sem ns p.1)
 sdep:∀p∈el,Dep (Bel t r) (sem ns p.2)
 pne:∀p∈el,∃x,sem ns p.1 x=true
 disj:el.Pairwise (Zey ns)
 cover:∀x,∃p∈el,sem ns p.1 x=true
 val:∀p∈el,∀x,sem ns p.1 x=true→sem ns p.2 x=F x
theorem Sp.step{s s':St}(hi:Inv s)(hS:Step s s'){t:List VN}{l r:Nat}{F:Asg→Bool}{el:List (Nat × Nat)}(h:Sp t s.nodes l r F el):Sp t s'.nodes l r F el where
 ib p hp:=by have:=h.ib p hp;have:=hS.len;omega
 pdep p hp:=by rw[hS.sem hi (h.ib p hp).1];exact h.pdep p hp
 sdep p hp:=by rw[hS.sem hi (h.ib p hp).2];exact h.sdep p hp
 pne p hp:=by rw[hS.sem hi (h.ib p hp).1];exact h.pne p hp
 disj:=h.disj.imp_of_mem fun {a b} ha hb bA x=>by rw[hS.sem hi (h.ib a ha).1,hS.sem hi (h.ib b hb).1];exact bA x
 cover x:=by
  obtain⟨p,hp,hx⟩:=h.cover x;exact⟨p,hp,by rw[hS.sem hi (h.ib p hp).1];exact hx⟩
 val p hp x hx:=by
  rw[hS.sem hi (h.ib p hp).1]at hx;rw[hS.sem hi (h.ib p hp).2];exact h.val p hp x hx
theorem ZaC.sp{t:List VN}{ns:List Zaf}{l r:Nat}{el:List (Nat × Nat)}(h:ZaC t ns l r el)(hb:∀p∈el,p.1<ns.length∧p.2<ns.length):Sp t ns l r (fun x=>el.any fun q=>sem ns q.1 x && sem ns q.2 x) el :=
 ⟨hb,h.pdep,h.sdep,h.pne,h.disj,h.cover,fun _ hp _ hx=>(h.at hp hx).symm⟩
theorem Zbo{s:St}(hc:Zad s.tree=0){a b:Nat}(ha:a<s.tree.length)(hb:b<s.tree.length):Zej s a b=some (ZcG s.tree a b):=by
 unfold Zej;rw[if_pos ⟨hc,by omega,by omega,by omega,by omega⟩]
 rfl
theorem Zgp(n:Nat):1≤2 ^ n:=Nat.one_le_two_pow
theorem ZlK{n:Nat}(h:1≤n):2≤2 ^ n:=by
 have:=Nat.pow_le_pow_right (n:=2) (by omega) h;simpa using this
theorem Zck{t:List VN}(hc:Zad t=0){P:Nat}{y:VN}{l r:Nat}(hy:t[P]? =some y)(aI:Zaj y=false)(hl:y.left=l)(hr:y.right=r){c:Nat}{g:St→Nat→Option (Nat × St)}(hg:ZnW t l c g)
  {s:St}(ht:s.tree=t) (hR:Room s c) {a:Nat}(h2:2≤a) (ha:a<s.nodes.length) (hd:Dep (Bel t P) (sem s.nodes a)) :
  ∃el s',ZbX g s a P=some (el,s')∧Step s s'∧big s'≤big s+c∧Sp t s'.nodes l r (sem s.nodes a) el∧el.length≤2 ^ nv t l∧el.length≤2 ^ (2 ^ nv t r):=by
 have h:=hR.inv;subst ht;have hP:P<s.tree.length:=(Zpj hy).1;obtain⟨l',r',b1,b2,b3,b4,b5,b6,b7⟩:=inner_ok hc hy aI;obtain rfl:l'=l:=by omega
 obtain rfl:r'=r:=by omega
 have hn:s.nodes[a]? =some s.nodes[a]:=Zpl ha;generalize s.nodes[a]=n at hn;obtain⟨Q,hQ,vi,hQu⟩:=h.at_und h2 hn hd;have aL:=h.len;have ju:=nv_pos hc l' (by omega);have kS:=nv_pos hc r' (by omega);unfold ZbX;rw[hn];simp only
 by_cases e:n.pl=(P:Int)
 ·rw[if_pos e]
  rcases h.ok a n h2 hn with dU|hk
  ·obtain⟨u,z,e1,e2,e3,_⟩:=dU.leaf
   have:u=P:=by omega
   subst this;rw[hy]at e2;cases e2;rw[aI]at e3;cases e3
  ·obtain⟨P',y',l,r,e1,e2,e3,e4,e5,e6,e7,_⟩:=h.facts hn hk
   have oO:P'=P:=by omega
   subst oO;rw[hy]at e2;cases e2;obtain rfl:l=l':=by omega
   obtain rfl:r=r':=by omega
   have hb:∀p∈n.el,p.1<s.nodes.length∧p.2<s.nodes.length:=fun p hp=>by have:=hk.kids p hp;omega
   refine⟨n.el,s,rfl,Step.refl h,by omega,?_,e6.len_l hc (by omega),e6.len_r hc (by omega) e7⟩;have:=e6.sp hb;rw[show sem s.nodes a=fun x=>n.el.any fun p=>sem s.nodes p.1 x && sem s.nodes p.2 x from funext fun x=>h.semDec hn hk x];exact this
 ·rw[if_neg e,hy]
  simp only;rw[hQ,hl,Zbo hc vi (by omega)];simp only
  have tG:Und s.tree l' Q∨Und s.tree r' Q:=by
   rcases hQu.kids hc hy hl hr with e'|h3|h3
   ·omega
   ·exact .inl h3
   ·exact .inr h3
  have ru:Dep (Bel s.tree Q) (sem s.nodes a):=by
   obtain⟨P',f1,f2,f3⟩:=h.place h2 hn;have:P'=Q:=by omega
   subst this;exact f3
  by_cases hm:((ZcG s.tree Q l':Nat):Int)=(l':Int)
  ·rw[if_pos hm]
   have hu:Und s.tree l' Q:=(ZiO hc vi (by omega)).1 (by omega);have cU:Dep (Bel s.tree l') (sem s.nodes a):=ru.mono fun v hv=>hv.up hu
   obtain⟨b,s1,g1,g2,g3,g4,g5⟩:=hg s a rfl hR ha cU;rw[g1];have tF:=g2.sem h ha;have fJ:=g2.len;have cw:=g2.inv;refine⟨[(a,1),(b,0)],s1,rfl,g2,g5,⟨fun p hp=>?_,fun p hp=>?_,fun p hp=>?_,fun p hp=>?_,?_,fun x=>?_,fun p hp x hx=>?_⟩,?_,?_⟩
   ·simp only[List.mem_cons,List.not_mem_nil,or_false]at hp
    rcases hp with rfl|rfl <;> simp <;> omega
   ·simp only[List.mem_cons,List.not_mem_nil,or_false]at hp
    rcases hp with rfl|rfl
    ·show Dep _ (sem s1.nodes a);rw[tF];exact cU
    ·intro x z ue
     show sem s1.nodes b x=sem s1.nodes b z
     rw[g4,g4]
     show (!_)=(!_)
     rw[cU x z ue]
   ·simp only[List.mem_cons,List.not_mem_nil,or_false]at hp
    rcases hp with rfl|rfl
    ·intro x z _;show sem s1.nodes 1 x=sem s1.nodes 1 z;rw[cw.sem1,cw.sem1]
    ·intro x z _;show sem s1.nodes 0 x=sem s1.nodes 0 z;rw[cw.sem0,cw.sem0]
   ·simp only[List.mem_cons,List.not_mem_nil,or_false]at hp
    rcases hp with rfl|rfl
    ·apply ZpB
     intro bJ
     have:=h.const0 ha (fun x=>by
      cases hx:sem s.nodes a x
      ·rfl
      ·exact absurd ⟨x,by show sem s1.nodes a x=true;rw[tF];exact hx⟩ bJ)
     omega
    ·apply ZpB
     intro bJ
     have:=h.const1 ha (fun x=>by
      cases hx:sem s.nodes a x
      ·exact absurd ⟨x,by show sem s1.nodes b x=true;rw[g4];show (!_)=true;rw[hx];rfl⟩ bJ
      ·rfl)
     omega
   ·rw[List.pairwise_cons]
    refine⟨fun q hq x=>?_,List.pairwise_singleton _ _⟩;rw[List.mem_singleton]at hq;subst hq
    show ¬ (sem s1.nodes a x=true∧sem s1.nodes b x=true)
    rw[g4,tF]
    show ¬ (sem s.nodes a x=true∧(!sem s.nodes a x)=true)
    cases sem s.nodes a x <;> simp
   ·cases hx:sem s.nodes a x
    ·exact⟨(b,0),by simp,by show sem s1.nodes b x=true;rw[g4];show (!_)=true;rw[hx];rfl⟩
    ·exact⟨(a,1),by simp,by show sem s1.nodes a x=true;rw[tF];exact hx⟩
   ·simp only[List.mem_cons,List.not_mem_nil,or_false]at hp
    rcases hp with rfl|rfl
    ·have bn:sem s1.nodes a x=true:=hx
     rw[tF]at bn
     show sem s1.nodes 1 x=_
     rw[cw.sem1,bn]
    ·have bn:sem s1.nodes b x=true:=hx
     rw[g4]at bn;have tS:(!sem s.nodes a x)=true:=bn
     show sem s1.nodes 0 x=_
     rw[cw.sem0]
     cases hh:sem s.nodes a x
     ·rfl
     ·rw[hh]at tS;cases tS
   ·show 2≤_;exact ZlK ju
   ·show 2≤_;exact ZlK (Zgp _)
  ·rw[if_neg hm]
   have hu:Und s.tree r' Q:=by
    rcases tG with h3|h3
    ·exact absurd (by rw[(ZiO hc vi (by omega)).2 h3]) hm
    ·exact h3
   have cU:Dep (Bel s.tree r') (sem s.nodes a):=ru.mono fun v hv=>hv.up hu
   refine⟨[(1,a)],s,rfl,Step.refl h,by omega,⟨fun p hp=>?_,fun p hp=>?_,fun p hp=>?_,fun p hp=>?_,List.pairwise_singleton _ _,fun x=>⟨(1,a),by simp,h.sem1 x⟩,fun p hp x hx=>?_⟩,?_,?_⟩
   ·rw[List.mem_singleton]at hp;subst hp;exact⟨by show 1<_;omega,ha⟩
   ·rw[List.mem_singleton]at hp;subst hp;intro x z _;show sem s.nodes 1 x=sem s.nodes 1 z;rw[h.sem1,h.sem1]
   ·rw[List.mem_singleton]at hp;subst hp;exact cU
   ·rw[List.mem_singleton]at hp;subst hp;exact⟨fun _=>true,h.sem1 _⟩
   ·rw[List.mem_singleton]at hp;subst hp;rfl
   ·exact Zgp _
   ·exact Zgp _
structure ZbJ (t:List VN) (ns:List Zaf) (l r:Nat) (p:Nat × Nat):Prop where
 b1:p.1<ns.length
 b2:p.2<ns.length
 d1:Dep (Bel t l) (sem ns p.1)
 d2:Dep (Bel t r) (sem ns p.2)
theorem ZbJ.step{s s':St}(hi:Inv s)(hS:Step s s'){t:List VN}{l r:Nat}{p:Nat × Nat}(h:ZbJ t s.nodes l r p):ZbJ t s'.nodes l r p :=
 ⟨by have:=h.b1;have:=hS.len;omega,by have:=h.b2;have:=hS.len;omega,by rw[hS.sem hi h.b1];exact h.d1,by rw[hS.sem hi h.b2];exact h.d2⟩
structure Zc0 (n n':List Zaf) (p q o:Nat × Nat):Prop where
 b1:o.1<n'.length
 b2:o.2<n'.length
 ne:∃x,sem n' o.1 x=true
 e1:∀x,sem n' o.1 x=(sem n p.1 x && sem n q.1 x)
 e2:∀x,sem n' o.2 x=(sem n p.2 x && sem n q.2 x)
theorem Zc0.step{n:List Zaf}{s s':St}(hi:Inv s)(hS:Step s s'){p q o:Nat × Nat}(h:Zc0 n s.nodes p q o):Zc0 n s'.nodes p q o :=
 ⟨by have:=h.b1;have:=hS.len;omega,by have:=h.b2;have:=hS.len;omega,by rw[hS.sem hi h.b1];exact h.ne,by rw[hS.sem hi h.b1];exact h.e1,by rw[hS.sem hi h.b2];exact h.e2⟩
theorem Zc0.from{t:List VN}{l r:Nat}{s s':St}{n':List Zaf}(hi:Inv s)(hS:Step s s'){p q o:Nat × Nat}(hp:ZbJ t s.nodes l r p)(hq:ZbJ t s.nodes l r q)(h:Zc0 s'.nodes n' p q o):Zc0 s.nodes n' p q o :=
 ⟨h.b1,h.b2,h.ne,fun x=>by rw[h.e1,hS.sem hi hp.b1,hS.sem hi hq.b1],fun x=>by rw[h.e2,hS.sem hi hp.b2,hS.sem hi hq.b2]⟩
theorem Zgs{t:List VN}{l r cl cr:Nat}{af:St→Nat→Nat→Option (Nat × St)}(hl:Zir t l cl af)(hr:Zir t r cr af)(p:Nat × Nat):∀(right:List (Nat × Nat)) (s:St) (out:List (Nat × Nat)),s.tree=t→Room s (right.length*(cl+cr)) →
  ZbJ t s.nodes l r p→(∀q∈right,ZbJ t s.nodes l r q) →
  ∃new s',ZbD af p right s out=some (out++new,s')∧Step s s'∧big s'≤big s+right.length*(cl+cr)∧new.length≤right.length ∧
    (∀o∈new,∃q∈right,Zc0 s.nodes s'.nodes p q o) ∧
    (∀q∈right,∀x,sem s.nodes p.1 x=true→sem s.nodes q.1 x=true→∃o∈new,sem s'.nodes o.1 x=true) ∧
    (right.Pairwise (Zey s.nodes)→new.Pairwise (Zey s'.nodes))
 | [],s,out,_,hR,_,_=>⟨[],s,by rw[ZbD,List.append_nil],Step.refl hR.inv,by omega,ZpD _,(fun _ h=>by cases h),(fun _ h=>by cases h),fun _=>.nil⟩
 | q :: k,s,out,ht,hR,hp,hq=>by
   have hc:(q :: k).length*(cl+cr)=(cl+cr)+k.length*(cl+cr):=by rw[ZpC,Nat.succ_mul];omega
   rw[hc]at hR ⊢;have hi:=hR.inv;have sy:=hq q (Zpy ..);obtain⟨pr,s1,h1,h2,h3,h4,h5⟩:=hl s p.1 q.1 ht (hR.less (by omega)) hp.b1 sy.b1 hp.d1 sy.d1;have cw:=h2.inv;have sO:∀q∈k,ZbJ t s1.nodes l r q:=fun q' bZ=>(hq q' (Zpn _ bZ)).step hi h2
   rw[ZbD,h1];simp only
   by_cases e:pr=0
   ·rw[if_pos e]
    subst e;obtain⟨new,s',g1,g2,g3,g4,g5,g6,g7⟩:=Zgs hl hr p k s1 out (h2.tree.trans ht) (hR.next h2 h5 (by omega)) (hp.step hi h2) sO;refine⟨new,s',g1,h2.trans g2,by omega,by simp only[ZpC];omega,fun o ho=>?_,fun q' bZ x aC aF=>?_,fun eH=>?_⟩
    ·obtain⟨q',bZ,hh⟩:=g5 o ho
     exact⟨q',Zpn _ bZ,hh.from hi h2 hp (hq q' (Zpn _ bZ))⟩
    ·rcases List.mem_cons.1 bZ with rfl|bZ
     ·have h6:=h4 x
      have h7:sem s1.nodes 0 x=(sem s.nodes p.1 x && sem s.nodes q'.1 x):=h6;rw[cw.sem0,aC,aF]at h7;cases h7
     ·exact g6 q' bZ x (by rw[h2.sem hi hp.b1];exact aC) (by rw[h2.sem hi (hq q' (Zpn _ bZ)).b1];exact aF)
    ·rw[List.pairwise_cons]at eH
     exact g7 (eH.2.imp_of_mem fun {a b} ha hb bA x=>by
      rw[h2.sem hi (hq a (Zpn _ ha)).b1,h2.sem hi (hq b (Zpn _ hb)).b1];exact bA x)
   ·rw[if_neg e]
    have iU:=hp.step hi h2;have jm:=sy.step hi h2;obtain⟨su,s2,k1,k2,k3,k4,k5⟩:=hr s1 p.2 q.2 (h2.tree.trans ht) (hR.next h2 h5 (m:=cr) (by omega)) iU.b2 jm.b2 iU.d2 jm.d2;rw[k1];simp only;have bg:=h2.trans k2;have mU:=k2.inv;have bX:∀q∈k,ZbJ t s2.nodes l r q:=fun q' bZ=>(hq q' (Zpn _ bZ)).step hi bg
    obtain⟨new,s',g1,g2,g3,g4,g5,g6,g7⟩:=Zgs hl hr p k s2 (out++[(pr,su)]) (bg.tree.trans ht) (hR.next bg (c:=cl+cr) (by omega) (by omega)) (hp.step hi bg) bX;have sr:pr<s2.nodes.length:=by have:=k2.len;omega
    have sw:Zc0 s.nodes s2.nodes p q (pr,su):=by
     have e1:∀x,sem s2.nodes pr x=(sem s.nodes p.1 x && sem s.nodes q.1 x):=fun x=>by rw[k2.sem cw h3];exact h4 x
     refine⟨sr,k3,?_,e1,fun x=>?_⟩
     ·apply ZpB
      intro bJ
      exact e (mU.const0 sr fun x=>by
       cases hx:sem s2.nodes pr x
       ·rfl
       ·exact absurd ⟨x,hx⟩ bJ)
     ·show sem s2.nodes su x=_
      rw[k4,h2.sem hi hp.b2,h2.sem hi sy.b2]
    have jC:=sw.step mU g2;refine⟨(pr,su) :: new,s',by rw[g1,List.append_assoc];rfl,bg.trans g2,by omega,by simp only[ZpC];omega,fun o ho=>?_,fun q' bZ x aC aF=>?_,fun eH=>?_⟩
    ·rcases List.mem_cons.1 ho with rfl|ho
     ·exact⟨q,Zpy ..,jC⟩
     ·obtain⟨q',bZ,hh⟩:=g5 o ho
      exact⟨q',Zpn _ bZ,hh.from hi bg hp (hq q' (Zpn _ bZ))⟩
    ·rcases List.mem_cons.1 bZ with rfl|bZ
     ·exact⟨(pr,su),Zpy ..,by rw[jC.e1,aC,aF];rfl⟩
     ·obtain⟨o,ho,hx⟩:=g6 q' bZ x (by rw[bg.sem hi hp.b1];exact aC) (by rw[bg.sem hi (hq q' (Zpn _ bZ)).b1];exact aF)
      exact⟨o,Zpn _ ho,hx⟩
    ·rw[List.pairwise_cons]at eH ⊢
     refine⟨fun o ho x hx=>?_,g7 (eH.2.imp_of_mem fun {a b} ha hb bA x=>by
      rw[bg.sem hi (hq a (Zpn _ ha)).b1,bg.sem hi (hq b (Zpn _ hb)).b1];exact bA x)⟩
     obtain⟨q',bZ,hh⟩:=g5 o ho;have hh':=hh.from hi bg hp (hq q' (Zpn _ bZ))
     rw[jC.e1,hh'.e1,Zpx,Zpx]at hx;exact eH.1 q' bZ x ⟨hx.1.2,hx.2.2⟩
theorem ZfZ{t:List VN}{l r cl cr:Nat}{af:St→Nat→Nat→Option (Nat × St)}(hl:Zir t l cl af)(hr:Zir t r cr af)(right:List (Nat × Nat)):∀(left:List (Nat × Nat)) (s:St) (out:List (Nat × Nat)),s.tree=t→Room s (left.length*(right.length*(cl+cr))) →
  (∀p∈left,ZbJ t s.nodes l r p)→(∀q∈right,ZbJ t s.nodes l r q) →
  ∃new s',ZbT af right left s out=some (out++new,s')∧Step s s'∧big s'≤big s+left.length*(right.length*(cl+cr))∧new.length≤left.length*right.length ∧
    (∀o∈new,∃p∈left,∃q∈right,Zc0 s.nodes s'.nodes p q o) ∧
    (∀p∈left,∀q∈right,∀x,sem s.nodes p.1 x=true→sem s.nodes q.1 x=true→∃o∈new,sem s'.nodes o.1 x=true) ∧
    (right.Pairwise (Zey s.nodes)→left.Pairwise (Zey s.nodes)→new.Pairwise (Zey s'.nodes))
 | [],s,out,_,hR,_,_=>⟨[],s,by rw[ZbT,List.append_nil],Step.refl hR.inv,by omega,by simp,(fun _ h=>by cases h),(fun _ h=>by cases h),fun _ _=>.nil⟩
 | p :: k,s,out,ht,hR,hp,hq=>by
   have hc:(p :: k).length*(right.length*(cl+cr))=right.length*(cl+cr)+k.length*(right.length*(cl+cr)):=by rw[ZpC,Nat.succ_mul];omega
   have gh:(p :: k).length*right.length=right.length+k.length*right.length:=by rw[ZpC,Nat.succ_mul];omega
   rw[hc]at hR ⊢;rw[gh];have hi:=hR.inv;have qR:=hp p (Zpy ..);obtain⟨n1,s1,h1,h2,h3,h4,h5,h6,h7⟩:=Zgs hl hr p right s out ht (hR.less (by omega)) qR hq;obtain⟨n2,s',g1,g2,g3,g4,g5,g6,g7⟩:=ZfZ hl hr right k s1 (out++n1) (h2.tree.trans ht) (hR.next h2 h3 (ZpD _)) (fun p' cI=>(hp p' (Zpn _ cI)).step hi h2) (fun q bZ=>(hq q bZ).step hi h2);have cw:=h2.inv;rw[ZbT,h1];simp only;refine⟨n1++n2,s',by rw[g1,List.append_assoc],h2.trans g2,by omega,by rw[Zpo];omega,fun o ho=>?_,fun p' cI q bZ x aC aF=>?_,fun jl bv=>?_⟩
   ·rcases List.mem_append.1 ho with ho|ho
    ·obtain⟨q,bZ,hh⟩:=h5 o ho
     exact⟨p,Zpy ..,q,bZ,hh.step cw g2⟩
    ·obtain⟨p',cI,q,bZ,hh⟩:=g5 o ho
     exact⟨p',Zpn _ cI,q,bZ,hh.from hi h2 (hp p' (Zpn _ cI)) (hq q bZ)⟩
   ·rcases List.mem_cons.1 cI with rfl|cI
    ·obtain⟨o,ho,hx⟩:=h6 q bZ x aC aF
     obtain⟨q'',_,hh⟩:=h5 o ho;exact⟨o,List.mem_append_left _ ho,by rw[g2.sem cw hh.b1];exact hx⟩
    ·obtain⟨o,ho,hx⟩:=g6 p' cI q bZ x (by rw[h2.sem hi (hp p' (Zpn _ cI)).b1];exact aC) (by rw[h2.sem hi (hq q bZ).b1];exact aF)
     exact⟨o,List.mem_append_right _ ho,hx⟩
   ·rw[List.pairwise_cons]at bv
    rw[List.pairwise_append];refine⟨(h7 jl).imp_of_mem fun {a b} ha hb bA x=>?_,g7 (jl.imp_of_mem fun {a b} ha hb bA x=>?_) (bv.2.imp_of_mem fun {a b} ha hb bA x=>?_),fun a ha b hb x hx=>?_⟩
    ·obtain⟨_,_,ka⟩:=h5 a ha
     obtain⟨_,_,kb⟩:=h5 b hb;rw[g2.sem cw ka.b1,g2.sem cw kb.b1];exact bA x
    ·rw[h2.sem hi (hq a ha).b1,h2.sem hi (hq b hb).b1];exact bA x
    ·rw[h2.sem hi (hp a (Zpn _ ha)).b1,h2.sem hi (hp b (Zpn _ hb)).b1];exact bA x
    ·obtain⟨q,bZ,ka⟩:=h5 a ha
     obtain⟨p',cI,q'',xn,kb⟩:=g5 b hb;have ka':=ka.step cw g2;have kb':=kb.from hi h2 (hp p' (Zpn _ cI)) (hq q'' xn)
     rw[ka'.e1,kb'.e1,Zpx,Zpx]at hx;exact bv.1 p' cI x ⟨hx.1.1,hx.2.1⟩
theorem ZiW{t:List VN}{s s':St}(hS:Step s s'){l r:Nat}{F G:Asg→Bool}{left right new:List (Nat × Nat)}(hL:Sp t s.nodes l r F left)(l9:Sp t s.nodes l r G right)
  (h1:∀o∈new,∃p∈left,∃q∈right,Zc0 s.nodes s'.nodes p q o) (h2:∀p∈left,∀q∈right,∀x,sem s.nodes p.1 x=true→sem s.nodes q.1 x=true→∃o∈new,sem s'.nodes o.1 x=true)
  (h3:right.Pairwise (Zey s.nodes)→left.Pairwise (Zey s.nodes)→new.Pairwise (Zey s'.nodes)):Sp t s'.nodes l r (fun x=>F x && G x) new:=by
 refine⟨fun o ho=>?_,fun o ho=>?_,fun o ho=>?_,fun o ho=>?_,h3 l9.disj hL.disj,fun x=>?_,fun o ho x hx=>?_⟩
 ·obtain⟨_,_,_,_,k⟩:=h1 o ho;exact⟨k.b1,k.b2⟩
 ·obtain⟨p,hp,q,hq,k⟩:=h1 o ho
  intro x y dH;rw[k.e1,k.e1,hL.pdep p hp x y dH,l9.pdep q hq x y dH]
 ·obtain⟨p,hp,q,hq,k⟩:=h1 o ho
  intro x y dH;rw[k.e2,k.e2,hL.sdep p hp x y dH,l9.sdep q hq x y dH]
 ·obtain⟨_,_,_,_,k⟩:=h1 o ho;exact k.ne
 ·obtain⟨p,hp,px⟩:=hL.cover x
  obtain⟨q,hq,qx⟩:=l9.cover x;exact h2 p hp q hq x px qx
 ·obtain⟨p,hp,q,hq,k⟩:=h1 o ho
  rw[k.e1,Zpx]at hx;rw[k.e2,hL.val p hp x hx.1,l9.val q hq x hx.2]
end Go.Proofs.YtmnjakejhbpkoaaGreatDoor.L
namespace Go.Proofs.YtmnjakejhbpkoaaGreatDoor.L
structure Mk (s:St) (done m:List (Nat × Nat)) (u:List Nat):Prop where
 nd:u.Nodup
 mem:∀z,z∈u↔∃p∈done,p.2=z
 some:∀z∈u,∃q,asc m z=some q∧q<s.nodes.length∧∀x,sem s.nodes q x=true↔∃p∈done,p.2=z∧sem s.nodes p.1 x=true
 none:∀z,z∉u→asc m z=none
 len:u.length≤done.length
theorem Zc9{t:List VN}{l r co:Nat}{of:St→Nat→Nat→Option (Nat × St)}(ho:OrM t l co of):∀(rest:List (Nat × Nat)) (s:St) (done m:List (Nat × Nat)) (u:List Nat),s.tree=t→Room s (rest.length*co) →
  (∀p∈done,ZbJ t s.nodes l r p)→(∀p∈rest,ZbJ t s.nodes l r p)→Mk s done m u →
  ∃s' m' u',Zcp of rest s m u=some (s',m',u')∧Step s s'∧big s'≤big s+rest.length*co∧Mk s' (done++rest) m' u'
 | [],s,done,m,u,_,hR,_,_,hM=>⟨s,m,u,rfl,Step.refl hR.inv,by omega,by rw[List.append_nil];exact hM⟩
 | p :: k,s,done,m,u,ht,hR,hd,hr,hM=>by
   have hc:(p :: k).length*co=co+k.length*co:=by rw[ZpC,Nat.succ_mul];omega
   rw[hc]at hR ⊢;have hi:=hR.inv;have hp:=hr p (Zpy ..);rw[show done++p :: k=(done++[p])++k by simp];rw[Zcp]
   have fV:∀z,(∃o∈done++[p],o.2=z)↔(∃o∈done,o.2=z)∨p.2=z:=fun z=>by
    constructor
    ·rintro⟨o,bS,e⟩
     rcases List.mem_append.1 bS with h|h
     ·exact .inl ⟨o,h,e⟩
     ·rw[List.mem_singleton]at h;subst h;exact .inr e
    ·rintro(⟨o,bS,e⟩|e)
     ·exact⟨o,List.mem_append_left _ bS,e⟩
     ·exact⟨p,by simp,e⟩
   have jR:∀(ns:List Zaf) z x,(∃o∈done++[p],o.2=z∧sem ns o.1 x=true)↔(∃o∈done,o.2=z∧sem ns o.1 x=true)∨(p.2=z∧sem ns p.1 x=true):=fun ns z x=>by
    constructor
    ·rintro⟨o,bS,e⟩
     rcases List.mem_append.1 bS with h|h
     ·exact .inl ⟨o,h,e⟩
     ·rw[List.mem_singleton]at h;subst h;exact .inr e
    ·rintro(⟨o,bS,e⟩|e)
     ·exact⟨o,List.mem_append_left _ bS,e⟩
     ·exact⟨p,by simp,e⟩
   by_cases hu:p.2∈u
   ·obtain⟨q,jm,db,qT⟩:=hM.some _ hu
    rw[jm];simp only
    have hqd:Dep (Bel t l) (sem s.nodes q):=fun x y dH=>by
     rw[Bool.eq_iff_iff,qT,qT]
     constructor
     ·rintro⟨o,bS,e1,e2⟩
      exact⟨o,bS,e1,by rw[←(hd o bS).d1 x y dH];exact e2⟩
     ·rintro⟨o,bS,e1,e2⟩
      exact⟨o,bS,e1,by rw[(hd o bS).d1 x y dH];exact e2⟩
    obtain⟨z,s1,h1,h2,h3,h4,h5⟩:=ho s q p.1 ht (hR.less (by omega)) db hp.b1 hqd hp.d1;rw[h1];simp only
    have gX:Mk s1 (done++[p]) ((p.2,z) :: m) u:=by
     refine⟨hM.nd,fun w=>?_,fun w hw=>?_,fun w hw=>?_,by rw[Zpo];have:=hM.len;omega⟩
     ·rw[fV,←hM.mem]
      refine⟨.inl,fun h=>h.elim id fun (e:p.2=w)=>by rw[←e];exact hu⟩
     ·rw[ZaS]
      by_cases e:w=p.2
      ·subst e
       refine⟨z,if_pos rfl,h3,fun x=>?_⟩;rw[h4,jR]
       show (sem s.nodes q x || sem s.nodes p.1 x)=true↔_
       rw[Bool.or_eq_true,qT,h2.sem hi hp.b1];refine or_congr ⟨?_,?_⟩ ⟨fun h=>⟨rfl,h⟩,fun h=>h.2⟩
       ·rintro⟨o,bS,e1,e2⟩;exact⟨o,bS,e1,by rw[h2.sem hi (hd o bS).b1];exact e2⟩
       ·rintro⟨o,bS,e1,e2⟩;exact⟨o,bS,e1,by rw[←h2.sem hi (hd o bS).b1];exact e2⟩
      ·obtain⟨q',k1,k2,k3⟩:=hM.some w hw
       refine⟨q',by rw[if_neg e];exact k1,by have:=h2.len;omega,fun x=>?_⟩;rw[jR,h2.sem hi k2,k3]
       constructor
       ·rintro⟨o,bS,e1,e2⟩;exact .inl ⟨o,bS,e1,by rw[h2.sem hi (hd o bS).b1];exact e2⟩
       ·rintro(⟨o,bS,e1,e2⟩|⟨e1,_⟩)
        ·exact⟨o,bS,e1,by rw[←h2.sem hi (hd o bS).b1];exact e2⟩
        ·exact absurd e1.symm e
     ·rw[ZaS,if_neg (fun e:w=p.2=>hw (by rw[e];exact hu))];exact hM.none w hw
    obtain⟨s',m',u',g1,g2,g3,g4⟩:=Zc9 (r:=r) ho k s1 (done++[p]) ((p.2,z) :: m) u (h2.tree.trans ht) (hR.next h2 h5 (ZpD _))
     (fun o bS=>(by
       rcases List.mem_append.1 bS with h|h
       ·exact hd o h
       ·rw[List.mem_singleton]at h;subst h;exact hp:ZbJ t s.nodes l r o).step hi h2) (fun o bS=>(hr o (Zpn _ bS)).step hi h2) gX
    exact⟨s',m',u',g1,h2.trans g2,by omega,g4⟩
   ·rw[hM.none _ hu]
    simp only
    have gX:Mk s (done++[p]) ((p.2,p.1) :: m) (u++[p.2]):=by
     refine⟨?_,fun w=>?_,fun w hw=>?_,fun w hw=>?_,by rw[Zpo,Zpo];have:=hM.len;simp only[List.length_singleton];omega⟩
     ·rw[List.nodup_append]
      refine⟨hM.nd,by simp,fun a ha b hb e=>?_⟩;rw[List.mem_singleton]at hb;subst hb;subst e;exact hu ha
     ·rw[fV,←hM.mem,List.mem_append,List.mem_singleton]
      exact⟨fun h=>h.imp id Eq.symm,fun h=>h.imp id Eq.symm⟩
     ·rw[ZaS]
      by_cases e:w=p.2
      ·subst e
       refine⟨p.1,if_pos rfl,hp.b1,fun x=>?_⟩;rw[jR];refine⟨fun h=>.inr ⟨rfl,h⟩,fun h=>h.elim (fun ⟨o,bS,e1,_⟩=>absurd ((hM.mem _).2 ⟨o,bS,e1⟩) hu) fun h=>h.2⟩
      ·rw[List.mem_append,List.mem_singleton]at hw
       obtain⟨q',k1,k2,k3⟩:=hM.some w (hw.resolve_right e);refine⟨q',by rw[if_neg e];exact k1,k2,fun x=>?_⟩;rw[jR,k3];exact⟨.inl,fun h=>h.elim id fun h=>absurd h.1.symm e⟩
     ·rw[List.mem_append,List.mem_singleton,not_or]at hw
      rw[ZaS,if_neg hw.2];exact hM.none w hw.1
    obtain⟨s',m',u',g1,g2,g3,g4⟩:=Zc9 (r:=r) ho k s (done++[p]) ((p.2,p.1) :: m) (u++[p.2]) ht (hR.less (by omega))
     (fun o bS=>by
       rcases List.mem_append.1 bS with h|h
       ·exact hd o h
       ·rw[List.mem_singleton]at h;subst h;exact hp) (fun o bS=>hr o (Zpn _ bS)) gX
    exact⟨s',m',u',g1,g2,by omega,g4⟩
theorem ZcI{α:Type}{R:α→α→Prop}(hs:∀a b,R a b→R b a):∀ {l:List α},l.Pairwise R→∀a∈l,∀b∈l,a≠b→R a b
 | [],_,a,ha,_,_,_=>by cases ha
 | c :: k,h,a,ha,b,hb,aH=>by
   rw[List.pairwise_cons]at h;rcases List.mem_cons.1 ha with rfl|j8
   ·rcases List.mem_cons.1 hb with rfl|dx
    ·exact absurd rfl aH
    ·exact h.1 b dx
   ·rcases List.mem_cons.1 hb with rfl|dx
    ·exact hs _ _ (h.1 a j8)
    ·exact ZcI hs h.2 a j8 b dx aH
theorem ZgI{m:List (Nat × Nat)}{z q:Nat}(h:asc m z=some q):Zdh m z=q:=by unfold Zdh;rw[h]
theorem Zms{t:List VN}{s:St}{l r:Nat}{F:Asg→Bool}{el m:List (Nat × Nat)}{u:List Nat}(h:Sp t s.nodes l r F el)(hM:Mk s el m u)(h2:2≤u.length)(hb:∃z∈u,2≤z) :
  ZaC t s.nodes l r (u.map fun x=>(Zdh m x,x))∧(∀p∈u.map (fun x=>(Zdh m x,x)),p.1<s.nodes.length∧p.2<s.nodes.length) ∧
   ∀x,((u.map fun x=>(Zdh m x,x)).any fun q=>sem s.nodes q.1 x && sem s.nodes q.2 x)=F x:=by
 have hq:∀z∈u,Zdh m z<s.nodes.length∧∀x,sem s.nodes (Zdh m z) x=true↔∃p∈el,p.2=z∧sem s.nodes p.1 x=true:=fun z hz=>by
  obtain⟨q,h1,h2,h3⟩:=hM.some z hz;rw[ZgI h1];exact⟨h2,h3⟩
 have cG:∀z∈u,∃p∈el,p.2=z:=fun z hz=>(hM.mem z).1 hz
 have hP:ZaC t s.nodes l r (u.map fun x=>(Zdh m x,x)):=by
  refine⟨fun p hp=>?_,fun p hp=>?_,fun p hp=>?_,?_,fun x=>?_,?_,?_,?_⟩
  ·obtain⟨z,hz,rfl⟩:=List.mem_map.1 hp
   intro x y dH
   show sem s.nodes (Zdh m z) x=sem s.nodes (Zdh m z) y
   rw[Bool.eq_iff_iff,(hq z hz).2,(hq z hz).2]
   constructor
   ·rintro⟨o,ho,e1,e2⟩;exact⟨o,ho,e1,by rw[←h.pdep o ho x y dH];exact e2⟩
   ·rintro⟨o,ho,e1,e2⟩;exact⟨o,ho,e1,by rw[h.pdep o ho x y dH];exact e2⟩
  ·obtain⟨z,hz,rfl⟩:=List.mem_map.1 hp
   obtain⟨o,ho,e⟩:=cG z hz;have:=h.sdep o ho;rw[e]at this;exact this
  ·obtain⟨z,hz,rfl⟩:=List.mem_map.1 hp
   obtain⟨o,ho,e⟩:=cG z hz;obtain⟨x,hx⟩:=h.pne o ho;exact⟨x,((hq z hz).2 x).2 ⟨o,ho,e,hx⟩⟩
  ·rw[List.pairwise_map]
   refine hM.nd.imp_of_mem fun {a b} ha hb bA x hx=>?_
   obtain⟨o,ho,e1,e2⟩:=((hq a ha).2 x).1 hx.1;obtain⟨o',bS,iX,jv⟩:=((hq b hb).2 x).1 hx.2;exact ZcI (R:=Zey s.nodes) (fun a b bA x hx=>bA x ⟨hx.2,hx.1⟩) h.disj o ho o' bS (fun e=>bA (by rw[←e1,←iX,e])) x ⟨e2,jv⟩
  ·obtain⟨o,ho,hx⟩:=h.cover x
   have hz:o.2∈u:=(hM.mem _).2 ⟨o,ho,rfl⟩;exact⟨_,List.mem_map.2 ⟨o.2,hz,rfl⟩,((hq _ hz).2 x).2 ⟨o,ho,rfl,hx⟩⟩
  ·rw[List.pairwise_map];exact hM.nd
  ·obtain⟨z,hz,h2⟩:=hb
   exact⟨_,List.mem_map.2 ⟨z,hz,rfl⟩,h2⟩
  ·rw[List.length_map];exact h2
 refine⟨hP,fun p hp=>?_,fun x=>?_⟩
 ·obtain⟨z,hz,rfl⟩:=List.mem_map.1 hp
  obtain⟨o,ho,e⟩:=cG z hz;have:=(h.ib o ho).2;exact⟨(hq z hz).1,by show z<_;omega⟩
 ·obtain⟨o,ho,hx⟩:=h.cover x
  have hz:o.2∈u:=(hM.mem _).2 ⟨o,ho,rfl⟩;have bn:=((hq _ hz).2 x).2 ⟨o,ho,rfl,hx⟩;rw[hP.at (List.mem_map.2 ⟨o.2,hz,rfl⟩) bn];exact h.val o ho x hx
theorem Zh5{u:List Nat}(hn:u.Nodup)(h:∀z∈u,z<2):u.length≤2:=Zeu u 2 hn h
theorem Zg4{t:List VN}{P:Nat}{y:VN}{l r:Nat}(hy:t[P]? =some y)(aI:Zaj y=false)(hl:y.left=l)(hr:y.right=r){co:Nat}{of:St→Nat→Nat→Option (Nat × St)}(ho:OrM t l co of)
  {s:St}(ht:s.tree=t) {F:Asg→Bool}{el:List (Nat × Nat)}(hR:Room s (el.length*co+if 5≤nv t P then 1 else 0)) (lv:Sp t s.nodes l r F el) (aL:el.length≤1048576) :
  Did s (el.length*co+if 5≤nv t P then 1 else 0) F (ZjG of s P el):=by
 have hi:=hR.inv
 obtain⟨s1,m,u,h1,h2,h3,hM⟩:=Zc9 (r:=r) ho el s [] [] [] ht (hR.less (by omega)) (fun _ h=>by cases h) (fun p hp=>⟨(lv.ib p hp).1,(lv.ib p hp).2,lv.pdep p hp,lv.sdep p hp⟩)
  ⟨List.nodup_nil,fun z=>⟨(fun h=>by cases h),(fun ⟨_,h,_⟩=>by cases h)⟩,(fun _ h=>by cases h),fun _ _=>rfl,ZpD _⟩
 rw[List.nil_append]at hM;have eh:=lv.step hi h2;have aU:Room s1 (if 5≤nv t P then 1 else 0):=hR.next h2 h3 (ZpD _);have cw:=h2.inv
 have gB:2≤u.length→(∃z∈u,2≤z)→Did s (el.length*co+if 5≤nv t P then 1 else 0) F (Zbn s1 P (u.map fun x=>(Zdh m x,x))):=fun hu hb=>by
  obtain⟨k1,k2,k3⟩:=Zms eh hM hu hb;have fZ:s1.tree=t:=h2.tree.trans ht;rw[←fZ]at k1 hy;obtain⟨c,s2,g1,g2,g3,g4,g5⟩:=ZeI aU hy aI hl hr k1 k2;rw[fZ]at g5;exact⟨c,s2,g1,h2.trans g2,g3,fun x=>by rw[g4,k3],by omega⟩
 unfold ZjG;rw[if_pos aL,h1];simp only
 have aH:u≠[]:=fun e=>by
  obtain⟨p,hp,_⟩:=lv.cover (fun _=>true);have:=(hM.mem p.2).2 ⟨p,hp,rfl⟩;rw[e]at this;cases this
 match u,hM,gB,aH with
 | [x],hM,_,_ =>
   simp only;obtain⟨p,hp,e⟩:=(hM.mem x).1 (by simp);refine⟨x,s1,rfl,h2,by have:=(eh.ib p hp).2;omega,fun z=>?_,by omega⟩;obtain⟨o,bS,hx⟩:=eh.cover z;have:o.2∈[x]:=(hM.mem o.2).2 ⟨o,bS,rfl⟩;rw[List.mem_singleton]at this;have:=eh.val o bS z hx;rw[←this];congr 1;omega
 | [x,w],hM,gB,_ =>
   simp only
   by_cases hs:x<2∧w<2
   ·rw[if_pos hs]
    have gU:=hM.nd;rw[List.nodup_cons,List.mem_singleton]at gU
    have h1u:1∈[x,w]:=by
     have:x=1∨w=1:=by omega
     rcases this with rfl|rfl <;> simp
    obtain⟨q,g1,g2,g3⟩:=hM.some 1 h1u;rw[ZgI g1];refine⟨q,s1,rfl,h2,g2,fun z=>?_,by omega⟩;obtain⟨o,bS,hx⟩:=eh.cover z;have hv:=eh.val o bS z hx;have hu:o.2∈[x,w]:=(hM.mem o.2).2 ⟨o,bS,rfl⟩;have:o.2=0∨o.2=1:=by simp at hu;omega
    rcases this with e|e
    ·rw[e,cw.sem0]at hv
     rw[←hv]
     cases hq:sem s1.nodes q z
     ·rfl
     ·obtain⟨o',x7,e',bn⟩:=(g3 z).1 hq
      have:=ZcI (R:=Zey s1.nodes) (fun a b bA x hx=>bA x ⟨hx.2,hx.1⟩) eh.disj o bS o' x7 (fun ee=>by rw[ee]at e;omega) z;exact absurd ⟨hx,bn⟩ this
    ·rw[e,cw.sem1]at hv
     rw[←hv];exact(g3 z).2 ⟨o,bS,e,hx⟩
   ·rw[if_neg hs]
    have o4:∃z∈[x,w],2≤z:=by
     by_cases e:x<2
     ·exact⟨w,by simp,by omega⟩
     ·exact⟨x,by simp,by omega⟩
    exact gB (by simp) o4
 | x :: w ::v :: k,hM,gB,_ =>
   simp only;refine gB (by simp) ?_
   apply ZpB
   intro bJ
   have:=Zh5 hM.nd (fun z hz=>by
    apply ZpB
    intro bE;exact bJ ⟨z,hz,by omega⟩)
   simp at this
theorem or_spec{t:List VN}{v c d:Nat}{nf:St→Nat→Option (Nat × St)}{af:St→Nat→Nat→Option (Nat × St)}(hn:ZnW t v c nf)(ha:Zir t v d af):OrM t v (3*c+d) (orF nf af):=by
 intro s a b ht hR eQ iP cU cQ;have hi:=hR.inv;obtain⟨x,s1,h1,h2,h3,h4,h5⟩:=hn s a ht (hR.less (by omega)) eQ cU;have aS:=h2.sem hi iP;obtain⟨y,s2,g1,g2,g3,g4,g5⟩:=hn s1 b (h2.tree.trans ht) (hR.next h2 h5 (m:=c) (by omega)) (by have:=h2.len;omega) (by rw[aS];exact cQ);have aF:=g2.sem h2.inv h3;have bg:=h2.trans g2;have hx:∀z,sem s2.nodes x z= !sem s.nodes a z:=fun z=>by rw[aF];exact h4 z
 have hy:∀z,sem s2.nodes y z= !sem s.nodes b z:=fun z=>by rw[g4];show (!_)=_;rw[aS]
 obtain⟨w,s3,k1,k2,k3,k4,k5⟩:=ha s2 x y (bg.tree.trans ht) (hR.next bg (c:=2*c) (m:=d) (by omega) (by omega)) (by have:=g2.len;omega) g3
  (fun p q et=>by rw[hx,hx,cU p q et]) (fun p q et=>by rw[hy,hy,cQ p q et])
 have hw:∀z,sem s3.nodes w z=(!sem s.nodes a z && !sem s.nodes b z):=fun z=>by rw[k4];show (sem s2.nodes x z && sem s2.nodes y z)=_;rw[hx,hy]
 have iY:=bg.trans k2
 obtain⟨e,s4,m1,m2,m3,m4,m5⟩:=hn s3 w (iY.tree.trans ht) (hR.next iY (c:=2*c+d) (m:=c) (by omega) (by omega)) k3
  (fun p q et=>by rw[hw,hw,cU p q et,cQ p q et])
 refine⟨e,s4,?_,iY.trans m2,m3,fun z=>?_,by omega⟩
 ·unfold orF
  rw[h1];simp only;rw[g1];simp only;rw[k1];simp only;exact m1
 ·rw[m4]
  show (!sem s3.nodes w z)=(sem s.nodes a z || sem s.nodes b z)
  rw[hw]
  cases sem s.nodes a z <;> cases sem s.nodes b z <;> rfl
end Go.Proofs.YtmnjakejhbpkoaaGreatDoor.L
namespace Go.Proofs.YtmnjakejhbpkoaaGreatDoor.L
theorem Zf0{nl nr e1 e2 n:Nat}(h1:1≤nl)(h2:1≤nr)(h6:nl+nr≤6)(a1:e1≤2 ^ nl)(a2:e1≤2 ^ (2 ^ nr))(b1:e2≤2 ^ nl)(b2:e2≤2 ^ (2 ^ nr))(hn:n≤e1*e2) :
  cn (nl+nr)+(cn nl+cn nl)+e1*(e2*(ca nl+ca nr))+(n*(3*cn nl+ca nl)+if 5≤nl+nr then 1 else 0)≤ca (nl+nr):=by
 by_cases hl5:nl=5
 ·have iE:nr=1:=by omega
  subst hl5;subst iE;have iX:e1≤4:=a2;have jv:e2≤4:=b2;have hm:e1*e2≤4*4:=Nat.mul_le_mul iX jv;have:e1*(e2*(ca 5+ca 1))=e1*e2*2:=by rw[Nat.mul_assoc];rfl
  rw[this,show cn (5+1)=3 from rfl,show cn 5=1 from rfl,show ca 5=2 from rfl,show ca (5+1)=118 from rfl,if_pos (by omega)];omega
 ·have c1:cn nl=0:=by unfold cn;rw[if_pos (by omega)]
  have c2:ca nl=0:=by unfold ca;rw[if_pos (by omega)]
  rw[c1,c2]
  by_cases eT:nr=5
  ·have fJ:nl=1:=by omega
   subst eT;subst fJ;have hm:e1*e2≤2*2:=Nat.mul_le_mul a1 b1;have:e1*(e2*(0+ca 5))=e1*e2*2:=by rw[Nat.mul_assoc];rfl
   rw[this,show cn (1+5)=3 from rfl,show ca (1+5)=118 from rfl,if_pos (by omega)];omega
  ·have c3:ca nr=0:=by unfold ca;rw[if_pos (by omega)]
   rw[c3];simp only[Nat.add_zero,Nat.mul_zero,Nat.zero_add];unfold cn ca
   split <;> split <;> (try split) <;> omega
def Znc (s:St)(a b c:Nat):St:={ s with ands:=((a,b),c) :: s.ands }
theorem Inv.ands_add{s:St}(h:Inv s){a b c:Nat}(ha:a<s.nodes.length)(hb:b<s.nodes.length)(hc:c<s.nodes.length)(e:∀x,sem s.nodes c x=(sem s.nodes a x && sem s.nodes b x)):Inv (Znc s a b c) :=
 ⟨h.tree,h.zero,h.one,h.ok,h.min,h.uq1,h.uq2,fun x y z dH=>by
   have gN:(if (x,y)=(a,b) then some c else asc s.ands (x,y))=some z:=dH
   show x<s.nodes.length∧y<s.nodes.length∧z<s.nodes.length∧∀w,sem s.nodes z w=(sem s.nodes x w && sem s.nodes y w)
   split at gN
   ·rename_i e'
    cases gN;cases e';exact⟨ha,hb,hc,e⟩
   ·exact h.ands x y z gN,h.nots⟩
theorem Sp.pairs{t:List VN}{ns:List Zaf}{l r:Nat}{F:Asg→Bool}{el:List (Nat × Nat)}(h:Sp t ns l r F el):∀p∈el,ZbJ t ns l r p:=fun p hp=>⟨(h.ib p hp).1,(h.ib p hp).2,h.pdep p hp,h.sdep p hp⟩
theorem ZhE{t:List VN}(hc:Zad t=0)(aY:t.length≤11){P:Nat}{y:VN}{l r:Nat}(hy:t[P]? =some y)(aI:Zaj y=false)(hl:y.left=l)(hr:y.right=r){nf:St→Nat→Option (Nat × St)}{af:St→Nat→Nat→Option (Nat × St)}
  (iS:ZnW t l (cn (nv t l)) nf) (eQ:Zir t l (ca (nv t l)) af) (wO:Zir t r (ca (nv t r)) af) {s:St}(ht:s.tree=t) {a b c0:Nat}(hR:Room s c0) (gk:c0+cn (nv t P)=ca (nv t P)) (gY:2≤a) (aP:2≤b) (ha:a<s.nodes.length) (hb:b<s.nodes.length)
  (cU:Dep (Bel t P) (sem s.nodes a)) (cQ:Dep (Bel t P) (sem s.nodes b)) (hm:Zej s (Zdr s a) (Zdr s b)=some P) :
  Did s c0 (fun x=>sem s.nodes a x && sem s.nodes b x) (ZeA nf af s a b):=by
 have hi:=hR.inv;have hP:P<t.length:=(Zpj hy).1;obtain⟨l',r',b1,b2,b3,b4,b5,b6,b7⟩:=inner_ok hc hy aI;obtain rfl:l'=l:=by omega
 obtain rfl:r'=r:=by omega
 have iT:=nv_inner hc hy aI hl hr;have ju:=nv_pos hc l' (by omega);have kS:=nv_pos hc r' (by omega);have nP:=nv_le hc hP;unfold ZeA;rw[hm];simp only
 have aw:cn (nv t l')+cn (nv t l')≤c0:=by
  have:=Zf0 (e1:=0) (e2:=0) (n:=0) ju kS (by omega) (Nat.zero_le _) (Nat.zero_le _) (Nat.zero_le _) (Nat.zero_le _) (Nat.zero_le _);rw[←iT]at this;omega
 obtain⟨right,s1,h1,h2,h3,h4,h5,h6⟩:=Zck hc hy aI hl hr iS ht (hR.less (by omega)) aP hb cQ;rw[h1];simp only;have gQ:=h2.sem hi ha;obtain⟨left,s2,g1,g2,g3,g4,g5,g6⟩:=Zck hc hy aI hl hr iS (h2.tree.trans ht) (hR.next h2 h3 (m:=cn (nv t l')) (by omega)) gY (by have:=h2.len;omega) (by rw[gQ];exact cU);rw[g1];simp only;have bg:=h2.trans g2;have nz:=h4.step h2.inv g2;rw[gQ]at g4;have ie:=Zf0 (e1:=left.length) (e2:=right.length) (n:=left.length*right.length) ju kS (by omega) g5 g6 h5 h6 (ZpD _);rw[←iT]at ie;obtain⟨new,s3,k1,k2,k3,k4,k5,k6,k7⟩:=ZfZ eQ wO right left s2 [] (bg.tree.trans ht) (hR.next bg (c:=cn (nv t l')+cn (nv t l')) (by omega) (by omega)) g4.pairs nz.pairs;rw[k1];simp only;rw[List.nil_append];have iY:=bg.trans k2;have lv:=ZiW k2 g4 nz k5 k6 k7;have ig:=Zf0 (e1:=left.length) (e2:=right.length) (n:=new.length) ju kS (by omega) g5 g6 h5 h6 k4;rw[←iT]at ig
 have aL:new.length≤1048576:=by
  have e1:left.length≤2 ^ 6:=Zpp g5 (Nat.pow_le_pow_right (by omega) (by omega));have e2:right.length≤2 ^ 6:=Zpp h5 (Nat.pow_le_pow_right (by omega) (by omega));have e3:=Nat.mul_le_mul e1 e2;have e4:(2:Nat) ^ 6*2 ^ 6=4096:=rfl;omega
 obtain⟨c,s4,m1,m2,m3,m4,m5⟩:=Zg4 hy aI hl hr (or_spec iS eQ) (iY.tree.trans ht) (hR.next iY (c:=cn (nv t l')+cn (nv t l')+left.length*(right.length*(ca (nv t l')+ca (nv t r')))) (by omega) (by omega)) lv aL;rw[m1];simp only;have jY:=iY.trans m2;have xL:=jY.len;have sa:=jY.sem hi ha;have sb:=jY.sem hi hb;refine⟨c,Znc s4 a b c,rfl,⟨jY.inv.ands_add (by omega) (by omega) m3 (fun x=>by rw[m4,sa,sb]),jY.tree,jY.ext⟩,m3,m4,?_⟩
 show big s4≤_
 omega
theorem ZeB{t:List VN}(hc:Zad t=0)(aY:t.length≤11){v:Nat}(hv:v<t.length){f:Nat}(hf:v+2≤f)(ih:∀m,m<v→m<t.length→Zir t m (ca (nv t m)) (ZhD f))
  {s:St}(ht:s.tree=t) (hR:Room s (ca (nv t v))) {a b:Nat}(bA:a≤b) (hb:b<s.nodes.length) (cU:Dep (Bel t v) (sem s.nodes a)) (cQ:Dep (Bel t v) (sem s.nodes b)) :
  Did s (ca (nv t v)) (fun x=>sem s.nodes a x && sem s.nodes b x) (ZdZ (Zlb f) (ZhD f) s a b):=by
 have hi:=hR.inv;have ha:a<s.nodes.length:=by omega
 unfold ZdZ
 by_cases h0:a=0∨a=b
 ·rw[if_pos h0]
  refine⟨a,s,rfl,Step.refl hi,ha,fun x=>?_,by omega⟩;rcases h0 with rfl|rfl
  ·show sem s.nodes 0 x=(sem s.nodes 0 x && sem s.nodes b x)
   rw[hi.sem0];rfl
  ·show sem s.nodes a x=(sem s.nodes a x && sem s.nodes a x)
   rw[Bool.and_self]
 rw[if_neg h0]
 by_cases h1:a=1
 ·rw[if_pos h1]
  subst h1;exact⟨b,s,rfl,Step.refl hi,hb,fun x=>by show sem s.nodes b x=(sem s.nodes 1 x && sem s.nodes b x);rw[hi.sem1,Bool.true_and],by omega⟩
 rw[if_neg h1];have gY:2≤a:=by omega
 have aP:2≤b:=by omega
 have bY:s.nodes[a]? =some s.nodes[a]:=Zpl ha;have fD:s.nodes[b]? =some s.nodes[b]:=Zpl hb;subst ht;obtain⟨Pa,ea,la,ua⟩:=hi.at_und gY bY cU;obtain⟨Pb,eb,lb,ub⟩:=hi.at_und aP fD cQ;obtain⟨m1,m2,m3⟩:=Ze1 hc la lb;have mY:=m3 v ua ub;generalize vZ:ZcG s.tree Pa Pb=M at m1 m2 m3 mY;have hM:M<s.tree.length:=mY.lt hv;have hMv:=mY.le hc;have pG:=mY.nv_le hc
 have si:Dep (Bel s.tree M) (sem s.nodes a):=by
  obtain⟨P',f1,_,f3⟩:=hi.place gY bY;have:P'=Pa:=by omega
  subst this;exact f3.mono fun x hx=>hx.up m1
 have dF:Dep (Bel s.tree M) (sem s.nodes b):=by
  obtain⟨P',f1,_,f3⟩:=hi.place aP fD;have:P'=Pb:=by omega
  subst this;exact f3.mono fun x hx=>hx.up m2
 have wY:cn (nv s.tree M)≤ca (nv s.tree M):=by unfold cn ca;split <;> (try split) <;> omega
 have mO:=Zng pG;obtain⟨na,s1,g1,g2,g3,g4,g5⟩:=not_spec hc aY M hM f (by omega) s a rfl (hR.less (by omega)) ha si;rw[g1];simp only;have cw:=g2.inv;have fJ:=g2.len;have sa:=g2.sem hi ha;have sb:=g2.sem hi hb
 by_cases aH:na=b
 ·rw[if_pos aH]
  refine⟨0,s1,rfl,g2,by omega,fun x=>?_,by omega⟩;rw[cw.sem0];have h7:=g4 x;rw[aH,sb]at h7
  show false=(sem s.nodes a x && sem s.nodes b x)
  rw[h7]
  show false=(sem s.nodes a x && !sem s.nodes a x)
  cases sem s.nodes a x <;> rfl
 rw[if_neg aH]
 cases hands:asc s1.ands (a,b) with
 | some c =>
   obtain⟨_,_,k3,k4⟩:=cw.ands a b c hands;exact⟨c,s1,rfl,g2,k3,fun x=>by rw[k4,sa,sb],by omega⟩
 | none =>
   simp only;have hy:s.tree[M]? =some s.tree[M]:=Zpl hM;generalize s.tree[M]=y at hy
   cases aI:Zaj y
   ·obtain⟨l,r,b1,b2,b3,b4,b5,_⟩:=inner_ok hc hy aI
    have aU:Room s1 (ca (nv s.tree M) - cn (nv s.tree M)):=(hR.less mO).next g2 g5 (by omega)
    have kt:∀ {i:Nat},i<s.nodes.length→s1.nodes[i]? =s.nodes[i]?:=fun kO=>by
     obtain⟨m,hm⟩:=g2.ext;rw[hm,List.getElem?_append_left kO]
    have pla:Zdr s1 a=(Pa:Int):=by unfold Zdr;rw[kt ha,bY];exact ea
    have plb:Zdr s1 b=(Pb:Int):=by unfold Zdr;rw[kt hb,fD];exact eb
    have fC:Zej s1 (Zdr s1 a) (Zdr s1 b)=some M:=by
     rw[pla,plb,Zbo (by rw[g2.tree];exact hc) (by rw[g2.tree];exact la) (by rw[g2.tree];exact lb),g2.tree,vZ]
    have iS:=not_spec hc aY l (by omega) f (by omega);obtain⟨c,s',k1,k2,k3,k4,k5⟩:=ZhE hc aY hy aI b1 b2 iS (ih l (by omega) (by omega)) (ih r (by omega) (by omega)) g2.tree aU (by omega) gY aP (by omega) (by omega) (by rw[sa];exact si) (by rw[sb];exact dF) fC;exact⟨c,s',k1,g2.trans k2,k3,fun x=>by rw[k4,sa,sb],by omega⟩
   ·-- both lie at one leaf: then they are equal,or each other's negation
    exfalso
    have qa:=m1.leaf hc hy aI;have qb:=m2.leaf hc hy aI
    have lit:∀i,2≤i→(fl:i<s.nodes.length)→(s.nodes[i]).pl=(M:Int)→Zde s.tree s.nodes[i]:=fun i h2 fl bv=>by
     rcases hi.ok i _ h2 (Zpl fl) with hl|hk
     ·exact hl
     ·obtain⟨P',y',_,_,e1,e2,e3,_⟩:=hk.parts
      have:P'=M:=by omega
      subst this;rw[hy]at e2;cases e2;rw[aI]at e3;cases e3
    have pq:=lit a gY ha (by omega);have pt:=lit b aP hb (by omega);obtain⟨u1,z1,c1,c2,c3,c4⟩:=pq.leaf;obtain⟨u2,z2,d1,d2,d3,d4⟩:=pt.leaf;have:u1=u2:=by omega
    subst this;rw[c2]at d2;cases d2;have fI:(s.nodes[a]).lit.natAbs=(s.nodes[b]).lit.natAbs:=by omega
    by_cases lK:decide (0<(s.nodes[a]).lit)=decide (0<(s.nodes[b]).lit)
    ·exact h0 (.inr (hi.canon ha hb (funext fun x=>by rw[hi.semLit bY pq,hi.semLit fD pt,fI,lK])))
    ·refine aH (cw.canon g3 (by omega) (funext fun x=>?_))
     rw[g4,sb]
     show (!sem s.nodes a x)=_
     rw[hi.semLit bY pq,hi.semLit fD pt,fI]
     revert lK
     cases decide (0<(s.nodes[a]).lit) <;> cases decide (0<(s.nodes[b]).lit) <;> cases x ((s.nodes[b]).lit.natAbs:Int) <;> simp
theorem and_spec{t:List VN}(hc:Zad t=0)(aY:t.length≤11):∀v,v<t.length→∀f,v+3≤f→Zir t v (ca (nv t v)) (ZhD f):=by
 intro v
 induction v using Nat.strongRecOn with
 | ind v ih =>
   intro hv f hf s a b ht hR ha hb cU cQ;obtain⟨f,rfl⟩:∃g,f=g+1:=⟨f - 1,by omega⟩;rw[ZhD];have tV:∀m,m<v→m<t.length→Zir t m (ca (nv t m)) (ZhD f):=fun m h1 h2=>ih m h1 h2 f (by omega)
   split
   ·have:=ZeB hc aY hv (f:=f) (by omega) tV ht hR (a:=b) (b:=a) (by omega) ha cQ cU
    rw[show (fun x=>sem s.nodes a x && sem s.nodes b x)=fun x=>sem s.nodes b x && sem s.nodes a x from funext fun x=>Bool.and_comm ..];exact this
   ·exact ZeB hc aY hv (f:=f) (by omega) tV ht hR (by omega) hb cU cQ
end Go.Proofs.YtmnjakejhbpkoaaGreatDoor.L
