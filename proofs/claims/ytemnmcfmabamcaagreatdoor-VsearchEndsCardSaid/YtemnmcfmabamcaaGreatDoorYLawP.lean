import Derived.Test.YtemnmcfmabamcaaGreatDoorYLaw3
set_option linter.unusedSimpArgs false
set_option linter.unusedVariables false
set_option maxRecDepth 100000
section
namespace Go.Proofs.YtemnmcfmabamcaaGreatDoor.L
inductive Tr where
 | leaf (v:Int):Tr
 | node (l r:Tr):Tr
def Tr.size:Tr→Nat
 | .leaf _=>1
 | .node l r=>l.size+r.size+1
def Tr.vars:Tr→List Int
 | .leaf v=>[v]
 | .node l r=>l.vars++r.vars
def Tr.post:Tr→Nat→List VN
 | .leaf v,_=>[⟨-1,-1,v⟩]
 | .node l r,k=>l.post k++(r.post (k+l.size)++[⟨((k+l.size - 1:Nat):Int),((k+l.size+r.size - 1:Nat):Int),0⟩])
theorem Tr.pos:∀T:Tr,0<T.size
 | .leaf _=>by simp[Tr.size]
 | .node l r=>by simp[Tr.size]
theorem Tr.post_len:∀(T:Tr) (k:Nat),(T.post k).length=T.size
 | .leaf _,_=>rfl
 | .node l r,k=>by simp[Tr.post,Tr.size,Tr.post_len l,Tr.post_len r];omega
theorem Tr.size_vars:∀T:Tr,T.size+1=2*T.vars.length
 | .leaf _=>rfl
 | .node l r=>by
   have:=l.size_vars;have:=r.size_vars;simp[Tr.size,Tr.vars];omega
def idc:Nat→VN→VN:=fun _ x=>x
inductive IsT (chg:Nat→VN→VN) (t:List VN):Nat→Tr→Prop
 | leaf {i:Nat}{y:VN}:t[i]? =some y→Zai y=true→IsT chg t i (.leaf y.var)
 | node {i a b:Nat}{y:VN}{l r:Tr}:t[i]? =some y→Zai y=false→(chg i y).left=a→(chg i y).right=b→IsT chg t a l→IsT chg t b r→IsT chg t i (.node l r)
theorem isT_exists{t:List VN}(hc:Zae t=0):∀n i,i<n→i<t.length→∃T,IsT idc t i T
 | 0,i,h,_=>by omega
 | n+1,i,h,hi=>by
   have hx:t[i]? =some t[i]:=Zry hi
   cases hl:Zai t[i]
   ·obtain⟨a,b,e1,e2,h1,h2,_⟩:=inner_ok hc hx hl
    obtain⟨l,eK⟩:=isT_exists hc n a (by omega) (by omega);obtain⟨r,rV⟩:=isT_exists hc n b (by omega) (by omega);exact⟨_,.node hx hl e1 e2 eK rV⟩
   ·exact⟨_,.leaf hx hl⟩
theorem isT_inner{t:List VN}(hc:Zae t=0){i a b:Nat}{y:VN}(hy:t[i]? =some y)(hl:Zai y=false)(ha:y.left=a)(hb:y.right=b):a<i∧b<i∧a≠b∧pa t a=i∧pa t b=i:=by
 obtain⟨a',b',e1,e2,h⟩:=inner_ok hc hy hl;obtain rfl:a'=a:=by omega
 obtain rfl:b'=b:=by omega
 exact h
theorem IsT.mem{t:List VN}(hc:Zae t=0){i:Nat}{T:Tr}(h:IsT idc t i T):∀v,v∈T.vars↔Bel t i v:=by
 induction h with
 | leaf h1 h2=>intro v;rw[Bel.leaf hc h1 h2];simp[Tr.vars]
 | node h1 h2 h3 h4 _ _ ih1 ih2=>intro v;rw[Bel.kids hc h1 h2 h3 h4,←ih1,←ih2];simp[Tr.vars]
theorem IsT.nodup{t:List VN}(hc:Zae t=0){i:Nat}{T:Tr}(h:IsT idc t i T):T.vars.Nodup:=by
 induction h with
 | leaf h1 h2=>simp[Tr.vars]
 | node h1 h2 h3 h4 g1 g2 ih1 ih2 =>
   rw[Tr.vars,List.nodup_append];refine⟨ih1,ih2,fun a ha b hb e=>?_⟩;subst e;exact Bel.apart hc h1 h2 h3 h4 ((g1.mem hc _).1 ha) ((g2.mem hc _).1 hb)
theorem IsT.range{t:List VN}(hc:Zae t=0){i:Nat}{T:Tr}(h:IsT idc t i T):∀v∈T.vars,1≤v∧v≤128:=fun v hv=>((h.mem hc v).1 hv).range
theorem IsT.lt{chg:Nat→VN→VN}{t:List VN}{i:Nat}{T:Tr}(h:IsT chg t i T):i<t.length:=by
 cases h with
 | leaf h1 _=>exact(Zrw h1).1
 | node h1 _ _ _ _ _=>exact(Zrw h1).1
theorem IsT.uniq{chg:Nat→VN→VN}{t:List VN}{i:Nat}{T:Tr}(h:IsT chg t i T):∀ {U:Tr},IsT chg t i U→T=U:=by
 induction h with
 | leaf h1 h2 =>
   intro U hU
   cases hU with
   | leaf g1 g2=>rw[h1]at g1;cases g1;rfl
   | node g1 g2 _ _ _ _=>rw[h1]at g1;cases g1;rw[h2]at g2;cases g2
 | node h1 h2 h3 h4 _ _ ih1 ih2 =>
   intro U hU
   cases hU with
   | leaf g1 g2=>rw[h1]at g1;cases g1;rw[h2]at g2;cases g2
   | node g1 g2 g3 g4 g5 g6 =>
     rw[h1]at g1;cases g1;have e1:=h3.symm.trans g3;have e2:=h4.symm.trans g4;have e1:=Int.ofNat.inj e1;have e2:=Int.ofNat.inj e2;subst e1 e2;rw[ih1 g5,ih2 g6]
theorem ZeB:∀(a b:List VN) (i:Nat) (sc:(Nat→Bool) × (Nat→Bool)),Zca (a++b) i sc=(Zca a i sc).bind fun sc'=>Zca b (i+a.length) sc'
 | [],b,i,sc=>by simp[Zca]
 | x :: a,b,i,sc=>by
   simp only[List.cons_append,Zca]
   cases hs:Zcc i x sc with
   | none=>rfl
   | some sc' =>
     simp only[ZeB a b (i+1) sc',ZrP];rw[show i+1+a.length=i+(a.length+1) by omega]
theorem Zl6{v:Int}(h:1≤v∧v≤128):Zai ⟨-1,-1,v⟩=true:=by simp[Zai,h]
theorem Zd1(a b:Nat):Zai ⟨(a:Int),(b:Int),0⟩=false:=by simp[Zai]
theorem Zhc:∀(T:Tr) (k:Nat) (sn ch:Nat→Bool),T.vars.Nodup→(∀v∈T.vars,1≤v∧v≤128)→(∀v∈T.vars,sn v.toNat=false)→(∀j,k≤j→ch j=false) →
  ∃sn' sI,Zca (T.post k) k (sn,ch)=some (sn',sI)∧(∀n,sn' n=true↔sn n=true∨∃v∈T.vars,v.toNat=n)∧(∀j,sI j=true↔ch j=true∨(k≤j∧j+1<k+T.size))
 | .leaf v,k,sn,ch,_,hr,hs,hk=>by
   have hv:=hs v (by simp[Tr.vars]);have iw:=hr v (by simp[Tr.vars]);refine⟨Zbr sn v.toNat,ch,?_,fun n=>?_,fun j=>?_⟩
   ·simp[Tr.post,Zca,Zcc,Zl6 iw,hv]
   ·rw[Zdd];simp[Tr.vars];constructor <;> rintro(h|h) <;> simp_all
   ·simp only[Tr.size];constructor
    ·exact .inl
    ·rintro(h|h)
     ·exact h
     ·omega
 | .node l r,k,sn,ch,hn,hr,hs,hk=>by
   rw[Tr.vars,List.nodup_append]at hn;obtain⟨n1,n2,n3⟩:=hn;have rl:∀v∈l.vars,1≤v∧v≤128:=fun v hv=>hr v (by simp[Tr.vars,hv])
   have rr:∀v∈r.vars,1≤v∧v≤128:=fun v hv=>hr v (by simp[Tr.vars,hv])
   obtain⟨s1,c1,e1,q1,p1⟩:=Zhc l k sn ch n1 rl (fun v hv=>hs v (by simp[Tr.vars,hv])) hk
   obtain⟨s2,c2,e2,q2,p2⟩:=Zhc r (k+l.size) s1 c1 n2 rr (fun v hv=>by
    cases hh:s1 v.toNat
    ·rfl
    ·rcases (q1 _).1 hh with h|⟨u,hu,e⟩
     ·rw[hs v (by simp[Tr.vars,hv])]at h;cases h
     ·have:=rl u hu
      have:=rr v hv;exact absurd (show u=v by omega) (n3 u hu v hv)) (fun j hj=>by
    cases hh:c1 j
    ·rfl
    ·rcases (p1 _).1 hh with h|h
     ·rw[hk j (by omega)]at h;cases h
     ·omega)
   have eM:=l.pos;have hr0:=r.pos
   have wF:c2 (k+l.size - 1)=false:=by
    cases hh:c2 (k+l.size - 1)
    ·rfl
    ·rcases (p2 _).1 hh with h|h
     ·rcases (p1 _).1 h with h|h
      ·rw[hk _ (by omega)]at h;cases h
      ·omega
     ·omega
   have jX:c2 (k+l.size+r.size - 1)=false:=by
    cases hh:c2 (k+l.size+r.size - 1)
    ·rfl
    ·rcases (p2 _).1 hh with h|h
     ·rcases (p1 _).1 h with h|h
      ·rw[hk _ (by omega)]at h;cases h
      ·omega
     ·omega
   refine⟨s2,Zbr (Zbr c2 (k+l.size - 1)) (k+l.size+r.size - 1),?_,fun n=>?_,fun j=>?_⟩
   ·rw[Tr.post,ZeB,e1]
    simp only[Option.bind_some,Tr.post_len];rw[ZeB,e2];simp only[Option.bind_some,Tr.post_len,Zca,Zcc,Zd1]
    have k1:Ze7 (k+l.size+r.size) ((k+l.size - 1:Nat):Int) c2=some (Zbr c2 (k+l.size - 1)):=by
     unfold Ze7;rw[Int.toNat_natCast,wF,if_neg (by simp;omega)]
    have k2:Ze7 (k+l.size+r.size) ((k+l.size+r.size - 1:Nat):Int) (Zbr c2 (k+l.size - 1))=some (Zbr (Zbr c2 (k+l.size - 1)) (k+l.size+r.size - 1)):=by
     unfold Ze7
     have:Zbr c2 (k+l.size - 1) (k+l.size+r.size - 1)=false:=by
      unfold Zbr;rw[if_neg (by omega)];exact jX
     rw[Int.toNat_natCast,this,if_neg (by simp;omega)]
    rw[if_neg (by simp),if_neg (by simp),k1];simp only[k2]
   ·rw[q2,q1]
    simp only[Tr.vars,List.mem_append]
    constructor
    ·rintro((h|⟨v,h,e⟩)|⟨v,h,e⟩)
     ·exact .inl h
     ·exact .inr ⟨v,.inl h,e⟩
     ·exact .inr ⟨v,.inr h,e⟩
    ·rintro(h|⟨v,h|h,e⟩)
     ·exact .inl (.inl h)
     ·exact .inl (.inr ⟨v,h,e⟩)
     ·exact .inr ⟨v,h,e⟩
   ·rw[Zdd,Zdd,p2,p1]
    simp only[Tr.size]
    constructor
    ·rintro(h|h|(h|h)|h)
     ·right;omega
     ·right;omega
     ·exact .inl h
     ·right;omega
     ·right;omega
    ·rintro(h|h)
     ·exact .inr (.inr (.inl (.inl h)))
     ·by_cases e1:j=k+l.size+r.size - 1
      ·exact .inl e1
      ·by_cases e2:j=k+l.size - 1
       ·exact .inr (.inl e2)
       ·by_cases e3:j+1<k+l.size
        ·exact .inr (.inr (.inl (.inr ⟨h.1,e3⟩)))
        ·exact .inr (.inr (.inr ⟨by omega,by omega⟩))
theorem post_check{T:Tr}(hn:T.vars.Nodup)(hr:∀v∈T.vars,1≤v∧v≤128)(hs:T.size≤255):Zae (T.post 0)=0:=by
 obtain⟨sn,ch,e,_,p⟩:=Zhc T 0 (fun _=>false) (fun _=>false) hn hr (fun _ _=>rfl) (fun _ _=>rfl);have hp:=T.pos;unfold Zae;rw[Tr.post_len,if_neg (by omega),e]
 show (if (List.range (T.size - 1)).all ch=true then (0:Int) else 1)=0
 rw[if_pos];rw[List.all_eq_true];intro j hj;have:=List.mem_range.1 hj;exact(p j).2 (.inr ⟨by omega,by omega⟩)
theorem Zg0:∀(T:Tr) (k:Nat) (t pre suf:List VN),(∀v∈T.vars,1≤v∧v≤128)→t=pre++(T.post k++suf)→pre.length=k→IsT idc t (k+T.size - 1) T
 | .leaf v,k,t,pre,suf,hr,ht,hk=>by
   have:t[k]? =some ⟨-1,-1,v⟩:=by
    rw[ht,List.getElem?_append_right (by omega)];simp[Tr.post,hk]
   exact .leaf (y:=⟨-1,-1,v⟩) (by simpa [Tr.size] using this) (Zl6 (hr v (by simp[Tr.vars])))
 | .node l r,k,t,pre,suf,hr,ht,hk=>by
   have g1:=Zg0 l k t pre (r.post (k+l.size)++[⟨((k+l.size - 1:Nat):Int),((k+l.size+r.size - 1:Nat):Int),0⟩]++suf) (fun v hv=>hr v (by simp[Tr.vars,hv])) (by rw[ht,Tr.post];simp) hk;have g2:=Zg0 r (k+l.size) t (pre++l.post k) ([⟨((k+l.size - 1:Nat):Int),((k+l.size+r.size - 1:Nat):Int),0⟩]++suf) (fun v hv=>hr v (by simp[Tr.vars,hv])) (by rw[ht,Tr.post];simp) (by simp[hk,Tr.post_len])
   have hx:t[k+l.size+r.size]? =some ⟨((k+l.size - 1:Nat):Int),((k+l.size+r.size - 1:Nat):Int),0⟩:=by
    rw[ht,Tr.post,List.getElem?_append_right (by omega),List.append_assoc,List.getElem?_append_right (by rw[Tr.post_len];omega),List.append_assoc,List.getElem?_append_right (by rw[Tr.post_len,Tr.post_len];omega)];simp only[Tr.post_len,hk];rw[show k+l.size+r.size - k - l.size - r.size=0 by omega]
    rfl
   rw[show k+(Tr.node l r).size - 1=k+l.size+r.size by simp only[Tr.size];omega];exact .node hx (Zd1 _ _) rfl rfl g1 g2
theorem isT_root{T:Tr}(hr:∀v∈T.vars,1≤v∧v≤128):IsT idc (T.post 0) ((T.post 0).length - 1) T:=by
 have:=Zg0 T 0 (T.post 0) [] [] hr (by simp) rfl
 rwa [Nat.zero_add,←Tr.post_len T 0]at this
end Go.Proofs.YtemnmcfmabamcaaGreatDoor.L
namespace Go.Proofs.YtemnmcfmabamcaaGreatDoor.L
theorem IsT.off{chg:Nat→VN→VN}{t:List VN}(hc:Zae t=0){i:Nat}{T:Tr}(h:IsT idc t i T):(∀u y,Und t i u→chg u y=y)→IsT chg t i T:=by
 induction h with
 | leaf h1 h2=>intro _;exact .leaf h1 h2
 | node h1 h2 h3 h4 _ _ ih1 ih2 =>
   intro ho;obtain⟨k1,k2⟩:=Und.kid hc h1 h2 h3 h4;refine .node h1 h2 ?_ ?_ (ih1 fun u y hu=>ho u y (k1.trans hu)) (ih2 fun u y hu=>ho u y (k2.trans hu))
   ·rw[ho _ _ .refl];exact h3
   ·rw[ho _ _ .refl];exact h4
def chR (at' low:Nat)(a b c:Int):Nat→VN→VN:=fun i x=>if i=at' then ⟨a,low,0⟩ else if i=low then ⟨b,c,0⟩ else x
def chL (at' low:Nat)(a b c:Int):Nat→VN→VN:=fun i x=>if i=at' then ⟨low,c,0⟩ else if i=low then ⟨a,b,0⟩ else x
def chS (at':Nat):Nat→VN→VN:=fun i x=>if i=at' then ⟨x.right,x.left,x.var⟩ else x
inductive Rot:Nat→Tr→Tr→Prop
 | right (a b c:Tr):Rot 1 (.node (.node a b) c) (.node a (.node b c))
 | left (a b c:Tr):Rot 2 (.node a (.node b c)) (.node (.node a b) c)
 | swap (a b:Tr):Rot 3 (.node a b) (.node b a)
theorem Rot.size{kd:Nat}{T U:Tr}(h:Rot kd T U):U.size=T.size:=by
 cases h <;> simp[Tr.size] <;> omega
theorem Rot.perm{kd:Nat}{T U:Tr}(h:Rot kd T U):U.vars.Perm T.vars:=by
 cases h
 ·simp[Tr.vars]
 ·simp[Tr.vars]
 ·simp only[Tr.vars];exact List.perm_append_comm
inductive Mv (t:List VN) (kd:Nat) (at':Nat):Nat→Tr→Tr→Prop
 | here {T U:Tr}:Rot kd T U→Mv t kd at' at' T U
 | left {i a b:Nat}{y:VN}{l r l':Tr}:t[i]? =some y→y.left=a→y.right=b→Mv t kd at' a l l'→Mv t kd at' i (.node l r) (.node l' r)
 | right {i a b:Nat}{y:VN}{l r r':Tr}:t[i]? =some y→y.left=a→y.right=b→Mv t kd at' b r r'→Mv t kd at' i (.node l r) (.node l r')
theorem Mv.perm{t:List VN}{kd at' i:Nat}{T U:Tr}(h:Mv t kd at' i T U):U.vars.Perm T.vars:=by
 induction h with
 | here h=>exact h.perm
 | left _ _ _ _ ih=>exact ih.append_right _
 | right _ _ _ _ ih=>exact ih.append_left _
theorem Mv.size{t:List VN}{kd at' i:Nat}{T U:Tr}(h:Mv t kd at' i T U):U.size=T.size:=by
 induction h with
 | here h=>exact h.size
 | left _ _ _ _ ih=>simp[Tr.size,ih]
 | right _ _ _ _ ih=>simp[Tr.size,ih]
structure ChOK (t:List VN) (kd at':Nat) (chg:Nat→VN→VN):Prop where
 /-- elsewhere nothing changes,but at a child of the place -/
 off:∀u y,u≠at'→(u+1=t.length∨pa t u≠at')→chg u y=y
 here:∀T,IsT idc t at' T→∃U,IsT chg t at' U∧Rot kd T U
theorem Zod{t:List VN}(hc:Zae t=0){kd at':Nat}{chg:Nat→VN→VN}(hk:ChOK t kd at' chg)(fU:at'<t.length){i:Nat}{T:Tr}(h:IsT idc t i T) :
  (Und t i at'→∃U,IsT chg t i U∧Mv t kd at' i T U)∧(¬ Und t i at'→i+1=t.length∨pa t i≠at'→IsT chg t i T):=by
 induction h with
 | @leaf i y h1 h2 =>
   refine⟨fun hu=>?_,fun _ _=>.leaf h1 h2⟩;have:=Und.leaf hc h1 h2 hu;subst this;obtain⟨U,_,hr⟩:=hk.here _ (.leaf h1 h2)
   cases hr
 | @node i a b y l r h1 h2 h3 h4 g1 g2 ih1 ih2 =>
   obtain⟨ha,hb,bT,pa1,pb1⟩:=isT_inner hc h1 h2 h3 h4;have hi:=(Zrw h1).1;refine⟨fun hu=>?_,fun hn hp=>?_⟩
   ·by_cases qy:i=at'
    ·subst qy
     obtain⟨U,k1,k2⟩:=hk.here _ (.node h1 h2 h3 h4 g1 g2);exact⟨U,k1,.here k2⟩
    ·have cw:chg i y=y:=by
      refine hk.off _ _ qy ?_;have fE:=hu.le hc
      by_cases hr:i+1=t.length
      ·exact .inl hr
      ·have:=(ZkT hc (j:=i) (by omega)).1
       exact .inr (by omega)
     rcases Und.kids hc h1 h3 h4 hu with e|e|e
     ·exact absurd e.symm qy
     ·obtain⟨U,k1,k2⟩:=ih1.1 e
      have jp:¬ Und t b at':=fun h'=>Und.apart hc h1 h2 h3 h4 e h'
      exact⟨.node U r,.node h1 h2 (by rw[cw];exact h3) (by rw[cw];exact h4) k1 (ih2.2 jp (.inr (by rw[pb1];exact qy))),.left h1 h3 h4 k2⟩
     ·obtain⟨U,k1,k2⟩:=ih2.1 e
      have lF:¬ Und t a at':=fun h'=>Und.apart hc h1 h2 h3 h4 h' e
      exact⟨.node l U,.node h1 h2 (by rw[cw];exact h3) (by rw[cw];exact h4) (ih1.2 lF (.inr (by rw[pa1];exact qy))) k1,.right h1 h3 h4 k2⟩
   ·have qy:i≠at':=fun e=>hn (by rw[e];exact .refl)
    have cw:chg i y=y:=by
     exact hk.off _ _ qy hp
    obtain⟨wv,kk2⟩:=Und.kid hc h1 h2 h3 h4;exact .node h1 h2 (by rw[cw];exact h3) (by rw[cw];exact h4) (ih1.2 (fun h'=>hn (wv.trans h')) (.inr (by rw[pa1];exact qy))) (ih2.2 (fun h'=>hn (kk2.trans h')) (.inr (by rw[pb1];exact qy)))
theorem right_ok{t:List VN}(hc:Zae t=0){at' low a b c:Nat}{y x:VN}(hy:t[at']? =some y)(bF:Zai y=false)(y1:y.left=low)(y2:y.right=c)(hx:t[low]? =some x)(jS:Zai x=false)(x1:x.left=a)(x2:x.right=b) :
  ChOK t 1 at' (chR at' low a b c):=by
 obtain⟨q1,q2,q3,q4,q5⟩:=isT_inner hc hy bF y1 y2;obtain⟨p1,p2,p3,p4,p5⟩:=isT_inner hc hx jS x1 x2;refine⟨fun u z hu hp=>?_,fun T hT=>?_⟩
 ·unfold chR
  rw[if_neg hu,if_neg (fun e=>by rw[e]at hp;exact hp.elim (fun hp=>by have:=(Zrw hy).1;omega) (fun hp=>hp q4))]
 ·cases hT with
  | leaf g1 g2=>rw[hy]at g1;cases g1;rw[bF]at g2;cases g2
  | node g1 g2 g3 g4 g5 g6 =>
    rw[hy]at g1;cases g1;obtain rfl:=Int.ofNat.inj (y1.symm.trans g3);obtain rfl:=Int.ofNat.inj (y2.symm.trans g4)
    cases g5 with
    | leaf f1 f2=>rw[hx]at f1;cases f1;rw[jS]at f2;cases f2
    | node f1 f2 f3 f4 f5 f6 =>
      rw[hx]at f1;cases f1;obtain rfl:=Int.ofNat.inj (x1.symm.trans f3);obtain rfl:=Int.ofNat.inj (x2.symm.trans f4);refine⟨_,.node hy bF (by unfold chR;rw[if_pos rfl]) (by unfold chR;rw[if_pos rfl]) (f5.off hc fun u z hu=>?_) (.node hx jS (by unfold chR;rw[if_neg (by omega),if_pos rfl]) (by unfold chR;rw[if_neg (by omega),if_pos rfl]) (f6.off hc fun u z hu=>?_) (g6.off hc fun u z hu=>?_)),.right _ _ _⟩
      ·have:=hu.le hc
       unfold chR;rw[if_neg (by omega),if_neg (by omega)]
      ·have:=hu.le hc
       unfold chR;rw[if_neg (by omega),if_neg (by omega)]
      ·have:=hu.le hc
       unfold chR;rw[if_neg (by omega),if_neg (fun e=>by rw[e]at hu;exact Und.apart hc hy bF y1 y2 .refl hu)]
theorem left_ok{t:List VN}(hc:Zae t=0){at' low a b c:Nat}{y x:VN}(hy:t[at']? =some y)(bF:Zai y=false)(y1:y.left=a)(y2:y.right=low)(hx:t[low]? =some x)(jS:Zai x=false)(x1:x.left=b)(x2:x.right=c) :
  ChOK t 2 at' (chL at' low a b c):=by
 obtain⟨q1,q2,q3,q4,q5⟩:=isT_inner hc hy bF y1 y2;obtain⟨p1,p2,p3,p4,p5⟩:=isT_inner hc hx jS x1 x2;refine⟨fun u z hu hp=>?_,fun T hT=>?_⟩
 ·unfold chL
  rw[if_neg hu,if_neg (fun e=>by rw[e]at hp;exact hp.elim (fun hp=>by have:=(Zrw hy).1;omega) (fun hp=>hp q5))]
 ·cases hT with
  | leaf g1 g2=>rw[hy]at g1;cases g1;rw[bF]at g2;cases g2
  | node g1 g2 g3 g4 g5 g6 =>
    rw[hy]at g1;cases g1;obtain rfl:=Int.ofNat.inj (y1.symm.trans g3);obtain rfl:=Int.ofNat.inj (y2.symm.trans g4)
    cases g6 with
    | leaf f1 f2=>rw[hx]at f1;cases f1;rw[jS]at f2;cases f2
    | node f1 f2 f3 f4 f5 f6 =>
      rw[hx]at f1;cases f1;obtain rfl:=Int.ofNat.inj (x1.symm.trans f3);obtain rfl:=Int.ofNat.inj (x2.symm.trans f4);refine⟨_,.node hy bF (by unfold chL;rw[if_pos rfl]) (by unfold chL;rw[if_pos rfl]) (.node hx jS (by unfold chL;rw[if_neg (by omega),if_pos rfl]) (by unfold chL;rw[if_neg (by omega),if_pos rfl]) (g5.off hc fun u z hu=>?_) (f5.off hc fun u z hu=>?_)) (f6.off hc fun u z hu=>?_),.left _ _ _⟩
      ·have:=hu.le hc
       unfold chL;rw[if_neg (by omega),if_neg (fun e=>by rw[e]at hu;exact Und.apart hc hy bF y1 y2 hu .refl)]
      ·have:=hu.le hc
       unfold chL;rw[if_neg (by omega),if_neg (by omega)]
      ·have:=hu.le hc
       unfold chL;rw[if_neg (by omega),if_neg (by omega)]
theorem swap_ok{t:List VN}(hc:Zae t=0){at':Nat}{y:VN}(hy:t[at']? =some y)(bF:Zai y=false):ChOK t 3 at' (chS at'):=by
 refine⟨fun u z hu hp=>?_,fun T hT=>?_⟩
 ·unfold chS;rw[if_neg hu]
 ·cases hT with
  | leaf g1 g2=>rw[hy]at g1;cases g1;rw[bF]at g2;cases g2
  | node g1 g2 g3 g4 g5 g6 =>
    rw[hy]at g1;cases g1;obtain⟨q1,q2,q3,q4,q5⟩:=isT_inner hc hy bF g3 g4;refine⟨_,.node hy bF (by unfold chS;rw[if_pos rfl];exact g4) (by unfold chS;rw[if_pos rfl];exact g3) (g6.off hc fun u z hu=>?_) (g5.off hc fun u z hu=>?_),.swap _ _⟩
    ·have:=hu.le hc
     unfold chS;rw[if_neg (by omega)]
    ·have:=hu.le hc
     unfold chS;rw[if_neg (by omega)]
theorem moved{t:List VN}(hc:Zae t=0){kd at':Nat}{chg:Nat→VN→VN}(hk:ChOK t kd at' chg)(fU:at'<t.length):∃T U,IsT idc t (t.length - 1) T∧IsT chg t (t.length - 1) U∧Mv t kd at' (t.length - 1) T U:=by
 obtain⟨h0,_⟩:=Zam hc;obtain⟨T,hT⟩:=isT_exists hc t.length (t.length - 1) (by omega) (by omega);obtain⟨U,h1,h2⟩:=(Zod hc hk fU hT).1 (Und.root hc t.length _ fU (by omega));exact⟨T,U,hT,h1,h2⟩
end Go.Proofs.YtemnmcfmabamcaaGreatDoor.L
namespace Go.Proofs.YtemnmcfmabamcaaGreatDoor.L
theorem Mv.und{t:List VN}(hc:Zae t=0){kd at' i:Nat}{T U:Tr}(h:Mv t kd at' i T U):IsT idc t i T→Und t i at':=by
 induction h with
 | here _=>intro _;exact .refl
 | left h1 h2 h3 h4 ih =>
   intro hT
   cases hT with
   | node g1 g2 g3 g4 g5 g6 =>
     rw[h1]at g1;cases g1;obtain rfl:=Int.ofNat.inj (h2.symm.trans g3);exact(Und.kid hc h1 g2 h2 h3).1.trans (ih g5)
 | right h1 h2 h3 h4 ih =>
   intro hT
   cases hT with
   | node g1 g2 g3 g4 g5 g6 =>
     rw[h1]at g1;cases g1;obtain rfl:=Int.ofNat.inj (h3.symm.trans g4);exact(Und.kid hc h1 g2 h2 h3).2.trans (ih g6)
theorem Zc8{l r:Tr}{k:Nat}{t pre suf:List VN}(ht:t=pre++((Tr.node l r).post k++suf))(hk:pre.length=k) :
  t[k+(Tr.node l r).size - 1]? =some ⟨((k+l.size - 1:Nat):Int),((k+l.size+r.size - 1:Nat):Int),0⟩ ∧
  t=pre++(l.post k++(r.post (k+l.size)++[⟨((k+l.size - 1:Nat):Int),((k+l.size+r.size - 1:Nat):Int),0⟩]++suf)) ∧
  t=(pre++l.post k)++(r.post (k+l.size)++([⟨((k+l.size - 1:Nat):Int),((k+l.size+r.size - 1:Nat):Int),0⟩]++suf)):=by
 refine⟨?_,by rw[ht,Tr.post];simp,by rw[ht,Tr.post];simp⟩;rw[show k+(Tr.node l r).size - 1=k+l.size+r.size by simp only[Tr.size];omega];rw[ht,Tr.post,List.getElem?_append_right (by omega),List.append_assoc,List.getElem?_append_right (by rw[Tr.post_len];omega),List.append_assoc,List.getElem?_append_right (by rw[Tr.post_len,Tr.post_len];omega)];simp only[Tr.post_len,hk];rw[show k+l.size+r.size - k - l.size - r.size=0 by omega]
 rfl
theorem IsT.places{t:List VN}(hc:Zae t=0){i:Nat}{T:Tr}(h:IsT idc t i T):∃ps:List Nat,ps.length=T.size∧ps.Nodup∧∀u∈ps,Und t i u:=by
 induction h with
 | leaf h1 h2=>exact⟨[_],rfl,by simp,fun u hu=>by rw[List.mem_singleton.1 hu];exact .refl⟩
 | @node i a b y l r h1 h2 h3 h4 g1 g2 ih1 ih2 =>
   obtain⟨p,p1,p2,p3⟩:=ih1;obtain⟨q,q1,q2,q3⟩:=ih2;obtain⟨ka,kb⟩:=Und.kid hc h1 h2 h3 h4;obtain⟨ha,hb,_⟩:=isT_inner hc h1 h2 h3 h4;refine⟨i :: (p++q),by simp[Tr.size,p1,q1],?_,fun u hu=>?_⟩
   ·rw[List.nodup_cons,List.nodup_append]
    refine⟨fun hm=>?_,p2,q2,fun a ha b hb e=>?_⟩
    ·rcases List.mem_append.1 hm with hm|hm
     ·have:=(p3 _ hm).le hc;omega
     ·have:=(q3 _ hm).le hc;omega
    ·subst e
     exact Und.apart hc h1 h2 h3 h4 (p3 _ ha) (q3 _ hb)
   ·rcases List.mem_cons.1 hu with rfl|hu
    ·exact .refl
    ·rcases List.mem_append.1 hu with hu|hu
     ·exact ka.trans (p3 _ hu)
     ·exact kb.trans (q3 _ hu)
theorem IsT.size_le{t:List VN}(hc:Zae t=0){i:Nat}{T:Tr}(h:IsT idc t i T):T.size≤t.length:=by
 obtain⟨ps,p1,p2,p3⟩:=h.places hc;rw[←p1];exact nodup_lt ps _ p2 fun u hu=>(p3 u hu).lt h.lt
theorem IsT.root_mem{t:List VN}(hc:Zae t=0){T:Tr}(h:IsT idc t (t.length - 1) T)(v:Int):v∈T.vars↔∃(u:Nat) (y:VN),t[u]? =some y∧Zai y=true∧y.var=v:=by
 rw[h.mem hc]
 constructor
 ·rintro⟨u,y,h1,h2,h3,_⟩;exact⟨u,y,h1,h2,h3⟩
 ·rintro⟨u,y,h1,h2,h3⟩
  exact⟨u,y,h1,h2,h3,Und.root hc t.length u (Zrw h1).1 (by omega)⟩
theorem ZpW{T:Tr}(hn:T.vars.Nodup)(hr:∀v∈T.vars,1≤v∧v≤128)(hs:T.size≤255):Zae (T.post 0)=0∧IsT idc (T.post 0) ((T.post 0).length - 1) T:=⟨post_check hn hr hs,isT_root hr⟩
theorem moved_ok{t:List VN}(hc:Zae t=0){kd at':Nat}{T U:Tr}(hT:IsT idc t (t.length - 1) T)(hM:Mv t kd at' (t.length - 1) T U) :
  Zae (U.post 0)=0∧IsT idc (U.post 0) ((U.post 0).length - 1) U∧(U.post 0).length≤t.length∧∀v,v∈U.vars↔v∈T.vars:=by
 have hp:=hM.perm;have ac:=hT.size_le hc;have hl:=(Zam hc).2.1;obtain⟨h1,h2⟩:=ZpW (hp.nodup_iff.2 (hT.nodup hc)) (fun v hv=>hT.range hc v (hp.mem_iff.1 hv)) (by rw[hM.size];omega);exact⟨h1,h2,by rw[Tr.post_len,hM.size];exact ac,fun v=>hp.mem_iff⟩
end Go.Proofs.YtemnmcfmabamcaaGreatDoor.L
end
section
namespace Go.Proofs.YtemnmcfmabamcaaGreatDoor.L
def dgV (v:Int):List UInt8:=let n:=v.toNat;if n<10 then [UInt8.ofNat (48+n)] else if n<100 then [UInt8.ofNat (48+n / 10),UInt8.ofNat (48+n % 10)] else [UInt8.ofNat (48+n / 100),UInt8.ofNat (48+n / 10 % 10),UInt8.ofNat (48+n % 10)]
def prT:Tr→List UInt8
 | .leaf v=>dgV v
 | .node l r=>[40]++prT l++[32]++prT r++[41]
structure PSt where
 t:List VN
 op:List Nat
 nu:Nat
def digB(c:UInt8):Bool:=decide (48≤c.toNat) && decide (c.toNat≤57)
def endB(r:List UInt8):Bool:=match r with
 | []=>true
 | c :: _=>!digB c
def pStep(c:UInt8)(r:List UInt8)(s:PSt):Option PSt :=
 if digB c=true∧s.nu<1000 then
  if endB r=true then some ⟨s.t++[⟨-1,-1,((10*s.nu+(c.toNat - 48):Nat):Int)⟩],s.op++[s.t.length],0⟩
  else some ⟨s.t,s.op,10*s.nu+(c.toNat - 48)⟩
 else if c=41 then
  if s.op.length<2 then none
  else some ⟨s.t++[⟨(s.op.getD (s.op.length - 2) 0:Nat),(s.op.getD (s.op.length - 1) 0:Nat),0⟩],s.op.take (s.op.length - 2)++[s.t.length],s.nu⟩
 else if c=40∨c=32 then some s else none
def pRun:List UInt8→PSt→Option PSt
 | [],s=>some s
 | c :: r,s=>(pStep c r s).bind (pRun r)
theorem ZoQ:(List.range 129).all (fun n=>n ==0 || (match dgV (n:Int) with
 | [a]=>digB a && a.toNat - 48 ==n
 | [a,b]=>digB a && digB b && 10*(a.toNat - 48)+(b.toNat - 48) ==n
 | [a,b,c]=>digB a && digB b && digB c && 10*(10*(a.toNat - 48)+(b.toNat - 48))+(c.toNat - 48) ==n
 | _=>false))=true:=by decide +kernel
theorem Zmv(v:Int)(hv:1≤v∧v≤128)(t:List VN)(op:List Nat)(r:List UInt8)(hr:endB r=true):pRun (dgV v++r) ⟨t,op,0⟩=pRun r ⟨t++[⟨-1,-1,v⟩],op++[t.length],0⟩:=by
 have h:=List.all_eq_true.1 ZoQ v.toNat (List.mem_range.2 (by omega));have nX:((v.toNat:Nat):Int)=v:=by omega
 rw[nX]at h;have h0:(v.toNat ==0)=false:=by rw[beq_eq_false_iff_ne];omega
 rw[h0,Bool.false_or]at h
 revert h
 generalize dgV v=d;intro h
 split at h
 ·rename_i a
  simp only[ZrK,beq_iff_eq]at h;obtain⟨h1,h2⟩:=h;simp only[List.cons_append,List.nil_append,pRun,pStep];rw[if_pos ⟨h1,by simp⟩,if_pos hr];simp only[Option.bind_some,Nat.mul_zero,Nat.zero_add,h2,nX]
 ·rename_i a b
  simp only[ZrK,beq_iff_eq]at h;obtain⟨⟨h1,h2⟩,h3⟩:=h;have e1:endB (b :: r)=false:=by simp[endB,h2]
  have ha:a.toNat≤57:=by simp[digB]at h1;omega
  simp only[List.cons_append,List.nil_append,pRun,pStep];rw[if_pos ⟨h1,by simp⟩,e1];simp only[Option.bind_some,Bool.false_eq_true,if_false,Nat.mul_zero,Nat.zero_add];rw[if_pos ⟨h2,by omega⟩,if_pos hr];simp only[Option.bind_some,h3,nX]
 ·rename_i a b c
  simp only[ZrK,beq_iff_eq]at h;obtain⟨⟨⟨h1,h2⟩,h3⟩,h4⟩:=h;have e1:endB (b :: c :: r)=false:=by simp[endB,h2]
  have e2:endB (c :: r)=false:=by simp[endB,h3]
  have ha:a.toNat≤57:=by simp[digB]at h1;omega
  have hb:b.toNat≤57:=by simp[digB]at h2;omega
  simp only[List.cons_append,List.nil_append,pRun,pStep];rw[if_pos ⟨h1,by simp⟩,e1];simp only[Option.bind_some,Bool.false_eq_true,if_false,Nat.mul_zero,Nat.zero_add];rw[if_pos ⟨h2,by omega⟩,e2];simp only[Option.bind_some,Bool.false_eq_true,if_false];rw[if_pos ⟨h3,by omega⟩,if_pos hr];simp only[Option.bind_some,h4,nX]
 ·cases h
theorem Zh1(c:UInt8)(hc:c=40∨c=32)(r:List UInt8)(s:PSt):pRun (c :: r) s=pRun r s:=by
 have hd:digB c=false:=by rcases hc with rfl|rfl <;> decide
 have vr:c≠41:=by rcases hc with rfl|rfl <;> decide
 rw[pRun,pStep,if_neg (by rw[hd];simp),if_neg vr,if_pos hc]
 rfl
theorem ZkS(r:List UInt8)(t:List VN)(op:List Nat)(a b nu:Nat):pRun (41 :: r) ⟨t,op++[a]++[b],nu⟩=pRun r ⟨t++[⟨a,b,0⟩],op++[t.length],nu⟩:=by
 have hd:digB 41=false:=by decide
 have aX:(op++[a]++[b]).length=op.length+2:=by simp
 rw[pRun,pStep,if_neg (by rw[hd];simp),if_pos rfl];simp only[aX];rw[if_neg (by omega)]
 have e1:(op++[a]++[b]).getD (op.length+2 - 2) 0=a:=by
  rw[ZrG];simp
 have e2:(op++[a]++[b]).getD (op.length+2 - 1) 0=b:=by
  rw[ZrG,List.getElem?_append_right (by simp)];simp
 have e3:(op++[a]++[b]).take (op.length+2 - 2)=op:=by simp
 simp only[e1,e2,e3,Option.bind_some]
theorem ZfJ:∀(T:Tr) (t:List VN) (op:List Nat) (r:List UInt8),(∀v∈T.vars,1≤v∧v≤128)→endB r=true→pRun (prT T++r) ⟨t,op,0⟩=pRun r ⟨t++T.post t.length,op++[t.length+T.size - 1],0⟩
 | .leaf v,t,op,r,hv,hr=>by
   rw[prT,Zmv v (hv v (by simp[Tr.vars])) t op r hr];simp[Tr.post,Tr.size]
 | .node a b,t,op,r,hv,hr=>by
   have ha:=ZfJ a t op (32 :: (prT b++(41 :: r))) (fun v h=>hv v (by simp[Tr.vars,h])) (by rfl);have hb:=ZfJ b (t++a.post t.length) (op++[t.length+a.size - 1]) (41 :: r) (fun v h=>hv v (by simp[Tr.vars,h])) (by rfl);have e:prT (.node a b)++r=40 :: (prT a++(32 :: (prT b++(41 :: r)))):=by simp[prT]
   rw[e,Zh1 40 (.inl rfl),ha,Zh1 32 (.inr rfl),hb,ZkS];have pa:=a.pos;have pb:=b.pos
   congr 2
   ·simp only[Tr.post,ZrB,Tr.post_len,List.append_assoc]
   ·simp only[ZrB,Tr.post_len,Tr.size]
    congr 2
    omega
theorem parse_print(T:Tr)(hv:∀v∈T.vars,1≤v∧v≤128):pRun (prT T) ⟨[],[],0⟩=some ⟨T.post 0,[T.size - 1],0⟩:=by
 have:=ZfJ T [] [] [] hv rfl;simpa [pRun] using this
theorem ZnS(v:Int)(hv:1≤v∧v≤128):∀c∈dgV v,c.toNat<128:=by
 have h:=List.all_eq_true.1 ZoQ v.toNat (List.mem_range.2 (by omega));rw[show ((v.toNat:Nat):Int)=v by omega]at h;have h0:(v.toNat ==0)=false:=by rw[beq_eq_false_iff_ne];omega
 rw[h0,Bool.false_or]at h;have key:∀c,digB c=true→c.toNat<128:=fun c hc=>by simp[digB]at hc;omega
 revert h
 generalize dgV v=d;intro h
 split at h
 ·simp only[ZrK]at h
  intro c hc;simp only[List.mem_cons,List.not_mem_nil,or_false]at hc;subst hc;exact key _ h.1
 ·simp only[ZrK]at h
  intro c hc;simp only[List.mem_cons,List.not_mem_nil,or_false]at hc;rcases hc with rfl|rfl
  ·exact key _ h.1.1
  ·exact key _ h.1.2
 ·simp only[ZrK]at h
  intro c hc;simp only[List.mem_cons,List.not_mem_nil,or_false]at hc;rcases hc with rfl|rfl|rfl
  ·exact key _ h.1.1.1
  ·exact key _ h.1.1.2
  ·exact key _ h.1.2
 ·cases h
theorem prT_ascii:∀(T:Tr),(∀v∈T.vars,1≤v∧v≤128)→∀c∈prT T,c.toNat<128
 | .leaf v,hv,c,hc=>ZnS v (hv v (by simp[Tr.vars])) c hc
 | .node a b,hv,c,hc=>by
   simp only[prT,List.mem_append,List.mem_cons,List.not_mem_nil,or_false]at hc;rcases hc with (((rfl|hc)|rfl)|hc)|rfl
   ·decide
   ·exact prT_ascii a (fun v h=>hv v (by simp[Tr.vars,h])) c hc
   ·decide
   ·exact prT_ascii b (fun v h=>hv v (by simp[Tr.vars,h])) c hc
   ·decide
theorem Zqw(v:Int):0<(dgV v).length∧(dgV v).length≤3:=by
 unfold dgV;simp only
 split
 ·simp
 ·split <;> simp
theorem prT_len:∀T:Tr,(prT T).length+3≤6*T.vars.length
 | .leaf v=>by have:=Zqw v;simp only[prT,Tr.vars,ZrP,List.length_nil];omega
 | .node a b=>by
   have:=prT_len a;have:=prT_len b;simp only[prT,Tr.vars,ZrB,ZrP,List.length_nil];omega
end Go.Proofs.YtemnmcfmabamcaaGreatDoor.L
end
