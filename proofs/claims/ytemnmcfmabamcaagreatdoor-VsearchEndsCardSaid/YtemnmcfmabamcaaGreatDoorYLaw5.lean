import Derived.Test.YtemnmcfmabamcaaGreatDoorYLaw3
set_option linter.unusedSimpArgs false
set_option linter.unusedVariables false
set_option maxRecDepth 100000
namespace Go.Proofs.YtemnmcfmabamcaaGreatDoor.L
def Zej (l:List Int)(i:Nat)(x:Zax):Prop:=∀u,ZaZ x u=true↔∃k,∃hk:k<l.length,l[k]=u∧i.testBit (l.length - 1 - k)=true
theorem ZfU{l:List Int}(h:l.Pairwise (· < ·)){i j:Nat}(hi:i<l.length)(hj:j<l.length)(iD:i<j):l[i] < l[j] :=
 (List.pairwise_iff_getElem.1 h) i j hi hj iD
theorem Zdx{l:List Int}(h:l.Pairwise (· < ·)){i j:Nat}(hi:i<l.length)(hj:j<l.length)(e:l[i]=l[j]):i=j:=by
 rcases Nat.lt_trichotomy i j with h1|h1|h1
 ·have:=ZfU h hi hj h1;omega
 ·exact h1
 ·have:=ZfU h hj hi h1;omega
theorem Zej.bit{l:List Int}(hs:l.Pairwise (· < ·)){i:Nat}{x:Zax}(h:Zej l i x){k:Nat}(hk:k<l.length):ZaZ x l[k]=i.testBit (l.length - 1 - k):=by
 rw[Bool.eq_iff_iff,h]
 constructor
 ·rintro⟨k',eF,e,hb⟩
  rw[Zdx hs eF hk e]at hb;exact hb
 ·intro hb;exact⟨k,hk,rfl,hb⟩
theorem ZnZ{a b:Zax}(h:∀u,ZaZ a u=ZaZ b u):a=b:=ZpZ fun i hi=>by
 have:=h ((i:Int)+1)
 rwa [Zbg _ _ hi,Zbg _ _ hi]at this
theorem Zej.uniq{l:List Int}{i:Nat}{x y:Zax}(hx:Zej l i x)(hy:Zej l i y):x=y:=ZnZ fun u=>by
 rw[Bool.eq_iff_iff,hx,hy]
theorem ZpG{x y b:Nat}(hx:x.testBit b=false)(hy:y.testBit b=true)(h:∀j,b<j→x.testBit j=y.testBit j):x<y:=by
 have e:x / 2 ^ b / 2=y / 2 ^ b / 2:=by
  apply Nat.eq_of_testBit_eq
  intro i;rw[Nat.div_div_eq_div_mul,Nat.div_div_eq_div_mul,←Nat.pow_succ,Nat.testBit_div_two_pow,Nat.testBit_div_two_pow];exact h _ (by omega)
 rw[Nat.testBit_eq_decide_div_mod_eq]at hx hy;have h1:=of_decide_eq_false hx;have h2:=of_decide_eq_true hy
 apply ZrO
 intro hn;have:=Nat.div_le_div_right (c:=2 ^ b) (Nat.le_of_not_lt hn);omega
theorem Zej.less{l:List Int}(hs:l.Pairwise (· < ·)){i j:Nat}{x y:Zax}(hx:Zej l i x)(hy:Zej l j y)(iD:i<j)(hj:j<2 ^ l.length):ZaX x y=true:=by
 have yc:∃k,k<l.length∧(i.testBit (l.length - 1 - k) !=j.testBit (l.length - 1 - k))=true:=by
  apply ZrO
  intro cz
  have:i=j:=by
   apply Nat.eq_of_testBit_eq
   intro b
   by_cases hb:b<l.length
   ·apply ZrO
    intro aJ;refine cz ⟨l.length - 1 - b,by omega,?_⟩;rw[show l.length - 1 - (l.length - 1 - b)=b by omega];simpa using aJ
   ·rw[Nat.testBit_lt_two_pow (ZrD (by omega:i<2 ^ l.length) (Nat.pow_le_pow_right (by omega) (by omega))),Nat.testBit_lt_two_pow (ZrD hj (Nat.pow_le_pow_right (by omega) (by omega)))]
  omega
 obtain⟨k,hk,hb,dr⟩:=Zgq (fun k=>i.testBit (l.length - 1 - k) !=j.testBit (l.length - 1 - k)) l.length yc
 have ap:∀b,l.length - 1 - k<b→i.testBit b=j.testBit b:=fun b cQ=>by
  by_cases dv:b<l.length
  ·have:=dr (l.length - 1 - b) (by omega)
   rw[show l.length - 1 - (l.length - 1 - b)=b by omega]at this;simpa using this
  ·rw[Nat.testBit_lt_two_pow (ZrD (by omega:i<2 ^ l.length) (Nat.pow_le_pow_right (by omega) (by omega))),Nat.testBit_lt_two_pow (ZrD hj (Nat.pow_le_pow_right (by omega) (by omega)))]
 have sS:i.testBit (l.length - 1 - k)=false∧j.testBit (l.length - 1 - k)=true:=by
  cases h1:i.testBit (l.length - 1 - k)
  ·rw[h1]at hb;exact⟨rfl,by simpa using hb⟩
  ·have h2:j.testBit (l.length - 1 - k)=false:=by rw[h1]at hb;simpa using hb
   have:=ZpG h2 h1 (fun b cQ=>(ap b cQ).symm);omega
 have e1:=hx.bit hs hk;have e2:=hy.bit hs hk;rw[sS.1]at e1;rw[sS.2]at e2;obtain⟨v1,v2⟩:=Zct e2;obtain⟨n,hn,e⟩:∃n:Nat,n<128∧l[k]=(n:Int)+1:=⟨(l[k] - 1).toNat,by omega,by omega⟩;rw[e,Zbg _ _ hn]at e1 e2;refine(ZaL _ _).2 ⟨n,hn,e1,e2,fun m hm=>?_⟩;rw[←Zbg _ _ (by omega),←Zbg _ _ (by omega),Bool.eq_iff_iff,hx,hy]
 have aD:∀k' (eF:k'<l.length),l[k']=(m:Int)+1→i.testBit (l.length - 1 - k')=j.testBit (l.length - 1 - k'):=fun k' eF e'=>by
  apply ap
  have:k'<k:=by
   rcases Nat.lt_trichotomy k' k with h|h|h
   ·exact h
   ·subst h;omega
   ·have:=ZfU hs hk eF h;omega
  omega
 constructor
 ·rintro⟨k',eF,e',cQ⟩;exact⟨k',eF,e',by rw[←aD k' eF e'];exact cQ⟩
 ·rintro⟨k',eF,e',cQ⟩;exact⟨k',eF,e',by rw[aD k' eF e'];exact cQ⟩
theorem Zgm(f:Nat→Bool):∀n,∃i,i<2 ^ n∧∀b,b<n→i.testBit b=f b
 | 0=>⟨0,by simp,fun b hb=>by omega⟩
 | n+1=>by
   obtain⟨i,hi,hb⟩:=Zgm f n;refine⟨2 ^ n*(f n).toNat+i,?_,fun b hbn=>?_⟩
   ·rw[Nat.pow_succ];cases f n <;> simp <;> omega
   ·rw[Nat.testBit_two_pow_mul_add _ hi]
    split
    ·rename_i h;exact hb b h
    ·rename_i h
     have:b=n:=by omega
     subst this;rw[Nat.sub_self];cases f b <;> rfl
theorem ZmZ{l:List Int}(m:Zax)(hm:∀u,ZaZ m u=true→u∈l):∃i,i<2 ^ l.length∧Zej l i m:=by
 obtain⟨i,hi,hb⟩:=Zgm (fun b=>ZaZ m (l.getD (l.length - 1 - b) 0)) l.length;refine⟨i,hi,fun u=>?_⟩
 constructor
 ·intro hu
  obtain⟨k,hk,e⟩:=List.getElem_of_mem (hm u hu);refine⟨k,hk,e,?_⟩;rw[hb _ (by omega),show l.length - 1 - (l.length - 1 - k)=k by omega,ZrG,Zry hk,Option.getD_some,e];exact hu
 ·rintro⟨k,hk,e,gD⟩
  rw[hb _ (by omega),show l.length - 1 - (l.length - 1 - k)=k by omega,ZrG,Zry hk,Option.getD_some,e]at gD;exact gD
theorem ZiL{l:List Int}(hs:l.Pairwise (· < ·)){φ:Asg→Bool}{m:Zax}(h2:∀m',φ (asg m')=true→leS m m')(hm:∀u,ZaZ m u=true→u∈l) :
  ∃i,i<2 ^ l.length∧Zej l i m∧∀j x,j<i→Zej l j x→φ (asg x)=false:=by
 obtain⟨i,hi,cz⟩:=ZmZ m hm;refine⟨i,hi,cz,fun j x hj hx=>?_⟩
 cases hh:φ (asg x)
 ·rfl
 ·have a1:=h2 x hh
  have a2:=hx.less hs cz hj hi;rcases a1 with e|e
  ·rw[e,Zbe]at a2;cases a2
  ·rw[ZbC e]at a2;cases a2
end Go.Proofs.YtemnmcfmabamcaaGreatDoor.L
namespace Go.Proofs.YtemnmcfmabamcaaGreatDoor.L
theorem Zgt{α:Type}[DecidableEq α]:∀(l m:List α),l.Nodup→m.Nodup→(∀x,x∈l↔x∈m)→l.Perm m
 | [],m,_,_,h=>by
   have:m=[]:=by
    cases m with
    | nil=>rfl
    | cons b k=>have:=(h b).2 (ZrL ..);cases this
   rw[this]
 | a :: r,m,hl,hm,h=>by
   rw[List.nodup_cons]at hl;have ha:a∈m:=(h a).1 (ZrL ..);have hp:=List.perm_cons_erase ha;refine(List.Perm.cons a (Zgt r (m.erase a) hl.2 (hm.erase a) fun x=>?_)).trans hp.symm;rw[hm.mem_erase_iff]
   constructor
   ·intro hx
    exact⟨fun e=>hl.1 (e ▸ hx),(h x).1 (ZrA _ hx)⟩
   ·rintro⟨aJ,hx⟩
    rcases List.mem_cons.1 ((h x).2 hx) with e|e
    ·exact absurd e aJ
    ·exact e
def withL(l:List Nat)(n:Nat):List Nat:=if n∈l then l else l++[n]
theorem Zdg(l:List Nat)(n x:Nat):x∈withL l n↔x∈l∨x=n:=by
 unfold withL
 split
 ·rename_i h
  exact⟨.inl,fun hx=>hx.elim id fun e=>e ▸ h⟩
 ·rw[List.mem_append,List.mem_singleton]
theorem ZdQ{l:List Nat}(n:Nat)(h:l.Nodup):(withL l n).Nodup:=by
 unfold withL
 split
 ·exact h
 ·rename_i hn
  rw[List.nodup_append];refine⟨h,by simp,fun a ha b hb e=>?_⟩;rw[List.mem_singleton]at hb;exact hn (by rw[←hb,←e];exact ha)
theorem Zf4(l:List Nat)(n:Nat):∃r,withL l n=l++r:=by
 unfold withL
 split
 ·exact⟨[],by simp⟩
 ·exact⟨[n],rfl⟩
def addP(l:List Nat):List (Nat × Nat)→List Nat
 | []=>l
 | p :: r=>addP (withL (withL l p.1) p.2) r
theorem ZeW(l:List Nat):∀(k:List (Nat × Nat)) (x:Nat),x∈addP l k↔x∈l∨∃p∈k,x=p.1∨x=p.2:=by
 intro k
 induction k generalizing l with
 | nil=>intro x;simp[addP]
 | cons q r ih =>
   intro x;rw[addP,ih,Zdg,Zdg]
   constructor
   ·rintro(((h|h)|h)|⟨p,hp,h⟩)
    ·exact .inl h
    ·exact .inr ⟨q,ZrL ..,.inl h⟩
    ·exact .inr ⟨q,ZrL ..,.inr h⟩
    ·exact .inr ⟨p,ZrA _ hp,h⟩
   ·rintro(h|⟨p,hp,h⟩)
    ·exact .inl (.inl (.inl h))
    ·rcases List.mem_cons.1 hp with rfl|hp
     ·rcases h with h|h
      ·exact .inl (.inl (.inr h))
      ·exact .inl (.inr h)
     ·exact .inr ⟨p,hp,h⟩
theorem Zkh{l:List Nat}(h:l.Nodup):∀(k:List (Nat × Nat)),(addP l k).Nodup:=by
 intro k
 induction k generalizing l with
 | nil=>exact h
 | cons q r ih=>exact ih (ZdQ _ (ZdQ _ h))
theorem addP_pre(l:List Nat):∀(k:List (Nat × Nat)),∃r,addP l k=l++r:=by
 intro k
 induction k generalizing l with
 | nil=>exact⟨[],by simp[addP]⟩
 | cons q r ih =>
   obtain⟨r1,e1⟩:=Zf4 l q.1;obtain⟨r2,e2⟩:=Zf4 (withL l q.1) q.2;obtain⟨r3,e3⟩:=ih (withL (withL l q.1) q.2);exact⟨r1++(r2++r3),by rw[addP,e3,e2,e1];simp⟩
theorem Reach.le{ns:List Zac}(hk:Kids ns){a b:Nat}(h:Reach ns a b):b≤a:=by
 induction h with
 | refl=>exact ZrQ _
 | prime _ hn hp ih=>have:=(hk _ _ hn _ hp).1;omega
 | sub _ hn hp ih=>have:=(hk _ _ hn _ hp).2;omega
structure Bfs (ns:List Zac) (root:Nat) (all:List Nat) (i size:Nat):Prop where
 nd:all.Nodup
 has:root∈all
 reach:∀b∈all,Reach ns root b
 shut:∀j (hj:j<all.length),j<i→ZgI ns all all[j]
 size:size=Zbw ns (all.take i)
theorem Bfs.init(ns:List Zac)(root:Nat):Bfs ns root [root] 0 0:=⟨by simp,by simp,fun b hb=>by rw[List.mem_singleton]at hb;subst hb;exact .refl,fun j _ h=>by omega,rfl⟩
theorem Bfs.le{ns:List Zac}(hk:Kids ns){root:Nat}{all:List Nat}{i size:Nat}(h:Bfs ns root all i size):all.length≤root+1 :=
 nodup_lt all (root+1) h.nd fun b hb=>by have:=(h.reach b hb).le hk;omega
theorem ZgD{ns:List Zac}:∀(l:List Nat) (i:Nat) (hi:i<l.length) (n:Zac),ns[l[i]]? =some n→Zbw ns (l.take (i+1))=Zbw ns (l.take i)+n.el.length
 | a :: r,0,_,n,hn=>by
   simp only[List.getElem_cons_zero]at hn;simp[Zbw,hn]
 | a :: r,i+1,hi,n,hn=>by
   have:=ZgD r i (by simpa using hi) n (by simpa using hn);simp only[List.take_succ_cons,Zbw,this];omega
theorem Bfs.next{ns:List Zac}{root:Nat}{all:List Nat}{i size:Nat}(h:Bfs ns root all i size)(hi:i<all.length){n:Zac}(hn:ns[all[i]]? =some n):Bfs ns root (addP all n.el) (i+1) (size+n.el.length):=by
 obtain⟨r,hr⟩:=addP_pre all n.el;have fA:∀x∈all,x∈addP all n.el:=fun x hx=>(ZeW all n.el x).2 (.inl hx)
 refine⟨Zkh h.nd _,fA _ h.has,fun b hb=>?_,fun j hj wP=>?_,?_⟩
 ·rcases (ZeW all n.el b).1 hb with hb|⟨p,hp,rfl|rfl⟩
  ·exact h.reach b hb
  ·exact .prime (h.reach _ (ZrM hi)) hn hp
  ·exact .sub (h.reach _ (ZrM hi)) hn hp
 ·have db:j<all.length:=by omega
  have e:(addP all n.el)[j]=all[j]:=by
   have:(addP all n.el)[j]? =(all++r)[j]?:=by rw[hr]
   rw[List.getElem?_append_left db,Zry hj,Zry db]at this;exact Option.some.inj this
  rw[e]
  by_cases aD:j<i
  ·exact(h.shut j db aD).mono fA
  ·have:j=i:=by omega
   subst this;intro n' cR p hp;rw[hn]at cR;cases cR;exact⟨(ZeW all n.el _).2 (.inr ⟨p,hp,.inl rfl⟩),(ZeW all n.el _).2 (.inr ⟨p,hp,.inr rfl⟩)⟩
 ·rw[hr,List.take_append_of_le_length (by omega),ZgD all i hi n hn,←h.size]
theorem Bfs.end{ns:List Zac}{root:Nat}{all:List Nat}{size:Nat}(h:Bfs ns root all all.length size){o:List Nat}(ho:o.Nodup)(hr:∀b,b∈o↔Reach ns root b):Zbw ns o=size:=by
 rw[h.size,List.take_length];refine Zk5 (Zgt _ _ ho h.nd fun b=>?_);rw[hr]
 constructor
 ·intro hb
  have az:∀b∈all,ZgI ns all b:=fun b hb=>by
   obtain⟨j,hj,rfl⟩:=List.getElem_of_mem hb;exact h.shut j hj hj
  induction hb with
  | refl=>exact h.has
  | prime _ hn hp ih=>exact(az _ ih _ hn _ hp).1
  | sub _ hn hp ih=>exact(az _ ih _ hn _ hp).2
 ·exact h.reach b
end Go.Proofs.YtemnmcfmabamcaaGreatDoor.L
namespace Go.Proofs.YtemnmcfmabamcaaGreatDoor.L
def rankN(b:List Nat)(a:Nat):Nat:=b.idxOf a
def renN(b:List Nat)(n:Zac):Zac:={ pl:=n.pl,lit:=n.lit,el:=n.el.map fun p=>(rankN b p.1,rankN b p.2),le:=n.le }
def Zmj (ns:List Zac)(a:Nat):Zac:=match ns[a]? with
 | some n=>n
 | none=>constN
def keepNodes(ns:List Zac)(b:List Nat):List Zac:=b.map fun a=>renN b (Zmj ns a)
def uniqRun:List Zac→Nat→List (Key × Nat)→List (Key × Nat)
 | [],_,u=>u
 | n :: r,i,u=>uniqRun r (i+1) (if 0≤n.pl then ((n.pl,n.lit,n.el),i) :: u else u)
def Zoo (s:St):St:={ s with uniq:=uniqRun s.nodes 0 [],ands:=[],nots:=[] }
def keepS(s:St)(b:List Nat):St:=Zoo { s with nodes:=keepNodes s.nodes b }
structure Closed (ns:List Zac) (b:List Nat):Prop where
 sorted:b.Pairwise (· < ·)
 zero:b[0]? =some 0
 one:b[1]? =some 1
 lt:∀a∈b,a<ns.length
 shut:∀a∈b,ZgI ns b a
theorem Zmk{ns:List Zac}{a:Nat}{n:Zac}(h:ns[a]? =some n):Zmj ns a=n:=by unfold Zmj;rw[h]
theorem rank_at{b:List Nat}{a:Nat}(ha:a∈b):b[rankN b a]? =some a:=by
 unfold rankN;have h1:b.idxOf a<b.length:=List.idxOf_lt_length_of_mem ha;rw[Zry h1,List.getElem_idxOf]
theorem rank_lt{b:List Nat}{a:Nat}(ha:a∈b):rankN b a<b.length:=List.idxOf_lt_length_of_mem ha
theorem ZjY{l:List Nat}(h:l.Pairwise (· < ·)):∀ {i j:Nat}(iD:i<j) (hj:j<l.length),l[i]'(by omega)<l[j]:=fun {i j} iD hj=>(List.pairwise_iff_getElem.1 h) i j (by omega) hj iD
theorem Closed.mono{ns:List Zac}{b:List Nat}(h:Closed ns b){a c:Nat}(ha:a∈b)(hc:c∈b):a<c↔rankN b a<rankN b c:=by
 have h1:=rank_at ha;have h2:=rank_at hc;obtain⟨l1,e1⟩:=Zrw h1;obtain⟨l2,e2⟩:=Zrw h2;rcases Nat.lt_trichotomy (rankN b a) (rankN b c) with h3|h3|h3
 ·have:=ZjY h.sorted h3 l2
  rw[e1,e2]at this;exact⟨fun _=>h3,fun _=>this⟩
 ·have:a=c:=by
   rw[h3,h2]at h1;exact(Option.some.inj h1).symm
  omega
 ·have:=ZjY h.sorted h3 l1
  rw[e1,e2]at this;omega
theorem Closed.rank{ns:List Zac}{b:List Nat}(h:Closed ns b){i a:Nat}(ha:b[i]? =some a):rankN b a=i:=by
 obtain⟨l1,e1⟩:=Zrw ha;have hm:a∈b:=List.mem_of_getElem? ha;obtain⟨l2,e2⟩:=Zrw (rank_at hm);rcases Nat.lt_trichotomy (rankN b a) i with h3|h3|h3
 ·have:=ZjY h.sorted h3 l1;omega
 ·exact h3
 ·have:=ZjY h.sorted h3 l2;omega
theorem Closed.inj{ns:List Zac}{b:List Nat}(h:Closed ns b){a c:Nat}(ha:a∈b)(hc:c∈b)(e:rankN b a=rankN b c):a=c:=by
 have h1:=rank_at ha;rw[e,rank_at hc]at h1;exact(Option.some.inj h1).symm
theorem Closed.rank0{ns:List Zac}{b:List Nat}(h:Closed ns b):rankN b 0=0:=h.rank h.zero
theorem Closed.rank1{ns:List Zac}{b:List Nat}(h:Closed ns b):rankN b 1=1:=h.rank h.one
theorem Closed.mem0{ns:List Zac}{b:List Nat}(h:Closed ns b):0∈b:=List.mem_of_getElem? h.zero
theorem Closed.mem1{ns:List Zac}{b:List Nat}(h:Closed ns b):1∈b:=List.mem_of_getElem? h.one
theorem keep_get{ns:List Zac}{b:List Nat}{i a:Nat}{n:Zac}(ha:b[i]? =some a)(hn:ns[a]? =some n):(keepNodes ns b)[i]? =some (renN b n):=by
 unfold keepNodes;rw[List.getElem?_map,ha,Option.map_some,Zmk hn]
theorem keep_len(ns:List Zac)(b:List Nat):(keepNodes ns b).length=b.length:=by unfold keepNodes;rw[List.length_map]
theorem Closed.node{ns:List Zac}{b:List Nat}(h:Closed ns b){a:Nat}(ha:a∈b):∃n,ns[a]? =some n:=⟨ns[a]'(h.lt a ha),Zry (h.lt a ha)⟩
theorem keep_from{ns:List Zac}{b:List Nat}(h:Closed ns b){i:Nat}{m:Zac}(hm:(keepNodes ns b)[i]? =some m):∃a n,b[i]? =some a∧a∈b∧ns[a]? =some n∧m=renN b n:=by
 have hi:i<b.length:=by have:=(Zrw hm).1;rwa [keep_len]at this
 have ha:b[i]? =some b[i]:=Zry hi;have ag:b[i]∈b:=ZrM hi;obtain⟨n,hn⟩:=h.node ag;refine⟨b[i],n,ha,ag,hn,?_⟩;rw[keep_get ha hn]at hm;exact(Option.some.inj hm).symm
theorem Closed.kids{ns:List Zac}{b:List Nat}(h:Closed ns b)(hk:Kids ns):Kids (keepNodes ns b):=fun i m hm p hp=>by
 obtain⟨a,n,ha,ag,hn,rfl⟩:=keep_from h hm;obtain⟨q,hq,rfl⟩:=List.mem_map.1 hp;obtain⟨k1,k2⟩:=hk a n hn q hq;obtain⟨s1,s2⟩:=h.shut a ag n hn q hq;rw[←h.rank ha];exact⟨(h.mono s1 ag).1 k1,(h.mono s2 ag).1 k2⟩
theorem ZnD{α β:Type}(f:α→β)(p:β→Bool):∀l:List α,(l.map f).any p=l.any fun a=>p (f a):=by
 intro l
 induction l with
 | nil=>rfl
 | cons a r ih=>rw[List.map_cons,List.any_cons,List.any_cons,ih]
theorem sem_keep{ns:List Zac}{b:List Nat}(h:Closed ns b)(hk:Kids ns)(x:Asg):∀a,a∈b→sem (keepNodes ns b) (rankN b a) x=sem ns a x:=by
 intro a
 induction a using Nat.strongRecOn with
 | ind a ih =>
   intro ha;obtain⟨n,hn⟩:=h.node ha;rw[sem_node (h.kids hk) (keep_get (rank_at ha) hn),sem_node hk hn]
   show (if n.lit≠0 then _ else if (n.el.map fun p=>(rankN b p.1,rankN b p.2))=[] then _ else (n.el.map fun p=>(rankN b p.1,rankN b p.2)).any _)=_
   by_cases h1:n.lit≠0
   ·rw[if_pos h1,if_pos h1];rfl
   ·rw[if_neg h1,if_neg h1]
    by_cases h2:n.el=[]
    ·rw[if_pos h2,if_pos (by rw[h2];rfl)]
     have:(rankN b a=1)↔(a=1):=⟨fun e=>h.inj ha h.mem1 (by rw[e,h.rank1]),fun e=>by rw[e,h.rank1]⟩;simp[this]
    ·rw[if_neg h2,if_neg (by simpa using h2),ZnD]
     refine Zcq fun p hp=>?_
     obtain⟨k1,k2⟩:=hk a n hn p hp;obtain⟨s1,s2⟩:=h.shut a ha n hn p hp;simp only;rw[ih p.1 k1 s1,ih p.2 k2 s2]
theorem ZfA{ns:List Zac}{b:List Nat}(h:Closed ns b){a:Nat}(ha:a∈b):ZaG (keepNodes ns b) (rankN b a)=ZaG ns a:=by
 obtain⟨n,hn⟩:=h.node ha;unfold ZaG;rw[keep_get (rank_at ha) hn,hn]
 rfl
theorem ZiI{ns:List Zac}{b:List Nat}(h:Closed ns b):∀(l:List (Nat × Nat)) (a:Bool × Zax),(∀p∈l,p.1∈b∧p.2∈b)→(l.map fun p=>(rankN b p.1,rankN b p.2)).foldl (Zau (keepNodes ns b)) a=l.foldl (Zau ns) a:=by
 intro l
 induction l with
 | nil=>intro a _;rfl
 | cons p r ih =>
   intro a hp;obtain⟨p1,p2⟩:=hp p (ZrL ..);rw[List.map_cons,List.foldl_cons,List.foldl_cons,ih _ fun q hq=>hp q (ZrA _ hq)]
   have:Zau (keepNodes ns b) a (rankN b p.1,rankN b p.2)=Zau ns a p:=by
    unfold Zau;have e0:(rankN b p.2=0)↔(p.2=0):=⟨fun e=>h.inj p2 h.mem0 (by rw[e,h.rank0]),fun e=>by rw[e,h.rank0]⟩;simp only[e0,ZfA h p1,ZfA h p2]
   rw[this]
theorem ZaA.keep{t:List VN}{ns:List Zac}{b:List Nat}(h:Closed ns b)(hk:Kids ns){l r:Nat}{el:List (Nat × Nat)}(hp:ZaA t ns l r el)(hm:∀p∈el,p.1∈b∧p.2∈b):ZaA t (keepNodes ns b) l r (el.map fun p=>(rankN b p.1,rankN b p.2)):=by
 have hs:∀a∈b,sem (keepNodes ns b) (rankN b a)=sem ns a:=fun a ha=>funext fun x=>sem_keep h hk x a ha
 refine⟨fun p cH=>?_,fun p cH=>?_,fun p cH=>?_,?_,fun x=>?_,?_,?_,by rw[List.length_map];exact hp.two⟩
 ·obtain⟨q,hq,rfl⟩:=List.mem_map.1 cH
  show Dep _ (sem _ (rankN b q.1))
  rw[hs _ (hm q hq).1];exact hp.pdep q hq
 ·obtain⟨q,hq,rfl⟩:=List.mem_map.1 cH
  show Dep _ (sem _ (rankN b q.2))
  rw[hs _ (hm q hq).2];exact hp.sdep q hq
 ·obtain⟨q,hq,rfl⟩:=List.mem_map.1 cH
  show ∃x,sem _ (rankN b q.1) x=true
  rw[hs _ (hm q hq).1];exact hp.pne q hq
 ·rw[List.pairwise_map]
  refine hp.disj.imp_of_mem fun {p q} h1 h2 h3=>?_
  show ∀x,¬ (sem _ (rankN b p.1) x=true∧sem _ (rankN b q.1) x=true)
  rw[hs _ (hm p h1).1,hs _ (hm q h2).1];exact h3
 ·obtain⟨q,hq,hx⟩:=hp.cover x
  refine⟨_,List.mem_map.2 ⟨q,hq,rfl⟩,?_⟩
  show sem _ (rankN b q.1) x=true
  rw[hs _ (hm q hq).1];exact hx
 ·rw[List.pairwise_map]
  refine hp.nd.imp_of_mem fun {p q} h1 h2 h3=>?_
  exact fun e=>h3 (h.inj (hm p h1).2 (hm q h2).2 e)
 ·obtain⟨q,hq,hb⟩:=hp.big
  refine⟨_,List.mem_map.2 ⟨q,hq,rfl⟩,?_⟩
  show 2≤rankN b q.2
  have:=(h.mono h.mem1 (hm q hq).2).1 (by omega);rw[h.rank1]at this;omega
theorem Zb9.keep{t:List VN}{ns:List Zac}{b:List Nat}(h:Closed ns b)(hk:Kids ns){a:Nat}{n:Zac}(ha:a∈b)(hn:ns[a]? =some n)(hd:Zb9 t ns a n):Zb9 t (keepNodes ns b) (rankN b a) (renN b n):=by
 have hm:=h.shut a ha n hn;refine⟨hd.lit,fun p hp=>h.kids hk _ _ (keep_get (rank_at ha) hn) p hp,?_,?_,?_⟩
 ·obtain⟨P,y,l,r,h1,h2,h3,h4,h5,h6⟩:=hd.parts
  exact⟨P,y,l,r,h1,h2,h3,h4,h5,h6.keep h hk hm⟩
 ·show (n.el.map _).Pairwise _
  rw[List.pairwise_map];refine hd.sorted.imp_of_mem fun {p q} h1 h2 h3=>?_
  unfold Za9 at h3 ⊢;simp only;rw[ZfA h (hm p h1).1,ZfA h (hm q h2).1];exact h3
 ·show n.le=(Za8 (keepNodes ns b) (n.el.map _)).2
  rw[hd.le];unfold Za8;rw[ZiI h _ _ hm]
theorem Zie:∀(ns:List Zac) (i:Nat) (u:List (Key × Nat)) (k:Key) (j:Nat),asc (uniqRun ns i u) k=some j→asc u k=some j∨∃m,∃n,ns[m]? =some n∧0≤n.pl∧Zbq n=k∧j=i+m:=by
 intro ns
 induction ns with
 | nil=>intro i u k j h;exact .inl h
 | cons n r ih =>
   intro i u k j h;rw[uniqRun]at h;rcases ih _ _ _ _ h with h|⟨m,n',h1,h2,h3,h4⟩
   ·by_cases hp:0≤n.pl
    ·rw[if_pos hp,ZaH]at h
     by_cases e:k=(n.pl,n.lit,n.el)
     ·rw[if_pos e]at h
      cases h
      exact .inr ⟨0,n,rfl,hp,e.symm,by omega⟩
     ·rw[if_neg e]at h
      exact .inl h
    ·rw[if_neg hp]at h
     exact .inl h
   ·exact .inr ⟨m+1,n',h1,h2,h3,by omega⟩
theorem Zji:∀(ns:List Zac) (i:Nat) (u:List (Key × Nat)),(∀(a c:Nat) (n m:Zac),ns[a]? =some n→ns[c]? =some m→0≤n.pl→0≤m.pl→Zbq n=Zbq m→a=c)→(∀(m:Nat) (n:Zac),ns[m]? =some n→0≤n.pl→asc (uniqRun ns i u) (Zbq n)=some (i+m))∧(∀(k:Key) (j:Nat),asc u k=some j→(∀(m:Nat) (n:Zac),ns[m]? =some n→0≤n.pl→Zbq n≠k)→asc (uniqRun ns i u) k=some j):=by
 intro ns
 induction ns with
 | nil=>intro i u _;exact⟨fun m n h=>by simp at h,fun k j h _=>h⟩
 | cons n r ih =>
   intro i u hd
   have iL:∀(a c:Nat) (n m:Zac),r[a]? =some n→r[c]? =some m→0≤n.pl→0≤m.pl→Zbq n=Zbq m→a=c:=fun a c n' m' h1 h2 h3 h4 h5=>by
    have:=hd (a+1) (c+1) n' m' (by simpa using h1) (by simpa using h2) h3 h4 h5;omega
   rw[uniqRun];obtain⟨i1,i2⟩:=ih (i+1) (if 0≤n.pl then ((n.pl,n.lit,n.el),i) :: u else u) iL;refine⟨fun m n' h hp=>?_,fun k j h aJ=>?_⟩
   ·cases m with
    | zero =>
      simp only[List.getElem?_cons_zero,ZrJ]at h;subst h;refine i2 _ _ ?_ fun m n'' h2 h3 e=>?_
      ·rw[if_pos hp,ZaH];exact if_pos rfl
      ·have:=hd (m+1) 0 n'' n (by simpa using h2) rfl h3 hp e
       omega
    | succ m =>
      have:=i1 m n' (by simpa using h) hp;rw[this]
      congr 1
      omega
   ·refine i2 k j ?_ fun m n' h1 h2=>aJ (m+1) n' (by simpa using h1) h2
    by_cases hp:0≤n.pl
    ·rw[if_pos hp,ZaH,if_neg,h]
     exact fun e=>aJ 0 n rfl hp e.symm
    ·rw[if_neg hp];exact h
theorem Inv.pl_nat{s:St}(h:Inv s){i:Nat}{n:Zac}(hn:s.nodes[i]? =some n):0≤n.pl↔2≤i:=by
 rcases h.kind (Zrw hn).1 with rfl|rfl|⟨h2,n',cR,_⟩
 ·rw[h.zero]at hn;cases hn;simp[constN]
 ·rw[h.one]at hn;cases hn;simp[constN]
 ·rw[hn]at cR;cases cR
  obtain⟨P,hP,_⟩:=h.place h2 hn;rw[hP];simp;exact h2
theorem Closed.ge2{ns:List Zac}{b:List Nat}(h:Closed ns b){i a:Nat}(ha:b[i]? =some a):2≤i↔2≤a:=by
 have hm:a∈b:=List.mem_of_getElem? ha;have h1:=h.mono h.mem1 hm;rw[h.rank1,h.rank ha]at h1;omega
theorem keep_inv{s:St}(hi:Inv s){b:List Nat}(h:Closed s.nodes b):Inv (keepS s b):=by
 have hk:=hi.kids
 have yd:∀(a c:Nat) (n m:Zac),(keepNodes s.nodes b)[a]? =some n→(keepNodes s.nodes b)[c]? =some m→0≤n.pl→0≤m.pl→Zbq n=Zbq m→a=c:=by
  intro a c n m h1 h2 h3 h4 e;obtain⟨a',n',ha,ig,hn,rfl⟩:=keep_from h h1;obtain⟨c',m',hc,hmc,hm,rfl⟩:=keep_from h h2;have e1:n'.pl=m'.pl:=congrArg (fun k:Key=>k.1) e;have e2:n'.lit=m'.lit:=congrArg (fun k:Key=>k.2.1) e;have e3:(n'.el.map fun p=>(rankN b p.1,rankN b p.2))=m'.el.map fun p=>(rankN b p.1,rankN b p.2):=congrArg (fun k:Key=>k.2.2) e
  have e4:n'.el=m'.el:=by
   have s1:=h.shut a' ig n' hn;have s2:=h.shut c' hmc m' hm;clear e h1 h2 h3 h4 hn hm e1 e2;generalize n'.el=l1 at *;generalize m'.el=l2 at *
   induction l1 generalizing l2 with
   | nil=>cases l2 with
     | nil=>rfl
     | cons=>simp at e3
   | cons p r ih=>cases l2 with
     | nil=>simp at e3
     | cons q r2 =>
       simp only[List.map_cons,List.cons.injEq,Prod.mk.injEq]at e3;obtain⟨⟨g1,g2⟩,g3⟩:=e3;have p1:=s1 p (ZrL ..);have q1:=s2 q (ZrL ..);have d1:=h.inj p1.1 q1.1 g1;have d2:=h.inj p1.2 q1.2 g2;have:p=q:=Prod.ext d1 d2;rw[this,ih (fun x hx=>s1 x (ZrA _ hx)) r2 (fun x hx=>s2 x (ZrA _ hx)) g3]
  have h2a:2≤a':=(hi.pl_nat hn).1 h3;have h2c:2≤c':=(hi.pl_nat hm).1 h4;have u1:=hi.uq2 a' n' h2a hn;have u2:=hi.uq2 c' m' h2c hm;have ek:Zbq n'=Zbq m':=by unfold Zbq;rw[e1,e2,e4]
  rw[ek,u2]at u1;have:a'=c':=(Option.some.inj u1).symm;subst this;rw[←h.rank ha,←h.rank hc]
 have dQ:∀(i:Nat) (n:Zac),(keepNodes s.nodes b)[i]? =some n→(0≤n.pl↔2≤i):=fun i m hm=>by
  obtain⟨a,n,ha,ig,hn,rfl⟩:=keep_from h hm;rw[h.ge2 ha]
  show 0≤n.pl↔_
  exact hi.pl_nat hn
 obtain⟨g1,_⟩:=Zji (keepNodes s.nodes b) 0 [] yd;refine⟨hi.tree,keep_get h.zero hi.zero,keep_get h.one hi.one,fun i m h2 hm=>?_,fun i h1 hl=>?_,fun k i eF=>?_,fun i n h2 hn=>?_,(fun a c d hh=>by cases hh),(fun a c hh=>by cases hh)⟩
 ·obtain⟨a,n,ha,ig,hn,rfl⟩:=keep_from h hm
  rcases hi.ok a n ((h.ge2 ha).1 h2) hn with hl|hd
  ·exact .inl ⟨by show n.el.map _=[];rw[hl.el];rfl,hl.lit,hl.leaf,hl.le⟩
  ·refine .inr ?_
   have:=hd.keep h hk ig hn
   rwa [h.rank ha]at this
 ·have eK:i<b.length:=by
   have:i<(keepNodes s.nodes b).length:=hl
   rwa [keep_len]at this
  have ha:b[i]? =some b[i]:=Zry eK;have ig:=ZrM eK
  have eE:1≤b[i]:=by
   rcases Nat.lt_or_ge i 2 with h3|h3
   ·obtain rfl:i=1:=by omega
    rw[h.one]at ha;have:=Option.some.inj ha;omega
   ·have:=(h.ge2 ha).1 h3;omega
  have dr:=hi.min b[i] eE (h.lt _ ig)
  have e1:∀x,sem (keepNodes s.nodes b) i x=sem s.nodes b[i] x:=fun x=>by
   have:=sem_keep h hk x _ ig
   rwa [h.rank ha]at this
  have e2:ZaG (keepNodes s.nodes b) i=ZaG s.nodes b[i]:=by
   have:=ZfA h ig
   rwa [h.rank ha]at this
  refine⟨?_,fun m hm=>?_⟩
  ·show sem (keepNodes s.nodes b) i (asg (ZaG (keepNodes s.nodes b) i))=true
   rw[e1,e2];exact dr.sat
  ·show leS (ZaG (keepNodes s.nodes b) i) m
   rw[e2];exact dr.le m (by rw[←e1];exact hm)
 ·rcases Zie _ _ _ _ _ eF with hh|⟨m,n,h1,h2,h3,h4⟩
  ·cases hh
  ·obtain rfl:i=m:=by omega
   exact⟨(dQ _ _ h1).1 h2,n,h1,h3⟩
 ·have:=g1 i n hn ((dQ i n hn).2 h2)
  rwa [Nat.zero_add]at this
theorem keep_big{s:St}{b:List Nat}(h:Closed s.nodes b):big (keepS s b)≤big s:=by
 have aX:(keepS s b).nodes.length=b.length:=keep_len _ _
 have fU:∀i,bigAt (keepS s b) i=true→∃a,b[i]? =some a∧bigAt s a=true:=fun i hb=>by
  unfold bigAt at hb
  cases hm:(keepS s b).nodes[i]? with
  | none=>rw[hm]at hb;cases hb
  | some m =>
    rw[hm]at hb;obtain⟨a,n,ha,_,hn,rfl⟩:=keep_from h hm;refine⟨a,ha,?_⟩;unfold bigAt;rw[hn];exact hb
 have rA:((List.range (keepS s b).nodes.length).filter (bigAt (keepS s b))).map (fun i=>b.getD i 0) |>.Nodup:=by
  refine Zc6 _ (List.nodup_range.filter _) fun i hi j hj e=>?_
  obtain⟨a,ha,_⟩:=fU i (List.mem_filter.1 hi).2;obtain⟨c,hc,_⟩:=fU j (List.mem_filter.1 hj).2;rw[ZrG,ZrG,ha,hc]at e;simp only[Option.getD_some]at e;subst e;rw[←h.rank ha,←h.rank hc]
 have:=Zcx _ ((List.range s.nodes.length).filter (bigAt s)) rA fun x hx=>by
  obtain⟨i,hi,rfl⟩:=List.mem_map.1 hx;obtain⟨a,ha,hb⟩:=fU i (List.mem_filter.1 hi).2;rw[ZrG,ha,Option.getD_some,List.mem_filter,List.mem_range];exact⟨h.lt a (List.mem_of_getElem? ha),hb⟩
 rwa [List.length_map]at this
theorem visAll_spec{s:St}(h:Inv s)(aX:s.nodes.length≤1048576){f:Nat}(hf:s.tree.length+1≤f)(hd:∀a,a<s.nodes.length→∃v,v<s.tree.length∧Dep (Bel s.tree v) (sem s.nodes a)) :
  ∀(l:List Nat) (out:List Nat),(∀a∈l,a<s.nodes.length)→out.Nodup→(∀b∈out,b<s.nodes.length)→(∀b∈out,ZgI s.nodes out b) →
    ∃o,Zcj (Zho f s.nodes) l out=some o∧o.Nodup∧(∀b∈o,b<s.nodes.length)∧(∀b∈o,ZgI s.nodes o b)∧(∀b∈out,b∈o)∧(∀a∈l,a∈o)∧(∀b∈o,b∈out∨∃a∈l,b≤a):=by
 intro l
 induction l with
 | nil=>intro out _ h1 h2 h3;exact⟨out,rfl,h1,h2,h3,fun _ h=>h,fun _ h=>(by cases h),fun b hb=>.inl hb⟩
 | cons a r ih =>
   intro out hl h1 h2 h3;have ha:=hl a (ZrL ..);obtain⟨v,hv,hdv⟩:=hd a ha;obtain⟨o1,e1,V⟩:=Zig h aX a ha v hv hdv f (by omega) out h1 h2
   have nT:∀b∈o1,ZgI s.nodes o1 b:=fun b hb=>by
    by_cases fg:b≤a
    ·exact V.shut (fun c hc _=>h3 c hc) b hb fg
    ·rcases V.new b hb with cQ|cQ
     ·exact(h3 b cQ).mono V.sub
     ·omega
   obtain⟨o,e2,g1,g2,g3,g4,g5,g6⟩:=ih o1 (fun c hc=>hl c (ZrA _ hc)) V.nd V.lt nT;refine⟨o,?_,g1,g2,g3,fun b hb=>g4 b (V.sub b hb),fun c hc=>?_,fun b hb=>?_⟩
   ·rw[Zcj,e1];exact e2
   ·rcases List.mem_cons.1 hc with rfl|hc
    ·exact g4 _ V.mem
    ·exact g5 c hc
   ·rcases g6 b hb with h|⟨c,hc,uG⟩
    ·rcases V.new b h with h|h
     ·exact .inl h
     ·exact .inr ⟨a,ZrL ..,h.1⟩
    ·exact .inr ⟨c,ZrA _ hc,uG⟩
theorem closed_of{ns:List Zac}{o b:List Nat}(ho:o.Nodup)(aD:∀a∈o,a<ns.length)(nT:∀a∈o,ZgI ns o a)(h0:0∈o)(h1:1∈o)(hp:b.Perm o)(hs:b.Pairwise (·≤·)):Closed ns b:=by
 have sr:b.Nodup:=hp.nodup_iff.2 ho;have cW:b.Pairwise (· < ·):=(hs.and sr).imp fun ⟨h1,h2⟩=>by omega
 have ag:∀x,x∈b↔x∈o:=fun x=>hp.mem_iff
 match b,cW,ag with
 | [],_,ag=>exact absurd ((ag 0).2 h0) (by simp)
 | [x],_,ag =>
   have e0:=(ag 0).2 h0;have e1:=(ag 1).2 h1;simp at e0 e1;omega
 | x :: y :: r,cW,ag =>
   rw[List.pairwise_cons,List.pairwise_cons]at cW;have e0:=(ag 0).2 h0;have e1:=(ag 1).2 h1
   have hx:x=0:=by
    rcases List.mem_cons.1 e0 with e|e
    ·exact e.symm
    ·have:=cW.1 0 e;omega
   have hy:y=1:=by
    rcases List.mem_cons.1 e1 with e|e
    ·omega
    ·rcases List.mem_cons.1 e with e|e
     ·exact e.symm
     ·have:=cW.2.1 1 e
      have:=cW.1 y (ZrL ..);omega
   refine⟨by rw[List.pairwise_cons,List.pairwise_cons];exact cW,by rw[hx];rfl,by rw[hy];rfl,fun a ha=>aD a ((ag a).1 ha),fun a ha n hn p cH=>?_⟩;obtain⟨s1,s2⟩:=nT a ((ag a).1 ha) n hn p cH;exact⟨(ag _).2 s1,(ag _).2 s2⟩
end Go.Proofs.YtemnmcfmabamcaaGreatDoor.L
