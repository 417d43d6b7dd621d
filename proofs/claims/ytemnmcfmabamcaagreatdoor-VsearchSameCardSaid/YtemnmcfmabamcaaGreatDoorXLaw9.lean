import Derived.Test.YtemnmcfmabamcaaGreatDoorXLawP
import Derived.Test.YtemnmcfmabamcaaGreatDoorXLaw8
set_option linter.unusedSimpArgs false
set_option linter.unusedVariables false
namespace Go.Proofs.YtemnmcfmabamcaaGreatDoor.L
def inB (S m:List Int):Bool:=S.all fun v=>decide (v∈m)
theorem inB_iff (S m:List Int):inB S m = true↔∀ v,v∈S→v∈m:=by simp [inB]
def leftT (S:List Int):Tr→Option (List Int)
 | .leaf _=>none
 | .node a b=>if inB S a.vars then leftT S a else if inB S b.vars then leftT S b else some a.vars
theorem leftT_place {t:List VN} (hc:checkF t = 0) {P:Nat} {φ:Asg→Bool} (h:PlaceOf t P φ) {S:List Int} (hS:∀ v,v∈S↔Hangs φ v) {Q:Nat} {T:Tr} (hT:IsT idc t Q T):Und t Q P →
  ∀ y,t[P]? = some y→(leafB y = true→leftT S T = none)∧(leafB y = false→∀ l:Nat,y.left = l→∃ m,leftT S T = some m∧∀ v,v∈m↔Bel t l v):=by
 induction hT with
 | @leaf i x hx hl =>
   intro hu y hy
   have e:=hu.leaf hc hx hl
   subst e
   rw [hx] at hy
   cases hy
   exact ⟨fun _=>rfl,fun h'=>by rw [hl] at h';cases h'⟩
 | @node i a b x l r hx hlf ha hb h1 h2 ih1 ih2 =>
   intro hu y hy
   have ha':x.left = a:=ha
   have hb':x.right = b:=hb
   have eL:inB S l.vars = true↔Und t a P:=by
    rw [inB_iff,←h.toL hc hu hx hlf ha' hb']
    exact ⟨fun g v hv=>(h1.mem hc v).1 (g v ((hS v).2 hv)),fun g v hv=>(h1.mem hc v).2 (g v ((hS v).1 hv))⟩
   have eR:inB S r.vars = true↔Und t b P:=by
    rw [inB_iff,←h.toR hc hu hx hlf ha' hb']
    exact ⟨fun g v hv=>(h2.mem hc v).1 (g v ((hS v).2 hv)),fun g v hv=>(h2.mem hc v).2 (g v ((hS v).1 hv))⟩
   unfold leftT
   by_cases g1:inB S l.vars = true
   ·rw [if_pos g1]
    exact ih1 (eL.1 g1) y hy
   ·rw [if_neg g1]
    by_cases g2:inB S r.vars = true
    ·rw [if_pos g2]
     exact ih2 (eR.1 g2) y hy
    ·rw [if_neg g2]
     rcases hu.kids hc hx ha' hb' with rfl | g | g
     ·rw [hx] at hy
      cases hy
      refine ⟨fun h'=>(by rw [hlf] at h';cases h'),fun _ l' hl'=>⟨_,rfl,fun v=>?_⟩⟩
      obtain rfl:l' = a:=by omega
      exact h1.mem hc v
     ·exact (g1 (eL.2 g)).elim
     ·exact (g2 (eR.2 g)).elim
def elsTr (T:Tr) (l:List Int) (f:List Bool):List (List Bool × List Bool) :=
 if depL l f = [] then [] else match leftT (depL l f) T with
 | none=>[]
 | some m=>elsN f (idxF l fun v=>decide (v∈m)) (2 ^ l.length)
theorem elsTr_law {s:St} (h:Inv s) {l:List Int} (hl:SortedBel s.tree (s.tree.length - 1) l) {T:Tr} (hT:IsT idc s.tree (s.tree.length - 1) T) {a:Nat} {n:SNode} (hn:s.nodes[a]? = some n) :
  elsTr T l (tabO l (sem s.nodes a)) = n.el.map fun p=>(tabO l (sem s.nodes p.1),tabO l (sem s.nodes p.2)):=by
 have ha:=(List.getElem?_eq_some_iff.1 hn).1
 have hd:=h.tabDep hl ha
 have hf:=tabO_is hl.sorted hd
 have hS:∀ v,v∈depL l (tabO l (sem s.nodes a))↔Hangs (sem s.nodes a) v:=depL_mem hl.sorted hf hd
 have hz:∀ b:Bool,(∀ x,sem s.nodes a x = b)→depL l (tabO l (sem s.nodes a)) = []:=fun b hb=>by
  rw [List.eq_nil_iff_forall_not_mem]
  exact fun v hv=>const_hangs hb v ((hS v).1 hv)
 unfold elsTr
 rcases h.kind ha with rfl | rfl | ⟨h2,m,hm,hk⟩
 ·rw [if_pos (hz false fun x=>h.sem0 x)]
  have:=h.zero;rw [hn] at this;cases this;rfl
 ·rw [if_pos (hz true fun x=>h.sem1 x)]
  have:=h.one;rw [hn] at this;cases this;rfl
 ·rw [hn] at hm;cases hm
  obtain ⟨P,hP,hPl⟩:=h.placeOf hl h2 hn
  have hne:depL l (tabO l (sem s.nodes a))≠[]:=fun e=>by
   obtain ⟨v,hv⟩:=hPl.ess
   have:=(hS v).2 hv
   rw [e] at this;cases this
  rw [if_neg hne]
  have hroot:=Und.root h.tree s.tree.length P hPl.lt (by have:=hPl.lt;omega)
  rcases hk with hk | hk
  ·obtain ⟨u,y,e1,e2,e3,e4⟩:=hk.leaf
   obtain rfl:u = P:=by omega
   rw [(leftT_place h.tree hPl hS hT hroot y e2).1 e3,hk.el]
   rfl
  ·obtain ⟨P',y,L',R',e1,e2,e3,e4,e5,hfit⟩:=h.elFit hl hn hk hf
   obtain rfl:P' = P:=by omega
   obtain ⟨m,hm,hmem⟩:=(leftT_place h.tree hPl hS hT hroot y e2).2 e3 L' e4
   rw [hm]
   obtain ⟨lw,hfit'⟩:=hfit (idxF l fun v=>decide (v∈m)) ⟨idxF_lt _ _,fun k hk=>by rw [idxF_bit l _ hk,decide_eq_true_iff,hmem]⟩
   exact els_law hfit'
def withTr (l:List (List Bool)) (f:List Bool):List (List Bool):=if f∈l then l else l++[f]
def addTr (l:List (List Bool)):List (List Bool × List Bool)→List (List Bool)
 | []=>l
 | p :: r=>addTr (withTr (withTr l p.1) p.2) r
def sizeK (T:Tr) (l:List Int):Nat→List (List Bool)→Nat→Nat→Nat
 | 0,_,_,n=>n
 | k+1,all,i,n=>match all[i]? with
   | none=>n
   | some f=>sizeK T l k (addTr all (elsTr T l f)) (i+1) (n+(elsTr T l f).length)
def sizeTr (T:Tr) (l:List Int) (f:List Bool):Nat:=sizeK T l 1048577 [f] 0 0
theorem withTr_map {s:St} (h:Inv s) {l:List Int} (hl:SortedBel s.tree (s.tree.length - 1) l) {A:List Nat} (hA:∀ b∈A,b < s.nodes.length) {x:Nat} (hx:x < s.nodes.length) :
  withTr (A.map fun b=>tabO l (sem s.nodes b)) (tabO l (sem s.nodes x)) = (withL A x).map fun b=>tabO l (sem s.nodes b):=by
 unfold withTr withL
 have:tabO l (sem s.nodes x)∈(A.map fun b=>tabO l (sem s.nodes b))↔x∈A:=by
  rw [List.mem_map]
  constructor
  ·rintro ⟨b,hb,e⟩
   exact (h.tab_eq hl (hA b hb) hx).1 e ▸ hb
  ·exact fun hx=>⟨x,hx,rfl⟩
 by_cases hm:x∈A
 ·rw [if_pos (this.2 hm),if_pos hm]
 ·rw [if_neg (fun e=>hm (this.1 e)),if_neg hm,List.map_append];rfl
theorem addTr_map {s:St} (h:Inv s) {l:List Int} (hl:SortedBel s.tree (s.tree.length - 1) l):∀ (el:List (Nat × Nat)) (A:List Nat),(∀ b∈A,b < s.nodes.length)→(∀ p∈el,p.1 < s.nodes.length∧p.2 < s.nodes.length) →
  addTr (A.map fun b=>tabO l (sem s.nodes b)) (el.map fun p=>(tabO l (sem s.nodes p.1),tabO l (sem s.nodes p.2))) = (addP A el).map fun b=>tabO l (sem s.nodes b)
 | [],_,_,_=>rfl
 | p :: r,A,hA,hp=>by
   obtain ⟨p1,p2⟩:=hp p (List.mem_cons_self ..)
   have hA1:∀ b∈withL A p.1,b < s.nodes.length:=fun b hb=>by
    rcases (withL_mem A p.1 b).1 hb with hb | rfl
    ·exact hA b hb
    ·exact p1
   have hA2:∀ b∈withL (withL A p.1) p.2,b < s.nodes.length:=fun b hb=>by
    rcases (withL_mem _ p.2 b).1 hb with hb | rfl
    ·exact hA1 b hb
    ·exact p2
   rw [List.map_cons,addTr,addP,withTr_map h hl hA p1,withTr_map h hl hA1 p2]
   exact addTr_map h hl r _ hA2 fun q hq=>hp q (List.mem_cons_of_mem _ hq)
theorem sizeK_law {s:St} (h:Inv s) {l:List Int} (hl:SortedBel s.tree (s.tree.length - 1) l) {T:Tr} (hT:IsT idc s.tree (s.tree.length - 1) T) {a:Nat} (ha:a < s.nodes.length) {o:List Nat} (ho:o.Nodup) (hr:∀ b,b∈o↔Reach s.nodes a b) :
  ∀ (k:Nat) (A:List Nat) (i n:Nat),Bfs s.nodes a A i n→i≤A.length→s.nodes.length < k+i→sizeK T l k (A.map fun b=>tabO l (sem s.nodes b)) i n = sumEl s.nodes o
 | 0,A,i,n,hB,hi,hk=>by have:=hB.le h.kids;omega
 | k+1,A,i,n,hB,hi,hk=>by
   have hA:∀ b∈A,b < s.nodes.length:=fun b hb=>by have:=(hB.reach b hb).le h.kids;omega
   unfold sizeK
   by_cases hlt:i < A.length
   ·have hx:=hA _ (List.getElem_mem hlt)
    have hn:s.nodes[A[i]]? = some s.nodes[A[i]]:=List.getElem?_eq_getElem hx
    rw [List.getElem?_map,List.getElem?_eq_getElem hlt]
    simp only [Option.map_some]
    rw [elsTr_law h hl hT hn,addTr_map h hl _ _ hA fun p hp=>by obtain ⟨k1,k2⟩:=h.kids _ _ hn p hp;omega,List.length_map]
    refine sizeK_law h hl hT ha ho hr k _ (i+1) _ (hB.next hlt hn) ?_ (by omega)
    obtain ⟨r,e⟩:=addP_pre A s.nodes[A[i]].el
    rw [e,List.length_append];omega
   ·obtain rfl:i = A.length:=by omega
    rw [List.getElem?_eq_none (by simp)]
    exact (hB.end ho hr).symm
theorem sizeTr_law {s:St} (h:Inv s) {l:List Int} (hl:SortedBel s.tree (s.tree.length - 1) l) {T:Tr} (hT:IsT idc s.tree (s.tree.length - 1) T) (hsm:s.nodes.length≤1048576) {a:Nat} (ha:a < s.nodes.length) {o:List Nat} (ho:o.Nodup) (hr:∀ b,b∈o↔Reach s.nodes a b) :
  sizeTr T l (tabO l (sem s.nodes a)) = sumEl s.nodes o :=
 sizeK_law h hl hT ha ho hr 1048577 [a] 0 0 (Bfs.init _ _) (Nat.zero_le _) (by omega)
end Go.Proofs.YtemnmcfmabamcaaGreatDoor.L
namespace Go.Proofs.YtemnmcfmabamcaaGreatDoor.L
def rotT:Nat→Tr→Option Tr
 | 1,.node (.node a b) c=>some (.node a (.node b c))
 | 2,.node a (.node b c)=>some (.node (.node a b) c)
 | 3,.node a b=>some (.node b a)
 | _,_=>none
theorem rotT_iff (kd:Nat) (T U:Tr):rotT kd T = some U↔Rot kd T U:=by
 constructor
 ·intro h
  unfold rotT at h
  split at h
  ·cases h;exact .right _ _ _
  ·cases h;exact .left _ _ _
  ·cases h;exact .swap _ _
  ·cases h
 ·intro h
  cases h <;> rfl
def mvT (kd i:Nat):Tr→Nat→Option Tr
 | .leaf _,_=>none
 | .node l r,k=>if i = k+l.size+r.size then rotT kd (.node l r) else if i < k+l.size then (mvT kd i l k).map fun l'=>.node l' r else (mvT kd i r (k+l.size)).map fun r'=>.node l r'
theorem Mv.between {t:List VN} {kd at':Nat}:∀ (T U:Tr) (k:Nat) (pre suf:List VN),t = pre++(T.post k++suf)→pre.length = k→Mv t kd at' (k+T.size - 1) T U→k≤at'∧at' < k+T.size
 | .leaf v,U,k,pre,suf,ht,hk,h=>by
   cases h with
   | here h=>cases h
 | .node l r,U,k,pre,suf,ht,hk,h=>by
   obtain ⟨e1,e2,e3⟩:=post_node ht hk
   have hs:(Tr.node l r).size = l.size+r.size+1:=rfl
   generalize hi:k+(Tr.node l r).size - 1 = i at *
   cases h with
   | here h=>omega
   | @left _ a b y _ _ l' h1 h2 h3 h4 =>
     rw [e1] at h1;cases h1
     obtain rfl:=Int.ofNat.inj h2
     have:=Mv.between l l' k pre _ e2 hk h4
     omega
   | @right _ a b y _ _ r' h1 h2 h3 h4 =>
     rw [e1] at h1;cases h1
     obtain rfl:=Int.ofNat.inj h3
     have:=Mv.between r r' (k+l.size) (pre++l.post k) _ e3 (by simp [hk,Tr.post_len]) h4
     omega
theorem mvT_iff {t:List VN} {kd at':Nat}:∀ (T U:Tr) (k:Nat) (pre suf:List VN),t = pre++(T.post k++suf)→pre.length = k→(mvT kd at' T k = some U↔Mv t kd at' (k+T.size - 1) T U)
 | .leaf v,U,k,pre,suf,ht,hk=>by
   constructor
   ·intro h;cases h
   ·intro h
    cases h with
    | here h=>cases h
 | .node l r,U,k,pre,suf,ht,hk=>by
   obtain ⟨e1,e2,e3⟩:=post_node ht hk
   have hs:(Tr.node l r).size = l.size+r.size+1:=rfl
   have hk2:(pre++l.post k).length = k+l.size:=by simp [hk,Tr.post_len]
   have il:=fun l'=>mvT_iff l l' k pre _ e2 hk (kd:=kd) (at':=at')
   have ir:=fun r'=>mvT_iff r r' (k+l.size) (pre++l.post k) _ e3 hk2 (kd:=kd) (at':=at')
   have bl:=fun l'=>Mv.between l l' k pre _ e2 hk (kd:=kd) (at':=at')
   have br:=fun r'=>Mv.between r r' (k+l.size) (pre++l.post k) _ e3 hk2 (kd:=kd) (at':=at')
   have pl:=l.pos
   have pr:=r.pos
   unfold mvT
   generalize hi:k+(Tr.node l r).size - 1 = i at *
   by_cases h0:at' = k+l.size+r.size
   ·rw [if_pos h0,rotT_iff]
    constructor
    ·intro h
     obtain rfl:at' = i:=by omega
     exact .here h
    ·intro h
     cases h with
     | here h=>exact h
     | @left _ a b y _ _ l' h1 h2 h3 h4 =>
       rw [e1] at h1;cases h1
       obtain rfl:=Int.ofNat.inj h2
       have:=bl l' h4
       omega
     | @right _ a b y _ _ r' h1 h2 h3 h4 =>
       rw [e1] at h1;cases h1
       obtain rfl:=Int.ofNat.inj h3
       have:=br r' h4
       omega
   ·rw [if_neg h0]
    by_cases h1:at' < k+l.size
    ·rw [if_pos h1,Option.map_eq_some_iff]
     constructor
     ·rintro ⟨l',h,rfl⟩
      exact .left e1 rfl rfl ((il l').1 h)
     ·intro h
      cases h with
      | here h=>omega
      | @left _ a b y _ _ l' g1 g2 g3 g4 =>
        rw [e1] at g1;cases g1
        obtain rfl:=Int.ofNat.inj g2
        exact ⟨l',(il l').2 g4,rfl⟩
      | @right _ a b y _ _ r' g1 g2 g3 g4 =>
        rw [e1] at g1;cases g1
        obtain rfl:=Int.ofNat.inj g3
        have:=br r' g4
        omega
    ·rw [if_neg h1,Option.map_eq_some_iff]
     constructor
     ·rintro ⟨r',h,rfl⟩
      exact .right e1 rfl rfl ((ir r').1 h)
     ·intro h
      cases h with
      | here h=>omega
      | @left _ a b y _ _ l' g1 g2 g3 g4 =>
        rw [e1] at g1;cases g1
        obtain rfl:=Int.ofNat.inj g2
        have:=bl l' g4
        omega
      | @right _ a b y _ _ r' g1 g2 g3 g4 =>
        rw [e1] at g1;cases g1
        obtain rfl:=Int.ofNat.inj g3
        exact ⟨r',(ir r').2 g4,rfl⟩
theorem mvT_post {kd at':Nat} (T U:Tr):mvT kd at' T 0 = some U↔Mv (T.post 0) kd at' ((T.post 0).length - 1) T U:=by
 have:=mvT_iff (t:=T.post 0) (kd:=kd) (at':=at') T U 0 [] [] (by simp) rfl
 rw [Tr.post_len]
 rw [Nat.zero_add] at this
 exact this
structure CanAt (t:List VN) (kd i:Nat):Prop where
 here:∃ y,t[i]? = some y∧leafB y = false∧(kd = 1→∃ (a:Nat) (x:VN),y.left = a∧t[a]? = some x∧leafB x = false)∧(kd = 2→∃ (b:Nat) (x:VN),y.right = b∧t[b]? = some x∧leafB x = false)
theorem mvT_can {t:List VN} {kd at':Nat}:∀ (T U:Tr) (k:Nat) (pre suf:List VN),t = pre++(T.post k++suf)→pre.length = k→mvT kd at' T k = some U→CanAt t kd at'
 | .leaf v,U,k,pre,suf,ht,hk,h=>by cases h
 | .node l r,U,k,pre,suf,ht,hk,h=>by
   obtain ⟨e1,e2,e3⟩:=post_node ht hk
   have hs:(Tr.node l r).size = l.size+r.size+1:=rfl
   have hk2:(pre++l.post k).length = k+l.size:=by simp [hk,Tr.post_len]
   unfold mvT at h
   split at h
   ·rename_i h0
    have e1':=e1
    rw [show k+(Tr.node l r).size - 1 = at' by omega] at e1
    refine ⟨⟨_,e1,inner_no _ _,fun h1=>?_,fun h2=>?_⟩⟩
    ·subst h1
     cases (rotT_iff _ _ _).1 h with
     | right a b c =>
       obtain ⟨f1,_,_⟩:=post_node e2 hk
       exact ⟨_,_,rfl,f1,inner_no _ _⟩
    ·subst h2
     cases (rotT_iff _ _ _).1 h with
     | left a b c =>
       obtain ⟨f1,_,_⟩:=post_node e3 hk2
       exact ⟨_,_,rfl,f1,inner_no _ _⟩
   ·split at h
    ·rw [Option.map_eq_some_iff] at h
     obtain ⟨l',h,_⟩:=h
     exact mvT_can l l' k pre _ e2 hk h
    ·rw [Option.map_eq_some_iff] at h
     obtain ⟨r',h,_⟩:=h
     exact mvT_can r r' (k+l.size) (pre++l.post k) _ e3 hk2 h
theorem mvT_perm {kd i:Nat}:∀ (T U:Tr) (k:Nat),mvT kd i T k = some U→U.vars.Perm T.vars∧U.size = T.size
 | .leaf v,U,k,h=>by cases h
 | .node l r,U,k,h=>by
   unfold mvT at h
   split at h
   ·have:=(rotT_iff _ _ _).1 h
    exact ⟨this.perm,this.size⟩
   ·split at h
    ·rw [Option.map_eq_some_iff] at h
     obtain ⟨l',h,rfl⟩:=h
     obtain ⟨h1,h2⟩:=mvT_perm l l' k h
     exact ⟨h1.append_right _,by simp [Tr.size,h2]⟩
    ·rw [Option.map_eq_some_iff] at h
     obtain ⟨r',h,rfl⟩:=h
     obtain ⟨h1,h2⟩:=mvT_perm r r' _ h
     exact ⟨h1.append_left _,by simp [Tr.size,h2]⟩
def bestK (l:List Int) (f:List Bool) (T:Tr) (i:Nat) (kd:Nat) (b:Tr × Nat × Nat):Tr × Nat × Nat :=
 match mvT kd i T 0 with
 | none=>b
 | some U=>if sizeTr U l f < b.2.1 then (U,sizeTr U l f,kd) else b
def bestT (l:List Int) (f:List Bool) (T:Tr) (i:Nat):Tr × Nat × Nat:=bestK l f T i 3 (bestK l f T i 2 (bestK l f T i 1 (T,sizeTr T l f,0)))
def stepT (l:List Int) (f:List Bool) (s:Tr × List (Nat × Nat)) (i:Nat):Tr × List (Nat × Nat) :=
 let b:=bestT l f s.1 i
 if 0 < b.2.2 then (b.1,s.2++[(i,b.2.2)]) else s
def passT (l:List Int) (f:List Bool) (n:Nat) (s:Tr × List (Nat × Nat)):Tr × List (Nat × Nat):=(List.range n).foldl (stepT l f) s
def searchT (l:List Int) (f:List Bool) (n:Nat):Nat→Tr × List (Nat × Nat)→Tr × List (Nat × Nat)
 | 0,s=>s
 | k+1,s=>let s':=passT l f n s;if s'.2.length = s.2.length then s' else searchT l f n k s'
end Go.Proofs.YtemnmcfmabamcaaGreatDoor.L
namespace Go.Proofs.YtemnmcfmabamcaaGreatDoor.L
structure BestOK (l:List Int) (f:List Bool) (T:Tr) (i k:Nat) (b:Tr × Nat × Nat):Prop where
 sz:b.2.1 = sizeTr b.1 l f
 le:b.2.1≤sizeTr T l f
 none:b.2.2 = 0→b.1 = T∧∀ kd,1≤kd→kd≤k→∀ U,mvT kd i T 0 = some U→sizeTr T l f≤sizeTr U l f
 some:0 < b.2.2→b.2.2≤k∧mvT b.2.2 i T 0 = some b.1∧sizeTr b.1 l f < sizeTr T l f
theorem BestOK.next {l:List Int} {f:List Bool} {T:Tr} {i k:Nat} {b:Tr × Nat × Nat} (h:BestOK l f T i k b):BestOK l f T i (k+1) (bestK l f T i (k+1) b):=by
 unfold bestK
 split
 ·rename_i hm
  refine ⟨h.sz,h.le,fun h0=>⟨(h.none h0).1,fun kd h1 h2 U hU=>?_⟩,fun h0=>?_⟩
  ·by_cases e:kd = k+1
   ·subst e;rw [hm] at hU;cases hU
   ·exact (h.none h0).2 kd h1 (by omega) U hU
  ·obtain ⟨g1,g2⟩:=h.some h0
   exact ⟨by omega,g2⟩
 ·rename_i U hm
  split
  ·rename_i hlt
   refine ⟨rfl,Nat.le_trans (Nat.le_of_lt hlt) h.le,fun h0=>(by cases h0),fun _=>⟨Nat.le_refl _,hm,Nat.lt_of_lt_of_le hlt h.le⟩⟩
  ·rename_i hlt
   refine ⟨h.sz,h.le,fun h0=>⟨(h.none h0).1,fun kd h1 h2 V hV=>?_⟩,fun h0=>?_⟩
   ·by_cases e:kd = k+1
    ·subst e
     rw [hm] at hV
     cases hV
     have hb:=(h.none h0).1
     have:=h.sz
     rw [hb] at this
     omega
    ·exact (h.none h0).2 kd h1 (by omega) V hV
   ·obtain ⟨g1,g2⟩:=h.some h0
    exact ⟨by omega,g2⟩
theorem bestT_ok (l:List Int) (f:List Bool) (T:Tr) (i:Nat):BestOK l f T i 3 (bestT l f T i):=by
 have h0:BestOK l f T i 0 (T,sizeTr T l f,0):=⟨rfl,Nat.le_refl _,fun _=>⟨rfl,fun kd h1 h2=>by omega⟩,fun h=>by cases h⟩
 exact h0.next.next.next
inductive Chain (l:List Int) (f:List Bool):Tr→List (Nat × Nat)→Tr→Prop
 | nil (T:Tr):Chain l f T [] T
 | cons {T U V:Tr} {i kd:Nat} {ms:List (Nat × Nat)}:1≤kd→kd≤3→mvT kd i T 0 = some U→sizeTr U l f < sizeTr T l f→Chain l f U ms V→Chain l f T ((i,kd) :: ms) V
theorem Chain.snoc {l:List Int} {f:List Bool} {T U V:Tr} {ms:List (Nat × Nat)} {i kd:Nat} (h:Chain l f T ms U) (h1:1≤kd) (h3:kd≤3) (hm:mvT kd i U 0 = some V) (hs:sizeTr V l f < sizeTr U l f):Chain l f T (ms++[(i,kd)]) V:=by
 induction h with
 | nil T=>exact .cons h1 h3 hm hs (.nil V)
 | cons a b c d _ ih=>exact .cons a b c d (ih hm hs)
theorem Chain.perm {l:List Int} {f:List Bool} {T U:Tr} {ms:List (Nat × Nat)} (h:Chain l f T ms U):U.vars.Perm T.vars∧U.size = T.size:=by
 induction h with
 | nil T=>exact ⟨.refl _,rfl⟩
 | cons _ _ c _ _ ih =>
   obtain ⟨g1,g2⟩:=mvT_perm _ _ _ c
   exact ⟨ih.1.trans g1,ih.2.trans g2⟩
theorem Chain.less {l:List Int} {f:List Bool} {T U:Tr} {ms:List (Nat × Nat)} (h:Chain l f T ms U):sizeTr U l f+ms.length≤sizeTr T l f:=by
 induction h with
 | nil T=>simp
 | cons _ _ _ d _ ih=>simp only [List.length_cons];omega
theorem stepT_or (l:List Int) (f:List Bool) (s:Tr × List (Nat × Nat)) (i:Nat) :
  (stepT l f s i = s∧∀ kd,1≤kd→kd≤3→∀ U,mvT kd i s.1 0 = some U→sizeTr s.1 l f≤sizeTr U l f) ∨
  (∃ kd U,stepT l f s i = (U,s.2++[(i,kd)])∧1≤kd∧kd≤3∧mvT kd i s.1 0 = some U∧sizeTr U l f < sizeTr s.1 l f):=by
 have hb:=bestT_ok l f s.1 i
 unfold stepT
 simp only
 by_cases h0:0 < (bestT l f s.1 i).2.2
 ·rw [if_pos h0]
  obtain ⟨g1,g2,g3⟩:=hb.some h0
  exact .inr ⟨_,_,rfl,h0,g1,g2,g3⟩
 ·rw [if_neg h0]
  exact .inl ⟨rfl,(hb.none (by omega)).2⟩
theorem stepT_pre (l:List Int) (f:List Bool) (T:Tr) (pre ms:List (Nat × Nat)) (i:Nat):stepT l f (T,pre++ms) i = ((stepT l f (T,ms) i).1,pre++(stepT l f (T,ms) i).2):=by
 unfold stepT
 simp only
 split <;> simp
theorem fold_pre (l:List Int) (f:List Bool):∀ (is:List Nat) (T:Tr) (pre ms:List (Nat × Nat)),is.foldl (stepT l f) (T,pre++ms) = ((is.foldl (stepT l f) (T,ms)).1,pre++(is.foldl (stepT l f) (T,ms)).2)
 | [],_,_,_=>rfl
 | i :: r,T,pre,ms=>by
   rw [List.foldl_cons,List.foldl_cons,stepT_pre,fold_pre l f r]
theorem passT_pre (l:List Int) (f:List Bool) (n:Nat) (T:Tr) (pre ms:List (Nat × Nat)):passT l f n (T,pre++ms) = ((passT l f n (T,ms)).1,pre++(passT l f n (T,ms)).2):=fold_pre l f _ T pre ms
theorem searchT_pre (l:List Int) (f:List Bool) (n:Nat):∀ (k:Nat) (T:Tr) (pre ms:List (Nat × Nat)),searchT l f n k (T,pre++ms) = ((searchT l f n k (T,ms)).1,pre++(searchT l f n k (T,ms)).2)
 | 0,_,_,_=>rfl
 | k+1,T,pre,ms=>by
   unfold searchT
   simp only [passT_pre,List.length_append]
   by_cases h:(passT l f n (T,ms)).2.length = ms.length
   ·rw [if_pos (by omega),if_pos h]
   ·rw [if_neg (by omega),if_neg h,←searchT_pre l f n k]
theorem fold_chain (l:List Int) (f:List Bool) {T0:Tr}:∀ (is:List Nat) (s:Tr × List (Nat × Nat)),Chain l f T0 s.2 s.1→Chain l f T0 (is.foldl (stepT l f) s).2 (is.foldl (stepT l f) s).1
 | [],_,h=>h
 | i :: r,s,h=>by
   rw [List.foldl_cons]
   refine fold_chain l f r _ ?_
   rcases stepT_or l f s i with ⟨e,_⟩ | ⟨kd,U,e,h1,h3,hm,hs⟩
   ·rw [e];exact h
   ·rw [e];exact h.snoc h1 h3 hm hs
theorem searchT_chain (l:List Int) (f:List Bool) (n:Nat) {T0:Tr}:∀ (k:Nat) (s:Tr × List (Nat × Nat)),Chain l f T0 s.2 s.1→Chain l f T0 (searchT l f n k s).2 (searchT l f n k s).1
 | 0,_,h=>h
 | k+1,s,h=>by
   have hp:Chain l f T0 (passT l f n s).2 (passT l f n s).1:=fold_chain l f _ s h
   unfold searchT
   simp only
   split
   ·exact hp
   ·exact searchT_chain l f n k _ hp
theorem fold_grows (l:List Int) (f:List Bool):∀ (is:List Nat) (s:Tr × List (Nat × Nat)),s.2.length≤(is.foldl (stepT l f) s).2.length
 | [],_=>Nat.le_refl _
 | i :: r,s=>by
   rw [List.foldl_cons]
   refine Nat.le_trans ?_ (fold_grows l f r _)
   rcases stepT_or l f s i with ⟨e,_⟩ | ⟨kd,U,e,_⟩
   ·rw [e];exact Nat.le_refl _
   ·rw [e];simp
theorem fold_none (l:List Int) (f:List Bool):∀ (is:List Nat) (s:Tr × List (Nat × Nat)),(is.foldl (stepT l f) s).2.length = s.2.length →
  is.foldl (stepT l f) s = s∧∀ i∈is,∀ kd,1≤kd→kd≤3→∀ U,mvT kd i s.1 0 = some U→sizeTr s.1 l f≤sizeTr U l f
 | [],_,_=>⟨rfl,fun i hi=>by cases hi⟩
 | i :: r,s,h=>by
   rw [List.foldl_cons] at h ⊢
   have hg:=fold_grows l f r (stepT l f s i)
   rcases stepT_or l f s i with ⟨e,hno⟩ | ⟨kd,U,e,_⟩
   ·rw [e] at h ⊢
    obtain ⟨g1,g2⟩:=fold_none l f r s h
    refine ⟨g1,fun j hj=>?_⟩
    rcases List.mem_cons.1 hj with rfl | hj
    ·exact hno
    ·exact g2 j hj
   ·rw [e] at h hg
    simp only [List.length_append,List.length_cons,List.length_nil] at hg
    omega
def LeastT (l:List Int) (f:List Bool) (n:Nat) (T:Tr):Prop:=∀ i,i < n→∀ kd,1≤kd→kd≤3→∀ U,mvT kd i T 0 = some U→sizeTr T l f≤sizeTr U l f
theorem fold_least (l:List Int) (f:List Bool):∀ (is:List Nat) (s:Tr × List (Nat × Nat)),(∀ i∈is,∀ kd,1≤kd→kd≤3→∀ U,mvT kd i s.1 0 = some U→sizeTr s.1 l f≤sizeTr U l f)→is.foldl (stepT l f) s = s
 | [],_,_=>rfl
 | i :: r,s,h=>by
   rw [List.foldl_cons]
   rcases stepT_or l f s i with ⟨e,_⟩ | ⟨kd,U,e,h1,h3,hm,hs⟩
   ·rw [e];exact fold_least l f r s fun j hj=>h j (List.mem_cons_of_mem _ hj)
   ·have:=h i (List.mem_cons_self ..) kd h1 h3 U hm
    omega
theorem passT_least {l:List Int} {f:List Bool} {n:Nat} {s:Tr × List (Nat × Nat)}:(passT l f n s).2.length = s.2.length↔passT l f n s = s∧LeastT l f n s.1:=by
 constructor
 ·intro h
  obtain ⟨g1,g2⟩:=fold_none l f _ s h
  exact ⟨g1,fun i hi=>g2 i (List.mem_range.2 hi)⟩
 ·rintro ⟨h,_⟩
  rw [h]
theorem searchT_least (l:List Int) (f:List Bool) (n:Nat):∀ (k:Nat) (s:Tr × List (Nat × Nat)),(searchT l f n k s).2.length < s.2.length+k→LeastT l f n (searchT l f n k s).1
 | 0,s,h=>by simp only [searchT] at h;omega
 | k+1,s,h=>by
   unfold searchT at h ⊢
   simp only at h ⊢
   by_cases e:(passT l f n s).2.length = s.2.length
   ·rw [if_pos e]
    obtain ⟨g1,g2⟩:=passT_least.1 e
    rw [g1];exact g2
   ·rw [if_neg e] at h ⊢
    have hg:=fold_grows l f (List.range n) s
    exact searchT_least l f n k _ (by unfold passT at e h ⊢;omega)
theorem searchT_fix (l:List Int) (f:List Bool) (n:Nat) (k:Nat) {s:Tr × List (Nat × Nat)} (h:LeastT l f n s.1):searchT l f n k s = s:=by
 have hp:passT l f n s = s:=fold_least l f _ s fun i hi=>h i (List.mem_range.1 hi)
 cases k with
 | zero=>rfl
 | succ k =>
   unfold searchT
   simp only
   rw [hp,if_pos rfl]
theorem searchT_more (l:List Int) (f:List Bool) (n:Nat):∀ (k m:Nat) (s:Tr × List (Nat × Nat)),searchT l f n (k+m) s = searchT l f n m (searchT l f n k s)
 | 0,m,s=>by rw [Nat.zero_add];rfl
 | k+1,m,s=>by
   rw [show k+1+m = (k+m)+1 by omega]
   conv=>lhs;unfold searchT
   conv=>rhs;arg 5;unfold searchT
   simp only
   by_cases e:(passT l f n s).2.length = s.2.length
   ·rw [if_pos e,if_pos e]
    obtain ⟨g1,g2⟩:=passT_least.1 e
    rw [g1]
    exact (searchT_fix l f n m g2).symm
   ·rw [if_neg e,if_neg e]
    exact searchT_more l f n k m _
end Go.Proofs.YtemnmcfmabamcaaGreatDoor.L
