import Derived.Test.YtmnjakejhbpkoaaGreatDoorWView6
section
set_option linter.unusedSimpArgs false
set_option linter.unusedVariables false
namespace Go.Proofs.YtmnjakejhbpkoaaGreatDoor
open Go Go.RowKit Go.Shelf
section
variable {t:List VN} {sb k:Nat} {X:List Nat} {s:St} {w0:World} {xv gt ct gb pc pn:Nat} {f:Nat→VSet} {wb:World}
theorem models_any (h0:MI0 t sb k X s w0 xv gt ct gb pc pn f wb):∀ (a:Nat),a < s.nodes.length→∀ (at_:Nat),at_ < t.length→L.Dep (L.Bel t at_) (L.sem s.nodes a)→∀ (m:List (Nat × Nat)) (W:World),FI t s pc wb m W →
  Calls Tryz.prog 97 #[.pointer (some ⟨xv,0,none⟩),.int .i64 (a:Nat),.int .i64 (at_:Nat)] W (RetM t s pc wb W (L.cnt (L.vl t at_) (L.sem s.nodes a))):=by
 intro a
 induction a using Nat.strongRecOn with
 | ind a ih =>
   intro ha at_ hat hd m W hF
   have hi:=h0.sl.inv
   have hc:=h0.sl.chk
   have htr:=h0.sl.tree
   rcases hi.kind ha with rfl | rfl | ⟨h2,nd,hn,hk⟩
   ·rw [show L.cnt (L.vl t at_) (L.sem s.nodes 0) = 0 by rw [show L.sem s.nodes 0 = fun _=>false from funext hi.sem0];exact L.cnt_false _]
    exact models_zero h0 hF at_
   ·rw [show L.cnt (L.vl t at_) (L.sem s.nodes 1) = 2 ^ L.nv t at_ by rw [show L.sem s.nodes 1 = fun _=>true from funext hi.sem1];exact L.cnt_true _]
    exact models_one h0 hF hat
   ·obtain ⟨P,hpl,hP,hu⟩:=hi.at_und h2 hn (Q:=at_) (by rw [htr];exact hd)
    obtain ⟨P',hpl',_,hdP⟩:=hi.place h2 hn
    have:P' = P:=by omega
    subst this
    rw [htr] at hP hu hdP
    cases hm:asc m a with
    | some c =>
      obtain ⟨nd',P2,e1,e2,_,e3⟩:=hF.ct a c hm
      rw [hn] at e1
      cases e1
      have:P2 = P':=by omega
      subst this
      exact models_hit h0 hF h2 hat hn hpl hP hu hdP hm e3
    | none =>
      rcases hk with hl | hk
      ·obtain ⟨u,y,l1,l2,l3,l4⟩:=hl.leaf
       have:u = P':=by omega
       subst this
       rw [htr] at l2
       refine models_lit h0 hF h2 hat hn hpl hP hu hdP hm hl.el ?_
       rw [show L.sem s.nodes a = fun x=>x y.var == decide (0 < nd.lit) from funext fun x=>by rw [hi.semLit hn hl,l4]]
       exact (L.cnt_leaf l2 l3 _).symm
      ·obtain ⟨P2,y,l,r,g1,g2,g3,g4,g5,g6,g7,g8,g9,g10⟩:=hi.facts hn hk
       have:P2 = P':=by omega
       subst this
       rw [htr] at g2 g6
       obtain ⟨l',r',e1,e2,b1,b2,_⟩:=L.inner_ok hc g2 g3
       have el:l' = l:=by omega
       have er:r' = r:=by omega
       subst el;subst er
       refine models_dec h0 hF h2 hat hn hpl hP hu hdP hm g2 g4 g5 (fun e=>by have:=g6.two;rw [e] at this;simp at this) ?_ (fun p hp m' V hV=>?_)
       ·rw [show L.sem s.nodes a = fun x=>nd.el.any fun p=>L.sem s.nodes p.1 x && L.sem s.nodes p.2 x from funext fun x=>hi.semDec hn hk x]
        exact (L.cnt_parts hc g2 g3 g4 g5 g6.pdep g6.sdep g6.disj).symm
       ·obtain ⟨k1,k2⟩:=hk.kids p hp
        exact ⟨ih p.1 k1 (by omega) l' (by omega) (g6.pdep p hp) m' V hV,ih p.2 k2 (by omega) r' (by omega) (g6.sdep p hp) m' V hV⟩
end
set_option maxRecDepth 100000 in
set_option maxHeartbeats 4000000 in
theorem count_any {t:List VN} {sb k:Nat} {X:List Nat} {s:St} {w0 w:World} (h:SL t sb k X s w0 w) {a:Nat} {φ:L.Asg→Bool} (ha:Val s a φ) :
  Calls Tryz.prog 28 #[.pointer (some ⟨sb,0,none⟩),.int .i64 (a:Nat)] w fun e w'=>e = .returned (.tuple #[natV (L.cnt (L.vl t (t.length - 1)) φ),.int .i64 0])∧Below w.heap.size w w':=by
 have hc:=h.chk
 have h00:=(check_ok hc).1
 have hfew:=h.few
 have hdr:L.Dep (L.Bel t (t.length - 1)) (L.sem s.nodes a):=by have:=dep_root h.inv ha.lt;rw [h.tree] at this;exact this
 have hcnt:L.cnt (L.vl t (t.length - 1)) (L.sem s.nodes a) = L.cnt (L.vl t (t.length - 1)) φ:=by rw [show L.sem s.nodes a = φ from funext ha.sem]
 have hb1:=(Below.refl w.heap.size w).alloc (Nat.le_refl _) (.cells #[.string ⟨#[]⟩] 52)
 have hx1:=heap_alloc_new w (.cells #[.string ⟨#[]⟩] 52)
 have hgl:gPow < w.heap.size∧gTz < w.heap.size:=by obtain ⟨B,_,hR,_⟩:=h.on;exact ⟨hR.pow.lt,hR.tz.lt'⟩
 obtain ⟨w1,hw1⟩:∃ w1,w1 = w.alloc (.cells #[.string ⟨#[]⟩] 52):=⟨_,rfl⟩
 rw [←hw1] at hb1 hx1
 have h1:=h.below hb1
 have q1:=look_any h1 ha.lt
 have hw1s:w1.heap.size = w.heap.size+1:=by rw [hw1];simp
 have dt:IntKind.i64.wrap ((t.length:Int) - 1) = ((t.length - 1:Nat):Int):=by rw [IntWalk.i64_in _ (by omega)];omega
 go_enter Tryz.func28,Tryz.ntmps28
 go_wp2_with fail
 rw [←hw1]
 replace hw1:=Lib.hid hw1
 replace hw1s:=Lib.hid hw1s
 refine q1.mono ?_
 rintro e w2 ⟨xv,gt,ct,gb,pc,pn,f,rfl,hS2,hV2,hm2,_,⟨n1,n2,n3⟩,hy,hb2⟩
 have hpc:=hy pc (by simp)
 have hMI:MI0 t sb k (xv :: gt :: gb :: pc :: pn :: X) s w0 xv gt ct gb pc pn f w2:=by
  refine ⟨hS2,hV2,⟨by simp,Nat.le_trans h1.bel.size hpc,?_,?_⟩,⟨?_,?_,?_⟩,?_⟩
  ·have:=hb1.size;omega
  ·have:=hb1.size;omega
  ·exact (n3 pc (by simp)).symm
  ·intro e
   obtain ⟨L0,cl0,hm0,_⟩:=hm2
   have:=(hV2.tree.node (k:=0) h00).1
   rw [e,World.cell?,hm0] at this;simp at this
  ·intro e
   obtain ⟨L0,cl0,hm0,_⟩:=hm2
   obtain ⟨c,hc1,_⟩:=hV2.sets
   rw [e,hm0] at hc1;simp at hc1
  ·obtain ⟨L0,cl0,hm0,_⟩:=hm2;exact ⟨_,_,hm0⟩
 have hF2:FI t s pc w2 [] w2:=⟨Fr.refl _ _,hm2,fun i c h=>by cases h⟩
 have q2:=models_any hMI a ha.lt (t.length - 1) (by omega) hdr [] w2 hF2
 have kv:w2.cell? ⟨xv,1,none⟩ = some (.slice (some ⟨gt,0,none⟩) t.length ct):=by simp [World.cell?,hV2.box]
 have hr2:=(hb2.block _ (Array.getElem?_eq_some_iff.1 hx1).1).trans hx1
 have hfr2:Below w.heap.size w w2:=hb1.trans (hb2.mono hb1.size)
 have hpw:w.heap.size < pc:=by have:=hw1s.out;omega
 clear q1 hx1 hb2 hMI hF2 hS2 hV2 hm2 hy n3 h1
 go_wp2_with fail
 refine q2.mono ?_
 rintro e w3 ⟨m3,rfl,_,hfr3⟩
 have hr3:=fr_get hfr3 hr2 (by omega)
 have fz:w3.frozen? ⟨w.heap.size,0,none⟩ = false:=by simp [World.frozen?,hr3]
 have hcc:w3.cell? ⟨w.heap.size,0,none⟩ = some (.string ⟨#[]⟩):=by simp [World.cell?,hr3]
 have hbe:Below w.heap.size w w3:=⟨hfr3.os.trans hfr2.os,hfr3.tape.trans hfr2.tape,hfr3.output.trans hfr2.output,Nat.le_trans hfr2.size hfr3.size,fun j hj=>(hfr3.block j (Nat.lt_of_lt_of_le hj hfr2.size) (by simp;omega)).trans (hfr2.block j hj)⟩
 rw [hcnt]
 replace hcnt:=Lib.hid hcnt
 unfold natV
 generalize hT:(⟨(natL (L.cnt (L.vl t (t.length - 1)) φ)).toArray⟩:ByteArray) = T at *
 have hfin:((w3.setCell ⟨w.heap.size,0,none⟩ (.string T)).cell? ⟨w.heap.size,0,none⟩ = some (.string T)):=by simp [World.cell?,heap_set hr3 0 _]
 replace hfin:=Lib.hid hfin
 replace hbe:=Lib.hid hbe
 clear q2 hfr3 hr2 hfr2 hr3
 go_wp2_with fail
 refine bodyPost_ret (v:=.tuple #[.agg #[.string T],.int .i64 0]) (by simp [results,Tryz.results28,go_sem,hfin.out]) rfl ⟨by rw [←hT] <;> rfl,hbe.out.setCell (Nat.le_refl _) _⟩
end Go.Proofs.YtmnjakejhbpkoaaGreatDoor
end
section
set_option linter.unusedSimpArgs false
set_option linter.unusedVariables false
namespace Go.Proofs.YtmnjakejhbpkoaaGreatDoor
open Go Go.RowKit Go.Shelf
def GvM (s:St) (v:Int) (b:Bool) (m:List (Nat × Nat)):Prop:=∀ i j,asc m i = some j→i < s.nodes.length∧Val s j (L.giv (L.sem s.nodes i) v b)
theorem GvM.step {s s':St} {v:Int} {b:Bool} {m:List (Nat × Nat)} (h:GvM s v b m) (hi:L.Inv s) (hS:L.Step s s'):GvM s' v b m:=fun i j hij=>by
 obtain ⟨h1,h2⟩:=h i j hij
 refine ⟨Nat.lt_of_lt_of_le h1 hS.len,?_⟩
 rw [hS.sem hi h1]
 exact h2.step hi hS
structure GI (t:List VN) (sb:Nat) (X:List Nat) (w0:World) (xv gt ct gb pc pn:Nat) (f:Nat→VSet) (l:Int) (yes:Nat) (k:Nat) (s:St) (m:List (Nat × Nat)) (W:World):Prop where
 sl:SL t sb k X s w0 W
 vw:VwAt t sb xv gt ct gb pc pn f W
 mp:MapAt encNat encNat W pn (asc m)
 mv:GvM s (l.natAbs:Int) (decide (0 < l)) m
 yes:Val s yes (litφ l)
 pn:pn∈X∧w0.heap.size≤pn∧pn≠gPow∧pn≠gTz
def RetG (t:List VN) (sb:Nat) (X:List Nat) (w0:World) (xv gt ct gb pc pn:Nat) (f:Nat→VSet) (l:Int) (yes k:Nat) (s:St) (W:World) (φ:L.Asg→Bool) (e:Ending) (W':World):Prop :=
 ∃ (r:Nat) (s':St) (m':List (Nat × Nat)),e = .returned (.tuple #[.int .i64 (r:Nat),.int .i64 0])∧GI t sb X w0 xv gt ct gb pc pn f l yes k s' m' W'∧L.Step s s'∧Val s' r φ∧Stays W W'
section
variable {t:List VN} {sb k k':Nat} {X:List Nat} {s s':St} {w0:World} {xv gt ct gb pc pn yes:Nat} {f:Nat→VSet} {l:Int} {W W':World} {m:List (Nat × Nat)}
theorem GI.less (h:GI t sb X w0 xv gt ct gb pc pn f l yes k s m W) (hk:k'≤k):GI t sb X w0 xv gt ct gb pc pn f l yes k' s m W:=⟨h.sl.less hk,h.vw,h.mp,h.mv,h.yes,h.pn⟩
theorem GI.below (h:GI t sb X w0 xv gt ct gb pc pn f l yes k s m W) (hb:Below W.heap.size W W'):GI t sb X w0 xv gt ct gb pc pn f l yes k s m W':=by
 have h0:=(check_ok h.sl.chk).1
 have hgt:=World.block_lt_of_cell? _ _ ((h.vw.tree.node (k:=0) h0).1)
 exact ⟨h.sl.below hb,h.vw.same (hb.block _ (Array.getElem?_eq_some_iff.1 h.vw.box).1) (hb.block _ hgt) (hb.block _ h.vw.sets.lt),h.mp.same (hb.block _ h.mp.lt),h.mv,h.yes,h.pn⟩
theorem GI.op (h:GI t sb X w0 xv gt ct gb pc pn f l yes k s m W) (hX:xv∈X∧gt∈X∧gb∈X) (hs:SL t sb k' X s' w0 W') (hS:L.Step s s') (hx:∀ x∈X,W'.heap[x]? = W.heap[x]?):GI t sb X w0 xv gt ct gb pc pn f l yes k' s' m W' :=
 ⟨hs,h.vw.same (hx _ hX.1) (hx _ hX.2.1) (hx _ hX.2.2),h.mp.same (hx _ h.pn.1),h.mv.step h.sl.inv hS,h.yes.step h.sl.inv hS,h.pn⟩
theorem GI.look (h:GI t sb X w0 xv gt ct gb pc pn f l yes k s m W) (a:Nat):(Instr.lookup 142 (.map (some pn)) (.int .i64 a) true).run Tryz.prog W = .ok (.tuple #[((asc m a).map encNat).getD (.int .i64 0),.bool (asc m a).isSome]) W:=h.mp.lookI a
theorem stays_put {W:World} {pn:Nat} {K:TypeId} {a b:Value} {es:Array MapEntry} {cl:Nat} (hm:W.heap[pn]? = some (.map es cl)):Stays W (putMap K Tryz.prog W pn a b) :=
 ⟨by rw [putMap_size];exact Nat.le_refl _,fun j c ty fz hj _ _=>(putMap_other _ _ _ _ _ j (fun e=>by rw [e,hm] at hj;cases hj)).trans hj⟩
theorem GI.put (h:GI t sb X w0 xv gt ct gb pc pn f l yes k s m W) (a r:Nat) (ha:a < s.nodes.length) (hv:Val s r (L.giv (L.sem s.nodes a) (l.natAbs:Int) (decide (0 < l)))) :
  (Instr.mapUpdate 142 (.map (some pn)) (.int .i64 a) (.int .i64 r)).run Tryz.prog W = .ok () (putMap 3 Tryz.prog W pn (encNat a) (encNat r))∧GI t sb X w0 xv gt ct gb pc pn f l yes k s ((a,r) :: m) (putMap 3 Tryz.prog W pn (encNat a) (encNat r))∧Stays W (putMap 3 Tryz.prog W pn (encNat a) (encNat r)):=by
 obtain ⟨h1,h2⟩:=h.mp.putI a r
 have hm:=h.mp
 obtain ⟨L0,cl0,hm0,_⟩:=hm
 have hfr:=fr_put W 3 pn (encNat a) (encNat r)
 have hne:∀ j c ty fz,W.heap[j]? = some (.cells c ty fz)→j≠pn:=fun j c ty fz hj e=>by rw [e,hm0] at hj;cases hj
 have h0:=(check_ok h.sl.chk).1
 obtain ⟨c,hc⟩:∃ c ty fz,W.heap[gt]? = some (.cells c ty fz):=by
  have:=(h.vw.tree.node (k:=0) h0).1
  unfold World.cell? at this
  split at this
  ·rename_i c ty fz hh;exact ⟨c,ty,fz,hh⟩
  ·cases this
 obtain ⟨ty,fz,hc⟩:=hc
 obtain ⟨c2,hc2,_⟩:=h.vw.sets
 refine ⟨h1,⟨h.sl.fr h.pn.1 h.pn.2.1 hm0 h.pn.2.2 hfr,h.vw.same (putMap_other _ _ _ _ _ _ (hne _ _ _ _ h.vw.box)) (putMap_other _ _ _ _ _ _ (hne _ _ _ _ hc)) (putMap_other _ _ _ _ _ _ (hne _ _ _ _ hc2)),h2,fun i j hij=>?_,h.yes,h.pn⟩,stays_put hm0⟩
 have hij':(if i = a then some r else asc m i) = some j:=hij
 split at hij'
 ·rename_i e
  cases hij'
  rw [show i = a from e];exact ⟨ha,hv⟩
 ·exact h.mv i j hij'
end
end Go.Proofs.YtmnjakejhbpkoaaGreatDoor
end
section
set_option linter.unusedSimpArgs false
set_option linter.unusedVariables false
namespace Go.Proofs.YtmnjakejhbpkoaaGreatDoor
open Go Go.RowKit Go.Shelf
section
variable {t:List VN} {sb k:Nat} {X:List Nat} {s:St} {w0:World} {xv gt ct gb pc pn yes:Nat} {f:Nat→VSet} {l:Int} {W:World} {m:List (Nat × Nat)}
theorem isBel_has {t:List VN} {j:Nat} {m:VSet} (h:IsBel t j m) {v:Int} (hv:1≤v∧v≤128):hasS m v = true↔L.Bel t j v:=by
 have h1:=h (v - 1).toNat (by omega)
 have h2:=L.hasS_bit m (v - 1).toNat (by omega)
 rw [show (((v - 1).toNat:Nat):Int)+1 = v by omega] at h1 h2
 rw [h2];exact h1
set_option maxRecDepth 100000 in
set_option maxHeartbeats 2000000 in
theorem given_const (h:GI t sb X w0 xv gt ct gb pc pn f l yes k s m W) {a:Nat} {nd:SNode} (hn:s.nodes[a]? = some nd) (hp:nd.pl < 0) (hg:∀ x,L.giv (L.sem s.nodes a) (l.natAbs:Int) (decide (0 < l)) x = L.sem s.nodes a x) :
  Calls Tryz.prog 102 #[.pointer (some ⟨xv,0,none⟩),.int .i64 (a:Nat),.int .i64 (yes:Nat),.int .i64 (l.natAbs:Nat)] W (RetG t sb X w0 xv gt ct gb pc pn f l yes k s W (L.giv (L.sem s.nodes a) (l.natAbs:Int) (decide (0 < l)))):=by
 have ha:=(List.getElem?_eq_some_iff.1 hn).1
 have q1:=h.sl.at hn
 have c0:W.cell? ⟨xv,0,none⟩ = some (.pointer (some ⟨sb,0,none⟩)):=by simp [World.cell?,h.vw.box]
 have d0:decide (nd.pl < 0) = true:=decide_eq_true hp
 go_enter Tryz.func102,Tryz.ntmps102
 go_wp2_with fail
 refine q1.mono ?_
 rintro e w2 ⟨rfl,hb2⟩
 have h2:=h.below hb2
 replace h:=Lib.hid h
 clear q1
 go_wp2_with fail
 go_ret2
 exact ⟨a,s,m,rfl,h2,L.Step.refl h.out.sl.inv,⟨ha,fun x=>(hg x).symm⟩,Stays.of_below hb2⟩
set_option maxRecDepth 100000 in
set_option maxHeartbeats 2000000 in
theorem given_off (h:GI t sb X w0 xv gt ct gb pc pn f l yes k s m W) {a:Nat} {nd:SNode} (hn:s.nodes[a]? = some nd) {P:Nat} (hp:nd.pl = (P:Nat)) (hP:P < t.length) (hv:1≤(l.natAbs:Int)∧(l.natAbs:Int)≤128) (hno:¬ L.Bel t P (l.natAbs:Int)) (hg:∀ x,L.giv (L.sem s.nodes a) (l.natAbs:Int) (decide (0 < l)) x = L.sem s.nodes a x) :
  Calls Tryz.prog 102 #[.pointer (some ⟨xv,0,none⟩),.int .i64 (a:Nat),.int .i64 (yes:Nat),.int .i64 (l.natAbs:Nat)] W (RetG t sb X w0 xv gt ct gb pc pn f l yes k s W (L.giv (L.sem s.nodes a) (l.natAbs:Int) (decide (0 < l)))):=by
 have ha:=(List.getElem?_eq_some_iff.1 hn).1
 have q1:=h.sl.at hn
 rw [hp] at q1
 have c0:W.cell? ⟨xv,0,none⟩ = some (.pointer (some ⟨sb,0,none⟩)):=by simp [World.cell?,h.vw.box]
 have d0:decide ((P:Int) < 0) = false:=decide_eq_false (by omega)
 have g0:(0:Int)≤P:=by omega
 have g1:(P:Int) < t.length:=by omega
 have hh:hasS (f P) (l.natAbs:Int) = false:=by
  cases e:hasS (f P) (l.natAbs:Int)
  ·rfl
  ·exact absurd ((isBel_has (h.vw.bel P hP) hv).1 e) hno
 have qh:=fun V=>has_any (f P) (l.natAbs:Int) V (by omega) (by omega)
 rw [hh] at qh
 replace qh:=Lib.hid qh
 go_enter Tryz.func102,Tryz.ntmps102
 go_wp2_with fail
 refine q1.mono ?_
 rintro e w2 ⟨rfl,hb2⟩
 have h2:=h.below hb2
 have c2:w2.cell? ⟨xv,2,none⟩ = some (.slice (some ⟨gb,0,none⟩) t.length t.length):=by simp [World.cell?,h2.vw.box]
 obtain ⟨⟨s1,s2⟩,_⟩:=h2.vw.sets.cell hP
 have qh':=qh.out w2
 replace h:=Lib.hid h
 replace h2:=Lib.hid h2
 clear q1 c0
 go_wp2_with fail
 refine qh'.mono ?_
 rintro e w3 ⟨rfl,hx3⟩
 clear qh'
 go_wp2_with fail
 go_ret2
 exact ⟨a,s,m,rfl,h2.out.below hx3.below,L.Step.refl h.out.sl.inv,⟨ha,fun x=>(hg x).symm⟩,Stays.of_below (hb2.trans (hx3.below.mono hb2.size))⟩
set_option maxRecDepth 100000 in
set_option maxHeartbeats 2000000 in
theorem given_hit (h:GI t sb X w0 xv gt ct gb pc pn f l yes k s m W) {a:Nat} {nd:SNode} (hn:s.nodes[a]? = some nd) {P:Nat} (hp:nd.pl = (P:Nat)) (hP:P < t.length) (hv:1≤(l.natAbs:Int)∧(l.natAbs:Int)≤128) (hbel:L.Bel t P (l.natAbs:Int)) {r:Nat} (hm:asc m a = some r) :
  Calls Tryz.prog 102 #[.pointer (some ⟨xv,0,none⟩),.int .i64 (a:Nat),.int .i64 (yes:Nat),.int .i64 (l.natAbs:Nat)] W (RetG t sb X w0 xv gt ct gb pc pn f l yes k s W (L.giv (L.sem s.nodes a) (l.natAbs:Int) (decide (0 < l)))):=by
 have ha:=(List.getElem?_eq_some_iff.1 hn).1
 have q1:=h.sl.at hn
 rw [hp] at q1
 have c0:W.cell? ⟨xv,0,none⟩ = some (.pointer (some ⟨sb,0,none⟩)):=by simp [World.cell?,h.vw.box]
 have d0:decide ((P:Int) < 0) = false:=decide_eq_false (by omega)
 have g0:(0:Int)≤P:=by omega
 have g1:(P:Int) < t.length:=by omega
 have hh:hasS (f P) (l.natAbs:Int) = true:=(isBel_has (h.vw.bel P hP) hv).2 hbel
 have qh:=fun V=>has_any (f P) (l.natAbs:Int) V (by omega) (by omega)
 rw [hh] at qh
 replace qh:=Lib.hid qh
 replace hh:=Lib.hid hh
 go_enter Tryz.func102,Tryz.ntmps102
 go_wp2_with fail
 refine q1.mono ?_
 rintro e w2 ⟨rfl,hb2⟩
 have h2:=h.below hb2
 have c2:w2.cell? ⟨xv,2,none⟩ = some (.slice (some ⟨gb,0,none⟩) t.length t.length):=by simp [World.cell?,h2.vw.box]
 obtain ⟨⟨s1,s2⟩,_⟩:=h2.vw.sets.cell hP
 have qh':=qh.out w2
 replace h:=Lib.hid h
 replace h2:=Lib.hid h2
 clear q1 c0
 go_wp2_with fail
 refine qh'.mono ?_
 rintro e w3 ⟨rfl,hx3⟩
 have h3:=h2.out.below hx3.below
 have hst3:=Stays.of_below (hb2.trans (hx3.below.mono hb2.size))
 have c4:w3.cell? ⟨xv,4,none⟩ = some (.map (some pn)):=by simp [World.cell?,h3.vw.box]
 have lk:=h3.look a
 clear qh' s1 s2 c2 h2 qh
 rw [hm,show ((some r).map encNat).getD (.int .i64 0) = .int .i64 (r:Nat) from rfl,show (some r).isSome = true from rfl] at lk
 have hvr:=(h.out.mv a r hm).2
 replace h3:=Lib.hid h3
 go_wp2_with fail
 go_ret2
 exact ⟨r,s,m,rfl,h3.out,L.Step.refl h.out.sl.inv,hvr,hst3⟩
set_option maxRecDepth 100000 in
set_option maxHeartbeats 4000000 in
theorem given_lit (h:GI t sb X w0 xv gt ct gb pc pn f l yes k s m W) {a:Nat} {nd:SNode} (hn:s.nodes[a]? = some nd) {P:Nat} (hp:nd.pl = (P:Nat)) (hP:P < t.length) (hv:1≤(l.natAbs:Int)∧(l.natAbs:Int)≤128) (hbel:L.Bel t P (l.natAbs:Int)) (hm:asc m a = none) (hel:nd.el = [])
  {o:Nat} (ho:o = if a = yes then 1 else 0) (hvo:Val s o (L.giv (L.sem s.nodes a) (l.natAbs:Int) (decide (0 < l)))) :
  Calls Tryz.prog 102 #[.pointer (some ⟨xv,0,none⟩),.int .i64 (a:Nat),.int .i64 (yes:Nat),.int .i64 (l.natAbs:Nat)] W (RetG t sb X w0 xv gt ct gb pc pn f l yes k s W (L.giv (L.sem s.nodes a) (l.natAbs:Int) (decide (0 < l)))):=by
 have ha:=(List.getElem?_eq_some_iff.1 hn).1
 have q1:=h.sl.at hn
 rw [hp] at q1
 have c0:W.cell? ⟨xv,0,none⟩ = some (.pointer (some ⟨sb,0,none⟩)):=by simp [World.cell?,h.vw.box]
 have d0:decide ((P:Int) < 0) = false:=decide_eq_false (by omega)
 have g0:(0:Int)≤P:=by omega
 have g1:(P:Int) < t.length:=by omega
 have hh:hasS (f P) (l.natAbs:Int) = true:=(isBel_has (h.vw.bel P hP) hv).2 hbel
 have qh:=fun V=>has_any (f P) (l.natAbs:Int) V (by omega) (by omega)
 rw [hh] at qh
 replace qh:=Lib.hid qh
 replace hh:=Lib.hid hh
 go_enter Tryz.func102,Tryz.ntmps102
 go_wp2_with fail
 refine q1.mono ?_
 rintro e w2 ⟨rfl,hb2⟩
 have h2:=h.below hb2
 have c2:w2.cell? ⟨xv,2,none⟩ = some (.slice (some ⟨gb,0,none⟩) t.length t.length):=by simp [World.cell?,h2.vw.box]
 obtain ⟨⟨s1,s2⟩,_⟩:=h2.vw.sets.cell hP
 have qh':=qh.out w2
 replace h:=Lib.hid h
 replace h2:=Lib.hid h2
 clear q1 c0
 go_wp2_with fail
 refine qh'.mono ?_
 rintro e w3 ⟨rfl,hx3⟩
 have h3:=h2.out.below hx3.below
 have hst3:=Stays.of_below (hb2.trans (hx3.below.mono hb2.size))
 have c4:w3.cell? ⟨xv,4,none⟩ = some (.map (some pn)):=by simp [World.cell?,h3.vw.box]
 have lk:=h3.look a
 clear qh' s1 s2 c2 h2 qh
 rw [hm,show ((none:Option Nat).map encNat).getD (.int .i64 0) = .int .i64 0 from rfl,show (none:Option Nat).isSome = false from rfl] at lk
 have q4:=h3.sl.elements hn
 rw [hel,show ([]:List (Nat × Nat)).length = 0 from rfl] at q4
 have k0:w3.cell? ⟨xv,0,none⟩ = some (.pointer (some ⟨sb,0,none⟩)):=by simp [World.cell?,h3.vw.box]
 replace h3:=Lib.hid h3
 go_wp2_with fail
 refine q4.mono ?_
 rintro e w4 ⟨ba,cap,rfl,_,hb4⟩
 have h4:=h3.out.below hb4
 have hst4:=hst3.trans (Stays.of_below hb4)
 have k4:w4.cell? ⟨xv,4,none⟩ = some (.map (some pn)):=by simp [World.cell?,h4.vw.box]
 obtain ⟨hput,h5,hst5⟩:=h4.put a o ha hvo
 replace h5:=Lib.hid h5
 replace h4:=Lib.hid h4
 replace hvo:=Lib.hid hvo
 clear q4 h3 c4 lk k0
 by_cases hay:a = yes
 ·have dy:((a:Int) == (yes:Int)) = true:=by rw [beq_iff_eq];omega
  rw [if_pos hay] at ho
  subst ho
  rw [show (((1:Nat):Nat):Int) = 1 from rfl] at hput
  replace hay:=Lib.hid hay
  go_wp2_with fail
  refine wp_loop_rounds 1 ?_
  rw [rounds_succ]
  go_wp2_with fail
  go_ret2
  exact ⟨1,s,_,rfl,h5.out,L.Step.refl h.out.sl.inv,hvo.out,hst4.trans hst5⟩
 ·have dy:((a:Int) == (yes:Int)) = false:=by rw [beq_eq_false_iff_ne];omega
  rw [if_neg hay] at ho
  subst ho
  rw [show (((0:Nat):Nat):Int) = 0 from rfl] at hput
  replace hay:=Lib.hid hay
  go_wp2_with fail
  refine wp_loop_rounds 1 ?_
  rw [rounds_succ]
  go_wp2_with fail
  go_ret2
  exact ⟨0,s,_,rfl,h5.out,L.Step.refl h.out.sl.inv,hvo.out,hst4.trans hst5⟩
end
end Go.Proofs.YtmnjakejhbpkoaaGreatDoor
end
