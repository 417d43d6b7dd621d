import Derived.Test.YtmnjakejhbpkoaaGreatDoorYElem
import Derived.Test.YtmnjakejhbpkoaaGreatDoorYThy2
import Derived.Test.YtmnjakejhbpkoaaGreatDoorYLaw12
section
set_option linter.unusedSimpArgs false
set_option linter.unusedVariables false
namespace Go.Proofs.YtmnjakejhbpkoaaGreatDoor
open Go Go.RowKit Go.Shelf
theorem Rep.grownT {B:Blks} {s:St} {w w':World} {blk:Nat} {c0:Array Value} {t:TypeId} {f0:Nat × Nat} (h:Rep B s w) (hk:w.heap[blk]? = some (.cells c0 t f0)) (h1:t≠tPair) (h2:t≠tNode) (h3:t≠tStore) (h4:t≠106) (hg:blk≠gPow∧blk≠gTz)
  (hs:∀ (k:Nat) (o:Obj),k≠blk→w.heap[k]? = some o→w'.heap[k]? = some o):Rep B s w':=by
 obtain ⟨nv,vs,hst,hn,he⟩:=h.store
 obtain ⟨c',hc⟩:=hn.nbk
 have n1:B.sb≠blk:=fun e=>by rw [e,hk] at hst;simp at hst;exact h3 hst.2.1
 have n2:B.nb≠blk:=fun e=>by rw [e,hk] at hc;simp at hc;exact h2 hc.2.1
 have nm:∀ {α β:Type} [DecidableEq α] {enc:α→Value} {encV:β→Value} {b:Nat} {m:α→Option β},MapAt enc encV w b m→MapAt enc encV w' b m:=fun {α β _ enc encV b m} hm=>by
  obtain ⟨L,cl,hb,hm2⟩:=hm
  refine ⟨L,cl,hs b _ (fun e=>?_) hb,hm2⟩
  rw [e,hk] at hb;simp at hb
 have same:∀ k,k≠blk→k < w.heap.size→w'.heap[k]? = w.heap[k]?:=fun k h1 h2=>by
  rw [Array.getElem?_eq_getElem h2];exact hs k _ h1 (Array.getElem?_eq_getElem h2)
 exact {
  tz:=h.tz.same (same _ (Ne.symm hg.2) h.tz.lt')
  pow:=h.pow.same (same _ (Ne.symm hg.1) h.pow.lt)
  glob:=h.glob
  store:=by
   refine ⟨nv,vs,hs _ _ n1 hst,⟨hn.len,ownsRow_same hn.own ?_,hn.blk,fun i hi hv=>?_⟩,he⟩
   ·intro k hk2
    rw [hn.blk] at hk2
    cases hk2
    rw [hs _ _ n2 hc,hc]
   ·obtain ⟨ba,c,hve,hrow⟩:=hn.els i hi hv
    refine ⟨ba,c,hve,hrow.imp id ?_⟩
    rintro ⟨b,o,rfl,cs,fz,hb,hcs⟩
    exact ⟨b,o,rfl,cs,fz,hs b _ (fun e=>by rw [e,hk] at hb;simp at hb;exact h1 hb.2.1) hb,hcs⟩
  tree:=by
   obtain ⟨c,fz,hb,hcs⟩:=h.tree
   refine ⟨c,fz,hs _ _ (fun e=>?_) hb,hcs⟩
   rw [e,hk] at hb;simp at hb;exact h4 hb.2.1
  leaf:=nm h.leaf
  uniq:=nm h.uniq
  ands:=nm h.ands
  nots:=nm h.nots
  apart:=h.apart
  small:=h.small }
end Go.Proofs.YtmnjakejhbpkoaaGreatDoor
end
section
set_option linter.unusedSimpArgs false
set_option linter.unusedVariables false
namespace Go.Proofs.YtmnjakejhbpkoaaGreatDoor
open Go Go.RowKit Go.Shelf
theorem FrV.trans {M:List Nat} {a b c:World} (h:Fr M a b) (k:Fr M b c):Fr M a c :=
 ⟨k.os.trans h.os,k.tape.trans h.tape,k.output.trans h.output,Nat.le_trans h.size k.size,fun j hj hM=>(k.block j (Nat.lt_of_lt_of_le hj h.size) hM).trans (h.block j hj hM)⟩
theorem SL.fr {t:List VN} {sb k:Nat} {X:List Nat} {s:St} {w0 w w':World} (h:SL t sb k X s w0 w) {p:Nat} {es:Array MapEntry} {cl:Nat} (hp:p∈X) (h0:w0.heap.size≤p) (hm:w.heap[p]? = some (.map es cl)) (hg:p≠gPow∧p≠gTz) (hF:Fr [p] w w'):SL t sb k X s w0 w':=by
 obtain ⟨B,h1,hR,h2,h3⟩:=h.on
 have hpl:=(Array.getElem?_eq_some_iff.1 hm).1
 have hpl':p < w'.heap.size:=Nat.lt_of_lt_of_le hpl hF.size
 obtain ⟨w2,hw2⟩:∃ w2:World,w2 = { w' with heap:=w'.heap.setIfInBounds p (.map es cl) }:=⟨_,rfl⟩
 have e1:w2.heap[p]? = some (.map es cl):=by rw [hw2];simp [hpl']
 have e2:∀ j,j≠p→w'.heap[j]? = w2.heap[j]?:=fun j hj=>by rw [hw2];simp [Array.getElem?_setIfInBounds,Ne.symm hj]
 have hR1:Rep B s w2:=hR.same fun j o hj=>by
  by_cases e:j = p
  ·subst e;rw [e1,hm]
  ·rw [←e2 j e]
   exact hF.block j (Array.getElem?_eq_some_iff.1 hj).1 (by simpa using e)
 have hR2:Rep B s w':=hR1.offMap e1 (h3 p hp).1 hg e2
 refine ⟨⟨B,h1,hR2,h2,fun x hx=>⟨(h3 x hx).1,Nat.lt_of_lt_of_le (h3 x hx).2 hF.size⟩⟩,h.room,h.tree,?_⟩
 exact ⟨hF.os.trans h.bel.os,hF.tape.trans h.bel.tape,hF.output.trans h.bel.output,Nat.le_trans h.bel.size hF.size,fun j hj=>(hF.block j (Nat.lt_of_lt_of_le hj h.bel.size) (by simp;omega)).trans (h.bel.block j hj)⟩
theorem fr_put (w:World) (K:TypeId) (p:Nat) (k v:Value):Fr [p] w (putMap K Tryz.prog w p k v):=by
 obtain ⟨p1,p2,p3,_⟩:=putMap_rest (P:=Tryz.prog) K w p k v
 exact ⟨p1,p2,p3,by rw [putMap_size];exact Nat.le_refl _,fun j _ hj=>putMap_other _ _ _ _ _ j (by simpa using hj)⟩
theorem fr_below {w w':World} (p:Nat) (hb:Below w.heap.size w w'):Fr [p] w w':=Fr.of_below hb
set_option maxRecDepth 100000 in
set_option maxHeartbeats 1000000 in
theorem vsize_any {t:List VN} {sb xv gt ct gb pc pn:Nat} {f:Nat→VSet} {w:World} (h:VwAt t sb xv gt ct gb pc pn f w) (hc:checkF t = 0) {j:Nat} (hj:j < t.length) :
  Calls Tryz.prog 161 #[.pointer (some ⟨xv,0,none⟩),.int .i64 (j:Nat)] w fun e w'=>e = .returned (.int .i64 (L.nv t j:Nat))∧Ext w w':=by
 have q:=len_any (f j) w
 rw [isBel_len hc hj (h.bel j hj)] at q
 generalize L.nv t j = N at *
 obtain ⟨⟨s1,s2⟩,_⟩:=h.sets.cell hj
 have c2:w.cell? ⟨xv,2,none⟩ = some (.slice (some ⟨gb,0,none⟩) t.length t.length):=by simp [World.cell?,h.box]
 have g0:(0:Int)≤j:=by omega
 have g1:(j:Int) < t.length:=by omega
 clear h
 go_enter Tryz.func161,Tryz.ntmps161
 go_wp2_with fail
 refine q.mono ?_
 rintro e w1 ⟨rfl,hx1⟩
 clear q
 go_wp2_with fail
 go_ret
 exact ⟨rfl,hx1⟩
end Go.Proofs.YtmnjakejhbpkoaaGreatDoor
end
section
set_option linter.unusedSimpArgs false
set_option linter.unusedVariables false
namespace Go.Proofs.YtmnjakejhbpkoaaGreatDoor
open Go Go.RowKit Go.Shelf
def CtM (t:List VN) (s:St) (m:List (Nat × Nat)):Prop:=∀ i c,asc m i = some c→∃ (nd:SNode) (P:Nat),s.nodes[i]? = some nd∧nd.pl = (P:Nat)∧P < t.length∧c = L.cnt (L.vl t P) (L.sem s.nodes i)
structure MI0 (t:List VN) (sb k:Nat) (X:List Nat) (s:St) (w0:World) (xv gt ct gb pc pn:Nat) (f:Nat→VSet) (wb:World):Prop where
 sl:SL t sb k X s w0 wb
 vw:VwAt t sb xv gt ct gb pc pn f wb
 px:pc∈X∧w0.heap.size≤pc∧pc≠gPow∧pc≠gTz
 ne:xv≠pc∧gt≠pc∧gb≠pc
 mb:∃ es cl,wb.heap[pc]? = some (.map es cl)
structure FI (t:List VN) (s:St) (pc:Nat) (wb:World) (m:List (Nat × Nat)) (W:World):Prop where
 fr:Fr [pc] wb W
 mp:MapAt encNat encC W pc (asc m)
 ct:CtM t s m
section
variable {t:List VN} {sb k:Nat} {X:List Nat} {s:St} {w0:World} {xv gt ct gb pc pn:Nat} {f:Nat→VSet} {wb W W':World} {m:List (Nat × Nat)}
theorem MI0.slAt (h:MI0 t sb k X s w0 xv gt ct gb pc pn f wb) (hF:Fr [pc] wb W):SL t sb k X s w0 W:=by
 obtain ⟨es,cl,hm⟩:=h.mb
 exact h.sl.fr h.px.1 h.px.2.1 hm h.px.2.2 hF
theorem MI0.vwAt (h:MI0 t sb k X s w0 xv gt ct gb pc pn f wb) (hF:Fr [pc] wb W):VwAt t sb xv gt ct gb pc pn f W:=by
 refine h.vw.same (hF.block _ (Array.getElem?_eq_some_iff.1 h.vw.box).1 (by simpa using h.ne.1)) (hF.block _ ?_ (by simpa using h.ne.2.1)) (hF.block _ h.vw.sets.lt (by simpa using h.ne.2.2))
 have h0:=(check_ok h.sl.chk).1
 exact World.block_lt_of_cell? _ _ ((h.vw.tree.node (k:=0) h0).1)
theorem FI.below (h:FI t s pc wb m W) (hb:Below W.heap.size W W'):FI t s pc wb m W' :=
 ⟨FrV.trans h.fr (fr_below pc hb),h.mp.same (hb.block _ h.mp.lt),h.ct⟩
theorem FI.fresh (h:FI t s pc wb m W) {r o:Nat} {v:Value} (hr:wb.heap.size≤r) (hne:r≠pc):FI t s pc wb m (W.setCell ⟨r,o,none⟩ v) :=
 ⟨⟨h.fr.os,h.fr.tape,h.fr.output,by have:=h.fr.size;simpa using this,fun j hj hM=>(heap_setN o v (by omega)).trans (h.fr.block j hj hM)⟩,h.mp.same (heap_setN o v (Ne.symm hne)),h.ct⟩
theorem zeroNat:∀ w,(zeroValue 52).run Tryz.prog w = .ok (natV 0) w:=fun w=>by kernel_rfl
theorem FI.look (h:FI t s pc wb m W) (a:Nat):(Instr.lookup 141 (.map (some pc)) (.int .i64 a) true).run Tryz.prog W = .ok (.tuple #[((asc m a).map encC).getD (natV 0),.bool (asc m a).isSome]) W :=
 h.mp.look natLaw (T:=141) Tryz.underlying141 _ zeroNat a
theorem FI.put (h:FI t s pc wb m W) (a c:Nat) (hc:∃ (nd:SNode) (P:Nat),s.nodes[a]? = some nd∧nd.pl = (P:Nat)∧P < t.length∧c = L.cnt (L.vl t P) (L.sem s.nodes a)) :
  (Instr.mapUpdate 141 (.map (some pc)) (.int .i64 a) (natV c)).run Tryz.prog W = .ok () (putMap 3 Tryz.prog W pc (encNat a) (encC c))∧FI t s pc wb ((a,c) :: m) (putMap 3 Tryz.prog W pc (encNat a) (encC c))∧Fr [pc] W (putMap 3 Tryz.prog W pc (encNat a) (encC c)):=by
 obtain ⟨h1,h2⟩:=h.mp.put natLaw (T:=141) Tryz.underlying141 a c
 refine ⟨h1,⟨FrV.trans h.fr (fr_put W _ pc _ _),by rw [asc_cons];exact h2,fun i d hd=>?_⟩,fr_put W _ pc _ _⟩
 have hd':(if i = a then some c else asc m i) = some d:=hd
 split at hd'
 ·rename_i e
  cases hd';subst e;exact hc
 ·exact h.ct i d hd'
end
theorem NewP.cells {n:Nat} {w:World} {ba:Option Addr} {l:List (Nat × Nat)} (h:NewP n w ba l) (hl:l≠[]):∃ g cs,ba = some ⟨g,0,none⟩∧n≤g∧w.heap[g]? = some (.cells cs tPair (0,0))∧∀ j (hj:j < l.length),cs[j * 2]? = some (.int .i64 (l[j].1:Nat))∧cs[j * 2+1]? = some (.int .i64 (l[j].2:Nat)):=by
 obtain h | ⟨g,cs,h1,h2,h3,h4⟩:=h
 ·exact absurd h hl
 ·refine ⟨g,cs,h1,h2,h3,fun j hj=>?_⟩
  have hR:RowAt w g 0 tPair (flatP l):=⟨cs,(0,0),h3,h4⟩
  have:=hR.off0 j hj
  simpa [World.cell?,h3] using this
end Go.Proofs.YtmnjakejhbpkoaaGreatDoor
end
section
set_option linter.unusedSimpArgs false
set_option linter.unusedVariables false
namespace Go.Proofs.YtmnjakejhbpkoaaGreatDoor
open Go Go.RowKit Go.Shelf
def RetM (t:List VN) (s:St) (pc:Nat) (wb W:World) (n:Nat) (e:Ending) (W':World):Prop:=∃ m',e = .returned (natV n)∧FI t s pc wb m' W'∧Fr [pc] W W'
section
variable {t:List VN} {sb k:Nat} {X:List Nat} {s:St} {w0:World} {xv gt ct gb pc pn:Nat} {f:Nat→VSet} {wb W:World} {m:List (Nat × Nat)}
set_option maxRecDepth 100000 in
set_option maxHeartbeats 2000000 in
theorem models_zero (h0:MI0 t sb k X s w0 xv gt ct gb pc pn f wb) (hF:FI t s pc wb m W) (at_:Nat) :
  Calls Tryz.prog 97 #[.pointer (some ⟨xv,0,none⟩),.int .i64 0,.int .i64 (at_:Nat)] W (RetM t s pc wb W 0):=by
 have hb1:=(Below.refl W.heap.size W).alloc (Nat.le_refl _) (.cells #[.string ⟨#[]⟩] 52)
 have hx1:=heap_alloc_new W (.cells #[.string ⟨#[]⟩] 52)
 have hF1:=hF.below hb1
 go_enter Tryz.func97,Tryz.ntmps97
 go_wp2_with fail
 have hc:(W.alloc (.cells #[.string ⟨#[]⟩] 52)).cell? ⟨W.heap.size,0,none⟩ = some (.string ⟨#[]⟩):=by rw [World.cell?,hx1];rfl
 exact bodyPost_ret (v:=.agg #[.string ⟨#[]⟩]) (by simp [results,Tryz.results97,go_sem,hc]) rfl ⟨m,rfl,hF1,fr_below pc hb1⟩
set_option maxRecDepth 100000 in
set_option maxHeartbeats 2000000 in
theorem models_one (h0:MI0 t sb k X s w0 xv gt ct gb pc pn f wb) (hF:FI t s pc wb m W) {at_:Nat} (hat:at_ < t.length) :
  Calls Tryz.prog 97 #[.pointer (some ⟨xv,0,none⟩),.int .i64 1,.int .i64 (at_:Nat)] W (RetM t s pc wb W (2 ^ L.nv t at_)):=by
 have hc:=h0.sl.chk
 have hn6:L.nv t at_ < 8:=by have:=L.nv_le hc hat;have:=h0.sl.few;omega
 have hb1:=(Below.refl W.heap.size W).alloc (Nat.le_refl _) (.cells #[.string ⟨#[]⟩] 52)
 have hx1:=heap_alloc_new W (.cells #[.string ⟨#[]⟩] 52)
 have hF1:=hF.below hb1
 have q1:=vsize_any (h0.vwAt hF1.fr) hc hat
 have q2:=fun W=>pow2_any (w:=W) hn6
 generalize L.nv t at_ = N at *
 replace q2:=Lib.hid q2
 go_enter Tryz.func97,Tryz.ntmps97
 go_wp2_with fail
 generalize W.alloc (.cells #[.string ⟨#[]⟩] 52) = w1 at *
 refine q1.mono ?_
 rintro e w2 ⟨rfl,hx2⟩
 have q2':=q2.out w2
 clear q1
 go_wp2_with fail
 refine q2'.mono ?_
 rintro e w3 ⟨rfl,hb3⟩
 have hb3':=hx2.below.trans (hb3.mono hx2.size)
 have hr3:=(hb3'.block _ (Array.getElem?_eq_some_iff.1 hx1).1).trans hx1
 have hF3:=hF1.below hb3'
 have hfr3:Fr [pc] W w3:=fr_below pc (hb1.trans (hb3'.mono hb1.size))
 have fz:w3.frozen? ⟨W.heap.size,0,none⟩ = false:=by simp [World.frozen?,hr3]
 have hcc:w3.cell? ⟨W.heap.size,0,none⟩ = some (.string ⟨#[]⟩):=by simp [World.cell?,hr3]
 unfold natV
 generalize hT:(⟨(natL (2 ^ N)).toArray⟩:ByteArray) = T at *
 have hfin:((w3.setCell ⟨W.heap.size,0,none⟩ (.string T)).cell? ⟨W.heap.size,0,none⟩ = some (.string T)):=by simp [World.cell?,heap_set hr3 0 _]
 replace hfin:=Lib.hid hfin
 have hF4:=Lib.hid (hF3.fresh (r:=W.heap.size) (o:=0) (v:=.string T) hF.fr.size (by have:=hF.mp.lt;omega))
 have hfr4:Hid (Fr [pc] W (w3.setCell ⟨W.heap.size,0,none⟩ (.string T))):=Lib.hid ⟨hfr3.os,hfr3.tape,hfr3.output,by have:=hfr3.size;simpa using this,fun j hj hM=>(heap_setN 0 _ (by omega)).trans (hfr3.block j hj hM)⟩
 replace hr3:=Lib.hid hr3
 clear q2' hb3 hb3' hx2 hx1 hb1 hF3 hfr3
 go_wp2_with fail
 exact bodyPost_ret (v:=.agg #[.string T]) (by simp [results,Tryz.results97,go_sem,hfin.out]) rfl ⟨m,by rw [←hT] <;> rfl,hF4.out,hfr4.out⟩
end
end Go.Proofs.YtmnjakejhbpkoaaGreatDoor
end
