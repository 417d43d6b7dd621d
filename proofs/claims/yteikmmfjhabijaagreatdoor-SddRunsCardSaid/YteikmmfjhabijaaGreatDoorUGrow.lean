import Derived.Test.YteikmmfjhabijaaGreatDoorUKeep4
import Derived.Test.YteikmmfjhabijaaGreatDoorUSem
import Derived.Test.YteikmmfjhabijaaGreatDoorULaw3
section
set_option linter.unusedSimpArgs false
set_option linter.unusedVariables false
namespace Go.Proofs.YteikmmfjhabijaaGreatDoor
open Go Go.RowKit Go.Shelf
theorem Val.keep {s:St} {b:List Nat} {a:Nat} {φ:L.Asg→Bool} (h:Val s a φ) (hi:L.Inv s) (hc:L.Closed s.nodes b) (ha:a∈b):Val (L.keepS s b) (L.rankN b a) φ :=
 ⟨by show _ < (L.keepNodes s.nodes b).length;rw [L.keep_len];exact L.rank_lt ha,fun x=>(L.sem_keep hc hi.kids x a ha).trans (h.sem x)⟩
def RetKeepV (t:List VN) (B0:Blks) (w0:World) (k:Nat) (s:St) (l:List Nat) (n:Nat) (e:Ending) (w':World):Prop :=
 ∃ (b:List Nat) (v:Value),e = .returned (.tuple #[v,.int .i64 0])∧L.Closed s.nodes b∧(∀ a∈l,a∈b)∧(∀ x∈b,∃ a∈0 :: 1 :: l,x≤a)∧w'.ownsRow n 3 1 v l.length ((l.map (L.rankN b)).map encI)∧SS t B0 w0 k (L.keepS s b) w'
theorem keep_v {t:List VN} {B0:Blks} {w0 w:World} {k:Nat} {s:St} {v:Value} {l:List Nat} (h:SS t B0 w0 k s w) (hv:SlI w v (l.map fun n:Nat=>(n:Int))) (hl:l.length≤1000000) (hla:∀ a∈l,a < s.nodes.length) :
  Calls Tryz.prog 27 #[.pointer (some ⟨B0.sb,0,none⟩),v] w (RetKeepV t B0 w0 k s l w.heap.size):=by
 obtain ⟨B,hR,hS⟩:=h.held
 rw [←hS.sb]
 refine (keep_any hR h.ne h.inv hv hl hla).mono ?_
 rintro e w' ⟨b,v',B',rfl,hc,hm,hmx,ho,hR',hS'⟩
 have hbig:=L.keep_big hc
 exact ⟨b,v',rfl,hc,hm,hmx,ho,⟨B',hR',hS.then hS'⟩,⟨L.keep_inv h.inv hc,h.room.few,by have:=h.room.room;omega⟩,h.tree⟩
end Go.Proofs.YteikmmfjhabijaaGreatDoor
end
section
set_option linter.unusedSimpArgs false
set_option linter.unusedVariables false
namespace Go.Proofs.YteikmmfjhabijaaGreatDoor
open Go Go.RowKit Go.Shelf
theorem vars_few {t:List VN} (hc:checkF t = 0) (h11:t.length≤11):∃ l,varsR t = some l∧l.length≤6∧L.SortedBel t (t.length - 1) l∧∀ v∈l,VarOf t v:=by
 obtain ⟨l,h1,h2⟩:=L.varsR_spec hc
 have h0:=(check_ok hc).1
 have h3:=h2.len hc (by omega)
 have h4:=L.nv_le hc (v:=t.length - 1) (by omega)
 refine ⟨l,h1,by omega,h2,fun v hv=>?_⟩
 obtain ⟨u,y,a1,a2,a3,_⟩:=(h2.mem v).1 hv
 exact ⟨u,y,a1,a2,a3⟩
end Go.Proofs.YteikmmfjhabijaaGreatDoor
end
section
set_option linter.unusedSimpArgs false
set_option linter.unusedVariables false
namespace Go.Proofs.YteikmmfjhabijaaGreatDoor
open Go Go.RowKit Go.Shelf
theorem Rep.grownT {B:Blks} {s:St} {w w':World} {blk:Nat} {c0:Array Value} {t:TypeId} {f0:Nat × Nat} (h:Rep B s w) (hk:w.heap[blk]? = some (.cells c0 t f0)) (h1:t≠tPair) (h2:t≠tNode) (h3:t≠tStore) (h4:t≠96) (hg:blk≠gPow∧blk≠gTz)
  (hs:∀ (k:Nat) (o:Obj),k≠blk→w.heap[k]? = some o→w'.heap[k]? = some o):Rep B s w':=by
 obtain ⟨nv,vs,hst,hn,he⟩:=h.store
 obtain ⟨c',hc⟩:=hn.nbk
 have n1:B.sb≠blk:=fun e=>by rw [e,hk] at hst;simp at hst;exact h3 hst.2.1
 have n2:B.nb≠blk:=fun e=>by rw [e,hk] at hc;simp at hc;exact h2 hc.2.1
 have nm:∀ {α β:Type} [DecidableEq α] {enc:α→Value} {encV:β→Value} {b:Nat} {m:α→Option β},MapAt enc encV w b m→MapAt enc encV w' b m:=fun {α β _ enc encV b m} hm=>by
  obtain ⟨L,cl,hb,hm2⟩:=hm
  refine ⟨L,cl,hs b _ (fun e=>?_) hb,hm2⟩
  rw [e,hk] at hb;simp at hb
 have same:∀ k,k≠blk→k < w.heap.size→w'.heap[k]? = w.heap[k]?:=fun k h1 h2=>by
  rw [Array.getElem?_eq_getElem h2];exact hs k _ h1 (Array.getElem?_eq_getElem h2)
 exact {
  tz:=h.tz.same (same _ (Ne.symm hg.2) h.tz.lt')
  pow:=h.pow.same (same _ (Ne.symm hg.1) h.pow.lt)
  glob:=h.glob
  store:=by
   refine ⟨nv,vs,hs _ _ n1 hst,⟨hn.len,ownsRow_same hn.own ?_,hn.blk,fun i hi hv=>?_⟩,he⟩
   ·intro k hk2
    rw [hn.blk] at hk2
    cases hk2
    rw [hs _ _ n2 hc,hc]
   ·obtain ⟨ba,c,hve,hrow⟩:=hn.els i hi hv
    refine ⟨ba,c,hve,hrow.imp id ?_⟩
    rintro ⟨b,o,rfl,cs,fz,hb,hcs⟩
    exact ⟨b,o,rfl,cs,fz,hs b _ (fun e=>by rw [e,hk] at hb;simp at hb;exact h1 hb.2.1) hb,hcs⟩
  tree:=by
   obtain ⟨c,fz,hb,hcs⟩:=h.tree
   refine ⟨c,fz,hs _ _ (fun e=>?_) hb,hcs⟩
   rw [e,hk] at hb;simp at hb;exact h4 hb.2.1
  leaf:=nm h.leaf
  uniq:=nm h.uniq
  ands:=nm h.ands
  nots:=nm h.nots
  apart:=h.apart
  small:=h.small }
end Go.Proofs.YteikmmfjhabijaaGreatDoor
end
