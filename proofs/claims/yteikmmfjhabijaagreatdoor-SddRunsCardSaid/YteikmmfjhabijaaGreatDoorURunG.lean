import Derived.Test.YteikmmfjhabijaaGreatDoorUTab2
import Derived.Test.YteikmmfjhabijaaGreatDoorUGrow
import Derived.Test.YteikmmfjhabijaaGreatDoorUReg
set_option linter.unusedSimpArgs false
set_option linter.unusedVariables false
namespace Go.Proofs.YteikmmfjhabijaaGreatDoor
open Go Go.RowKit Go.Shelf
def modF (a:Int) (n:Nat):Nat:=((a.tmod n+n).tmod n).toNat
theorem modF_in (a:Int) (n:Nat) (hn:0 < n):-(n:Int) < a.tmod n∧a.tmod n < n∧(a.tmod n+n).tmod n = (modF a n:Nat)∧modF a n < n:=by
 have h1:a.tmod n < n:=Int.tmod_lt_of_pos a (by omega)
 have h2:-(n:Int) < a.tmod n:=by
  have:=Int.tmod_lt_of_pos (-a) (b:=(n:Int)) (by omega)
  rw [Int.neg_tmod] at this;omega
 have h3:0≤(a.tmod n+n).tmod n:=Int.tmod_nonneg _ (by omega)
 have h4:(a.tmod n+n).tmod n < n:=Int.tmod_lt_of_pos _ (by omega)
 exact ⟨h2,h1,by unfold modF;omega,by unfold modF;omega⟩
theorem modF_lt (a:Int) {n:Nat} (hn:0 < n):modF a n < n:=(modF_in a n hn).2.2.2
set_option maxRecDepth 100000 in
set_option maxHeartbeats 1000000 in
theorem mod_any (a:Int) (n:Nat) (hn:0 < n) (hn2:n≤1000000) (w:World):Calls Tryz.prog 52 #[.int .i64 a,.int .i64 n] w fun e w'=>e = .returned (.int .i64 (modF a n:Nat))∧w = w':=by
 obtain ⟨h1,h2,h3,h4⟩:=modF_in a n hn
 have hz:((n:Int) == 0) = false:=by simp;omega
 have hz2:¬ ((n:Int) = 0):=by omega
 have hw:IntKind.i64.wrap (a.tmod n+n) = a.tmod n+n:=by rw [IntWalk.i64_in _ (by omega)]
 have hw1:IntKind.i64.wrap (a.tmod n) = a.tmod n:=by rw [IntWalk.i64_in _ (by omega)]
 have hw2:IntKind.i64.wrap ((a.tmod n+n).tmod n) = (a.tmod n+n).tmod n:=by rw [IntWalk.i64_in _ (by omega)]
 generalize modF a n = m at *
 rw [h3] at hw2
 go_enter Tryz.func52,Tryz.ntmps52
 go_wp2_with fail
 go_ret
 exact ⟨rfl,rfl⟩
theorem own_calm {w w':World} {N sz n:Nat} {e:TypeId} {v:Value} {xs:List Value} (h:w.ownsRow N e sz v n xs) (hs:∀ (g:Nat) (cs:Array Value),w.heap[g]? = some (.cells cs e (0,0))→w'.heap[g]? = w.heap[g]?):w'.ownsRow N e sz v n xs:=by
 refine ownsRow_same h fun k hk=>?_
 obtain ⟨_,c,hc⟩:=own_lt h hk
 exact hs k c hc
structure RunG (N:Nat) (bx:List (Nat × Array Value)) (t:List VN) (sb k:Nat) (s:St) (va:Value) (na:List Value) (vf:Value) (nf:List Value) (ts:List (Value × List Bool)) (w:World):Prop where
 sp:∃ B:Blks,B.sb = sb∧Rep B s w∧∀ m∈B.mut,N≤m
 room:L.Room s k
 tree:s.tree = t
 oa:w.ownsRow N 3 1 va na.length na
 of:w.ownsRow N 43 1 vf nf.length nf
 tab:∀ p∈ts,TabAt w p.1 p.2
 sz:N≤w.heap.size
 glob:gPow < N∧gTz < N
 hb:∀ p∈bx,w.heap[p.1]? = some (.cells p.2 35 (0,0))
section
variable {N:Nat} {bx:List (Nat × Array Value)} {t:List VN} {sb k:Nat} {s:St} {va:Value} {na:List Value} {vf:Value} {nf:List Value} {ts:List (Value × List Bool)} {w:World}
theorem RunG.ssAt (h:RunG N bx t sb k s va na vf nf ts w) {B:Blks} (hR:Rep B s w):SS t B w k s w:=⟨⟨B,hR,Stp.refl _ _ _⟩,h.room,h.tree⟩
theorem RunG.less {m:Nat} (h:RunG N bx t sb k s va na vf nf ts w) (hm:m≤k):RunG N bx t sb m s va na vf nf ts w:={ h with room:=h.room.less hm }
theorem RunG.below {w':World} (h:RunG N bx t sb k s va na vf nf ts w) (hb:Below w.heap.size w w'):RunG N bx t sb k s va na vf nf ts w':=by
 obtain ⟨B,h1,h2,h3⟩:=h.sp
 have hs:∀ (g:Nat) (o:Obj),w.heap[g]? = some o→w'.heap[g]? = w.heap[g]?:=fun g o hg=>hb.block g (Array.getElem?_eq_some_iff.1 hg).1
 exact { sp:=⟨B,h1,h2.below hb,h3⟩,room:=h.room,tree:=h.tree,oa:=own_calm h.oa fun g cs hg=>hs g _ hg,of:=own_calm h.of fun g cs hg=>hs g _ hg,
         tab:=fun p hp=>(h.tab p hp).calm fun g cs hg=>hs g _ hg,sz:=Nat.le_trans h.sz hb.size,glob:=h.glob,hb:=fun p hp=>(hs p.1 _ (h.hb p hp)).trans (h.hb p hp) }
theorem RunG.next {w':World} {B:Blks} {k':Nat} {s':St} (h:RunG N bx t sb k s va na vf nf ts w) (hB:B.sb = sb) (hR:Rep B s w) (hm:∀ m∈B.mut,N≤m) (hS:SS t B w k' s' w'):RunG N bx t sb k' s' va na vf nf ts w'∧Below N w w':=by
 obtain ⟨B',hR',hSt⟩:=hS.held
 obtain ⟨b1,b2,b3⟩:=Stp.behind (Below.refl N w) hm h.sz hSt
 have hs:∀ (g:Nat) (cs:Array Value) (e:TypeId) (fz:Nat × Nat),e≠tNode→e≠tStore→w.heap[g]? = some (.cells cs e fz)→w'.heap[g]? = w.heap[g]?:=fun g cs e fz e1 e2 hg =>
  hS.block (Array.getElem?_eq_some_iff.1 hg).1 (hR.not_mut hg e1 e2)
 exact ⟨{ sp:=⟨B',hSt.sb.trans hB,hR',b2⟩,room:=hS.room,tree:=hS.tree,oa:=own_calm h.oa fun g cs hg=>hs g _ _ _ (by decide) (by decide) hg,of:=own_calm h.of fun g cs hg=>hs g _ _ _ (by decide) (by decide) hg,
          tab:=fun p hp=>(h.tab p hp).calm fun g cs hg=>hs g _ _ _ (by decide) (by decide) hg,sz:=b3,glob:=h.glob,hb:=fun p hp=>(hs p.1 _ _ _ (by decide) (by decide) (h.hb p hp)).trans (h.hb p hp) },b1⟩
theorem RunG.box {w':World} {B:Blks} {k':Nat} {s':St} {blk:Nat} {c:Array Value} {e:TypeId} {fz:Nat × Nat} (hb:w.heap[blk]? = some (.cells c e fz)) (h1:e≠tNode) (h2:e≠tStore) (hR:Rep B s w) (hS:SS t B w k' s' w'):w'.heap[blk]? = some (.cells c e fz) :=
 (hS.block (Array.getElem?_eq_some_iff.1 hb).1 (hR.not_mut hb h1 h2)).trans hb
theorem RunG.turn {w':World} {blk:Nat} {c0:Array Value} {ty:TypeId} {f0:Nat × Nat} (h:RunG N bx t sb k s va na vf nf ts w) (hk:w.heap[blk]? = some (.cells c0 ty f0)) (hN:N≤blk) (hnb:∀ p∈bx,p.1≠blk)
  (h1:ty≠tPair) (h2:ty≠tNode) (h3:ty≠tStore) (h4:ty≠96) (h5:ty≠3) (h6:ty≠4) (h7:ty≠43)
  (hsz:w.heap.size≤w'.heap.size) (hs:∀ g,g≠blk→g < w.heap.size→w'.heap[g]? = w.heap[g]?):RunG N bx t sb k s va na vf nf ts w':=by
 obtain ⟨B,b1,b2,b3⟩:=h.sp
 have hgl:=h.glob
 have hs':∀ (g:Nat) (o:Obj),g≠blk→w.heap[g]? = some o→w'.heap[g]? = some o:=fun g o hne hg=>(hs g hne (Array.getElem?_eq_some_iff.1 hg).1).trans hg
 have hr:∀ (g:Nat) (cs:Array Value) (e:TypeId),e≠ty→w.heap[g]? = some (.cells cs e (0,0))→w'.heap[g]? = w.heap[g]?:=fun g cs e he hg =>
  hs g (fun hgb=>by rw [hgb,hk] at hg;simp at hg;exact he hg.2.1.symm) (Array.getElem?_eq_some_iff.1 hg).1
 exact { sp:=⟨B,b1,b2.grownT hk h1 h2 h3 h4 ⟨by omega,by omega⟩ hs',b3⟩,room:=h.room,tree:=h.tree,oa:=own_calm h.oa fun g cs hg=>hr g cs _ h5.symm hg,of:=own_calm h.of fun g cs hg=>hr g cs _ h7.symm hg,
         tab:=fun p hp=>(h.tab p hp).calm fun g cs hg=>hr g cs _ h6.symm hg,sz:=Nat.le_trans h.sz hsz,glob:=hgl,hb:=fun p hp=>hs' p.1 _ (hnb p hp) (h.hb p hp) }
theorem own_some {N sz n:Nat} {e:TypeId} {v:Value} {xs:List Value} (h:w.ownsRow N e sz v n xs) (hn:0 < n):∃ g cs,v.ownBlock = some g∧N≤g∧w.heap[g]? = some (.cells cs e (0,0)):=by
 obtain ⟨_,⟨rfl,e⟩ | ⟨g,cap,cur,rfl,hg,hh,_⟩⟩:=h
 ·omega
 ·exact ⟨g,cur,rfl,hg,hh⟩
theorem RunG.growA {w':World} {va':Value} {na':List Value} (h:RunG N bx t sb k s va na vf nf ts w) (hn:0 < na.length) (hg:w.grownBy w' va.ownBlock) (ho:w'.ownsRow N 3 1 va' na'.length na'):RunG N bx t sb k s va' na' vf nf ts w':=by
 obtain ⟨B,b1,b2,b3⟩:=h.sp
 obtain ⟨g,cs,e1,e2,e3⟩:=own_some h.oa hn
 rw [e1] at hg
 have hgl:=h.glob
 have hs:∀ k,k≠g→k < w.heap.size→w'.heap[k]? = w.heap[k]?:=fun k hne hk=>hg.block k hk (fun e=>hne (Option.some.inj e))
 have hs':∀ (k:Nat) (o:Obj),k≠g→w.heap[k]? = some o→w'.heap[k]? = some o:=fun k o hne hk=>(hs k hne (Array.getElem?_eq_some_iff.1 hk).1).trans hk
 have hr:∀ (k:Nat) (cs:Array Value) (e:TypeId),e≠3→w.heap[k]? = some (.cells cs e (0,0))→w'.heap[k]? = w.heap[k]?:=fun k cs e he hk =>
  hs k (fun hgb=>by rw [hgb,e3] at hk;simp at hk;exact he hk.2.symm) (Array.getElem?_eq_some_iff.1 hk).1
 exact { sp:=⟨B,b1,b2.grownT e3 (by decide) (by decide) (by decide) (by decide) ⟨by omega,by omega⟩ hs',b3⟩,room:=h.room,tree:=h.tree,oa:=ho,of:=own_calm h.of fun g cs hg=>hr g cs _ (by decide) hg,
         tab:=fun p hp=>(h.tab p hp).calm fun g cs hg=>hr g cs _ (by decide) hg,sz:=Nat.le_trans h.sz hg.size,glob:=hgl,hb:=fun p hp=>(hr p.1 _ _ (by decide) (h.hb p hp)).trans (h.hb p hp) }
theorem RunG.growF {w':World} {vf':Value} {nf':List Value} (h:RunG N bx t sb k s va na vf nf ts w) (hn:0 < nf.length) (hg:w.grownBy w' vf.ownBlock) (ho:w'.ownsRow N 43 1 vf' nf'.length nf'):RunG N bx t sb k s va na vf' nf' ts w':=by
 obtain ⟨B,b1,b2,b3⟩:=h.sp
 obtain ⟨g,cs,e1,e2,e3⟩:=own_some h.of hn
 rw [e1] at hg
 have hgl:=h.glob
 have hs:∀ k,k≠g→k < w.heap.size→w'.heap[k]? = w.heap[k]?:=fun k hne hk=>hg.block k hk (fun e=>hne (Option.some.inj e))
 have hs':∀ (k:Nat) (o:Obj),k≠g→w.heap[k]? = some o→w'.heap[k]? = some o:=fun k o hne hk=>(hs k hne (Array.getElem?_eq_some_iff.1 hk).1).trans hk
 have hr:∀ (k:Nat) (cs:Array Value) (e:TypeId),e≠43→w.heap[k]? = some (.cells cs e (0,0))→w'.heap[k]? = w.heap[k]?:=fun k cs e he hk =>
  hs k (fun hgb=>by rw [hgb,e3] at hk;simp at hk;exact he hk.2.symm) (Array.getElem?_eq_some_iff.1 hk).1
 exact { sp:=⟨B,b1,b2.grownT e3 (by decide) (by decide) (by decide) (by decide) ⟨by omega,by omega⟩ hs',b3⟩,room:=h.room,tree:=h.tree,oa:=own_calm h.oa fun g cs hg=>hr g cs _ (by decide) hg,of:=ho,
         tab:=fun p hp=>(h.tab p hp).calm fun g cs hg=>hr g cs _ (by decide) hg,sz:=Nat.le_trans h.sz hg.size,glob:=hgl,hb:=fun p hp=>(hr p.1 _ _ (by decide) (h.hb p hp)).trans (h.hb p hp) }
theorem box_grew {w':World} {v:Value} {n:Nat} {e e':TypeId} {xs:List Value} {blk:Nat} {c:Array Value} {fz:Nat × Nat} (ho:w.ownsRow N e 1 v n xs) (hg:w.grownBy w' v.ownBlock) (hb:w.heap[blk]? = some (.cells c e' fz)) (hne:e'≠e):w'.heap[blk]? = some (.cells c e' fz) :=
 (hg.block blk (Array.getElem?_eq_some_iff.1 hb).1 (fun hc=>by
   obtain ⟨_,c2,hc2⟩:=own_lt ho hc.symm
   rw [hb] at hc2
   simp at hc2
   exact hne hc2.2.1)).trans hb
theorem RunG.tabs (h:RunG N bx t sb k s va na vf nf ts w) {ts':List (Value × List Bool)} (h':∀ p∈ts',TabAt w p.1 p.2):RunG N bx t sb k s va na vf nf ts' w:={ h with tab:=h' }
end
structure Res where
 n:Nat
 φ:L.Asg→Bool
 v:Value
 f:List Bool
structure RunAt (wa:World) (bx:List (Nat × Array Value)) (t:List VN) (l:List Int) (sb k:Nat) (s:St) (va vf:Value) (rs:List Res) (w:World):Prop where
 g:RunG wa.heap.size bx t sb k s va (rs.map fun r=>encI r.n) vf (rs.map Res.v) (rs.map fun r=>(r.v,r.f)) w
 bel:Below wa.heap.size wa w
 ok:∀ r∈rs,Val s r.n r.φ∧IsTab l r.φ r.f
 two:∃ r0 r1 rest,rs = r0 :: r1 :: rest∧r0.n = 0∧r1.n = 1
def runV (sb:Nat) (va vf:Value):Value:=.agg #[.pointer (some ⟨sb,0,none⟩),va,vf,.bool false]
theorem own_at {w:World} {N n:Nat} {e:TypeId} {v:Value} {xs:List Value} (h:w.ownsRow N e 1 v n xs) (hn:0 < n):∃ g cap,v = .slice (some ⟨g,0,none⟩) n cap∧N≤g:=by
 obtain ⟨_,⟨rfl,e⟩ | ⟨g,cap,cur,rfl,hg,_⟩⟩:=h
 ·omega
 ·exact ⟨g,cap,rfl,hg⟩
theorem own_cellAt {w:World} {N n g cap:Nat} {e:TypeId} {xs:List Value} (h:w.ownsRow N e 1 (.slice (some ⟨g,0,none⟩) n cap) n xs) {j:Nat} {u:Value} (hj:xs[j]? = some u):w.cell? ⟨g,j,none⟩ = some u:=by
 have hjl:=(List.getElem?_eq_some_iff.1 hj).1
 rw [h.cellAt j (by have:=h.1;omega),hj]
theorem box4 {w:World} {k:Nat} {a b c d:Value} {t:TypeId} (h:w.heap[k]? = some (.cells #[a,b,c,d] t (0,0))):w.cell? ⟨k,0,none⟩ = some a∧w.cell? ⟨k,1,none⟩ = some b∧w.cell? ⟨k,2,none⟩ = some c∧w.cell? ⟨k,3,none⟩ = some d:=by
 refine ⟨?_,?_,?_,?_⟩ <;> simp [World.cell?,h]
theorem heap_set_ne {w:World} {b k:Nat} (o:Nat) (v:Value) (h:k≠b):(w.setCell ⟨b,o,none⟩ v).heap[k]? = w.heap[k]?:=by
 simp only [World.setCell,Array.getElem?_modify]
 rw [if_neg (fun e=>h e.symm)]
theorem run_closeAt (j:Nat) {N:Nat} {bx:List (Nat × Array Value)} {t:List VN} {sb k:Nat} {s:St} {va:Value} {na:List Value} {vf:Value} {nf:List Value} {ts:List (Value × List Bool)} {w:World} {x y:Nat} {c:Array Value} {a0 a1 a2 a3:Value} (h:RunG N bx t sb k s va na vf nf ts w)
  (hr:w.heap[x]? = some (.cells c 35 (0,0))) (hz:w.heap[y]? = some (.cells #[a0,a1,a2,a3] 35 (0,0))) (hxy:y≠x) (hx:N≤x) (hy:N≤y) (hnx:∀ p∈bx,p.1≠x) (hny:∀ p∈bx,p.1≠y) (v u0 u1 u2 u3:Value) {W:World}
  (hW:W = ((((w.setCell ⟨x,j,none⟩ v).setCell ⟨y,0,none⟩ u0).setCell ⟨y,1,none⟩ u1).setCell ⟨y,2,none⟩ u2).setCell ⟨y,3,none⟩ u3) :
  RunG N bx t sb k s va na vf nf ts W∧(∀ wa:World,Below N wa w→Below N wa W)∧W.cell? ⟨y,0,none⟩ = some u0∧W.cell? ⟨y,1,none⟩ = some u1∧W.cell? ⟨y,2,none⟩ = some u2∧W.cell? ⟨y,3,none⟩ = some u3:=by
 subst hW
 have h1:=h.turn (w':=w.setCell ⟨x,j,none⟩ v) hr hx hnx (by decide) (by decide) (by decide) (by decide) (by decide) (by decide) (by decide) (by simp) (fun k hk _=>heap_set_ne _ _ hk)
 have z1:=(heap_set_ne (w:=w) j v hxy).trans hz
 have h2:=h1.turn (w':=((((w.setCell ⟨x,j,none⟩ v).setCell ⟨y,0,none⟩ u0).setCell ⟨y,1,none⟩ u1).setCell ⟨y,2,none⟩ u2).setCell ⟨y,3,none⟩ u3) z1 hy hny (by decide) (by decide) (by decide) (by decide) (by decide) (by decide) (by decide) (by simp) (fun k hk _=>by
  rw [heap_set_ne _ _ hk,heap_set_ne _ _ hk,heap_set_ne _ _ hk,heap_set_ne _ _ hk])
 have z2:=heap_set (heap_set (heap_set (heap_set z1 0 u0) 1 u1) 2 u2) 3 u3
 exact ⟨h2,fun wa hb=>((((hb.setCell hx _).setCell hy _).setCell hy _).setCell hy _).setCell hy _,(box4 z2).1,(box4 z2).2.1,(box4 z2).2.2.1,(box4 z2).2.2.2⟩
theorem run_set4 {N:Nat} {bx:List (Nat × Array Value)} {t:List VN} {sb k:Nat} {s:St} {va:Value} {na:List Value} {vf:Value} {nf:List Value} {ts:List (Value × List Bool)} {w:World} {y:Nat} {a0 a1 a2 a3:Value} (h:RunG N bx t sb k s va na vf nf ts w)
  (hz:w.heap[y]? = some (.cells #[a0,a1,a2,a3] 35 (0,0))) (hy:N≤y) (hny:∀ p∈bx,p.1≠y) (u0 u1 u2 u3:Value) {W:World}
  (hW:W = (((w.setCell ⟨y,0,none⟩ u0).setCell ⟨y,1,none⟩ u1).setCell ⟨y,2,none⟩ u2).setCell ⟨y,3,none⟩ u3) :
  RunG N bx t sb k s va na vf nf ts W∧(∀ wa:World,Below N wa w→Below N wa W)∧W.heap[y]? = some (.cells #[u0,u1,u2,u3] 35 (0,0)):=by
 subst hW
 have h2:=h.turn (w':=(((w.setCell ⟨y,0,none⟩ u0).setCell ⟨y,1,none⟩ u1).setCell ⟨y,2,none⟩ u2).setCell ⟨y,3,none⟩ u3) hz hy hny (by decide) (by decide) (by decide) (by decide) (by decide) (by decide) (by decide) (by simp) (fun k hk _=>by
  rw [heap_set_ne _ _ hk,heap_set_ne _ _ hk,heap_set_ne _ _ hk,heap_set_ne _ _ hk])
 exact ⟨h2,fun wa hb=>(((hb.setCell hy _).setCell hy _).setCell hy _).setCell hy _,heap_set (heap_set (heap_set (heap_set hz 0 u0) 1 u1) 2 u2) 3 u3⟩
theorem RunG.setb {N:Nat} {bx bx':List (Nat × Array Value)} {t:List VN} {sb k:Nat} {s:St} {va:Value} {na:List Value} {vf:Value} {nf:List Value} {ts:List (Value × List Bool)} {w:World} (h:RunG N bx t sb k s va na vf nf ts w) (h':∀ p∈bx',w.heap[p.1]? = some (.cells p.2 35 (0,0))):RunG N bx' t sb k s va na vf nf ts w:={ h with hb:=h' }
theorem tbs_info:(Tryz.prog.info? 43).map (fun i=>(i.zero,i.size,i.bytes)) = some (some (.slice none 0 0),1,24):=by kernel_rfl
theorem RetTab.outs {l:List Bool} {w w':World} {e:Ending} (h:RetTab l w e w'):∃ g c ln,e = .returned (.slice (some ⟨g,0,none⟩) ln c)∧TabAt w' (.slice (some ⟨g,0,none⟩) ln c) l∧Below w.heap.size w w':=by
 obtain ⟨g,c,cs,rfl,h1,h2,h3,h4⟩:=h
 exact ⟨g,c,_,rfl,⟨g,c,cs,rfl,h2,h3⟩,h4⟩
theorem two_allocs (w:World) (c1 c2:Array Value) (t1 t2:TypeId) {x:Nat} (hx:w.heap.size = x) {w3:World} (h:w3 = (w.alloc (.cells c1 t1)).alloc (.cells c2 t2)) :
  Below w.heap.size w w3∧w3.heap[x]? = some (.cells c1 t1 (0,0))∧w3.heap[x+1]? = some (.cells c2 t2 (0,0))∧w3.heap.size = x+2:=by
 subst hx h
 have s1:(w.alloc (.cells c1 t1)).heap.size = w.heap.size+1:=by simp
 have e1:=heap_alloc_new w (.cells c1 t1)
 have e2:=heap_alloc_new (w.alloc (.cells c1 t1)) (.cells c2 t2)
 rw [s1] at e2
 have b1:=(Below.refl w.heap.size w).alloc (Nat.le_refl _) (.cells c1 t1)
 have b2:=b1.alloc (by omega) (.cells c2 t2)
 refine ⟨b2,?_,e2,by simp⟩
 rw [Below.heap_alloc _ _ _ (by omega)];exact e1
theorem three_allocs (w:World) (c1 c2 c3:Array Value) (t1 t2 t3:TypeId) {x:Nat} (hx:w.heap.size = x) {w3:World} (h:w3 = ((w.alloc (.cells c1 t1)).alloc (.cells c2 t2)).alloc (.cells c3 t3)) :
  Below w.heap.size w w3∧w3.heap[x]? = some (.cells c1 t1 (0,0))∧w3.heap[x+1]? = some (.cells c2 t2 (0,0))∧w3.heap[x+1+1]? = some (.cells c3 t3 (0,0))∧w3.heap.size = x+3:=by
 subst hx h
 have s1:(w.alloc (.cells c1 t1)).heap.size = w.heap.size+1:=by simp
 have s2:((w.alloc (.cells c1 t1)).alloc (.cells c2 t2)).heap.size = w.heap.size+2:=by simp
 have e1:=heap_alloc_new w (.cells c1 t1)
 have e2:=heap_alloc_new (w.alloc (.cells c1 t1)) (.cells c2 t2)
 have e3:=heap_alloc_new ((w.alloc (.cells c1 t1)).alloc (.cells c2 t2)) (.cells c3 t3)
 rw [s1] at e2
 rw [s2] at e3
 have b1:=(Below.refl w.heap.size w).alloc (Nat.le_refl _) (.cells c1 t1)
 have b2:=b1.alloc (by omega) (.cells c2 t2)
 have b3:=b2.alloc (by omega) (.cells c3 t3)
 refine ⟨b3,?_,?_,e3,by simp⟩
 ·rw [Below.heap_alloc _ _ _ (by omega),Below.heap_alloc _ _ _ (by omega)];exact e1
 ·rw [Below.heap_alloc _ _ _ (by omega)];exact e2
end Go.Proofs.YteikmmfjhabijaaGreatDoor
