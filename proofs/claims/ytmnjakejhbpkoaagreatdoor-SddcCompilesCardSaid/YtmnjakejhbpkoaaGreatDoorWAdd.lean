import Derived.Test.YtmnjakejhbpkoaaGreatDoorWRep
import Derived.Test.YtmnjakejhbpkoaaGreatDoorWBase
import Derived.Deep.AppendLies
import Derived.Deep.RegionLaw
set_option linter.unusedSimpArgs false
set_option linter.unusedVariables false
namespace Go.Proofs.YtmnjakejhbpkoaaGreatDoor
open Go Go.RowKit Go.Shelf
def RetStp (X:List Nat) (v:Value) (B:Blks) (s':St) (w:World) (e:Ending) (w':World):Prop:=e = .returned v∧∃ B',Rep B' s' w'∧Stp X B w B' w'
theorem info_node:(Tryz.prog.info? 158).map (fun i=>(i.zero,i.size,i.bytes)) = some (some (.agg #[.int .i64 0,.int .i64 0,.slice none 0 0,.int .u64 0,.int .u64 0]),5,56):=by kernel_rfl
theorem zeroInt (w:World):(zeroValue 3).run Tryz.prog w = .ok (.int .i64 0) w:=by kernel_rfl
theorem keyLawS:KeyLaw Tryz.prog 9 encKey:=strLaw Tryz.underlying9 keyOf keyOf_inj
theorem NodesAt.form {w:World} {nv:Value} {nb:Nat} {ns:List SNode} {vs:List Value} (h:NodesAt w nv nb ns vs):∃ cap,nv = .slice (some ⟨nb,0,none⟩) ns.length cap:=by
 obtain ⟨_,h1 | ⟨g,cap,cur,hv,hg,hh,r⟩⟩:=h.own
 ·have:=h.blk;rw [h1.1] at this;simp [Value.ownBlock] at this
 ·have:=h.blk
  rw [hv] at this
  simp [Value.ownBlock] at this
  subst this
  exact ⟨cap,hv⟩
set_option maxRecDepth 100000 in
set_option maxHeartbeats 2000000 in
theorem add_hit {B:Blks} {s:St} {w:World} {n:SNode} {v:Value} {i:Nat} (h:Rep B s w) (hv:ElAt w v n.el) (hn:smallN n) (hu:asc s.uniq (n.pl,n.lit,n.el) = some i) :
  Calls Tryz.prog 202 #[.pointer (some ⟨B.sb,0,none⟩),.agg #[.int .i64 n.pl,.int .i64 n.lit,v,.int .u64 (lo n.le),.int .u64 (hi n.le)]] w (RetStp v.ownBlock.toList (.int .i64 i) B s w):=by
 obtain ⟨a1,a2,a3,a4,a5,a6⟩:=hn
 have hbx:Below w.heap.size w (w.alloc (.cells #[.int .i64 n.pl,.int .i64 n.lit,v,.int .u64 (lo n.le),.int .u64 (hi n.le)] 158)):=(Below.refl _ w).alloc (Nat.le_refl _) _
 have hk:=key_any n.pl n.lit n.el v (lo n.le) (hi n.le) _ ((h.below hbx).pow) ((hv.same (fun b c fz hb=>hbx.block b (Array.getElem?_eq_some_iff.1 hb).1)).slp) ⟨a5,a6⟩ a1 a2 a3 a4
 go_enter Tryz.func202,Tryz.ntmps202
 go_wp2_with fail
 refine hk.mono ?_
 rintro e w2 ⟨rfl,hb2⟩
 have hB2:Below w.heap.size w w2:=hbx.trans (hb2.mono (by simp))
 have h2:=h.below hB2
 obtain ⟨nv,vs,hst,hns,heb⟩:=h2.store
 obtain ⟨cap,rfl⟩:=hns.form
 have c2:w2.cell? ⟨B.sb,3,none⟩ = some (.map (some B.ub)):=by simp [World.cell?,hst]
 have hlk:=h2.uniq.look keyLawS (T:=160) Tryz.underlying160 _ zeroInt (n.pl,n.lit,n.el)
 rw [hu] at hlk
 have hlk2:(Instr.lookup 160 (.map (some B.ub)) (.string ⟨(keyB n.pl n.lit n.el).toArray⟩) true).run Tryz.prog w2 = .ok (.tuple #[.int .i64 i,.bool true]) w2:=hlk
 clear hlk hk hst hu
 go_wp2_with fail
 go_ret
 exact ⟨rfl,B,h2,Stp.of_below hB2⟩
set_option maxRecDepth 100000 in
set_option maxHeartbeats 2000000 in
theorem add_new {B:Blks} {s:St} {w:World} {n:SNode} {v:Value} (h:Rep B s w) (hv:ElAt w v n.el) (hn:smallN n) (hu:asc s.uniq (n.pl,n.lit,n.el) = none) (hl:s.nodes.length < 1048576) :
  Calls Tryz.prog 202 #[.pointer (some ⟨B.sb,0,none⟩),.agg #[.int .i64 n.pl,.int .i64 n.lit,v,.int .u64 (lo n.le),.int .u64 (hi n.le)]] w (RetStp v.ownBlock.toList (.int .i64 s.nodes.length) B { s with nodes:=s.nodes++[n],uniq:=((n.pl,n.lit,n.el),s.nodes.length) :: s.uniq } w):=by
 obtain ⟨i0,hi0,hz0,hz1,hz2⟩:=info_parts info_node
 obtain ⟨a1,a2,a3,a4,a5,a6⟩:=hn
 have hbx:Below w.heap.size w (w.alloc (.cells #[.int .i64 n.pl,.int .i64 n.lit,v,.int .u64 (lo n.le),.int .u64 (hi n.le)] 158)):=(Below.refl _ w).alloc (Nat.le_refl _) _
 have hk:=key_any n.pl n.lit n.el v (lo n.le) (hi n.le) _ ((h.below hbx).pow) ((hv.same (fun b c fz hb=>hbx.block b (Array.getElem?_eq_some_iff.1 hb).1)).slp) ⟨a5,a6⟩ a1 a2 a3 a4
 have hbox:=heap_alloc_new w (.cells #[.int .i64 n.pl,.int .i64 n.lit,v,.int .u64 (lo n.le),.int .u64 (hi n.le)] 158)
 go_enter Tryz.func202,Tryz.ntmps202
 go_wp2_with fail
 refine hk.mono ?_
 rintro e w2 ⟨rfl,hb2⟩
 have hB2:Below w.heap.size w w2:=hbx.trans (hb2.mono (by simp))
 have hbox2:=(hb2.block w.heap.size (by simp)).trans hbox
 have h2:=h.below hB2
 obtain ⟨nv,vs,hst,hns,heb⟩:=h2.store
 obtain ⟨cap,rfl⟩:=hns.form
 have c2:w2.cell? ⟨B.sb,3,none⟩ = some (.map (some B.ub)):=by simp [World.cell?,hst]
 have c3:w2.cell? ⟨B.sb,2,none⟩ = some (.slice (some ⟨B.nb,0,none⟩) s.nodes.length cap):=by simp [World.cell?,hst]
 have hlk:=h2.uniq.look keyLawS (T:=160) Tryz.underlying160 _ zeroInt (n.pl,n.lit,n.el)
 rw [hu] at hlk
 have hlk2:(Instr.lookup 160 (.map (some B.ub)) (.string ⟨(keyB n.pl n.lit n.el).toArray⟩) true).run Tryz.prog w2 = .ok (.tuple #[.int .i64 0,.bool false]) w2:=hlk
 have b0:w2.cell? ⟨w.heap.size,0,none⟩ = some (.int .i64 n.pl):=by simp [World.cell?,hbox2]
 have b1:w2.cell? ⟨w.heap.size,1,none⟩ = some (.int .i64 n.lit):=by simp [World.cell?,hbox2]
 have b2:w2.cell? ⟨w.heap.size,2,none⟩ = some v:=by simp [World.cell?,hbox2]
 have b3:w2.cell? ⟨w.heap.size,3,none⟩ = some (.int .u64 (lo n.le)):=by simp [World.cell?,hbox2]
 have b4:w2.cell? ⟨w.heap.size,4,none⟩ = some (.int .u64 (hi n.le)):=by simp [World.cell?,hbox2]
 have fz2:w2.frozen? ⟨B.sb,2,none⟩ = false:=by simp [World.frozen?,hst]
 have hne:((s.nodes.length:Int) == 1048576) = false:=by simp;omega
 replace hst:=Lib.hid hst
 clear hlk hk hu hbox hbox2
 go_wp2_with fail
 have hone:∀ u∈[.int .i64 n.pl,.int .i64 n.lit,v,.int .u64 (lo n.le),.int .u64 (hi n.le)],Value.oneCell' u = true:=by
  obtain ⟨ba,c,rfl,_⟩:=hv
  intro u hu
  simp at hu
  rcases hu with rfl | rfl | rfl | rfl | rfl <;> rfl
 have hnbsb:B.nb≠B.sb:=by
  intro e
  obtain ⟨c,hc⟩:=hns.nbk
  rw [e,hst.out] at hc
  simp [tStore,tNode] at hc
 have hnbw:B.nb≠w.heap.size:=by
  have:=h.mut_old B.nb (by simp [Blks.mut])
  omega
 replace hone:=Lib.hid hone
 have ne1:=World.new_ne w2 _ c3
 have ne2:=World.new_ne w2 _ b0
 have hsb:B.sb < w2.heap.size:=World.block_lt_of_cell? w2 _ c3
 have hwb:w.heap.size < w2.heap.size:=World.block_lt_of_cell? w2 _ b0
 have fzA:∀ o,(w2.alloc o).frozen? ⟨B.sb,2,none⟩ = false:=fun o=>(World.frozen?_of_block (a:=⟨B.sb,2,none⟩) (Below.heap_alloc _ _ _ hsb)).trans fz2
 go_region_law ((refine step_append_lies ((w2.alloc (.cells #[.int .i64 n.pl,.int .i64 n.lit,v,.int .u64 (lo n.le),.int .u64 (hi n.le)] 158)).drew) (by rfl) _ _ 159 (by rfl) 0 158 i0 _ 5 56 Tryz.underlying159 hi0 hz0 hz1 hz2 rfl (by omega) _ s.nodes.length (flatN s.nodes vs) (by rfl) ((hns.own.alloc _).drew) ⟨w2.heap.size,0,none⟩ 1 1 [.int .i64 n.pl,.int .i64 n.lit,v,.int .u64 (lo n.le),.int .u64 (hi n.le)] (by rfl) (by rfl) (World.news_of_block (cs:=#[.int .i64 n.pl,.int .i64 n.lit,v,.int .u64 (lo n.le),.int .u64 (hi n.le)]) (t:=158) (fr:=(0,0)) (heap_alloc_new w2 _)) hone.out (by omega) (by unfold maxLen;omega) (by omega) (by simp) (w2.heap.size+1) (by simp) ?_);intro gg cap' w3 hown3 hgrow3 hat3 hlt3;have g1:=(hgrow3.cell_far ⟨B.sb,2,none⟩ (by simp;omega) (by simpa [Value.ownBlock] using Ne.symm hnbsb)).trans ((World.cell?_of_block (a:=⟨B.sb,2,none⟩) (Below.heap_alloc _ _ _ hsb)).trans c3);have g2:=(hgrow3.frozen_far ⟨B.sb,2,none⟩ (by simp;omega) (by simpa [Value.ownBlock] using Ne.symm hnbsb)).trans (fzA _))
 all_goals
  go_wp2_with fail
  have hP:=h2.push hst.out hns heb ((hv.same (fun b c fz hb=>hB2.block b (Array.getElem?_eq_some_iff.1 hb).1))) hgrow3 hown3 hat3 hl ⟨a1,a2,a3,a4,a5,a6⟩
  clear hgrow3 hown3 hat3 hlt3 g1 g2 b0 b1 b2 b3 b4 c2 c3 fzA fz2 hlk2
  generalize w3.setCell ⟨B.sb,2,none⟩ (.slice (some ⟨gg,0,none⟩) (s.nodes.length+1) cap') = w4 at *
  obtain ⟨hR,hS⟩:=hP
  obtain ⟨nv4,vs4,hst4,hns4,_⟩:=hR.store
  obtain ⟨cap4,rfl⟩:=hns4.form
  have hd:w4.drew.heap = w4.heap:=rfl
  have hR5:Rep { B with nb:=gg,eb:=v.ownBlock.toList++B.eb } { s with nodes:=s.nodes++[n] } w4.drew:=hR.same fun k o hk=>rfl
  have f3:w4.drew.cell? ⟨B.sb,3,none⟩ = some (.map (some B.ub)):=by simp [World.cell?,hd,hst4]
  have f2:w4.drew.cell? ⟨B.sb,2,none⟩ = some (.slice (some ⟨gg,0,none⟩) (s.nodes.length+1) cap4):=by simp [World.cell?,hd,hst4]
  have hpt:(Instr.mapUpdate 160 (.map (some B.ub)) (.string ⟨(keyB n.pl n.lit n.el).toArray⟩) (.int .i64 s.nodes.length)).run Tryz.prog w4.drew = .ok () (putMap 9 Tryz.prog w4.drew B.ub (encKey (n.pl,n.lit,n.el)) (encNat s.nodes.length)) :=
   (hR5.uniq.put keyLawS (T:=160) Tryz.underlying160 (n.pl,n.lit,n.el) s.nodes.length).1
  have hR6:=hR5.putU (n.pl,n.lit,n.el) s.nodes.length
  have hS6:Stp (v.ownBlock.toList++[]++[]) B w2 { B with nb:=gg,eb:=v.ownBlock.toList++B.eb } (putMap 9 Tryz.prog w4.drew B.ub (encKey (n.pl,n.lit,n.el)) (encNat s.nodes.length)):=(hS.trans (Stp.of_below (X:=[]) ((Below.refl _ w4).drew))).trans (putMap_stp _ _ (by simp [Blks.mut]) _ _)
  have f26:(putMap 9 Tryz.prog w4.drew B.ub (encKey (n.pl,n.lit,n.el)) (encNat s.nodes.length)).cell? ⟨B.sb,2,none⟩ = some (.slice (some ⟨gg,0,none⟩) (s.nodes.length+1) cap4) :=
   (World.cell?_of_block (a:=⟨B.sb,2,none⟩) (putMap_other _ _ _ _ _ _ (Ne.symm hR5.ub_ne.1))).trans f2
  generalize putMap 9 Tryz.prog w4.drew B.ub (encKey (n.pl,n.lit,n.el)) (encNat s.nodes.length) = w6 at *
  have hR6:=Lib.hid hR6
  have hS6:=Lib.hid hS6
  clear hst4 hd
  have hwr:IntKind.i64.wrap (s.nodes.length:Int) = (s.nodes.length:Int):=IntWalk.i64_in _ (by omega)
  go_region_law (fail)
 all_goals
  clear hwr hpt f3 f2
  go_wp2_with fail
  go_ret
  refine ⟨?_,_,hR6.out,((Stp.of_below (X:=[]) hB2).trans hS6.out).weak (fun x hx=>.inl (by simpa using hx))⟩
  first | rfl | (simp;done) | go_show
theorem add_any {B:Blks} {s s':St} {w:World} {n:SNode} {v:Value} {r:Nat} (h:Rep B s w) (hv:ElAt w v n.el) (he:addF s n = some (r,s')) :
  Calls Tryz.prog 202 #[.pointer (some ⟨B.sb,0,none⟩),.agg #[.int .i64 n.pl,.int .i64 n.lit,v,.int .u64 (lo n.le),.int .u64 (hi n.le)]] w (RetStp v.ownBlock.toList (.int .i64 r) B s' w):=by
 unfold addF at he
 split at he
 ·rename_i hn
  split at he
  ·rename_i i hu
   simp only [Option.some.injEq,Prod.mk.injEq] at he
   obtain ⟨rfl,rfl⟩:=he
   exact add_hit h hv hn hu
  ·rename_i hu
   split at he
   ·rename_i hl
    simp only [Option.some.injEq,Prod.mk.injEq] at he
    obtain ⟨rfl,rfl⟩:=he
    exact add_new h hv hn hu hl
   ·cases he
 ·cases he
end Go.Proofs.YtmnjakejhbpkoaaGreatDoor
