import Derived.Test.YtmnjakejhbpkoaaGreatDoorWNt3
set_option linter.unusedSimpArgs false
set_option linter.unusedVariables false
namespace Go.Proofs.YtmnjakejhbpkoaaGreatDoor
open Go Go.RowKit Go.Shelf
theorem row1 (w:World):RowF (w.alloc (.cells #[.int .u32 0] 146)) w.heap.size 146 1 (wrd 0):=by
 refine (rowLit w #[.int .u32 0] 146 _ rfl).congr fun j hj=>?_
 match j,hj with
 | 0,_=>rfl
set_option maxRecDepth 100000 in
set_option maxHeartbeats 4000000 in
theorem nmul_any {w:World} {a b:Nat} (h:a * b < 256) (h1:a < 256) (h2:b < 256):Calls Tryz.prog 68 #[natV a,natV b] w fun e w'=>e = .returned (natV (a * b))∧Below w.heap.size w w':=by
 have q1:=fun W=>words_any (w:=W) (n:=a) (by omega)
 have q2:=fun W=>words_any (w:=W) (n:=b) (by omega)
 unfold natV at *
 generalize hA:(⟨(natL a).toArray⟩:ByteArray) = A at *
 generalize hB:(⟨(natL b).toArray⟩:ByteArray) = B at *
 replace hA:=Lib.hid hA
 replace hB:=Lib.hid hB
 replace q1:=Lib.hid q1
 replace q2:=Lib.hid q2
 have hb1:=(((Below.refl w.heap.size w).alloc (Nat.le_refl _) (.cells #[.string A] 52)).alloc (by simp) (.cells #[.string B] 52)).alloc (by simp <;> omega) (.cells #[.string ⟨#[]⟩] 52)
 obtain ⟨hx,hy,hr⟩:=alloc3h w (.cells #[.string A] 52) (.cells #[.string B] 52) (.cells #[.string ⟨#[]⟩] 52)
 go_enter Tryz.func68,Tryz.ntmps68
 go_wp2_with fail
 generalize (((w.alloc (.cells #[.string A] 52)).alloc (.cells #[.string B] 52)).alloc (.cells #[.string ⟨#[]⟩] 52)) = w1 at *
 have hsz:w.heap.size+1+1 < w1.heap.size:=(Array.getElem?_eq_some_iff.1 hr).1
 have ca:w1.cell? ⟨w.heap.size,0,none⟩ = some (.string A):=by simp [World.cell?,hx]
 have cb:w1.cell? ⟨w.heap.size+1,0,none⟩ = some (.string B):=by simp [World.cell?,hy]
 (refine wp_region_held_drew (S:=(fun W=>W.cell? ⟨w.heap.size,0,none⟩ = some (.string A)∧W.cell? ⟨w.heap.size+1,0,none⟩ = some (.string B))) (by kernel_rfl) ?_ (fun hHeld=>?_))
 ·exact ⟨ca,cb⟩
 (refine takeL (i:=0) (v:=?_) rfl (by kernel_rfl) (by kernel_rfl) (by kernel_rfl) (fun _ _ _ h=>h) (Or.inl ⟨by rfl,?_⟩) (by assumption) ?_)
 rotate_left
 ·(intro w hSw;(try dsimp only at hSw);obtain ⟨y0,y1⟩:=hSw;go_simp;first | done | with_reducible rfl)
 (try simp only [Act.put,List.setIfInBounds_toArray,List.set_cons_zero,List.set_cons_succ])
 (refine takeL (i:=2) (v:=?_) rfl (by kernel_rfl) (by kernel_rfl) (by kernel_rfl) (fun _ _ _ h=>h) (Or.inl ⟨by rfl,?_⟩) (by assumption) ?_)
 rotate_left
 ·(intro w hSw;(try dsimp only at hSw);obtain ⟨y0,y1⟩:=hSw;go_simp;first | done | with_reducible rfl)
 (try simp only [Act.put,List.setIfInBounds_toArray,List.set_cons_zero,List.set_cons_succ])
 (refine wpAnyH_ready (rs:=[1]) (by kernel_rfl) (by simp) ?_)
 (refine consL rfl (fun K hK=>?_))
 ((rw [if_pos (by rfl)]);go_simp;(go_at_call 110);refine (q1.out _).mono ?_;rintro e w3 ⟨g1,rfl,hg1,hR1,hx3⟩;refine hK.out _ _ ⟨(hx3.cell (World.block_lt_of_cell? _ _ hHeld.1)).trans hHeld.1,(hx3.cell (World.block_lt_of_cell? _ _ hHeld.2)).trans hHeld.2⟩ (fun hHeld=>?_))
 (clear hK K)
 (try simp only [Act.put,List.setIfInBounds_toArray,List.set_cons_zero,List.set_cons_succ])
 (refine wpAnyH_ready (rs:=[3]) (by kernel_rfl) (by simp) ?_)
 (refine consL rfl (fun K hK=>?_))
 ((rw [if_pos (by rfl)]);go_simp;(go_at_call 110);refine (q2.out _).mono ?_;rintro e w4 ⟨g2,rfl,hg2,hR2,hx4⟩;refine hK.out _ _ ⟨(hx4.cell (World.block_lt_of_cell? _ _ hHeld.1)).trans hHeld.1,(hx4.cell (World.block_lt_of_cell? _ _ hHeld.2)).trans hHeld.2⟩ (fun hHeld=>?_))
 (clear hK K)
 (try simp only [Act.put,List.setIfInBounds_toArray,List.set_cons_zero,List.set_cons_succ])
 (refine takeL (i:=4) (v:=?_) rfl (by kernel_rfl) (by kernel_rfl) (by kernel_rfl) (fun _ _ _ h=>h) (Or.inl ⟨by rfl,?_⟩) (by assumption) ?_)
 rotate_left
 ·(intro w hSw;(try dsimp only at hSw);obtain ⟨y0,y1⟩:=hSw;go_simp;first | done | with_reducible rfl)
 (try simp only [Act.put,List.setIfInBounds_toArray,List.set_cons_zero,List.set_cons_succ])
 (refine takeL (i:=5) (v:=?_) rfl (by kernel_rfl) (by kernel_rfl) (by kernel_rfl) (fun _ _ _ h=>h) (Or.inl ⟨by rfl,?_⟩) (by assumption) ?_)
 rotate_left
 ·(intro w hSw;(try dsimp only at hSw);obtain ⟨y0,y1⟩:=hSw;go_simp;first | done | with_reducible rfl)
 (try simp only [Act.put,List.setIfInBounds_toArray,List.set_cons_zero,List.set_cons_succ])
 (refine wpAnyH_done (by kernel_rfl) ?_ _)
 have hR1':=hR1.below hx4
 have hx3':Below w1.heap.size w1 w3:=((Below.refl w1.heap.size w1).drew).trans hx3
 have hx5:=hx3'.trans (hx4.mono hx3.size)
 have hr4:=(hx5.block _ hsz).trans hr
 have hg1':w1.heap.size≤g1:=hg1
 have hg2':w1.heap.size≤g2:=Nat.le_trans hx3.size hg2
 have hg12:g1≠g2:=by have:=hR1.lt;omega
 have hbe:Hid (Below w.heap.size w w4):=Lib.hid (hb1.trans (hx5.mono hb1.size))
 have hwz:=hb1.size
 clear hHeld hx3 hx4 hx3' hx5 hR1 ca cb hx hy hr hg1 hg2 hb1
 generalize hN1:nw a = n1 at *
 generalize hN2:nw b = n2 at *
 have hn1:n1 = 0∧a = 0∨n1 = 1∧0 < a:=by rw [←hN1];unfold nw;split <;> omega
 have hn2:n2 = 0∧b = 0∨n2 = 1∧0 < b:=by rw [←hN2];unfold nw;split <;> omega
 clear hN1 hN2
 have mk0:=fun W=>make_row (by_:=4) Tryz.underlying147 (show (Tryz.prog.info? 146).map (fun i=>(i.zero,i.size,i.bytes)) = some (some (.int .u32 0),1,4) by kernel_rfl) rfl 0 (by omega) (by omega) W
 rw [show (((0:Nat):Nat):Int) = 0 from rfl] at mk0
 have mk1:=fun W=>make_row (by_:=4) Tryz.underlying147 (show (Tryz.prog.info? 146).map (fun i=>(i.zero,i.size,i.bytes)) = some (some (.int .u32 0),1,4) by kernel_rfl) rfl 1 (by omega) (by omega) W
 rw [show (((1:Nat):Nat):Int) = 1 from rfl,show madeCells #[Value.int .u32 0] 1 = #[.int .u32 0] by simp [madeCells];exact ⟨0,rfl,rfl⟩] at mk1
 have mk2:=fun W=>make_row (by_:=4) Tryz.underlying147 (show (Tryz.prog.info? 146).map (fun i=>(i.zero,i.size,i.bytes)) = some (some (.int .u32 0),1,4) by kernel_rfl) rfl 2 (by omega) (by omega) W
 rw [show (((2:Nat):Nat):Int) = 2 from rfl,show madeCells #[Value.int .u32 0] 2 = #[.int .u32 0,.int .u32 0] by kernel_rfl] at mk2
 clear q1 q2
 have hr4s:=(Array.getElem?_eq_some_iff.1 hr4).1
 have x1:=hR1'.below ((Below.refl w4.heap.size w4).alloc (Nat.le_refl _) (.cells #[.int .u32 0] 146))
 have x2:=hR1'.below ((Below.refl w4.heap.size w4).alloc (Nat.le_refl _) (.cells #[.int .u32 0,.int .u32 0] 146))
 have y2:=hR2.below ((Below.refl w4.heap.size w4).alloc (Nat.le_refl _) (.cells #[.int .u32 0,.int .u32 0] 146))
 rcases hn1 with ⟨rfl,rfl⟩ | ⟨rfl,ha⟩ <;> rcases hn2 with ⟨rfl,rfl⟩ | ⟨rfl,hb⟩
 ·clear mk1 mk2
  go_wp2_with fail
  refine wp_loop_rounds 1 ?_
  rw [rounds_succ]
  go_wp2_with fail
  have q:=from_any (cap:=0) (n:=0 * 0) ((rowNew w4 0 (.int .u32 0) 146 w4.heap.size rfl).congr (g:=wrd (0 * 0)) fun j hj=>absurd hj (Nat.not_lt_zero _)) (Nat.zero_le 2) (by omega) (fun e=>rfl)
  have hr8:=(Below.heap_alloc w4 (.cells (madeCells #[.int .u32 0] 0) 146) _ hr4s).trans hr4
  have hbe8:=Lib.hid (hbe.out.alloc hbe.out.size (.cells (madeCells #[.int .u32 0] 0) 146))
  generalize w4.alloc (.cells (madeCells #[.int .u32 0] 0) 146) = w8 at *
  refine q.mono ?_
  rintro e w9 ⟨rfl,hb9⟩
  have hr9:=(hb9.block (w.heap.size+1+1) (Array.getElem?_eq_some_iff.1 hr8).1).trans hr8
  have fz9:w9.frozen? ⟨w.heap.size+1+1,0,none⟩ = false:=by simp [World.frozen?,hr9]
  have hc9:w9.cell? ⟨w.heap.size+1+1,0,none⟩ = some (.string ⟨#[]⟩):=by simp [World.cell?,hr9]
  have hbe9:=Lib.hid (hbe8.out.trans (hb9.mono hbe8.out.size))
  unfold natV
  generalize hT:(⟨(natL (0 * 0)).toArray⟩:ByteArray) = T at *
  have hfin:((w9.setCell ⟨w.heap.size+1+1,0,none⟩ (.string T)).cell? ⟨w.heap.size+1+1,0,none⟩ = some (.string T)):=by simp [World.cell?,heap_set hr9 0 _]
  replace hfin:=Lib.hid hfin
  replace hr9:=Lib.hid hr9
  clear q hb9 hr8 hbe8
  go_wp2_with fail
  exact bodyPost_ret (v:=.agg #[.string T]) (by simp [results,Tryz.results68,go_sem,hfin.out]) rfl ⟨by rw [←hT] <;> rfl,hbe9.out.setCell (by exact Nat.le_add_right_of_le (Nat.le_succ _)) _⟩
 ·clear mk0 mk2
  go_wp2_with fail
  refine wp_loop_rounds 1 ?_
  rw [rounds_succ]
  go_wp2_with fail
  have q:=from_any (cap:=1) (n:=0 * b) ((row1 w4).congr (g:=wrd (0 * b)) fun j hj=>by rw [Nat.zero_mul]) (Nat.le_succ 1) h (fun e=>by cases e)
  have hr8:=(Below.heap_alloc w4 (.cells #[.int .u32 0] 146) _ hr4s).trans hr4
  have hbe8:=Lib.hid (hbe.out.alloc hbe.out.size (.cells #[.int .u32 0] 146))
  generalize w4.alloc (.cells #[.int .u32 0] 146) = w8 at *
  refine q.mono ?_
  rintro e w9 ⟨rfl,hb9⟩
  have hr9:=(hb9.block (w.heap.size+1+1) (Array.getElem?_eq_some_iff.1 hr8).1).trans hr8
  have fz9:w9.frozen? ⟨w.heap.size+1+1,0,none⟩ = false:=by simp [World.frozen?,hr9]
  have hc9:w9.cell? ⟨w.heap.size+1+1,0,none⟩ = some (.string ⟨#[]⟩):=by simp [World.cell?,hr9]
  have hbe9:=Lib.hid (hbe8.out.trans (hb9.mono hbe8.out.size))
  unfold natV
  generalize hT:(⟨(natL (0 * b)).toArray⟩:ByteArray) = T at *
  have hfin:((w9.setCell ⟨w.heap.size+1+1,0,none⟩ (.string T)).cell? ⟨w.heap.size+1+1,0,none⟩ = some (.string T)):=by simp [World.cell?,heap_set hr9 0 _]
  replace hfin:=Lib.hid hfin
  replace hr9:=Lib.hid hr9
  clear q hb9 hr8 hbe8
  go_wp2_with fail
  exact bodyPost_ret (v:=.agg #[.string T]) (by simp [results,Tryz.results68,go_sem,hfin.out]) rfl ⟨by rw [←hT] <;> rfl,hbe9.out.setCell (by exact Nat.le_add_right_of_le (Nat.le_succ _)) _⟩
 ·clear mk0 mk2
  have c0:=((x1.cell (j:=0) (by omega)).1)
  rw [show wrd a 0 = .int .u32 (a:Nat) from rfl] at c0
  go_wp2_with fail
  refine wp_loop_rounds 2 ?_
  rw [rounds_succ]
  go_wp2_with fail
  refine wp_loop_rounds 1 ?_
  rw [rounds_succ]
  go_wp2_with fail
  rw [rounds_succ]
  go_wp2_with fail
  have q:=from_any (cap:=1) (n:=a * 0) (row1 w4) (Nat.le_succ 1) (by omega) (fun e=>by cases e)
  have hr8:=(Below.heap_alloc w4 (.cells #[.int .u32 0] 146) _ hr4s).trans hr4
  have hbe8:=Lib.hid (hbe.out.alloc hbe.out.size (.cells #[.int .u32 0] 146))
  generalize w4.alloc (.cells #[.int .u32 0] 146) = w8 at *
  refine q.mono ?_
  rintro e w9 ⟨rfl,hb9⟩
  have hr9:=(hb9.block (w.heap.size+1+1) (Array.getElem?_eq_some_iff.1 hr8).1).trans hr8
  have fz9:w9.frozen? ⟨w.heap.size+1+1,0,none⟩ = false:=by simp [World.frozen?,hr9]
  have hc9:w9.cell? ⟨w.heap.size+1+1,0,none⟩ = some (.string ⟨#[]⟩):=by simp [World.cell?,hr9]
  have hbe9:=Lib.hid (hbe8.out.trans (hb9.mono hbe8.out.size))
  unfold natV
  generalize hT:(⟨(natL (a * 0)).toArray⟩:ByteArray) = T at *
  have hfin:((w9.setCell ⟨w.heap.size+1+1,0,none⟩ (.string T)).cell? ⟨w.heap.size+1+1,0,none⟩ = some (.string T)):=by simp [World.cell?,heap_set hr9 0 _]
  replace hfin:=Lib.hid hfin
  replace hr9:=Lib.hid hr9
  clear q hb9 hr8 hbe8
  go_wp2_with fail
  exact bodyPost_ret (v:=.agg #[.string T]) (by simp [results,Tryz.results68,go_sem,hfin.out]) rfl ⟨by rw [←hT] <;> rfl,hbe9.out.setCell (by exact Nat.le_add_right_of_le (Nat.le_succ _)) _⟩
 ·clear mk0 mk1
  have v1:=(x2.cell (j:=0) (by omega)).1
  rw [show wrd a 0 = .int .u32 (a:Nat) from rfl] at v1
  have v2:=(y2.cell (j:=0) (by omega)).1
  rw [show wrd b 0 = .int .u32 (b:Nat) from rfl] at v2
  have ho:=row2 w4
  have hr5:=(Below.heap_alloc w4 (.cells #[.int .u32 0,.int .u32 0] 146) _ hr4s).trans hr4
  have hbe5:=Lib.hid (hbe.out.alloc hbe.out.size (.cells #[.int .u32 0,.int .u32 0] 146))
  have hgoN:w.heap.size≤w4.heap.size:=hbe.out.size
  have hgone:w.heap.size+1+1≠w4.heap.size:=by omega
  clear x1 x2 y2 hR1' hR2 hr4 hbe hg12
  go_wp2_with fail
  generalize w4.alloc (.cells #[.int .u32 0,.int .u32 0] 146) = w5 at *
  generalize w4.heap.size = go at *
  obtain ⟨c0,z0⟩:=ho.cell (j:=0) (by omega)
  rw [show putF (fun _=>Value.int .u32 0) 0 (.int .u32 (0:Nat)) 0 = .int .u32 0 from rfl] at c0
  have F1:=Lib.hid fun (W:World) (hW:Ext w5 W)=>And.intro (hW.cell c0) (hW.cell v2)
  have w0:IntKind.i64.wrap 0 = 0:=by decide
  have w1':IntKind.u64.wrap 0 = 0:=by decide
  have wa:IntKind.u64.wrap (a:Int) = a:=by simp [IntKind.wrap,IntKind.bits,IntKind.signed];omega
  have wb:IntKind.u64.wrap (b:Int) = b:=by simp [IntKind.wrap,IntKind.bits,IntKind.signed];omega
  obtain ⟨p,hp⟩:∃ p:Nat,p = a * b:=⟨_,rfl⟩
  have wp:IntKind.u64.wrap ((a:Int) * (b:Int)) = (p:Int):=by
   have:((a * b:Nat):Int) = (a:Int) * (b:Int):=by push_cast;rfl
   rw [←this,←hp];simp [IntKind.wrap,IntKind.bits,IntKind.signed];omega
  have wp2:IntKind.u64.wrap (p:Int) = p:=by simp [IntKind.wrap,IntKind.bits,IntKind.signed];omega
  have hp8:p < 256:=by omega
  rw [←hp] at h
  replace hp:=Lib.hid hp
  refine wp_loop_rounds 2 ?_
  rw [rounds_succ]
  go_wp2_with fail
  refine wp_loop_rounds 2 ?_
  rw [rounds_succ]
  go_wp2_with fail
  (refine wp_region_below (by kernel_rfl) (by kernel_rfl) ?_
   repeat (refine wpQuiet_step (fun K hK=>?_)
           go_simp
           first
            | (refine hK _ ?_;clear hK K)
            | (replace hK:=Lib.hid hK
               apply Exists.intro
               refine ⟨fun wq hq=>?_,hK.out _ ?_⟩
               ·(obtain ⟨f1,f2⟩:=F1.out wq hq)
                go_simp
                first
                 | done
                 | rfl
                 | exact ⟨rfl,rfl⟩
                 | done
               clear hK K))
   refine wpQuiet_nil ?_)
  intro w6 hw6
  have ho6:=ho.ext hw6
  have hr6:=(hw6.below.block _ (Array.getElem?_eq_some_iff.1 hr5).1).trans hr5
  have hbe6:Hid (Below w.heap.size w w6):=Lib.hid (hbe5.out.trans (hw6.below.mono hbe5.out.size))
  obtain ⟨d0,e0⟩:=ho6.cell (j:=0) (by omega)
  obtain ⟨d1,e1⟩:=ho6.cell (j:=1) (by omega)
  rw [show putF (fun _=>Value.int .u32 0) 0 (.int .u32 (0:Nat)) 0 = .int .u32 0 from rfl] at d0
  rw [show putF (fun _=>Value.int .u32 0) 0 (.int .u32 (0:Nat)) 1 = .int .u32 0 from rfl] at d1
  replace ho6:=Lib.hid ho6
  replace hr6:=Lib.hid hr6
  clear F1 ho hr5 hbe5 c0 z0 hw6
  go_wp2_with fail
  rw [rounds_succ]
  go_wp2_with fail
  rw [rounds_succ]
  go_wp2_with fail
  have q:=from_any (cap:=2) (n:=p) (((ho6.out.set 0 (.int .u32 (p:Nat))).set 1 (.int .u32 ((p:Int) / 4294967296))).congr (g:=wrd p) fun j hj=>by
   match j,hj with
   | 0,_=>rfl
   | 1,_=>show Value.int .u32 ((p:Int) / 4294967296) = .int .u32 0;congr 1;omega) (Nat.le_refl 2) hp8 (fun e=>by cases e)
  have hr8:((w6.setCell ⟨go,0,none⟩ (.int .u32 (p:Nat))).setCell ⟨go,1,none⟩ (.int .u32 ((p:Int) / 4294967296))).heap[w.heap.size+1+1]? = some (.cells #[.string ⟨#[]⟩] 52 (0,0)):=(heap_setN _ _ hgone).trans ((heap_setN _ _ hgone).trans hr6.out)
  have hbe8:Hid (Below w.heap.size w ((w6.setCell ⟨go,0,none⟩ (.int .u32 (p:Nat))).setCell ⟨go,1,none⟩ (.int .u32 ((p:Int) / 4294967296)))):=Lib.hid ((hbe6.out.setCell hgoN _).setCell hgoN _)
  generalize (w6.setCell ⟨go,0,none⟩ (.int .u32 (p:Nat))).setCell ⟨go,1,none⟩ (.int .u32 ((p:Int) / 4294967296)) = w8 at *
  rw [hp.out] at q
  refine q.mono ?_
  rintro e w9 ⟨rfl,hb9⟩
  have hr9:=(hb9.block (w.heap.size+1+1) (Array.getElem?_eq_some_iff.1 hr8).1).trans hr8
  have fz9:w9.frozen? ⟨w.heap.size+1+1,0,none⟩ = false:=by simp [World.frozen?,hr9]
  have hc9:w9.cell? ⟨w.heap.size+1+1,0,none⟩ = some (.string ⟨#[]⟩):=by simp [World.cell?,hr9]
  have hbe9:=Lib.hid (hbe8.out.trans (hb9.mono hbe8.out.size))
  unfold natV
  generalize hT:(⟨(natL (a * b)).toArray⟩:ByteArray) = T at *
  have hfin:((w9.setCell ⟨w.heap.size+1+1,0,none⟩ (.string T)).cell? ⟨w.heap.size+1+1,0,none⟩ = some (.string T)):=by simp [World.cell?,heap_set hr9 0 _]
  replace hfin:=Lib.hid hfin
  replace hr9:=Lib.hid hr9
  clear q hb9 hr8 hbe8
  go_wp2_with fail
  exact bodyPost_ret (v:=.agg #[.string T]) (by simp [results,Tryz.results68,go_sem,hfin.out]) rfl ⟨by rw [←hT] <;> rfl,hbe9.out.setCell (by exact Nat.le_add_right_of_le (Nat.le_succ _)) _⟩
end Go.Proofs.YtmnjakejhbpkoaaGreatDoor
