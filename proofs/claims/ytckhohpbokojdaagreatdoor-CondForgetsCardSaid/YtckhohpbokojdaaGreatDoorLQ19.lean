import Derived.Test.YtckhohpbokojdaaGreatDoorLQ18
import Derived.Test.YtckhohpbokojdaaGreatDoorLN32
set_option linter.unusedSimpArgs false
set_option linter.unusedVariables false
namespace Go.Proofs.YtckhohpbokojdaaGreatDoor
open Go Go.RowKit Go.Shelf
set_option maxRecDepth 100000 in
set_option maxHeartbeats 4000000 in
theorem rvars21_any {n:Int} {nl:List L.ND} {v:Value} {w:World} (hv:SlC w v (nl.map L.ofND)) (hc:L.netChk n (nl.map L.ofND) = 0) (hl:nl.length≤65536) (h2:∀ y∈nl,y.inp.length≤100000) :
  Calls Tryz.prog 71 #[.agg #[.int .i64 n,v]] w fun e w'=>∃ g,w.heap.size≤g∧e = .returned (.slice (some ⟨g,0,none⟩) nl.length nl.length)∧SetsAt w' g nl.length (L.vset nl)∧Below w.heap.size w w':=by
 have hnok:L.NOK n nl:=by
  have:=(L.net_nok hc).1
  rwa [List.map_map,show (L.toND ∘ L.ofND) = id from funext L.toND_ofND,List.map_id] at this
 obtain ⟨hn,hl1,hall⟩:=L.netChk_ok.1 hc
 rw [List.length_map] at hl1
 obtain ⟨ba,cp,rfl,hcell⟩:=slC_nd hv
 have hx1:Ext w (w.alloc (.cells #[.int .i64 n,.slice ba nl.length cp] 24)):=(Ext.refl w).alloc _
 have e0:=heap_alloc_new w (.cells #[.int .i64 n,.slice ba nl.length cp] 24)
 have hbox:∀ V,Below ((w.alloc (.cells #[.int .i64 n,.slice ba nl.length cp] 24))).heap.size (w.alloc (.cells #[.int .i64 n,.slice ba nl.length cp] 24)) V→V.cell? ⟨w.heap.size,1,none⟩ = some (.slice ba nl.length cp):=fun V hV=>by
  have f0:=(hV.block _ (Array.getElem?_eq_some_iff.1 e0).1).trans e0
  rw [World.cell?,f0];rfl
 have hstep:∀ k (hk:k < nl.length),L.vset nl k = nl[k].inp.foldl (fun s c=>s ||| L.vset nl c) (if nl[k].kind = 2 then withS 0 (nl[k].lit.natAbs:Int) else 0):=fun k hk=>by
  rw [L.vset_at hnok.kids (List.getElem?_eq_getElem hk)];rfl
 have hform:=fun k (hk:k < nl.length)=>hnok.form _ (List.getElem_mem hk)
 have hmk:∀ w:World,(Instr.makeSlice 46 (.int .i64 (nl.length:Nat)) (.int .i64 (nl.length:Nat))).run Tryz.prog w = .ok (.slice (some ⟨w.heap.size,0,none⟩) nl.length nl.length) (w.alloc (.cells (madeCells #[.int .u64 0,.int .u64 0] (nl.length * 2)) 37)):=fun w=>by
  obtain ⟨i,hi,hz,hs,hb⟩:=info_parts (show (Tryz.prog.info? 37).map (fun i=>(i.zero,i.size,i.bytes)) = some (some (.agg #[.int .u64 0,.int .u64 0]),2,16) by kernel_rfl)
  have hr:=run_make (P:=Tryz.prog) w 46 37 i _ Tryz.underlying46 hi hz .i64 .i64 nl.length nl.length (by omega) (Int.le_refl _) (by rw [hb];omega) (by omega)
  rw [hs] at hr
  simpa [Value.cells] using hr
 have p1:=hbox (w.alloc (.cells #[.int .i64 n,.slice ba nl.length cp] 24)) (Below.refl _ _)
 have p2:=hbox ((w.alloc (.cells #[.int .i64 n,.slice ba nl.length cp] 24)).alloc (.cells (madeCells #[.int .u64 0,.int .u64 0] (nl.length * 2)) 37)) ((Below.refl _ _).alloc (Nat.le_refl _) _)
 have hI0:Hid (NvI (w.alloc (.cells #[.int .i64 n,.slice ba nl.length cp] 24)) ((w.alloc (.cells #[.int .i64 n,.slice ba nl.length cp] 24))).heap.size nl.length (vvF nl 0 0) ((w.alloc (.cells #[.int .i64 n,.slice ba nl.length cp] 24)).alloc (.cells (madeCells #[.int .u64 0,.int .u64 0] (nl.length * 2)) 37))):=Lib.hid ⟨(Below.refl _ _).alloc (Nat.le_refl _) _,by
  have e:vvF nl 0 0 = fun _=>0:=by
   funext j
   unfold vvF
   rw [if_neg (Nat.not_lt_zero _)];split <;> rfl
  rw [e]
  exact setsNew (w.alloc (.cells #[.int .i64 n,.slice ba nl.length cp] 24)) nl.length _ rfl,Nat.le_refl _⟩
 have hcell1:∀ k (hk:k < nl.length),∃ b o bb cc,ba = some ⟨b,o,none⟩∧((w.alloc (.cells #[.int .i64 n,.slice ba nl.length cp] 24))).cell? ⟨b,o+k * 3,none⟩ = some (.int .i64 nl[k].kind)∧((w.alloc (.cells #[.int .i64 n,.slice ba nl.length cp] 24))).cell? ⟨b,o+k * 3+1,none⟩ = some (.int .i64 nl[k].lit)∧((w.alloc (.cells #[.int .i64 n,.slice ba nl.length cp] 24))).cell? ⟨b,o+k * 3+2,none⟩ = some (.slice bb nl[k].inp.length cc)∧SlI (w.alloc (.cells #[.int .i64 n,.slice ba nl.length cp] 24)) (.slice bb nl[k].inp.length cc) (castL nl[k].inp):=fun k hk=>by
  obtain ⟨b,o,bb,cc,h1,f0,f1,f2,fin⟩:=hcell k hk
  exact ⟨b,o,bb,cc,h1,hx1.cell f0,hx1.cell f1,hx1.cell f2,fin.ext hx1.below⟩
 have hsz:((w.alloc (.cells #[.int .i64 n,.slice ba nl.length cp] 24))).heap.size = w.heap.size+1:=by simp
 replace hcell:=Lib.hid hcell1
 clear hcell1
 replace hstep:=Lib.hid hstep
 replace h2:=Lib.hid h2
 replace hbox:=Lib.hid hbox
 replace e0:=Lib.hid e0
 replace hnok:=Lib.hid hnok
 replace hform:=Lib.hid hform
 clear hc hv hall
 go_enter Tryz.func71,Tryz.ntmps71
 go_wp2_with fail
 obtain ⟨g,hg⟩:∃ g,g = w.heap.size+1:=⟨_,rfl⟩
 obtain ⟨w5,hw5⟩:∃ x,x = ((w.alloc (.cells #[.int .i64 n,.slice ba nl.length cp] 24)).alloc (.cells (madeCells #[.int .u64 0,.int .u64 0] (nl.length * 2)) 37)):=⟨_,rfl⟩
 obtain ⟨w1,hw1⟩:∃ x,x = (w.alloc (.cells #[.int .i64 n,.slice ba nl.length cp] 24)):=⟨_,rfl⟩
 rw [hsz,←hg] at hI0
 rw [←hw5] at hI0
 try rw [←hw5]
 try rw [←hg]
 rw [←hw1] at hI0 hbox hcell hx1
 replace hx1:=Lib.hid hx1
 clear p1 p2 hmk hsz hw5
 have hg1:w.heap.size≤g:=by omega
 replace hw1:=Lib.hid hw1
 replace hg:=Lib.hid hg
 go_loopw [4] (fun i wr=>∃ k:Nat,k≤nl.length∧i = .int .i64 (k:Nat)∧Hid (NvI w1 g nl.length (vvF nl k 0) wr)) (fun i _=>nl.length - (intOf i).toNat)
 case atStart=>exact ⟨0,Nat.zero_le _,rfl,hI0⟩
 case round =>
  clear hI0
  obtain ⟨k,hk,rfl,hI⟩:=hrel
  have pn:=hbox.out wr hI.out.1
  by_cases hlt:k < nl.length
  ·have q0:(0:Int)≤(k:Int):=by omega
   have q1:(k:Int) < (nl.length:Int):=by omega
   have dk:decide ((k:Int) < (nl.length:Int)) = true:=decide_eq_true q1
   obtain ⟨b,o,bb,cc,rfl,f0,f1,f2,fin⟩:=hcell.out k hlt
   have hkid:=hnok.out.kids k hlt
   have hst:=hstep.out k hlt
   have hfm:=hform.out k hlt
   have hilen:=h2.out _ (List.getElem_mem hlt)
   generalize nl[k] = y at *
   obtain ⟨kd,lt,ip⟩:=y
   dsimp only at *
   have hS:∀ V,Below w1.heap.size w1 V→V.cell? ⟨w.heap.size,1,none⟩ = some (.slice (some ⟨b,o,none⟩) nl.length cp)∧V.cell? ⟨b,o+k * 3,none⟩ = some (.int .i64 kd)∧V.cell? ⟨b,o+k * 3+1,none⟩ = some (.int .i64 lt)∧V.cell? ⟨b,o+k * 3+2,none⟩ = some (.slice bb ip.length cc):=fun V hV=>⟨hbox.out V hV,(hV.cell (World.block_lt_of_cell? w1 _ f0)).trans f0,(hV.cell (World.block_lt_of_cell? w1 _ f1)).trans f1,(hV.cell (World.block_lt_of_cell? w1 _ f2)).trans f2⟩
   have hip:∀ j (hj:j < ip.length),∃ b o,bb = some ⟨b,o,none⟩∧w1.cell? ⟨b,o+j,none⟩ = some (.int .i64 (ip[j]:Nat)):=fun j hj=>by
    obtain ⟨b,o,h1,h2⟩:=slI_cell fin (k:=j) (by rw [castL_len];exact hj)
    rw [castL_at _ hj] at h2
    exact ⟨b,o,h1,h2⟩
   obtain ⟨-,r0,-,-⟩:=hS wr hI.out.1
   replace hS:=Lib.hid hS
   replace hip:=Lib.hid hip
   replace hkid:=Lib.hid hkid
   clear f0 f1 f2 fin
   rename World=>wr
   by_cases h2k:kd = 2
   ·have hr:lt≠0∧-128≤lt∧lt≤128:=by
     rcases hfm with h | h | h <;> omega
    rw [if_pos h2k] at hst
    subst h2k
    obtain ⟨kk,hkk⟩:∃ kk:Nat,kk = lt.natAbs:=⟨_,rfl⟩
    rw [←hkk] at hst
    have wn1:IntKind.i64.wrap (-lt) = -lt:=IntWalk.i64_in _ (by omega)
    have hmx:max lt (-lt) = (kk:Int):=by omega
    have hk1:1≤kk∧kk≤128:=by omega
    obtain ⟨zs,hzs⟩:∃ zs:VSet,zs = 0:=⟨_,rfl⟩
    have qw:=fun V=>with21_any zs kk hk1.1 hk1.2 V
    unfold encS at qw
    obtain ⟨s0,hs0⟩:∃ s0,s0 = withS zs (kk:Int):=⟨_,rfl⟩
    rw [←hzs,←hs0] at hst
    simp only [←hs0] at qw
    replace hs0:=Lib.hid hs0
    have hS6:∀ V,Below wr.heap.size wr V→(V.cell? ⟨g,k * 2,none⟩ = some (.int .u64 (lo zs))∧V.cell? ⟨g,k * 2+1,none⟩ = some (.int .u64 (hi zs)))∧V.cell? ⟨w.heap.size,1,none⟩ = some (.slice (some ⟨b,o,none⟩) nl.length cp)∧V.cell? ⟨b,o+k * 3+1,none⟩ = some (.int .i64 lt):=fun V hV=>by
     have hJV:=hI.out.next hV
     obtain ⟨⟨y2,y3⟩,-,-⟩:=hJV.2.1.cell (j:=k) hlt
     have ek:vvF nl k 0 k = zs:=by unfold vvF;rw [if_neg (Nat.lt_irrefl _),if_pos rfl,hzs]
     rw [ek] at y2 y3
     obtain ⟨a1,-,a2,-⟩:=hS.out V hJV.1
     exact ⟨⟨y2,y3⟩,a1,a2⟩
    replace hS6:=Lib.hid hS6
    replace hzs:=Lib.hid hzs
    replace hst:=Lib.hid hst
    replace hkk:=Lib.hid hkk
    clear hfm hr hk1
    go_wp2_with fail
    clear pn r0
    (refine wp_region_z (S:=(fun V=>(V.cell? ⟨g,k * 2,none⟩ = some (.int .u64 (lo zs))∧V.cell? ⟨g,k * 2+1,none⟩ = some (.int .u64 (hi zs)))∧V.cell? ⟨w.heap.size,1,none⟩ = some (.slice (some ⟨b,o,none⟩) nl.length cp)∧V.cell? ⟨b,o+k * 3+1,none⟩ = some (.int .i64 lt))) 22 (by kernel_rfl) ?_ (fun hHeld=>?_))
    ·exact hS6.out _ (Below.refl wr.heap.size wr).drew
    (refine wpZ_take (i:=0) (v:=?_) rfl (by kernel_rfl) (by decide) (by kernel_rfl) (by kernel_rfl) (by kernel_rfl) (fun _ _ _ h=>h) (Or.inl ⟨by rfl,?_⟩) (by assumption) ?_)
    rotate_left
    ·(intro w hSw;(try dsimp only at hSw);skip;go_simp;first | done | with_reducible rfl)
    (try simp only [Act.put,List.setIfInBounds_toArray,List.set_cons_zero,List.set_cons_succ])
    (refine wpZ_take (i:=1) (v:=?_) rfl (by kernel_rfl) (by decide) (by kernel_rfl) (by kernel_rfl) (by kernel_rfl) (fun _ _ _ h=>h) (Or.inl ⟨by rfl,?_⟩) (by assumption) ?_)
    rotate_left
    ·(intro w hSw;(try dsimp only at hSw);skip;go_simp;first | done | with_reducible rfl)
    (try simp only [Act.put,List.setIfInBounds_toArray,List.set_cons_zero,List.set_cons_succ])
    (refine wpZ_take (i:=2) (v:=?_) rfl (by kernel_rfl) (by decide) (by kernel_rfl) (by kernel_rfl) (by kernel_rfl) (fun _ _ _ h=>h) (Or.inl ⟨by rfl,?_⟩) (by assumption) ?_)
    rotate_left
    ·(intro w hSw;(try dsimp only at hSw);skip;go_simp;first | done | with_reducible rfl)
    (try simp only [Act.put,List.setIfInBounds_toArray,List.set_cons_zero,List.set_cons_succ])
    (refine wpZ_take (i:=3) (v:=?_) rfl (by kernel_rfl) (by decide) (by kernel_rfl) (by kernel_rfl) (by kernel_rfl) (fun _ _ _ h=>h) (Or.inl ⟨by rfl,?_⟩) (by assumption) ?_)
    rotate_left
    ·(intro w hSw;(try dsimp only at hSw);skip;go_simp;first | done | with_reducible rfl)
    (try simp only [Act.put,List.setIfInBounds_toArray,List.set_cons_zero,List.set_cons_succ])
    (refine wpZ_take (i:=4) (v:=?_) rfl (by kernel_rfl) (by decide) (by kernel_rfl) (by kernel_rfl) (by kernel_rfl) (fun _ _ _ h=>h) (Or.inl ⟨by rfl,?_⟩) (by assumption) ?_)
    rotate_left
    ·(intro w hSw;(try dsimp only at hSw);skip;go_simp;first | done | with_reducible rfl)
    (try simp only [Act.put,List.setIfInBounds_toArray,List.set_cons_zero,List.set_cons_succ])
    (refine wpZ_take (i:=5) (v:=?_) rfl (by kernel_rfl) (by decide) (by kernel_rfl) (by kernel_rfl) (by kernel_rfl) (fun _ _ _ h=>h) (Or.inl ⟨by rfl,?_⟩) (by assumption) ?_)
    rotate_left
    ·(intro w hSw;(try dsimp only at hSw);obtain ⟨⟨s0,s1⟩,s2,s3⟩:=hSw;go_simp;first | done | with_reducible rfl)
    (try simp only [Act.put,List.setIfInBounds_toArray,List.set_cons_zero,List.set_cons_succ])
    (refine wpZ_take (i:=6) (v:=?_) rfl (by kernel_rfl) (by decide) (by kernel_rfl) (by kernel_rfl) (by kernel_rfl) (fun _ _ _ h=>h) (Or.inl ⟨by rfl,?_⟩) (by assumption) ?_)
    rotate_left
    ·(intro w hSw;(try dsimp only at hSw);skip;go_simp;first | done | with_reducible rfl)
    (try simp only [Act.put,List.setIfInBounds_toArray,List.set_cons_zero,List.set_cons_succ])
    (refine wpZ_take (i:=7) (v:=?_) rfl (by kernel_rfl) (by decide) (by kernel_rfl) (by kernel_rfl) (by kernel_rfl) (fun _ _ _ h=>h) (Or.inl ⟨by rfl,?_⟩) (by assumption) ?_)
    rotate_left
    ·(intro w hSw;(try dsimp only at hSw);obtain ⟨⟨s0,s1⟩,s2,s3⟩:=hSw;go_simp;first | done | with_reducible rfl)
    (try simp only [Act.put,List.setIfInBounds_toArray,List.set_cons_zero,List.set_cons_succ])
    (refine wpZ_take (i:=8) (v:=?_) rfl (by kernel_rfl) (by decide) (by kernel_rfl) (by kernel_rfl) (by kernel_rfl) (fun _ _ _ h=>h) (Or.inl ⟨by rfl,?_⟩) (by assumption) ?_)
    rotate_left
    ·(intro w hSw;(try dsimp only at hSw);skip;go_simp;first | done | with_reducible rfl)
    (try simp only [Act.put,List.setIfInBounds_toArray,List.set_cons_zero,List.set_cons_succ])
    (refine wpZ_take (i:=9) (v:=?_) rfl (by kernel_rfl) (by decide) (by kernel_rfl) (by kernel_rfl) (by kernel_rfl) (fun _ _ _ h=>h) (Or.inl ⟨by rfl,?_⟩) (by assumption) ?_)
    rotate_left
    ·(intro w hSw;(try dsimp only at hSw);skip;go_simp;first | done | with_reducible rfl)
    (try simp only [Act.put,List.setIfInBounds_toArray,List.set_cons_zero,List.set_cons_succ])
    (refine wpZ_take (i:=10) (v:=?_) rfl (by kernel_rfl) (by decide) (by kernel_rfl) (by kernel_rfl) (by kernel_rfl) (fun _ _ _ h=>h) (Or.inl ⟨by rfl,?_⟩) (by assumption) ?_)
    rotate_left
    ·(intro w hSw;(try dsimp only at hSw);skip;go_simp;first | done | with_reducible rfl)
    (try simp only [Act.put,List.setIfInBounds_toArray,List.set_cons_zero,List.set_cons_succ])
    (refine wpZ_take (i:=11) (v:=?_) rfl (by kernel_rfl) (by decide) (by kernel_rfl) (by kernel_rfl) (by kernel_rfl) (fun _ _ _ h=>h) (Or.inl ⟨by rfl,?_⟩) (by assumption) ?_)
    rotate_left
    ·(intro w hSw;(try dsimp only at hSw);obtain ⟨⟨s0,s1⟩,s2,s3⟩:=hSw;go_simp;first | done | with_reducible rfl)
    (try simp only [Act.put,List.setIfInBounds_toArray,List.set_cons_zero,List.set_cons_succ])
    (refine wpZ_take (i:=12) (v:=?_) rfl (by kernel_rfl) (by decide) (by kernel_rfl) (by kernel_rfl) (by kernel_rfl) (fun _ _ _ h=>h) (Or.inl ⟨by rfl,?_⟩) (by assumption) ?_)
    rotate_left
    ·(intro w hSw;(try dsimp only at hSw);skip;go_simp;first | done | with_reducible rfl)
    (try simp only [Act.put,List.setIfInBounds_toArray,List.set_cons_zero,List.set_cons_succ])
    (refine wpZ_take (i:=13) (v:=?_) rfl (by kernel_rfl) (by decide) (by kernel_rfl) (by kernel_rfl) (by kernel_rfl) (fun _ _ _ h=>h) (Or.inl ⟨by rfl,?_⟩) (by assumption) ?_)
    rotate_left
    ·(intro w hSw;(try dsimp only at hSw);obtain ⟨⟨s0,s1⟩,s2,s3⟩:=hSw;go_simp;first | done | with_reducible rfl)
    (try simp only [Act.put,List.setIfInBounds_toArray,List.set_cons_zero,List.set_cons_succ])
    (refine wpZ_take (i:=14) (v:=?_) rfl (by kernel_rfl) (by decide) (by kernel_rfl) (by kernel_rfl) (by kernel_rfl) (fun _ _ _ h=>h) (Or.inl ⟨by rfl,?_⟩) (by assumption) ?_)
    rotate_left
    ·(intro w hSw;(try dsimp only at hSw);skip;go_simp;first | done | with_reducible rfl)
    (try simp only [Act.put,List.setIfInBounds_toArray,List.set_cons_zero,List.set_cons_succ])
    (refine wpZ_take (i:=15) (v:=?_) rfl (by kernel_rfl) (by decide) (by kernel_rfl) (by kernel_rfl) (by kernel_rfl) (fun _ _ _ h=>h) (Or.inl ⟨by rfl,?_⟩) (by assumption) ?_)
    rotate_left
    ·(intro w hSw;(try dsimp only at hSw);skip;go_simp;first | done | with_reducible rfl)
    (try simp only [Act.put,List.setIfInBounds_toArray,List.set_cons_zero,List.set_cons_succ])
    (refine wpZ_take (i:=16) (v:=?_) rfl (by kernel_rfl) (by decide) (by kernel_rfl) (by kernel_rfl) (by kernel_rfl) (fun _ _ _ h=>h) (Or.inl ⟨by rfl,?_⟩) (by assumption) ?_)
    rotate_left
    ·(intro w hSw;(try dsimp only at hSw);skip;go_simp;first | done | with_reducible rfl)
    (try simp only [Act.put,List.setIfInBounds_toArray,List.set_cons_zero,List.set_cons_succ])
    (refine wpZ_take (i:=17) (v:=?_) rfl (by kernel_rfl) (by decide) (by kernel_rfl) (by kernel_rfl) (by kernel_rfl) (fun _ _ _ h=>h) (Or.inl ⟨by rfl,?_⟩) (by assumption) ?_)
    rotate_left
    ·(intro w hSw;(try dsimp only at hSw);obtain ⟨⟨s0,s1⟩,s2,s3⟩:=hSw;go_simp;first | done | with_reducible rfl)
    (try simp only [Act.put,List.setIfInBounds_toArray,List.set_cons_zero,List.set_cons_succ])
    (refine wpZ_take (i:=18) (v:=?_) rfl (by kernel_rfl) (by decide) (by kernel_rfl) (by kernel_rfl) (by kernel_rfl) (fun _ _ _ h=>h) (Or.inl ⟨by rfl,?_⟩) (by assumption) ?_)
    rotate_left
    ·(intro w hSw;(try dsimp only at hSw);skip;go_simp;first | done | with_reducible rfl)
    (try simp only [Act.put,List.setIfInBounds_toArray,List.set_cons_zero,List.set_cons_succ])
    (refine wpZ_take (i:=19) (v:=?_) rfl (by kernel_rfl) (by decide) (by kernel_rfl) (by kernel_rfl) (by kernel_rfl) (fun _ _ _ h=>h) (Or.inl ⟨by rfl,?_⟩) (by assumption) ?_)
    rotate_left
    ·(intro w hSw;(try dsimp only at hSw);skip;go_simp;first | done | with_reducible rfl)
    (try simp only [Act.put,List.setIfInBounds_toArray,List.set_cons_zero,List.set_cons_succ])
    (refine wpZ_one (i:=20) (by kernel_rfl) rfl (fun K hK=>?_))
    ((rw [if_pos (by rfl)]);go_simp;(go_at_call 93);refine (qw _).mono ?_;rintro e w9 ⟨rfl,hx9⟩;have hx9d:=((Below.refl wr.heap.size wr).drew).trans hx9;refine hK.out _ _ (hS6.out _ hx9d) (fun hHeld=>?_))
    (clear hK K)
    (try simp only [Act.put,List.setIfInBounds_toArray,List.set_cons_zero,List.set_cons_succ])
    (refine wpZ_take (i:=21) (v:=?_) rfl (by kernel_rfl) (by decide) (by kernel_rfl) (by kernel_rfl) (by kernel_rfl) (fun _ _ _ h=>h) (Or.inl ⟨by rfl,?_⟩) (by assumption) ?_)
    rotate_left
    ·(intro w hSw;(try dsimp only at hSw);skip;go_simp;first | done | with_reducible rfl)
    (try simp only [Act.put,List.setIfInBounds_toArray,List.set_cons_zero,List.set_cons_succ])
    clear hHeld
    have hJ9:=hI.out.next hx9d
    obtain ⟨⟨z0,z1⟩,fz0,fz1⟩:=hJ9.2.1.cell (j:=k) hlt
    have hnx:=hJ9.set k s0
    rw [vvF_set] at hnx
    replace hnx:=Lib.hid hnx
    clear hJ9 hx9 hx9d qw
    (refine wpZ_last (by kernel_rfl) rfl (by kernel_rfl) (fun K hK=>?_))
    ((rw [if_pos (by rfl)]);go_simp;refine hK.out _ _ ?_)
    (clear hK K)
    (try simp only [Act.put,List.setIfInBounds_toArray,List.set_cons_zero,List.set_cons_succ])
    go_wp2_with fail
    generalize ((w9.setCell ⟨g,k * 2,none⟩ (.int .u64 (lo s0))).setCell ⟨g,k * 2+1,none⟩ (.int .u64 (hi s0))) = w8 at *
    clear z0 z1 fz0 fz1
    have hIs:Hid (NvI w1 g nl.length (vvF nl k ((ip.take 0).foldl (fun s c=>s ||| L.vset nl c) s0)) w8):=hnx
    clear hnx
    go_loopw [5] (fun i wr=>∃ j:Nat,j≤ip.length∧i = .int .i64 (j:Nat)∧Hid (NvI w1 g nl.length (vvF nl k ((ip.take j).foldl (fun s c=>s ||| L.vset nl c) s0)) wr)) (fun i _=>ip.length - (intOf i).toNat)
    case atStart=>exact ⟨0,Nat.zero_le _,rfl,hIs⟩
    case round =>
     clear hIs
     obtain ⟨j,hj,rfl,hJ⟩:=hrel
     obtain ⟨n1,-,-,r2⟩:=hS.out wr hJ.out.1
     by_cases hjl:j < ip.length
     ·have p0:(0:Int)≤(j:Int):=by omega
      have p1:(j:Int) < (ip.length:Int):=by omega
      have dj:decide ((j:Int) < (ip.length:Int)) = true:=decide_eq_true p1
      obtain ⟨b2,o2,rfl,x0⟩:=hip.out j hjl
      have hck:=hkid.out _ (List.getElem_mem hjl)
      have htk:(ip.take (j+1)).foldl (fun s c=>s ||| L.vset nl c) s0 = (ip.take j).foldl (fun s c=>s ||| L.vset nl c) s0 ||| L.vset nl ip[j]:=by
       rw [List.take_succ_eq_append_getElem hjl,List.foldl_append];rfl
      obtain ⟨c,hc⟩:∃ c,c = ip[j]:=⟨_,rfl⟩
      rw [←hc] at x0 hck htk
      obtain ⟨s,hs⟩:∃ s,s = (ip.take j).foldl (fun s c=>s ||| L.vset nl c) s0:=⟨_,rfl⟩
      rw [←hs] at htk hJ
      have ec:vvF nl k s c = L.vset nl c:=by unfold vvF;rw [if_pos hck]
      have ek:vvF nl k s k = s:=by unfold vvF;rw [if_neg (Nat.lt_irrefl _),if_pos rfl]
      obtain ⟨t,ht⟩:∃ t,t = L.vset nl c:=⟨_,rfl⟩
      rw [←ht] at htk ec
      have hS10:∀ V,Below wr.heap.size wr V→((V.cell? ⟨g,k * 2,none⟩ = some (.int .u64 (lo s))∧V.cell? ⟨g,k * 2+1,none⟩ = some (.int .u64 (hi s)))∧V.cell? ⟨g,c * 2,none⟩ = some (.int .u64 (lo t))∧V.cell? ⟨g,c * 2+1,none⟩ = some (.int .u64 (hi t)))∧V.cell? ⟨w.heap.size,1,none⟩ = some (.slice (some ⟨b,o,none⟩) nl.length cp)∧V.cell? ⟨b,o+k * 3+2,none⟩ = some (.slice (some ⟨b2,o2,none⟩) ip.length cc)∧V.cell? ⟨b2,o2+j,none⟩ = some (.int .i64 (c:Nat)):=fun V hV=>by
       have hJV:=hJ.out.next hV
       obtain ⟨⟨y0,y1⟩,-,-⟩:=hJV.2.1.cell (j:=c) (by omega)
       obtain ⟨⟨y2,y3⟩,-,-⟩:=hJV.2.1.cell (j:=k) hlt
       rw [ec] at y0 y1
       rw [ek] at y2 y3
       obtain ⟨a1,-,-,a2⟩:=hS.out V hJV.1
       exact ⟨⟨⟨y2,y3⟩,y0,y1⟩,a1,a2,(hJV.1.cell (World.block_lt_of_cell? w1 _ x0)).trans x0⟩
      have m0:(0:Int)≤(c:Int):=by omega
      have m1:(c:Int) < (nl.length:Int):=by omega
      have qu:=fun V=>union21_any s t V
      unfold encS at qu
      replace hc:=Lib.hid hc
      replace hs:=Lib.hid hs
      replace ht:=Lib.hid ht
      replace htk:=Lib.hid htk
      replace hS10:=Lib.hid hS10
      clear ec ek x0
      go_wp2_with fail
      clear n1 r2
      (refine wp_region_z (S:=(fun V=>((V.cell? ⟨g,k * 2,none⟩ = some (.int .u64 (lo s))∧V.cell? ⟨g,k * 2+1,none⟩ = some (.int .u64 (hi s)))∧V.cell? ⟨g,c * 2,none⟩ = some (.int .u64 (lo t))∧V.cell? ⟨g,c * 2+1,none⟩ = some (.int .u64 (hi t)))∧V.cell? ⟨w.heap.size,1,none⟩ = some (.slice (some ⟨b,o,none⟩) nl.length cp)∧V.cell? ⟨b,o+k * 3+2,none⟩ = some (.slice (some ⟨b2,o2,none⟩) ip.length cc)∧V.cell? ⟨b2,o2+j,none⟩ = some (.int .i64 (c:Nat)))) 20 (by kernel_rfl) ?_ (fun hHeld=>?_))
      ·exact hS10.out _ (Below.refl wr.heap.size wr).drew
      (refine wpZ_take (i:=0) (v:=?_) rfl (by kernel_rfl) (by decide) (by kernel_rfl) (by kernel_rfl) (by kernel_rfl) (fun _ _ _ h=>h) (Or.inl ⟨by rfl,?_⟩) (by assumption) ?_)
      rotate_left
      ·(intro w hSw;(try dsimp only at hSw);skip;go_simp;first | done | with_reducible rfl)
      (try simp only [Act.put,List.setIfInBounds_toArray,List.set_cons_zero,List.set_cons_succ])
      (refine wpZ_take (i:=1) (v:=?_) rfl (by kernel_rfl) (by decide) (by kernel_rfl) (by kernel_rfl) (by kernel_rfl) (fun _ _ _ h=>h) (Or.inl ⟨by rfl,?_⟩) (by assumption) ?_)
      rotate_left
      ·(intro w hSw;(try dsimp only at hSw);skip;go_simp;first | done | with_reducible rfl)
      (try simp only [Act.put,List.setIfInBounds_toArray,List.set_cons_zero,List.set_cons_succ])
      (refine wpZ_take (i:=2) (v:=?_) rfl (by kernel_rfl) (by decide) (by kernel_rfl) (by kernel_rfl) (by kernel_rfl) (fun _ _ _ h=>h) (Or.inl ⟨by rfl,?_⟩) (by assumption) ?_)
      rotate_left
      ·(intro w hSw;(try dsimp only at hSw);skip;go_simp;first | done | with_reducible rfl)
      (try simp only [Act.put,List.setIfInBounds_toArray,List.set_cons_zero,List.set_cons_succ])
      (refine wpZ_take (i:=3) (v:=?_) rfl (by kernel_rfl) (by decide) (by kernel_rfl) (by kernel_rfl) (by kernel_rfl) (fun _ _ _ h=>h) (Or.inl ⟨by rfl,?_⟩) (by assumption) ?_)
      rotate_left
      ·(intro w hSw;(try dsimp only at hSw);skip;go_simp;first | done | with_reducible rfl)
      (try simp only [Act.put,List.setIfInBounds_toArray,List.set_cons_zero,List.set_cons_succ])
      (refine wpZ_take (i:=4) (v:=?_) rfl (by kernel_rfl) (by decide) (by kernel_rfl) (by kernel_rfl) (by kernel_rfl) (fun _ _ _ h=>h) (Or.inl ⟨by rfl,?_⟩) (by assumption) ?_)
      rotate_left
      ·(intro w hSw;(try dsimp only at hSw);skip;go_simp;first | done | with_reducible rfl)
      (try simp only [Act.put,List.setIfInBounds_toArray,List.set_cons_zero,List.set_cons_succ])
      (refine wpZ_take (i:=5) (v:=?_) rfl (by kernel_rfl) (by decide) (by kernel_rfl) (by kernel_rfl) (by kernel_rfl) (fun _ _ _ h=>h) (Or.inl ⟨by rfl,?_⟩) (by assumption) ?_)
      rotate_left
      ·(intro w hSw;(try dsimp only at hSw);obtain ⟨⟨⟨s0,s1⟩,s2,s3⟩,s4,s5,s6⟩:=hSw;go_simp;first | done | with_reducible rfl)
      (try simp only [Act.put,List.setIfInBounds_toArray,List.set_cons_zero,List.set_cons_succ])
      (refine wpZ_take (i:=6) (v:=?_) rfl (by kernel_rfl) (by decide) (by kernel_rfl) (by kernel_rfl) (by kernel_rfl) (fun _ _ _ h=>h) (Or.inl ⟨by rfl,?_⟩) (by assumption) ?_)
      rotate_left
      ·(intro w hSw;(try dsimp only at hSw);skip;go_simp;first | done | with_reducible rfl)
      (try simp only [Act.put,List.setIfInBounds_toArray,List.set_cons_zero,List.set_cons_succ])
      (refine wpZ_take (i:=7) (v:=?_) rfl (by kernel_rfl) (by decide) (by kernel_rfl) (by kernel_rfl) (by kernel_rfl) (fun _ _ _ h=>h) (Or.inl ⟨by rfl,?_⟩) (by assumption) ?_)
      rotate_left
      ·(intro w hSw;(try dsimp only at hSw);skip;go_simp;first | done | with_reducible rfl)
      (try simp only [Act.put,List.setIfInBounds_toArray,List.set_cons_zero,List.set_cons_succ])
      (refine wpZ_take (i:=8) (v:=?_) rfl (by kernel_rfl) (by decide) (by kernel_rfl) (by kernel_rfl) (by kernel_rfl) (fun _ _ _ h=>h) (Or.inl ⟨by rfl,?_⟩) (by assumption) ?_)
      rotate_left
      ·(intro w hSw;(try dsimp only at hSw);obtain ⟨⟨⟨s0,s1⟩,s2,s3⟩,s4,s5,s6⟩:=hSw;go_simp;first | done | with_reducible rfl)
      (try simp only [Act.put,List.setIfInBounds_toArray,List.set_cons_zero,List.set_cons_succ])
      (refine wpZ_take (i:=9) (v:=?_) rfl (by kernel_rfl) (by decide) (by kernel_rfl) (by kernel_rfl) (by kernel_rfl) (fun _ _ _ h=>h) (Or.inl ⟨by rfl,?_⟩) (by assumption) ?_)
      rotate_left
      ·(intro w hSw;(try dsimp only at hSw);skip;go_simp;first | done | with_reducible rfl)
      (try simp only [Act.put,List.setIfInBounds_toArray,List.set_cons_zero,List.set_cons_succ])
      (refine wpZ_take (i:=10) (v:=?_) rfl (by kernel_rfl) (by decide) (by kernel_rfl) (by kernel_rfl) (by kernel_rfl) (fun _ _ _ h=>h) (Or.inl ⟨by rfl,?_⟩) (by assumption) ?_)
      rotate_left
      ·(intro w hSw;(try dsimp only at hSw);skip;go_simp;first | done | with_reducible rfl)
      (try simp only [Act.put,List.setIfInBounds_toArray,List.set_cons_zero,List.set_cons_succ])
      (refine wpZ_take (i:=11) (v:=?_) rfl (by kernel_rfl) (by decide) (by kernel_rfl) (by kernel_rfl) (by kernel_rfl) (fun _ _ _ h=>h) (Or.inl ⟨by rfl,?_⟩) (by assumption) ?_)
      rotate_left
      ·(intro w hSw;(try dsimp only at hSw);skip;go_simp;first | done | with_reducible rfl)
      (try simp only [Act.put,List.setIfInBounds_toArray,List.set_cons_zero,List.set_cons_succ])
      (refine wpZ_take (i:=12) (v:=?_) rfl (by kernel_rfl) (by decide) (by kernel_rfl) (by kernel_rfl) (by kernel_rfl) (fun _ _ _ h=>h) (Or.inl ⟨by rfl,?_⟩) (by assumption) ?_)
      rotate_left
      ·(intro w hSw;(try dsimp only at hSw);obtain ⟨⟨⟨s0,s1⟩,s2,s3⟩,s4,s5,s6⟩:=hSw;go_simp;first | done | with_reducible rfl)
      (try simp only [Act.put,List.setIfInBounds_toArray,List.set_cons_zero,List.set_cons_succ])
      (refine wpZ_take (i:=13) (v:=?_) rfl (by kernel_rfl) (by decide) (by kernel_rfl) (by kernel_rfl) (by kernel_rfl) (fun _ _ _ h=>h) (Or.inl ⟨by rfl,?_⟩) (by assumption) ?_)
      rotate_left
      ·(intro w hSw;(try dsimp only at hSw);skip;go_simp;first | done | with_reducible rfl)
      (try simp only [Act.put,List.setIfInBounds_toArray,List.set_cons_zero,List.set_cons_succ])
      (refine wpZ_take (i:=14) (v:=?_) rfl (by kernel_rfl) (by decide) (by kernel_rfl) (by kernel_rfl) (by kernel_rfl) (fun _ _ _ h=>h) (Or.inl ⟨by rfl,?_⟩) (by assumption) ?_)
      rotate_left
      ·(intro w hSw;(try dsimp only at hSw);skip;go_simp;first | done | with_reducible rfl)
      (try simp only [Act.put,List.setIfInBounds_toArray,List.set_cons_zero,List.set_cons_succ])
      (refine wpZ_take (i:=15) (v:=?_) rfl (by kernel_rfl) (by decide) (by kernel_rfl) (by kernel_rfl) (by kernel_rfl) (fun _ _ _ h=>h) (Or.inl ⟨by rfl,?_⟩) (by assumption) ?_)
      rotate_left
      ·(intro w hSw;(try dsimp only at hSw);obtain ⟨⟨⟨s0,s1⟩,s2,s3⟩,s4,s5,s6⟩:=hSw;go_simp;first | done | with_reducible rfl)
      (try simp only [Act.put,List.setIfInBounds_toArray,List.set_cons_zero,List.set_cons_succ])
      (refine wpZ_take (i:=16) (v:=?_) rfl (by kernel_rfl) (by decide) (by kernel_rfl) (by kernel_rfl) (by kernel_rfl) (fun _ _ _ h=>h) (Or.inl ⟨by rfl,?_⟩) (by assumption) ?_)
      rotate_left
      ·(intro w hSw;(try dsimp only at hSw);skip;go_simp;first | done | with_reducible rfl)
      (try simp only [Act.put,List.setIfInBounds_toArray,List.set_cons_zero,List.set_cons_succ])
      (refine wpZ_take (i:=17) (v:=?_) rfl (by kernel_rfl) (by decide) (by kernel_rfl) (by kernel_rfl) (by kernel_rfl) (fun _ _ _ h=>h) (Or.inl ⟨by rfl,?_⟩) (by assumption) ?_)
      rotate_left
      ·(intro w hSw;(try dsimp only at hSw);obtain ⟨⟨⟨s0,s1⟩,s2,s3⟩,s4,s5,s6⟩:=hSw;go_simp;first | done | with_reducible rfl)
      (try simp only [Act.put,List.setIfInBounds_toArray,List.set_cons_zero,List.set_cons_succ])
      (refine wpZ_one (i:=18) (by kernel_rfl) rfl (fun K hK=>?_))
      ((rw [if_pos (by rfl)]);go_simp;(go_at_call 94);refine (qu _).mono ?_;rintro e w9 ⟨rfl,hx9⟩;have hx9d:=((Below.refl wr.heap.size wr).drew).trans hx9;refine hK.out _ _ (hS10.out _ hx9d) (fun hHeld=>?_))
      (clear hK K)
      (try simp only [Act.put,List.setIfInBounds_toArray,List.set_cons_zero,List.set_cons_succ])
      (refine wpZ_take (i:=19) (v:=?_) rfl (by kernel_rfl) (by decide) (by kernel_rfl) (by kernel_rfl) (by kernel_rfl) (fun _ _ _ h=>h) (Or.inl ⟨by rfl,?_⟩) (by assumption) ?_)
      rotate_left
      ·(intro w hSw;(try dsimp only at hSw);skip;go_simp;first | done | with_reducible rfl)
      (try simp only [Act.put,List.setIfInBounds_toArray,List.set_cons_zero,List.set_cons_succ])
      clear hHeld
      have hJ9:=hJ.out.next hx9d
      obtain ⟨⟨z0,z1⟩,fz0,fz1⟩:=hJ9.2.1.cell (j:=k) hlt
      have hnx:=hJ9.set k (s ||| t)
      rw [vvF_set] at hnx
      replace hnx:Hid (NvI w1 g nl.length (vvF nl k ((ip.take (j+1)).foldl (fun s c=>s ||| L.vset nl c) s0)) _):=Lib.hid (by rw [htk.out];exact hnx)
      clear hJ9 hx9 hx9d qu
      (refine wpZ_last (by kernel_rfl) rfl (by kernel_rfl) (fun K hK=>?_))
      ((rw [if_pos (by rfl)]);go_simp;refine hK.out _ _ ?_)
      (clear hK K)
      (try simp only [Act.put,List.setIfInBounds_toArray,List.set_cons_zero,List.set_cons_succ])
      go_wp2_with fail
      go_roundw
      case rel=>exact ⟨j+1,by omega,by go_num,hnx⟩
      case measure=>simp [intOf];omega
     ·obtain rfl:j = ip.length:=by omega
      have dj:decide ((ip.length:Int) < (ip.length:Int)) = false:=decide_eq_false (by omega)
      have hnx:=hJ.out
      rw [List.take_length,←hst.out,vvF_next] at hnx
      replace hnx:=Lib.hid hnx
      clear hJ
      go_wp2_with fail
      go_roundw
      case rel=>exact ⟨k+1,by omega,by go_num,hnx⟩
      case measure=>simp [intOf];omega
   ·rw [if_neg h2k] at hst
    have d2:(kd == 2) = false:=beq_eq_false_iff_ne.2 h2k
    replace h2k:=Lib.hid h2k
    obtain ⟨s0,hs0⟩:∃ s0:VSet,s0 = 0:=⟨_,rfl⟩
    rw [←hs0] at hst
    have hIs:Hid (NvI w1 g nl.length (vvF nl k ((ip.take 0).foldl (fun s c=>s ||| L.vset nl c) s0)) wr):=by rw [hs0];exact hI
    replace hs0:=Lib.hid hs0
    replace hst:=Lib.hid hst
    clear hfm
    go_wp2_with fail
    clear pn r0
    go_loopw [5] (fun i wr=>∃ j:Nat,j≤ip.length∧i = .int .i64 (j:Nat)∧Hid (NvI w1 g nl.length (vvF nl k ((ip.take j).foldl (fun s c=>s ||| L.vset nl c) s0)) wr)) (fun i _=>ip.length - (intOf i).toNat)
    case atStart=>exact ⟨0,Nat.zero_le _,rfl,hIs⟩
    case round =>
     clear hIs
     obtain ⟨j,hj,rfl,hJ⟩:=hrel
     obtain ⟨n1,-,-,r2⟩:=hS.out wr hJ.out.1
     by_cases hjl:j < ip.length
     ·have p0:(0:Int)≤(j:Int):=by omega
      have p1:(j:Int) < (ip.length:Int):=by omega
      have dj:decide ((j:Int) < (ip.length:Int)) = true:=decide_eq_true p1
      obtain ⟨b2,o2,rfl,x0⟩:=hip.out j hjl
      have hck:=hkid.out _ (List.getElem_mem hjl)
      have htk:(ip.take (j+1)).foldl (fun s c=>s ||| L.vset nl c) s0 = (ip.take j).foldl (fun s c=>s ||| L.vset nl c) s0 ||| L.vset nl ip[j]:=by
       rw [List.take_succ_eq_append_getElem hjl,List.foldl_append];rfl
      obtain ⟨c,hc⟩:∃ c,c = ip[j]:=⟨_,rfl⟩
      rw [←hc] at x0 hck htk
      obtain ⟨s,hs⟩:∃ s,s = (ip.take j).foldl (fun s c=>s ||| L.vset nl c) s0:=⟨_,rfl⟩
      rw [←hs] at htk hJ
      have ec:vvF nl k s c = L.vset nl c:=by unfold vvF;rw [if_pos hck]
      have ek:vvF nl k s k = s:=by unfold vvF;rw [if_neg (Nat.lt_irrefl _),if_pos rfl]
      obtain ⟨t,ht⟩:∃ t,t = L.vset nl c:=⟨_,rfl⟩
      rw [←ht] at htk ec
      have hS10:∀ V,Below wr.heap.size wr V→((V.cell? ⟨g,k * 2,none⟩ = some (.int .u64 (lo s))∧V.cell? ⟨g,k * 2+1,none⟩ = some (.int .u64 (hi s)))∧V.cell? ⟨g,c * 2,none⟩ = some (.int .u64 (lo t))∧V.cell? ⟨g,c * 2+1,none⟩ = some (.int .u64 (hi t)))∧V.cell? ⟨w.heap.size,1,none⟩ = some (.slice (some ⟨b,o,none⟩) nl.length cp)∧V.cell? ⟨b,o+k * 3+2,none⟩ = some (.slice (some ⟨b2,o2,none⟩) ip.length cc)∧V.cell? ⟨b2,o2+j,none⟩ = some (.int .i64 (c:Nat)):=fun V hV=>by
       have hJV:=hJ.out.next hV
       obtain ⟨⟨y0,y1⟩,-,-⟩:=hJV.2.1.cell (j:=c) (by omega)
       obtain ⟨⟨y2,y3⟩,-,-⟩:=hJV.2.1.cell (j:=k) hlt
       rw [ec] at y0 y1
       rw [ek] at y2 y3
       obtain ⟨a1,-,-,a2⟩:=hS.out V hJV.1
       exact ⟨⟨⟨y2,y3⟩,y0,y1⟩,a1,a2,(hJV.1.cell (World.block_lt_of_cell? w1 _ x0)).trans x0⟩
      have m0:(0:Int)≤(c:Int):=by omega
      have m1:(c:Int) < (nl.length:Int):=by omega
      have qu:=fun V=>union21_any s t V
      unfold encS at qu
      replace hc:=Lib.hid hc
      replace hs:=Lib.hid hs
      replace ht:=Lib.hid ht
      replace htk:=Lib.hid htk
      replace hS10:=Lib.hid hS10
      clear ec ek x0
      go_wp2_with fail
      clear n1 r2
      (refine wp_region_z (S:=(fun V=>((V.cell? ⟨g,k * 2,none⟩ = some (.int .u64 (lo s))∧V.cell? ⟨g,k * 2+1,none⟩ = some (.int .u64 (hi s)))∧V.cell? ⟨g,c * 2,none⟩ = some (.int .u64 (lo t))∧V.cell? ⟨g,c * 2+1,none⟩ = some (.int .u64 (hi t)))∧V.cell? ⟨w.heap.size,1,none⟩ = some (.slice (some ⟨b,o,none⟩) nl.length cp)∧V.cell? ⟨b,o+k * 3+2,none⟩ = some (.slice (some ⟨b2,o2,none⟩) ip.length cc)∧V.cell? ⟨b2,o2+j,none⟩ = some (.int .i64 (c:Nat)))) 20 (by kernel_rfl) ?_ (fun hHeld=>?_))
      ·exact hS10.out _ (Below.refl wr.heap.size wr).drew
      (refine wpZ_take (i:=0) (v:=?_) rfl (by kernel_rfl) (by decide) (by kernel_rfl) (by kernel_rfl) (by kernel_rfl) (fun _ _ _ h=>h) (Or.inl ⟨by rfl,?_⟩) (by assumption) ?_)
      rotate_left
      ·(intro w hSw;(try dsimp only at hSw);skip;go_simp;first | done | with_reducible rfl)
      (try simp only [Act.put,List.setIfInBounds_toArray,List.set_cons_zero,List.set_cons_succ])
      (refine wpZ_take (i:=1) (v:=?_) rfl (by kernel_rfl) (by decide) (by kernel_rfl) (by kernel_rfl) (by kernel_rfl) (fun _ _ _ h=>h) (Or.inl ⟨by rfl,?_⟩) (by assumption) ?_)
      rotate_left
      ·(intro w hSw;(try dsimp only at hSw);skip;go_simp;first | done | with_reducible rfl)
      (try simp only [Act.put,List.setIfInBounds_toArray,List.set_cons_zero,List.set_cons_succ])
      (refine wpZ_take (i:=2) (v:=?_) rfl (by kernel_rfl) (by decide) (by kernel_rfl) (by kernel_rfl) (by kernel_rfl) (fun _ _ _ h=>h) (Or.inl ⟨by rfl,?_⟩) (by assumption) ?_)
      rotate_left
      ·(intro w hSw;(try dsimp only at hSw);skip;go_simp;first | done | with_reducible rfl)
      (try simp only [Act.put,List.setIfInBounds_toArray,List.set_cons_zero,List.set_cons_succ])
      (refine wpZ_take (i:=3) (v:=?_) rfl (by kernel_rfl) (by decide) (by kernel_rfl) (by kernel_rfl) (by kernel_rfl) (fun _ _ _ h=>h) (Or.inl ⟨by rfl,?_⟩) (by assumption) ?_)
      rotate_left
      ·(intro w hSw;(try dsimp only at hSw);skip;go_simp;first | done | with_reducible rfl)
      (try simp only [Act.put,List.setIfInBounds_toArray,List.set_cons_zero,List.set_cons_succ])
      (refine wpZ_take (i:=4) (v:=?_) rfl (by kernel_rfl) (by decide) (by kernel_rfl) (by kernel_rfl) (by kernel_rfl) (fun _ _ _ h=>h) (Or.inl ⟨by rfl,?_⟩) (by assumption) ?_)
      rotate_left
      ·(intro w hSw;(try dsimp only at hSw);skip;go_simp;first | done | with_reducible rfl)
      (try simp only [Act.put,List.setIfInBounds_toArray,List.set_cons_zero,List.set_cons_succ])
      (refine wpZ_take (i:=5) (v:=?_) rfl (by kernel_rfl) (by decide) (by kernel_rfl) (by kernel_rfl) (by kernel_rfl) (fun _ _ _ h=>h) (Or.inl ⟨by rfl,?_⟩) (by assumption) ?_)
      rotate_left
      ·(intro w hSw;(try dsimp only at hSw);obtain ⟨⟨⟨s0,s1⟩,s2,s3⟩,s4,s5,s6⟩:=hSw;go_simp;first | done | with_reducible rfl)
      (try simp only [Act.put,List.setIfInBounds_toArray,List.set_cons_zero,List.set_cons_succ])
      (refine wpZ_take (i:=6) (v:=?_) rfl (by kernel_rfl) (by decide) (by kernel_rfl) (by kernel_rfl) (by kernel_rfl) (fun _ _ _ h=>h) (Or.inl ⟨by rfl,?_⟩) (by assumption) ?_)
      rotate_left
      ·(intro w hSw;(try dsimp only at hSw);skip;go_simp;first | done | with_reducible rfl)
      (try simp only [Act.put,List.setIfInBounds_toArray,List.set_cons_zero,List.set_cons_succ])
      (refine wpZ_take (i:=7) (v:=?_) rfl (by kernel_rfl) (by decide) (by kernel_rfl) (by kernel_rfl) (by kernel_rfl) (fun _ _ _ h=>h) (Or.inl ⟨by rfl,?_⟩) (by assumption) ?_)
      rotate_left
      ·(intro w hSw;(try dsimp only at hSw);skip;go_simp;first | done | with_reducible rfl)
      (try simp only [Act.put,List.setIfInBounds_toArray,List.set_cons_zero,List.set_cons_succ])
      (refine wpZ_take (i:=8) (v:=?_) rfl (by kernel_rfl) (by decide) (by kernel_rfl) (by kernel_rfl) (by kernel_rfl) (fun _ _ _ h=>h) (Or.inl ⟨by rfl,?_⟩) (by assumption) ?_)
      rotate_left
      ·(intro w hSw;(try dsimp only at hSw);obtain ⟨⟨⟨s0,s1⟩,s2,s3⟩,s4,s5,s6⟩:=hSw;go_simp;first | done | with_reducible rfl)
      (try simp only [Act.put,List.setIfInBounds_toArray,List.set_cons_zero,List.set_cons_succ])
      (refine wpZ_take (i:=9) (v:=?_) rfl (by kernel_rfl) (by decide) (by kernel_rfl) (by kernel_rfl) (by kernel_rfl) (fun _ _ _ h=>h) (Or.inl ⟨by rfl,?_⟩) (by assumption) ?_)
      rotate_left
      ·(intro w hSw;(try dsimp only at hSw);skip;go_simp;first | done | with_reducible rfl)
      (try simp only [Act.put,List.setIfInBounds_toArray,List.set_cons_zero,List.set_cons_succ])
      (refine wpZ_take (i:=10) (v:=?_) rfl (by kernel_rfl) (by decide) (by kernel_rfl) (by kernel_rfl) (by kernel_rfl) (fun _ _ _ h=>h) (Or.inl ⟨by rfl,?_⟩) (by assumption) ?_)
      rotate_left
      ·(intro w hSw;(try dsimp only at hSw);skip;go_simp;first | done | with_reducible rfl)
      (try simp only [Act.put,List.setIfInBounds_toArray,List.set_cons_zero,List.set_cons_succ])
      (refine wpZ_take (i:=11) (v:=?_) rfl (by kernel_rfl) (by decide) (by kernel_rfl) (by kernel_rfl) (by kernel_rfl) (fun _ _ _ h=>h) (Or.inl ⟨by rfl,?_⟩) (by assumption) ?_)
      rotate_left
      ·(intro w hSw;(try dsimp only at hSw);skip;go_simp;first | done | with_reducible rfl)
      (try simp only [Act.put,List.setIfInBounds_toArray,List.set_cons_zero,List.set_cons_succ])
      (refine wpZ_take (i:=12) (v:=?_) rfl (by kernel_rfl) (by decide) (by kernel_rfl) (by kernel_rfl) (by kernel_rfl) (fun _ _ _ h=>h) (Or.inl ⟨by rfl,?_⟩) (by assumption) ?_)
      rotate_left
      ·(intro w hSw;(try dsimp only at hSw);obtain ⟨⟨⟨s0,s1⟩,s2,s3⟩,s4,s5,s6⟩:=hSw;go_simp;first | done | with_reducible rfl)
      (try simp only [Act.put,List.setIfInBounds_toArray,List.set_cons_zero,List.set_cons_succ])
      (refine wpZ_take (i:=13) (v:=?_) rfl (by kernel_rfl) (by decide) (by kernel_rfl) (by kernel_rfl) (by kernel_rfl) (fun _ _ _ h=>h) (Or.inl ⟨by rfl,?_⟩) (by assumption) ?_)
      rotate_left
      ·(intro w hSw;(try dsimp only at hSw);skip;go_simp;first | done | with_reducible rfl)
      (try simp only [Act.put,List.setIfInBounds_toArray,List.set_cons_zero,List.set_cons_succ])
      (refine wpZ_take (i:=14) (v:=?_) rfl (by kernel_rfl) (by decide) (by kernel_rfl) (by kernel_rfl) (by kernel_rfl) (fun _ _ _ h=>h) (Or.inl ⟨by rfl,?_⟩) (by assumption) ?_)
      rotate_left
      ·(intro w hSw;(try dsimp only at hSw);skip;go_simp;first | done | with_reducible rfl)
      (try simp only [Act.put,List.setIfInBounds_toArray,List.set_cons_zero,List.set_cons_succ])
      (refine wpZ_take (i:=15) (v:=?_) rfl (by kernel_rfl) (by decide) (by kernel_rfl) (by kernel_rfl) (by kernel_rfl) (fun _ _ _ h=>h) (Or.inl ⟨by rfl,?_⟩) (by assumption) ?_)
      rotate_left
      ·(intro w hSw;(try dsimp only at hSw);obtain ⟨⟨⟨s0,s1⟩,s2,s3⟩,s4,s5,s6⟩:=hSw;go_simp;first | done | with_reducible rfl)
      (try simp only [Act.put,List.setIfInBounds_toArray,List.set_cons_zero,List.set_cons_succ])
      (refine wpZ_take (i:=16) (v:=?_) rfl (by kernel_rfl) (by decide) (by kernel_rfl) (by kernel_rfl) (by kernel_rfl) (fun _ _ _ h=>h) (Or.inl ⟨by rfl,?_⟩) (by assumption) ?_)
      rotate_left
      ·(intro w hSw;(try dsimp only at hSw);skip;go_simp;first | done | with_reducible rfl)
      (try simp only [Act.put,List.setIfInBounds_toArray,List.set_cons_zero,List.set_cons_succ])
      (refine wpZ_take (i:=17) (v:=?_) rfl (by kernel_rfl) (by decide) (by kernel_rfl) (by kernel_rfl) (by kernel_rfl) (fun _ _ _ h=>h) (Or.inl ⟨by rfl,?_⟩) (by assumption) ?_)
      rotate_left
      ·(intro w hSw;(try dsimp only at hSw);obtain ⟨⟨⟨s0,s1⟩,s2,s3⟩,s4,s5,s6⟩:=hSw;go_simp;first | done | with_reducible rfl)
      (try simp only [Act.put,List.setIfInBounds_toArray,List.set_cons_zero,List.set_cons_succ])
      (refine wpZ_one (i:=18) (by kernel_rfl) rfl (fun K hK=>?_))
      ((rw [if_pos (by rfl)]);go_simp;(go_at_call 94);refine (qu _).mono ?_;rintro e w9 ⟨rfl,hx9⟩;have hx9d:=((Below.refl wr.heap.size wr).drew).trans hx9;refine hK.out _ _ (hS10.out _ hx9d) (fun hHeld=>?_))
      (clear hK K)
      (try simp only [Act.put,List.setIfInBounds_toArray,List.set_cons_zero,List.set_cons_succ])
      (refine wpZ_take (i:=19) (v:=?_) rfl (by kernel_rfl) (by decide) (by kernel_rfl) (by kernel_rfl) (by kernel_rfl) (fun _ _ _ h=>h) (Or.inl ⟨by rfl,?_⟩) (by assumption) ?_)
      rotate_left
      ·(intro w hSw;(try dsimp only at hSw);skip;go_simp;first | done | with_reducible rfl)
      (try simp only [Act.put,List.setIfInBounds_toArray,List.set_cons_zero,List.set_cons_succ])
      clear hHeld
      have hJ9:=hJ.out.next hx9d
      obtain ⟨⟨z0,z1⟩,fz0,fz1⟩:=hJ9.2.1.cell (j:=k) hlt
      have hnx:=hJ9.set k (s ||| t)
      rw [vvF_set] at hnx
      replace hnx:Hid (NvI w1 g nl.length (vvF nl k ((ip.take (j+1)).foldl (fun s c=>s ||| L.vset nl c) s0)) _):=Lib.hid (by rw [htk.out];exact hnx)
      clear hJ9 hx9 hx9d qu
      (refine wpZ_last (by kernel_rfl) rfl (by kernel_rfl) (fun K hK=>?_))
      ((rw [if_pos (by rfl)]);go_simp;refine hK.out _ _ ?_)
      (clear hK K)
      (try simp only [Act.put,List.setIfInBounds_toArray,List.set_cons_zero,List.set_cons_succ])
      go_wp2_with fail
      go_roundw
      case rel=>exact ⟨j+1,by omega,by go_num,hnx⟩
      case measure=>simp [intOf];omega
     ·obtain rfl:j = ip.length:=by omega
      have dj:decide ((ip.length:Int) < (ip.length:Int)) = false:=decide_eq_false (by omega)
      have hnx:=hJ.out
      rw [List.take_length,←hst.out,vvF_next] at hnx
      replace hnx:=Lib.hid hnx
      clear hJ
      go_wp2_with fail
      go_roundw
      case rel=>exact ⟨k+1,by omega,by go_num,hnx⟩
      case measure=>simp [intOf];omega
  ·obtain rfl:k = nl.length:=by omega
   have dk:decide ((nl.length:Int) < (nl.length:Int)) = false:=decide_eq_false (by omega)
   have hfin:Hid (SetsAt wr g nl.length (L.vset nl)∧Below w.heap.size w wr):=Lib.hid ⟨by
    obtain ⟨c,h1,h2,h3⟩:=hI.out.2.1
    refine ⟨c,h1,h2,fun j hj=>?_⟩
    have:=h3 j hj
    unfold vvF at this
    rwa [if_pos hj] at this,hx1.out.below.trans (hI.out.1.mono hx1.out.size)⟩
   have hge:Hid (w.heap.size≤g):=Lib.hid hg1
   clear hI
   go_wp2_with fail
   go_ret
   exact ⟨_,hge.out,rfl,hfin.out.1,hfin.out.2⟩
end Go.Proofs.YtckhohpbokojdaaGreatDoor
