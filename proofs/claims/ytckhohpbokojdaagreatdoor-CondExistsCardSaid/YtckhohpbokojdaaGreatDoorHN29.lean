import Derived.Test.YtckhohpbokojdaaGreatDoorHN28
set_option linter.unusedSimpArgs false
set_option linter.unusedVariables false
namespace Go.Proofs.YtckhohpbokojdaaGreatDoor
open Go Go.RowKit Go.Shelf
def evV (f:Nat→Bool) (k:Nat):Nat→Value:=fun j=>.bool (if j < k then f j else false)
theorem evV_set (f:Nat→Bool) (k:Nat):∀ j,putF (evV f k) k (.bool (f k)) j = evV f (k+1) j:=fun j=>by
 unfold putF evV
 by_cases h:j = k
 ·subst h;rw [if_pos rfl,if_pos (Nat.lt_succ_self _)]
 ·rw [if_neg h]
  by_cases h2:j < k
  ·rw [if_pos h2,if_pos (by omega)]
  ·rw [if_neg h2,if_neg (by omega)]
theorem evV_skip {f:Nat→Bool} {k:Nat} (h:f k = false):∀ j,evV f k j = evV f (k+1) j:=fun j=>by
 unfold evV
 by_cases h:j = k
 ·subst h;rw [if_neg (Nat.lt_irrefl _),if_pos (Nat.lt_succ_self _)];rw [‹f j = false›]
 ·by_cases h2:j < k
  ·rw [if_pos h2,if_pos (by omega)]
  ·rw [if_neg h2,if_neg (by omega)]
def EvI (w3:World) (m:Nat) (A:Nat→Value) (V:World):Prop:=Below w3.heap.size w3 V∧V.heap[w3.heap.size+1]? = some (.cells #[.slice (some ⟨w3.heap.size,0,none⟩) m m] 69 (0,0))∧RowF V w3.heap.size 4 m A
section
variable {w3 V V':World} {m:Nat} {A:Nat→Value}
theorem EvI.next (h:EvI w3 m A V) (hb:Below V.heap.size V V'):EvI w3 m A V':=⟨h.1.trans (hb.mono h.1.size),(hb.block _ (Array.getElem?_eq_some_iff.1 h.2.1).1).trans h.2.1,h.2.2.below hb⟩
theorem EvI.set (h:EvI w3 m A V) (k:Nat) (v:Value):EvI w3 m (putF A k v) (V.setCell ⟨w3.heap.size,k,none⟩ v):=⟨h.1.setCell (p:=⟨w3.heap.size,k,none⟩) (Nat.le_refl _) _,(Below.heap_setCell _ _ _ _ (show w3.heap.size+1≠w3.heap.size by omega)).trans h.2.1,h.2.2.set k v⟩
theorem EvI.congr {A':Nat→Value} (h:EvI w3 m A V) (hA:∀ k,A k = A' k):EvI w3 m A' V:=by
 rw [←show A = A' from funext hA];exact h
end
section
variable {gi ib m k:Nat} {f:Nat→Bool} {x:Nat} {w:World}
set_option maxRecDepth 100000 in
set_option maxHeartbeats 1000000 in
theorem eval1_any (h0:w.cell? ⟨ib,0,none⟩ = some (.slice (some ⟨gi,0,none⟩) m m)) (h1:w.cell? ⟨gi,x,none⟩ = some (.bool (f x))) (hx:x < m):Calls Tryz.prog 50 #[.int .i64 (x:Nat),.pointer (some ⟨ib,0,none⟩)] w fun e w'=>e = .returned (.bool (!f x))∧w = w':=by
 have g0:(0:Int)≤(x:Int):=by omega
 have g1:(x:Int) < (m:Int):=by omega
 generalize f x = b at *
 go_enter Tryz.func50,Tryz.ntmps50
 go_wp2_with fail
 go_ret
 exact ⟨rfl,rfl⟩
set_option maxRecDepth 100000 in
set_option maxHeartbeats 1000000 in
theorem eval2_any (h0:w.cell? ⟨ib,0,none⟩ = some (.slice (some ⟨gi,0,none⟩) m m)) (h1:w.cell? ⟨gi,x,none⟩ = some (.bool (f x))) (hx:x < m):Calls Tryz.prog 51 #[.int .i64 (x:Nat),.pointer (some ⟨ib,0,none⟩)] w fun e w'=>e = .returned (.bool (f x))∧w = w':=by
 have g0:(0:Int)≤(x:Int):=by omega
 have g1:(x:Int) < (m:Int):=by omega
 generalize f x = b at *
 go_enter Tryz.func51,Tryz.ntmps51
 go_wp2_with fail
 go_ret
 exact ⟨rfl,rfl⟩
end
theorem any_castL (l:List Nat) (p:Int→Bool):(castL l).any p = l.any fun k=>p (k:Nat):=by
 unfold castL
 rw [List.any_map];rfl
set_option maxRecDepth 100000 in
set_option maxHeartbeats 40000000 in
theorem neval_any {n:Int} {nl:List L.ND} {a:VSet} {v:Value} {w:World} (hv:SlC w v (nl.map L.ofND)) (hc:L.netChk n (nl.map L.ofND) = 0) (hl:nl.length≤65536) (h2:∀ y∈nl,y.inp.length≤100000) :
  Calls Tryz.prog 19 #[.agg #[.int .i64 n,v],.agg #[.int .u64 (lo a),.int .u64 (hi a)]] w fun e w'=>e = .returned (.bool (L.tv nl (L.asg a) (nl.length - 1)))∧Below w.heap.size w w':=by
 have hnok:L.NOK n nl:=by
  have:=(L.net_nok hc).1
  rwa [List.map_map,show (L.toND ∘ L.ofND) = id from funext L.toND_ofND,List.map_id] at this
 obtain ⟨hn,hl1,hall⟩:=L.netChk_ok.1 hc
 rw [List.length_map] at hl1
 obtain ⟨ba,cp,rfl,hcs⟩:=hv.shape
 have hcell:∀ k (hk:k < nl.length),∃ b o bb cc,ba = some ⟨b,o,none⟩∧w.cell? ⟨b,o+k * 3,none⟩ = some (.int .i64 nl[k].kind)∧w.cell? ⟨b,o+k * 3+1,none⟩ = some (.int .i64 nl[k].lit)∧w.cell? ⟨b,o+k * 3+2,none⟩ = some (.slice bb nl[k].inp.length cc)∧SlI w (.slice bb nl[k].inp.length cc) (castL nl[k].inp):=fun k hk=>by
  obtain ⟨b,o,bb,cc,h1,f0,f1,f2,fin⟩:=hcs k (by rw [List.length_map];exact hk)
  rw [List.getElem_map] at f0 f1 f2 fin
  have e:(L.ofND nl[k]).inp.length = nl[k].inp.length:=castL_len nl[k].inp
  rw [e] at f2 fin
  exact ⟨b,o,bb,cc,h1,f0,f1,f2,fin⟩
 rw [List.length_map] at hv ⊢
 have hx2:Ext w ((w.alloc (.cells #[.int .i64 n,.slice ba nl.length cp] 24)).alloc (.cells #[.int .u64 (lo a),.int .u64 (hi a)] 37)):=((Ext.refl w).alloc _).alloc _
 obtain ⟨e0,e1⟩:=alloc2h w (.cells #[.int .i64 n,.slice ba nl.length cp] 24) (.cells #[.int .u64 (lo a),.int .u64 (hi a)] 37)
 have p0:((w.alloc (.cells #[.int .i64 n,.slice ba nl.length cp] 24)).alloc (.cells #[.int .u64 (lo a),.int .u64 (hi a)] 37)).cell? ⟨w.heap.size,0,none⟩ = some (.int .i64 n):=by rw [World.cell?,e0];rfl
 have p1:((w.alloc (.cells #[.int .i64 n,.slice ba nl.length cp] 24)).alloc (.cells #[.int .u64 (lo a),.int .u64 (hi a)] 37)).cell? ⟨w.heap.size,1,none⟩ = some (.slice ba nl.length cp):=by rw [World.cell?,e0];rfl
 have q1:=ncheck_any (n:=n) (hv.ext hx2.below) (fun g hg=>by
  obtain ⟨y,hy,rfl⟩:=List.mem_map.1 hg
  have:=h2 y hy
  have e:(L.ofND y).inp.length = y.inp.length:=castL_len y.inp
  omega) (by rw [List.length_map];omega)
 rw [hc] at q1
 obtain ⟨f,hf⟩:∃ f,f = L.tv nl (L.asg a):=⟨_,rfl⟩
 have hstep:∀ k (hk:k < nl.length),f k = L.valND f (L.asg a) nl[k]:=fun k hk=>by rw [hf];exact L.tv_at hnok.kids (List.getElem?_eq_getElem hk)
 rw [←hf]
 obtain ⟨T,hT⟩:∃ T,T = f (nl.length - 1):=⟨_,rfl⟩
 rw [←hT]
 replace hT:=Lib.hid hT
 have hmk:∀ W,(Instr.makeSlice 69 (.int .i64 (nl.length:Nat)) (.int .i64 (nl.length:Nat))).run Tryz.prog W = .ok (.slice (some ⟨W.heap.size,0,none⟩) nl.length nl.length) (W.alloc (.cells (madeCells #[.bool false] nl.length) 4)):=fun W=>make_row (by_:=1) Tryz.underlying69 (show (Tryz.prog.info? 4).map (fun i=>(i.zero,i.size,i.bytes)) = some (some (.bool false),1,1) by kernel_rfl) rfl nl.length (by omega) (by omega) W
 have hmf:∀ (fn:Fn) (first cap:Array Value) (w:World),(Instr.makeFunc fn first cap).run Tryz.prog w = .ok (.func fn first cap) w:=fun _ _ _ _=>rfl
 have hK1:∀ (c:Array Value) (w:World),(callFunc 50 c).run Tryz.prog w = .ok (.enter 50 c) w:=fun c w=>by simp [go_sem,Tryz.func50]
 have hK2:∀ (c:Array Value) (w:World),(callFunc 51 c).run Tryz.prog w = .ok (.enter 51 c) w:=fun c w=>by simp [go_sem,Tryz.func51]
 replace hK1:=Lib.hid hK1
 replace hK2:=Lib.hid hK2
 replace hf:=Lib.hid hf
 replace hcell:=Lib.hid hcell
 replace hstep:=Lib.hid hstep
 replace h2:=Lib.hid h2
 replace hx2:=Lib.hid hx2
 replace e0:=Lib.hid e0
 replace e1:=Lib.hid e1
 replace hnok:=Lib.hid hnok
 clear hcs hc hv hall
 go_enter Tryz.func19,Tryz.ntmps19
 go_wp2_with fail
 refine q1.mono ?_
 rintro e w3 ⟨rfl,hx3⟩
 have p0':=hx3.cell p0
 have p1':=hx3.cell p1
 have hx03:=Lib.hid (hx2.out.trans hx3)
 have hset3:=(hx3.below.block _ (Array.getElem?_eq_some_iff.1 e1.out).1).trans e1.out
 have hx5:Ext w3 ((w3.alloc (.cells (madeCells #[.bool false] nl.length) 4)).alloc (.cells #[.slice (some ⟨w3.heap.size,0,none⟩) nl.length nl.length] 69)):=((Ext.refl w3).alloc _).alloc _
 have p15:=hx5.cell p1'
 have hI0:Hid (EvI w3 nl.length (evV f 0) ((w3.alloc (.cells (madeCells #[.bool false] nl.length) 4)).alloc (.cells #[.slice (some ⟨w3.heap.size,0,none⟩) nl.length nl.length] 69))):=Lib.hid (by
  obtain ⟨h0,h1⟩:=alloc2h w3 (.cells (madeCells #[.bool false] nl.length) 4) (.cells #[.slice (some ⟨w3.heap.size,0,none⟩) nl.length nl.length] 69)
  have hr:=rowNew w3 nl.length (.bool false) 4 w3.heap.size rfl
  refine ⟨hx5.below,h1,(hr.ext ((Ext.refl _).alloc _)).congr fun j hj=>?_⟩
  unfold evV
  rw [if_neg (Nat.not_lt_zero _)])
 replace hset3:=Lib.hid hset3
 clear q1 p0 p1 e0 e1 hx2 hx3 p0' hx5
 go_wp2_with fail
 generalize ((w3.alloc (.cells (madeCells #[.bool false] nl.length) 4)).alloc (.cells #[.slice (some ⟨w3.heap.size,0,none⟩) nl.length nl.length] 69)) = w5 at *
 clear p1' p15
 go_loopw [18] (fun i wr=>∃ k:Nat,k≤nl.length∧i = .int .i64 (k:Nat)∧Hid (EvI w3 nl.length (evV f k) wr)) (fun i _=>nl.length - (intOf i).toNat)
 case atStart=>exact ⟨0,Nat.zero_le _,rfl,hI0⟩
 case round =>
  clear hI0
  obtain ⟨k,hk,rfl,hI⟩:=hrel
  by_cases hlt:k < nl.length
  ·have q0:(0:Int)≤(k:Int):=by omega
   have q1:(k:Int) < (nl.length:Int):=by omega
   obtain ⟨b,o,bb,cc,rfl,f0,f1,f2,fin⟩:=hcell.out k hlt
   have hxw:Below w.heap.size w wr:=hx03.out.below.trans (hI.out.1.mono hx03.out.size)
   have k0:=(hxw.cell (World.block_lt_of_cell? w _ f0)).trans f0
   have k1:=(hxw.cell (World.block_lt_of_cell? w _ f1)).trans f1
   have k2:=(hxw.cell (World.block_lt_of_cell? w _ f2)).trans f2
   have hkid:=hnok.out.kids k hlt
   have hform:=hnok.out.form _ (List.getElem_mem hlt)
   have hilen:=h2.out _ (List.getElem_mem hlt)
   have hst:=hstep.out k hlt
   generalize nl[k] = y at *
   obtain ⟨kd,lt,ip⟩:=y
   dsimp only at *
   have hxx:=(Ext.refl wr).alloc (.cells #[.int .i64 kd,.int .i64 lt,.slice bb ip.length cc] 40)
   have hxn:=heap_alloc_new wr (.cells #[.int .i64 kd,.int .i64 lt,.slice bb ip.length cc] 40)
   have hI6:=hI.out.next hxx.below
   have hS:∀ V,Below (wr.alloc (.cells #[.int .i64 kd,.int .i64 lt,.slice bb ip.length cc] 40)).heap.size (wr.alloc (.cells #[.int .i64 kd,.int .i64 lt,.slice bb ip.length cc] 40)) V→V.cell? ⟨w3.heap.size+1,0,none⟩ = some (.slice (some ⟨w3.heap.size,0,none⟩) nl.length nl.length)∧(V.cell? ⟨w.heap.size+1,0,none⟩ = some (.int .u64 (lo a))∧V.cell? ⟨w.heap.size+1,1,none⟩ = some (.int .u64 (hi a)))∧V.cell? ⟨wr.heap.size,1,none⟩ = some (.int .i64 lt)∧V.cell? ⟨wr.heap.size,2,none⟩ = some (.slice bb ip.length cc):=fun V hV=>by
    have hIV:=hI6.next hV
    have x0:=(hV.block _ (Array.getElem?_eq_some_iff.1 hxn).1).trans hxn
    have s0:=(hIV.1.block _ (Array.getElem?_eq_some_iff.1 hset3.out).1).trans hset3.out
    exact ⟨by rw [World.cell?,hIV.2.1];rfl,⟨by rw [World.cell?,s0];rfl,by rw [World.cell?,s0];rfl⟩,by rw [World.cell?,x0];rfl,by rw [World.cell?,x0];rfl⟩
   obtain ⟨u0,⟨u1,u2⟩,u3,u4⟩:=hS _ (Below.refl _ _)
   have u5:(wr.alloc (.cells #[.int .i64 kd,.int .i64 lt,.slice bb ip.length cc] 40)).cell? ⟨wr.heap.size,0,none⟩ = some (.int .i64 kd):=by rw [World.cell?,hxn];rfl
   have hfin6:=(fin.ext hxw).ext hxx.below
   have hrow6:∀ (V:World),Below (wr.alloc (.cells #[.int .i64 kd,.int .i64 lt,.slice bb ip.length cc] 40)).heap.size (wr.alloc (.cells #[.int .i64 kd,.int .i64 lt,.slice bb ip.length cc] 40)) V→∀ x∈ip,V.cell? ⟨w3.heap.size,x,none⟩ = some (.bool (f x)):=fun V hV x hx=>by
    have hxk:=hkid x hx
    have:=((hI6.next hV).2.2.cell (j:=x) (by omega)).1
    unfold evV at this
    rwa [if_pos hxk] at this
   obtain ⟨z0,z1⟩:=hI6.2.2.cell (j:=k) hlt
   obtain ⟨xb,hxb⟩:∃ x,x = wr.heap.size:=⟨_,rfl⟩
   replace hS:=Lib.hid hS
   replace hrow6:=Lib.hid hrow6
   replace hfin6:=Lib.hid hfin6
   replace hI6:=Lib.hid hI6
   replace hI:=Lib.hid hI.out
   replace hkid:=Lib.hid hkid
   clear f0 f1 f2 fin hxx hxw hxn
   have hkk:kd = 0∨kd = 1∨kd = 2∨kd = 3∨kd = 4:=by rcases hform with h | h | h <;> omega
   rcases hkk with rfl | rfl | rfl | rfl | rfl
   ·have hfk:f k = false:=by rw [hst];simp [L.valND]
    have hnx:=Lib.hid (hI6.out.congr (evV_skip hfk))
    clear hst z0 z1 hform hfk
    go_wp2_with fail
    go_roundw
    case rel=>exact ⟨k+1,by omega,by go_num,hnx⟩
    case measure=>simp [intOf];omega
   ·have hfk:f k = true:=by rw [hst];simp [L.valND]
    have hnx:=(hI6.out.set k (.bool (f k))).congr (evV_set f k)
    rw [hfk] at hnx
    replace hnx:=Lib.hid hnx
    unfold evV at z0
    rw [if_neg (Nat.lt_irrefl _)] at z0
    clear hst hform hfk
    go_wp2_with fail
    go_roundw
    case rel=>exact ⟨k+1,by omega,by go_num,hnx⟩
    case measure=>simp [intOf];omega
   ·have hfk:f k = L.liφ lt (L.asg a):=by rw [hst];simp [L.valND,L.liφ]
    have hval:L.validB n lt = true:=by
     rcases hform with h | h | h
     ·omega
     ·unfold L.validB;simp only [Bool.and_eq_true,decide_eq_true_eq];exact h.2.1
     ·omega
    have q:∀ V,Below (wr.alloc (.cells #[.int .i64 2,.int .i64 lt,.slice bb ip.length cc] 40)).heap.size (wr.alloc (.cells #[.int .i64 2,.int .i64 lt,.slice bb ip.length cc] 40)) V→Calls Tryz.prog 48 #[.agg #[.int .u64 (lo a),.int .u64 (hi a)],.int .i64 lt] V fun e V'=>e = .returned (.bool (f k))∧Below (wr.alloc (.cells #[.int .i64 2,.int .i64 lt,.slice bb ip.length cc] 40)).heap.size (wr.alloc (.cells #[.int .i64 2,.int .i64 lt,.slice bb ip.length cc] 40)) V':=fun V hV=>by
     rw [hfk]
     exact (holds_any hn.2 hval a V).mono fun e V' h=>⟨h.1,hV.trans (h.2.below.mono hV.size)⟩
    replace q:=Lib.hid q
    clear hst z0 z1 hform hfk hval
    have hw6:=hxb
    go_wp2_with fail
    rw [←hxb] at *
    generalize (wr.alloc (.cells #[.int .i64 2,.int .i64 lt,.slice bb ip.length cc] 40)) = w6 at *
    clear u0 u1 u2 u3 u4 u5 k0 k1 k2 hw6 hxb
    go_wp2_with fail
    have hd:=(Below.refl w6.heap.size w6).drew
    (refine wp_region_z (S:=(fun V=>V.cell? ⟨w3.heap.size+1,0,none⟩ = some (.slice (some ⟨w3.heap.size,0,none⟩) nl.length nl.length)∧(V.cell? ⟨w.heap.size+1,0,none⟩ = some (.int .u64 (lo a))∧V.cell? ⟨w.heap.size+1,1,none⟩ = some (.int .u64 (hi a)))∧V.cell? ⟨xb,1,none⟩ = some (.int .i64 lt)∧V.cell? ⟨xb,2,none⟩ = some (.slice bb ip.length cc))) 7 (by kernel_rfl) ?_ (fun hHeld=>?_))
    ·exact hS.out _ hd
    (refine wpZ_take (i:=0) (v:=?_) rfl (by kernel_rfl) (by decide) (by kernel_rfl) (by kernel_rfl) (by kernel_rfl) (fun _ _ _ h=>h) (Or.inl ⟨by rfl,?_⟩) (by assumption) ?_)
    rotate_left
    ·(intro w hSw;(try dsimp only at hSw);obtain ⟨s0,⟨s1,s2⟩,s3,s4⟩:=hSw;go_simp;first | done | with_reducible rfl)
    (try simp only [Act.put,List.setIfInBounds_toArray,List.set_cons_zero,List.set_cons_succ])
    (refine wpZ_take (i:=1) (v:=?_) rfl (by kernel_rfl) (by decide) (by kernel_rfl) (by kernel_rfl) (by kernel_rfl) (fun _ _ _ h=>h) (Or.inl ⟨by rfl,?_⟩) (by assumption) ?_)
    rotate_left
    ·(intro w hSw;(try dsimp only at hSw);skip;go_simp;first | done | with_reducible rfl)
    (try simp only [Act.put,List.setIfInBounds_toArray,List.set_cons_zero,List.set_cons_succ])
    (refine wpZ_take (i:=2) (v:=?_) rfl (by kernel_rfl) (by decide) (by kernel_rfl) (by kernel_rfl) (by kernel_rfl) (fun _ _ _ h=>h) (Or.inl ⟨by rfl,?_⟩) (by assumption) ?_)
    rotate_left
    ·(intro w hSw;(try dsimp only at hSw);obtain ⟨s0,⟨s1,s2⟩,s3,s4⟩:=hSw;go_simp;first | done | with_reducible rfl)
    (try simp only [Act.put,List.setIfInBounds_toArray,List.set_cons_zero,List.set_cons_succ])
    (refine wpZ_take (i:=3) (v:=?_) rfl (by kernel_rfl) (by decide) (by kernel_rfl) (by kernel_rfl) (by kernel_rfl) (fun _ _ _ h=>h) (Or.inl ⟨by rfl,?_⟩) (by assumption) ?_)
    rotate_left
    ·(intro w hSw;(try dsimp only at hSw);skip;go_simp;first | done | with_reducible rfl)
    (try simp only [Act.put,List.setIfInBounds_toArray,List.set_cons_zero,List.set_cons_succ])
    (refine wpZ_take (i:=4) (v:=?_) rfl (by kernel_rfl) (by decide) (by kernel_rfl) (by kernel_rfl) (by kernel_rfl) (fun _ _ _ h=>h) (Or.inl ⟨by rfl,?_⟩) (by assumption) ?_)
    rotate_left
    ·(intro w hSw;(try dsimp only at hSw);obtain ⟨s0,⟨s1,s2⟩,s3,s4⟩:=hSw;go_simp;first | done | with_reducible rfl)
    (try simp only [Act.put,List.setIfInBounds_toArray,List.set_cons_zero,List.set_cons_succ])
    (refine wpZ_one (i:=5) (by kernel_rfl) rfl (fun K hK=>?_))
    ((rw [if_pos (by rfl)]);go_simp;(go_at_call 48);refine (q.out _ hd).mono ?_;rintro e w7 ⟨rfl,hb7⟩;refine hK.out _ _ (hS.out _ hb7) (fun hHeld=>?_))
    (clear hK K)
    (try simp only [Act.put,List.setIfInBounds_toArray,List.set_cons_zero,List.set_cons_succ])
    (refine wpZ_take (i:=6) (v:=?_) rfl (by kernel_rfl) (by decide) (by kernel_rfl) (by kernel_rfl) (by kernel_rfl) (fun _ _ _ h=>h) (Or.inl ⟨by rfl,?_⟩) (by assumption) ?_)
    rotate_left
    ·(intro w hSw;(try dsimp only at hSw);skip;go_simp;first | done | with_reducible rfl)
    (try simp only [Act.put,List.setIfInBounds_toArray,List.set_cons_zero,List.set_cons_succ])
    clear hHeld
    have hI7:=hI6.out.next hb7
    obtain ⟨z0,z1⟩:=hI7.2.2.cell (j:=k) hlt
    unfold evV at z0
    rw [if_neg (Nat.lt_irrefl _)] at z0
    have hnx:=Lib.hid ((hI7.set k (.bool (f k))).congr (evV_set f k))
    generalize f k = T at *
    clear hI7 hb7 hd q
    (refine wpZ_last (by kernel_rfl) rfl (by kernel_rfl) (fun K hK=>?_))
    ((rw [if_pos (by rfl)]);go_simp;refine hK.out _ _ ?_)
    (clear hK K)
    (try simp only [Act.put,List.setIfInBounds_toArray,List.set_cons_zero,List.set_cons_succ])
    go_wp2_with fail
    go_roundw
    case rel=>exact ⟨k+1,by omega,by go_num,hnx⟩
    case measure=>simp [intOf];omega
   ·have hfk:f k = !(ip.any fun x=>!f x):=by rw [hst];simp [L.valND,List.all_eq_not_any_not]
    have q:∀ V,Below (wr.alloc (.cells #[.int .i64 3,.int .i64 lt,.slice bb ip.length cc] 40)).heap.size (wr.alloc (.cells #[.int .i64 3,.int .i64 lt,.slice bb ip.length cc] 40)) V→Calls Tryz.prog 49 #[.slice bb ip.length cc,.func (.func 50) #[] #[.pointer (some ⟨w3.heap.size+1,0,none⟩)]] V fun e V'=>e = .returned (.bool (!f k))∧Below (wr.alloc (.cells #[.int .i64 3,.int .i64 lt,.slice bb ip.length cc] 40)).heap.size (wr.alloc (.cells #[.int .i64 3,.int .i64 lt,.slice bb ip.length cc] 40)) V':=fun V hV=>by
     have:=containsFunc_any (fm:=50) (q:=.pointer (some ⟨w3.heap.size+1,0,none⟩)) hK1.out (fun V=>Below (wr.alloc (.cells #[.int .i64 3,.int .i64 lt,.slice bb ip.length cc] 40)).heap.size (wr.alloc (.cells #[.int .i64 3,.int .i64 lt,.slice bb ip.length cc] 40)) V) (p:=fun z=>!f z.toNat) (l:=castL ip) (v:=.slice bb ip.length cc) (w:=V) (fun V hV=>hfin6.out.ext hV) (by rw [castL_len];omega) hV (fun j hj V hV=>by
      have hj':j < ip.length:=by rw [castL_len] at hj;exact hj
      have hx:=hkid.out _ (List.getElem_mem hj')
      rw [castL_at ip hj' hj]
      exact (eval1_any (f:=f) (hS.out V hV).1 (hrow6.out V hV _ (List.getElem_mem hj')) (by omega)).mono fun e V' h=>⟨by rw [h.1];rfl,by rw [←h.2];exact hV⟩)
     rw [any_castL] at this
     rw [hfk,Bool.not_not]
     exact this
    replace q:=Lib.hid q
    clear hst z0 z1 hform hfk
    go_wp2_with fail
    rw [←hxb] at *
    generalize (wr.alloc (.cells #[.int .i64 3,.int .i64 lt,.slice bb ip.length cc] 40)) = w6 at *
    clear u0 u1 u2 u3 u4 u5 k0 k1 k2 hxb
    go_wp2_with fail
    have hd:=(Below.refl w6.heap.size w6).drew
    (refine wp_region_z (S:=(fun V=>V.cell? ⟨w3.heap.size+1,0,none⟩ = some (.slice (some ⟨w3.heap.size,0,none⟩) nl.length nl.length)∧(V.cell? ⟨w.heap.size+1,0,none⟩ = some (.int .u64 (lo a))∧V.cell? ⟨w.heap.size+1,1,none⟩ = some (.int .u64 (hi a)))∧V.cell? ⟨xb,1,none⟩ = some (.int .i64 lt)∧V.cell? ⟨xb,2,none⟩ = some (.slice bb ip.length cc))) 8 (by kernel_rfl) ?_ (fun hHeld=>?_))
    ·exact hS.out _ hd
    (refine wpZ_take (i:=0) (v:=?_) rfl (by kernel_rfl) (by decide) (by kernel_rfl) (by kernel_rfl) (by kernel_rfl) (fun _ _ _ h=>h) (Or.inl ⟨by rfl,?_⟩) (by assumption) ?_)
    rotate_left
    ·(intro w hSw;(try dsimp only at hSw);obtain ⟨s0,⟨s1,s2⟩,s3,s4⟩:=hSw;go_simp;first | done | with_reducible rfl)
    (try simp only [Act.put,List.setIfInBounds_toArray,List.set_cons_zero,List.set_cons_succ])
    (refine wpZ_take (i:=1) (v:=?_) rfl (by kernel_rfl) (by decide) (by kernel_rfl) (by kernel_rfl) (by kernel_rfl) (fun _ _ _ h=>h) (Or.inl ⟨by rfl,?_⟩) (by assumption) ?_)
    rotate_left
    ·(intro w hSw;(try dsimp only at hSw);skip;go_simp;first | done | with_reducible rfl)
    (try simp only [Act.put,List.setIfInBounds_toArray,List.set_cons_zero,List.set_cons_succ])
    (refine wpZ_take (i:=2) (v:=?_) rfl (by kernel_rfl) (by decide) (by kernel_rfl) (by kernel_rfl) (by kernel_rfl) (fun _ _ _ h=>h) (Or.inl ⟨by rfl,?_⟩) (by assumption) ?_)
    rotate_left
    ·(intro w hSw;(try dsimp only at hSw);skip;go_simp;first | done | with_reducible rfl)
    (try simp only [Act.put,List.setIfInBounds_toArray,List.set_cons_zero,List.set_cons_succ])
    (refine wpZ_take (i:=3) (v:=?_) rfl (by kernel_rfl) (by decide) (by kernel_rfl) (by kernel_rfl) (by kernel_rfl) (fun _ _ _ h=>h) (Or.inl ⟨by rfl,?_⟩) (by assumption) ?_)
    rotate_left
    ·(intro w hSw;(try dsimp only at hSw);obtain ⟨s0,⟨s1,s2⟩,s3,s4⟩:=hSw;go_simp;first | done | with_reducible rfl)
    (try simp only [Act.put,List.setIfInBounds_toArray,List.set_cons_zero,List.set_cons_succ])
    (refine wpZ_take (i:=4) (v:=?_) rfl (by kernel_rfl) (by decide) (by kernel_rfl) (by kernel_rfl) (by kernel_rfl) (fun _ _ _ h=>h) (Or.inl ⟨by rfl,?_⟩) (by assumption) ?_)
    rotate_left
    ·(intro w hSw;(try dsimp only at hSw);skip;go_simp;first | done | with_reducible rfl)
    (try simp only [Act.put,List.setIfInBounds_toArray,List.set_cons_zero,List.set_cons_succ])
    (refine wpZ_one (i:=5) (by kernel_rfl) rfl (fun K hK=>?_))
    ((rw [if_pos (by rfl)]);go_simp;(go_at_call 49);refine (q.out _ hd).mono ?_;rintro e w7 ⟨rfl,hb7⟩;refine hK.out _ _ (hS.out _ hb7) (fun hHeld=>?_))
    (clear hK K)
    (try simp only [Act.put,List.setIfInBounds_toArray,List.set_cons_zero,List.set_cons_succ])
    (refine wpZ_take (i:=6) (v:=?_) rfl (by kernel_rfl) (by decide) (by kernel_rfl) (by kernel_rfl) (by kernel_rfl) (fun _ _ _ h=>h) (Or.inl ⟨by rfl,?_⟩) (by assumption) ?_)
    rotate_left
    ·(intro w hSw;(try dsimp only at hSw);skip;go_simp;first | done | with_reducible rfl)
    (try simp only [Act.put,List.setIfInBounds_toArray,List.set_cons_zero,List.set_cons_succ])
    (refine wpZ_take (i:=7) (v:=?_) rfl (by kernel_rfl) (by decide) (by kernel_rfl) (by kernel_rfl) (by kernel_rfl) (fun _ _ _ h=>h) (Or.inl ⟨by rfl,?_⟩) (by assumption) ?_)
    rotate_left
    ·(intro w hSw;(try dsimp only at hSw);skip;go_simp;first | done | with_reducible rfl)
    (try simp only [Act.put,List.setIfInBounds_toArray,List.set_cons_zero,List.set_cons_succ])
    clear hHeld
    have hI7:=hI6.out.next hb7
    obtain ⟨z0,z1⟩:=hI7.2.2.cell (j:=k) hlt
    unfold evV at z0
    rw [if_neg (Nat.lt_irrefl _)] at z0
    have hnx:=Lib.hid ((hI7.set k (.bool (f k))).congr (evV_set f k))
    generalize f k = T at *
    clear hI7 hb7 hd q
    (refine wpZ_last (by kernel_rfl) rfl (by kernel_rfl) (fun K hK=>?_))
    ((rw [if_pos (by rfl)]);go_simp;refine hK.out _ _ ?_)
    (clear hK K)
    (try simp only [Act.put,List.setIfInBounds_toArray,List.set_cons_zero,List.set_cons_succ])
    go_wp2_with fail
    go_roundw
    case rel=>exact ⟨k+1,by omega,by go_num,hnx⟩
    case measure=>simp [intOf];omega
   ·have hfk:f k = (ip.any fun x=>f x):=by rw [hst];simp [L.valND]
    have q:∀ V,Below (wr.alloc (.cells #[.int .i64 4,.int .i64 lt,.slice bb ip.length cc] 40)).heap.size (wr.alloc (.cells #[.int .i64 4,.int .i64 lt,.slice bb ip.length cc] 40)) V→Calls Tryz.prog 49 #[.slice bb ip.length cc,.func (.func 51) #[] #[.pointer (some ⟨w3.heap.size+1,0,none⟩)]] V fun e V'=>e = .returned (.bool (f k))∧Below (wr.alloc (.cells #[.int .i64 4,.int .i64 lt,.slice bb ip.length cc] 40)).heap.size (wr.alloc (.cells #[.int .i64 4,.int .i64 lt,.slice bb ip.length cc] 40)) V':=fun V hV=>by
     have:=containsFunc_any (fm:=51) (q:=.pointer (some ⟨w3.heap.size+1,0,none⟩)) hK2.out (fun V=>Below (wr.alloc (.cells #[.int .i64 4,.int .i64 lt,.slice bb ip.length cc] 40)).heap.size (wr.alloc (.cells #[.int .i64 4,.int .i64 lt,.slice bb ip.length cc] 40)) V) (p:=fun z=>f z.toNat) (l:=castL ip) (v:=.slice bb ip.length cc) (w:=V) (fun V hV=>hfin6.out.ext hV) (by rw [castL_len];omega) hV (fun j hj V hV=>by
      have hj':j < ip.length:=by rw [castL_len] at hj;exact hj
      have hx:=hkid.out _ (List.getElem_mem hj')
      rw [castL_at ip hj' hj]
      exact (eval2_any (f:=f) (hS.out V hV).1 (hrow6.out V hV _ (List.getElem_mem hj')) (by omega)).mono fun e V' h=>⟨by rw [h.1];rfl,by rw [←h.2];exact hV⟩)
     rw [any_castL] at this
     rw [hfk]
     exact this
    replace q:=Lib.hid q
    clear hst z0 z1 hform hfk
    go_wp2_with fail
    rw [←hxb] at *
    generalize (wr.alloc (.cells #[.int .i64 4,.int .i64 lt,.slice bb ip.length cc] 40)) = w6 at *
    clear u0 u1 u2 u3 u4 u5 k0 k1 k2 hxb
    go_wp2_with fail
    have hd:=(Below.refl w6.heap.size w6).drew
    (refine wp_region_z (S:=(fun V=>V.cell? ⟨w3.heap.size+1,0,none⟩ = some (.slice (some ⟨w3.heap.size,0,none⟩) nl.length nl.length)∧(V.cell? ⟨w.heap.size+1,0,none⟩ = some (.int .u64 (lo a))∧V.cell? ⟨w.heap.size+1,1,none⟩ = some (.int .u64 (hi a)))∧V.cell? ⟨xb,1,none⟩ = some (.int .i64 lt)∧V.cell? ⟨xb,2,none⟩ = some (.slice bb ip.length cc))) 7 (by kernel_rfl) ?_ (fun hHeld=>?_))
    ·exact hS.out _ hd
    (refine wpZ_take (i:=0) (v:=?_) rfl (by kernel_rfl) (by decide) (by kernel_rfl) (by kernel_rfl) (by kernel_rfl) (fun _ _ _ h=>h) (Or.inl ⟨by rfl,?_⟩) (by assumption) ?_)
    rotate_left
    ·(intro w hSw;(try dsimp only at hSw);obtain ⟨s0,⟨s1,s2⟩,s3,s4⟩:=hSw;go_simp;first | done | with_reducible rfl)
    (try simp only [Act.put,List.setIfInBounds_toArray,List.set_cons_zero,List.set_cons_succ])
    (refine wpZ_take (i:=1) (v:=?_) rfl (by kernel_rfl) (by decide) (by kernel_rfl) (by kernel_rfl) (by kernel_rfl) (fun _ _ _ h=>h) (Or.inl ⟨by rfl,?_⟩) (by assumption) ?_)
    rotate_left
    ·(intro w hSw;(try dsimp only at hSw);skip;go_simp;first | done | with_reducible rfl)
    (try simp only [Act.put,List.setIfInBounds_toArray,List.set_cons_zero,List.set_cons_succ])
    (refine wpZ_take (i:=2) (v:=?_) rfl (by kernel_rfl) (by decide) (by kernel_rfl) (by kernel_rfl) (by kernel_rfl) (fun _ _ _ h=>h) (Or.inl ⟨by rfl,?_⟩) (by assumption) ?_)
    rotate_left
    ·(intro w hSw;(try dsimp only at hSw);skip;go_simp;first | done | with_reducible rfl)
    (try simp only [Act.put,List.setIfInBounds_toArray,List.set_cons_zero,List.set_cons_succ])
    (refine wpZ_take (i:=3) (v:=?_) rfl (by kernel_rfl) (by decide) (by kernel_rfl) (by kernel_rfl) (by kernel_rfl) (fun _ _ _ h=>h) (Or.inl ⟨by rfl,?_⟩) (by assumption) ?_)
    rotate_left
    ·(intro w hSw;(try dsimp only at hSw);obtain ⟨s0,⟨s1,s2⟩,s3,s4⟩:=hSw;go_simp;first | done | with_reducible rfl)
    (try simp only [Act.put,List.setIfInBounds_toArray,List.set_cons_zero,List.set_cons_succ])
    (refine wpZ_take (i:=4) (v:=?_) rfl (by kernel_rfl) (by decide) (by kernel_rfl) (by kernel_rfl) (by kernel_rfl) (fun _ _ _ h=>h) (Or.inl ⟨by rfl,?_⟩) (by assumption) ?_)
    rotate_left
    ·(intro w hSw;(try dsimp only at hSw);skip;go_simp;first | done | with_reducible rfl)
    (try simp only [Act.put,List.setIfInBounds_toArray,List.set_cons_zero,List.set_cons_succ])
    (refine wpZ_one (i:=5) (by kernel_rfl) rfl (fun K hK=>?_))
    ((rw [if_pos (by rfl)]);go_simp;(go_at_call 49);refine (q.out _ hd).mono ?_;rintro e w7 ⟨rfl,hb7⟩;refine hK.out _ _ (hS.out _ hb7) (fun hHeld=>?_))
    (clear hK K)
    (try simp only [Act.put,List.setIfInBounds_toArray,List.set_cons_zero,List.set_cons_succ])
    (refine wpZ_take (i:=6) (v:=?_) rfl (by kernel_rfl) (by decide) (by kernel_rfl) (by kernel_rfl) (by kernel_rfl) (fun _ _ _ h=>h) (Or.inl ⟨by rfl,?_⟩) (by assumption) ?_)
    rotate_left
    ·(intro w hSw;(try dsimp only at hSw);skip;go_simp;first | done | with_reducible rfl)
    (try simp only [Act.put,List.setIfInBounds_toArray,List.set_cons_zero,List.set_cons_succ])
    clear hHeld
    have hI7:=hI6.out.next hb7
    obtain ⟨z0,z1⟩:=hI7.2.2.cell (j:=k) hlt
    unfold evV at z0
    rw [if_neg (Nat.lt_irrefl _)] at z0
    have hnx:=Lib.hid ((hI7.set k (.bool (f k))).congr (evV_set f k))
    generalize f k = T at *
    clear hI7 hb7 hd q
    (refine wpZ_last (by kernel_rfl) rfl (by kernel_rfl) (fun K hK=>?_))
    ((rw [if_pos (by rfl)]);go_simp;refine hK.out _ _ ?_)
    (clear hK K)
    (try simp only [Act.put,List.setIfInBounds_toArray,List.set_cons_zero,List.set_cons_succ])
    go_wp2_with fail
    go_roundw
    case rel=>exact ⟨k+1,by omega,by go_num,hnx⟩
    case measure=>simp [intOf];omega
  ·obtain rfl:k = nl.length:=by omega
   have c0:wr.cell? ⟨w3.heap.size+1,0,none⟩ = some (.slice (some ⟨w3.heap.size,0,none⟩) nl.length nl.length):=by rw [World.cell?,hI.out.2.1];rfl
   obtain ⟨m,hm⟩:∃ m,m = nl.length - 1:=⟨_,rfl⟩
   have y0:=(hI.out.2.2.cell (j:=m) (by omega)).1
   unfold evV at y0
   rw [if_pos (by omega)] at y0
   have m0:(0:Int)≤(m:Int):=by omega
   have m1:(m:Int) < (nl.length:Int):=by omega
   have hwr:IntKind.i64.wrap ((nl.length:Int) - 1) = (m:Int):=by
    have e:((nl.length:Int) - 1) = (m:Int):=by omega
    rw [e];exact IntWalk.i64_in _ (by omega)
   have hBw:Hid (Below w.heap.size w wr):=Lib.hid (hx03.out.below.trans (hI.out.1.mono hx03.out.size))
   have hTm:f m = T:=by rw [hm];exact hT.out.symm
   rw [hTm] at y0
   clear hTm
   replace hm:=Lib.hid hm
   clear hI
   go_wp2_with fail
   go_ret
   exact ⟨rfl,hBw.out⟩
end Go.Proofs.YtckhohpbokojdaaGreatDoor
