import Derived.Test.YtckhohpbokojdaaGreatDoorLQ3
import Derived.Test.YtckhohpbokojdaaGreatDoorLN9
set_option linter.unusedSimpArgs false
set_option linter.unusedVariables false
namespace Go.Proofs.YtckhohpbokojdaaGreatDoor
open Go Go.RowKit Go.Shelf
def IRow (w0:World) (l:List Int) (v:Value) (V:World):Prop:=Below w0.heap.size w0 V∧V.ownsRow w0.heap.size 3 1 v l.length (l.map encZ)
theorem IRow.nil {w0 V:World} (hb:Below w0.heap.size w0 V):IRow w0 [] (.slice none 0 0) V:=⟨hb,rfl,.inl ⟨rfl,rfl⟩⟩
theorem IRow.next {w0 V V':World} {l:List Int} {v:Value} (h:IRow w0 l v V) (hb:Below V.heap.size V V'):IRow w0 l v V':=⟨h.1.trans (hb.mono h.1.size),ownsRow_keep h.2 (fun g c h=>hb.block g (Array.getElem?_eq_some_iff.1 h).1)⟩
theorem IRow.slI {w0 V:World} {l:List Int} {v:Value} (h:IRow w0 l v V):SlI V v l:=owns_slI h.2
theorem IRow.snoc {w0 V w4:World} {l:List Int} {x:Int} {v v4:Value} (h:IRow w0 l v V) (ho:w4.ownsRow w0.heap.size 3 1 v4 (l.length+1) (l.map encZ++[.int .i64 x])) (hg:(V.alloc (.cells #[.int .i64 x] 3)).grownBy w4 v.ownBlock):IRow w0 (l++[x]) v4 w4 :=
 ⟨Below.grown (Below.alloc h.1 h.1.size _) hg (by simp;have:=h.1.size;omega) (fun k e=>own_ge h.2 e),own_cast ho (by simp) (by simp [encZ])⟩
theorem IRow.app {w0 V w4:World} {l m:List Int} {v v4:Value} (h:IRow w0 l v V) (ho:w4.ownsRow w0.heap.size 3 1 v4 (l.length+m.length) (l.map encZ++m.map encZ)) (hg:V.grownBy w4 v.ownBlock):IRow w0 (l++m) v4 w4 :=
 ⟨Below.grown h.1 hg h.1.size (fun k e=>own_ge h.2 e),own_cast ho (by simp) (by simp)⟩
theorem own_shp {w:World} {base n size:Nat} {e:TypeId} {v:Value} {xs:List Value} (h:w.ownsRow base e size v n xs):∃ b c,v = .slice b n c:=by
 obtain ⟨_,⟨rfl,e⟩ | ⟨g,cap,cur,rfl,_⟩⟩:=h
 ·rw [e];exact ⟨_,_,rfl⟩
 ·exact ⟨_,_,rfl⟩
theorem IRow.shape {w0 V:World} {l:List Int} {v:Value} (h:IRow w0 l v V):∃ b c,v = .slice b l.length c:=own_shp h.2
theorem IRow.shapeN {w0 V:World} {l:List Nat} {v:Value} (h:IRow w0 (castL l) v V):∃ b c,v = .slice b l.length c:=by
 obtain ⟨b,c,e⟩:=h.shape
 exact ⟨b,c,by rw [e,castL_len]⟩
theorem castL_app (a b:List Nat):castL (a++b) = castL a++castL b:=by unfold castL;rw [List.map_append]
theorem castL_mem {l:List Nat} {i:Nat}:((i:Nat):Int)∈castL l↔i∈l:=by
 unfold castL
 rw [List.mem_map]
 exact ⟨fun ⟨k,hk,e⟩=>by rw [←Int.ofNat.inj e];exact hk,fun h=>⟨i,h,rfl⟩⟩
theorem slI_castN {w:World} {v:Value} {l:List Nat} (h:SlI w v (castL l)):∃ ba cp,v = .slice ba l.length cp∧∀ j (hj:j < l.length),∃ b o,ba = some ⟨b,o,none⟩∧b < w.heap.size∧w.cell? ⟨b,o+j,none⟩ = some (.int .i64 ((l[j]:Nat):Int)):=by
 obtain ⟨ba,cp,e,hc⟩:=h.shape
 refine ⟨ba,cp,by rw [e,castL_len],fun j hj=>?_⟩
 obtain ⟨b,o,h1,h2⟩:=hc j (by rw [castL_len];exact hj)
 unfold castL at h2
 rw [List.getElem_map] at h2
 exact ⟨b,o,h1,World.block_lt_of_cell? w _ h2,h2⟩
theorem RBat.nd {fb lo base bx:Nat} {n:Int} {bl:List L.ND} {vL:Value} {us:List Value} {W:World} (h:RBat fb lo base bx n bl vL us W):∃ ba c,vL = .slice ba bl.length c∧∀ j (hj:j < bl.length),∃ b o bb cc,ba = some ⟨b,o,none⟩∧W.cell? ⟨b,o+j * 3,none⟩ = some (.int .i64 (L.ndAt bl j).kind)∧W.cell? ⟨b,o+j * 3+1,none⟩ = some (.int .i64 (L.ndAt bl j).lit)∧W.cell? ⟨b,o+j * 3+2,none⟩ = some (.slice bb (L.ndAt bl j).inp.length cc)∧SlI W (.slice bb (L.ndAt bl j).inp.length cc) (castL (L.ndAt bl j).inp):=by
 obtain ⟨ba,c,e,hc⟩:=slC_nd (nodes_slC h.2.1 h.2.2.1)
 exact ⟨ba,c,e,fun j hj=>by rw [L.ndAt_lt hj];exact hc j hj⟩
set_option maxRecDepth 100000 in
set_option maxHeartbeats 8000000 in
theorem rinputs_any {fb lo base bx:Nat} {n kd drop:Int} {bl:List L.ND} {l:List Nat} {lv:Value} {w:World} (h:RB fb lo base bx n bl w) (hs:SlI w lv (castL l)) (hk:∀ k∈l,k < bl.length) (hB:L.BOK n bl) (hbl:bl.length≤60000) (hll:l.length≤100000) (hfl:(L.flatND bl kd l).length≤1000000) :
  Calls Tryz.prog 90 #[.pointer (some ⟨bx,0,none⟩),lv,.int .i64 kd,.int .i64 drop] w fun e w'=>∃ v,e = .returned v∧IRow w (castL (L.onceL bl drop (L.flatND bl kd l))) v w':=by
 obtain ⟨vL,us,h⟩:=h
 obtain ⟨ba,cp,rfl,hcs⟩:=slI_castN hs
 obtain ⟨i0,hi0,hz0,hz1,hz2⟩:=info_parts int_info
 obtain ⟨na,ncp,rfl,hnd⟩:=h.nd
 have hbox:∀ V,Below w.heap.size w V→V.cell? ⟨bx,1,none⟩ = some (.slice na bl.length ncp):=fun V hV=>by
  have f0:=(hV.block _ (Array.getElem?_eq_some_iff.1 h.1).1).trans h.1
  rw [World.cell?,f0];rfl
 have hft:=fun k (hk:k < l.length)=>flat_take bl kd l hk
 have hfm:∀ k,k≤l.length→(L.flatND bl kd (l.take k)).length≤(L.flatND bl kd l).length:=fun k hk=>by
  unfold L.flatND
  rw [←List.take_append_drop k l,List.flatMap_append,List.length_append]
  rw [List.take_append_drop k l]
  omega
 have hflt:=hB.flat_lt (kind:=kd) hk
 have hon:=fun (m:List Nat)=>(L.nodup_onceL bl drop m)
 have hom:=fun (m:List Nat) (i:Nat)=>(L.mem_onceL bl drop i m)
 replace h:=Lib.hid h
 replace hcs:=Lib.hid hcs
 replace hnd:=Lib.hid hnd
 replace hbox:=Lib.hid hbox
 replace hft:=Lib.hid hft
 replace hfm:=Lib.hid hfm
 replace hk:=Lib.hid hk
 replace hB:=Lib.hid hB
 replace hflt:=Lib.hid hflt
 replace hon:=Lib.hid hon
 replace hom:=Lib.hid hom
 clear hs
 go_enter Tryz.func90,Tryz.ntmps90
 go_wp2_with fail
 go_loopw [9,11] (fun vf i wr=>∃ k:Nat,k≤l.length∧i = .int .i64 (k:Nat)∧Hid (IRow w (castL (L.flatND bl kd (l.take k))) vf wr)) (fun _ i _=>l.length - (intOf i).toNat)
 case atStart=>exact ⟨0,Nat.zero_le _,rfl,Lib.hid (IRow.nil (Below.refl _ _))⟩
 case round =>
  obtain ⟨k,hk',rfl,hro⟩:=hrel
  by_cases hlt:k < l.length
  ·have hnx:=hft.out k hlt
   have hil:=hk.out _ (List.getElem_mem hlt)
   have hl1:=hfm.out k hk'
   have hl2:=hfm.out (k+1) hlt
   obtain ⟨b,o,rfl,hbl',hc⟩:=hcs.out k hlt
   generalize l[k] = i at *
   generalize L.flatND bl kd (l.take k) = m at *
   obtain ⟨nb,no,bb,cc,rfl,n0,-,n2,nsl⟩:=hnd.out i hil
   generalize (L.ndAt bl i).kind = kx at *
   generalize (L.ndAt bl i).inp = ip at *
   have hS:∀ V,Below w.heap.size w V→V.cell? ⟨bx,1,none⟩ = some (.slice (some ⟨nb,no,none⟩) bl.length ncp)∧V.cell? ⟨b,o+k,none⟩ = some (.int .i64 (i:Nat))∧V.cell? ⟨nb,no+i * 3,none⟩ = some (.int .i64 kx)∧V.cell? ⟨nb,no+i * 3+2,none⟩ = some (.slice bb ip.length cc):=fun V hw=>by
    exact ⟨hbox.out V hw,(hw.cell hbl').trans hc,(hw.cell (World.block_lt_of_cell? w _ n0)).trans n0,(hw.cell (World.block_lt_of_cell? w _ n2)).trans n2⟩
   have g0:(0:Int)≤(i:Int):=by omega
   have g1:(i:Int) < (bl.length:Int):=by omega
   have g2:(0:Int)≤(k:Int):=by omega
   have g3:(k:Int) < (l.length:Int):=by omega
   have hip:Hid (∀ V,Below w.heap.size w V→∀ j (hj:j < (castL ip).length),∃ b o,bb = some ⟨b,o,none⟩∧V.cell? ⟨b,o+j,none⟩ = some (.int .i64 (castL ip)[j])):=Lib.hid fun V hV j hj=>by
    obtain ⟨_,_,e,hh⟩:=(nsl.ext hV).shape
    simp only [Value.slice.injEq] at e
    obtain ⟨rfl,-,rfl⟩:=e
    exact hh j hj
   replace hS:=Lib.hid hS
   replace nsl:=Lib.hid nsl
   clear n0 n2 hc
   rename World=>wr
   by_cases hkk:kx = kd
   ·rw [if_pos hkk] at hnx
    rw [hnx,List.length_append] at hl2
    subst hkk
    replace hnx:=Lib.hid hnx
    have dk:(kx == kx) = true:=by simp
    obtain ⟨fb,fc,rfl⟩:=hro.out.shapeN
    go_wp2_with fail
    (refine wp_region_held_drew (S:=(fun V=>V.cell? ⟨bx,1,none⟩ = some (.slice (some ⟨nb,no,none⟩) bl.length ncp)∧V.cell? ⟨b,o+k,none⟩ = some (.int .i64 (i:Nat))∧V.cell? ⟨nb,no+i * 3,none⟩ = some (.int .i64 kx)∧V.cell? ⟨nb,no+i * 3+2,none⟩ = some (.slice bb ip.length cc))) (by kernel_rfl) ?_ (fun hHeld=>?_))
    ·exact hS.out _ hro.out.1.drew
    (refine takeL (i:=0) (v:=?_) rfl (by kernel_rfl) (by kernel_rfl) (by kernel_rfl) (fun _ _ _ h=>h) (Or.inl ⟨by rfl,?_⟩) (by assumption) ?_)
    rotate_left
    ·(intro w hSw;(try dsimp only at hSw);go_simp;first | done | with_reducible rfl)
    (try simp only [Act.put,List.setIfInBounds_toArray,List.set_cons_zero,List.set_cons_succ])
    (refine takeL (i:=1) (v:=?_) rfl (by kernel_rfl) (by kernel_rfl) (by kernel_rfl) (fun _ _ _ h=>h) (Or.inl ⟨by rfl,?_⟩) (by assumption) ?_)
    rotate_left
    ·(intro w hSw;(try dsimp only at hSw);go_simp;first | done | with_reducible rfl)
    (try simp only [Act.put,List.setIfInBounds_toArray,List.set_cons_zero,List.set_cons_succ])
    (refine takeL (i:=2) (v:=?_) rfl (by kernel_rfl) (by kernel_rfl) (by kernel_rfl) (fun _ _ _ h=>h) (Or.inl ⟨by rfl,?_⟩) (by assumption) ?_)
    rotate_left
    ·(intro w hSw;(try dsimp only at hSw);go_simp;first | done | with_reducible rfl)
    (try simp only [Act.put,List.setIfInBounds_toArray,List.set_cons_zero,List.set_cons_succ])
    (refine takeL (i:=3) (v:=?_) rfl (by kernel_rfl) (by kernel_rfl) (by kernel_rfl) (fun _ _ _ h=>h) (Or.inl ⟨by rfl,?_⟩) (by assumption) ?_)
    rotate_left
    ·(intro w hSw;(try dsimp only at hSw);go_simp;first | done | with_reducible rfl)
    (try simp only [Act.put,List.setIfInBounds_toArray,List.set_cons_zero,List.set_cons_succ])
    (refine takeL (i:=4) (v:=?_) rfl (by kernel_rfl) (by kernel_rfl) (by kernel_rfl) (fun _ _ _ h=>h) (Or.inl ⟨by rfl,?_⟩) (by assumption) ?_)
    rotate_left
    ·(intro w hSw;(try dsimp only at hSw);go_simp;first | done | with_reducible rfl)
    (try simp only [Act.put,List.setIfInBounds_toArray,List.set_cons_zero,List.set_cons_succ])
    (refine takeL (i:=5) (v:=?_) rfl (by kernel_rfl) (by kernel_rfl) (by kernel_rfl) (fun _ _ _ h=>h) (Or.inl ⟨by rfl,?_⟩) (by assumption) ?_)
    rotate_left
    ·(intro w hSw;(try dsimp only at hSw);go_simp;first | done | with_reducible rfl)
    (try simp only [Act.put,List.setIfInBounds_toArray,List.set_cons_zero,List.set_cons_succ])
    (refine takeL (i:=6) (v:=?_) rfl (by kernel_rfl) (by kernel_rfl) (by kernel_rfl) (fun _ _ _ h=>h) (Or.inl ⟨by rfl,?_⟩) (by assumption) ?_)
    rotate_left
    ·(intro w hSw;(try dsimp only at hSw);go_simp;first | done | with_reducible rfl)
    (try simp only [Act.put,List.setIfInBounds_toArray,List.set_cons_zero,List.set_cons_succ])
    (refine takeL (i:=7) (v:=?_) rfl (by kernel_rfl) (by kernel_rfl) (by kernel_rfl) (fun _ _ _ h=>h) (Or.inl ⟨by rfl,?_⟩) (by assumption) ?_)
    rotate_left
    ·(intro w hSw;(try dsimp only at hSw);go_simp;first | done | with_reducible rfl)
    (try simp only [Act.put,List.setIfInBounds_toArray,List.set_cons_zero,List.set_cons_succ])
    (refine takeL (i:=8) (v:=?_) rfl (by kernel_rfl) (by kernel_rfl) (by kernel_rfl) (fun _ _ _ h=>h) (Or.inl ⟨by rfl,?_⟩) (by assumption) ?_)
    rotate_left
    ·(intro w hSw;(try dsimp only at hSw);go_simp;first | done | with_reducible rfl)
    (try simp only [Act.put,List.setIfInBounds_toArray,List.set_cons_zero,List.set_cons_succ])
    (refine takeL (i:=9) (v:=?_) rfl (by kernel_rfl) (by kernel_rfl) (by kernel_rfl) (fun _ _ _ h=>h) (Or.inl ⟨by rfl,?_⟩) (by assumption) ?_)
    rotate_left
    ·(intro w hSw;(try dsimp only at hSw);go_simp;first | done | with_reducible rfl)
    (try simp only [Act.put,List.setIfInBounds_toArray,List.set_cons_zero,List.set_cons_succ])
    (refine takeL (i:=10) (v:=?_) rfl (by kernel_rfl) (by kernel_rfl) (by kernel_rfl) (fun _ _ _ h=>h) (Or.inl ⟨by rfl,?_⟩) (by assumption) ?_)
    rotate_left
    ·(intro w hSw;(try dsimp only at hSw);go_simp;first | done | with_reducible rfl)
    (try simp only [Act.put,List.setIfInBounds_toArray,List.set_cons_zero,List.set_cons_succ])
    (refine takeL (i:=11) (v:=?_) rfl (by kernel_rfl) (by kernel_rfl) (by kernel_rfl) (fun _ _ _ h=>h) (Or.inl ⟨by rfl,?_⟩) (by assumption) ?_)
    rotate_left
    ·(intro w hSw;(try dsimp only at hSw);go_simp;first | done | with_reducible rfl)
    (try simp only [Act.put,List.setIfInBounds_toArray,List.set_cons_zero,List.set_cons_succ])
    (refine takeL (i:=12) (v:=?_) rfl (by kernel_rfl) (by kernel_rfl) (by kernel_rfl) (fun _ _ _ h=>h) (Or.inl ⟨by rfl,?_⟩) (by assumption) ?_)
    rotate_left
    ·(intro w hSw;(try dsimp only at hSw);go_simp;first | done | with_reducible rfl)
    (try simp only [Act.put,List.setIfInBounds_toArray,List.set_cons_zero,List.set_cons_succ])
    (refine wpAnyH_done (by kernel_rfl) ?_ _)
    clear hHeld
    replace hro:=Lib.hid (hro.out.next (Below.refl wr.heap.size wr).drew)
    generalize wr.drew = wd at *
    obtain ⟨s0,s1,s2,s3⟩:=hS.out _ hro.out.1
    go_wp2_with fail
    clear s0 s1 s2 s3
    (refine wp_region_held_drew (S:=(fun V=>V.cell? ⟨bx,1,none⟩ = some (.slice (some ⟨nb,no,none⟩) bl.length ncp)∧V.cell? ⟨b,o+k,none⟩ = some (.int .i64 (i:Nat))∧V.cell? ⟨nb,no+i * 3,none⟩ = some (.int .i64 kx)∧V.cell? ⟨nb,no+i * 3+2,none⟩ = some (.slice bb ip.length cc))) (by kernel_rfl) ?_ (fun hHeld=>?_))
    ·exact hS.out _ hro.out.1.drew
    (refine takeL (i:=0) (v:=?_) rfl (by kernel_rfl) (by kernel_rfl) (by kernel_rfl) (fun _ _ _ h=>h) (Or.inl ⟨by rfl,?_⟩) (by assumption) ?_)
    rotate_left
    ·(intro w hSw;(try dsimp only at hSw);go_simp;first | done | with_reducible rfl)
    (try simp only [Act.put,List.setIfInBounds_toArray,List.set_cons_zero,List.set_cons_succ])
    (refine takeL (i:=1) (v:=?_) rfl (by kernel_rfl) (by kernel_rfl) (by kernel_rfl) (fun _ _ _ h=>h) (Or.inl ⟨by rfl,?_⟩) (by assumption) ?_)
    rotate_left
    ·(intro w hSw;(try dsimp only at hSw);go_simp;first | done | with_reducible rfl)
    (try simp only [Act.put,List.setIfInBounds_toArray,List.set_cons_zero,List.set_cons_succ])
    (refine takeL (i:=2) (v:=?_) rfl (by kernel_rfl) (by kernel_rfl) (by kernel_rfl) (fun _ _ _ h=>h) (Or.inl ⟨by rfl,?_⟩) (by assumption) ?_)
    rotate_left
    ·(intro w hSw;(try dsimp only at hSw);go_simp;first | done | with_reducible rfl)
    (try simp only [Act.put,List.setIfInBounds_toArray,List.set_cons_zero,List.set_cons_succ])
    (refine takeL (i:=3) (v:=?_) rfl (by kernel_rfl) (by kernel_rfl) (by kernel_rfl) (fun _ _ _ h=>h) (Or.inl ⟨by rfl,?_⟩) (by assumption) ?_)
    rotate_left
    ·(intro w hSw;(try dsimp only at hSw);go_simp;first | done | with_reducible rfl)
    (try simp only [Act.put,List.setIfInBounds_toArray,List.set_cons_zero,List.set_cons_succ])
    (refine takeL (i:=4) (v:=?_) rfl (by kernel_rfl) (by kernel_rfl) (by kernel_rfl) (fun _ _ _ h=>h) (Or.inl ⟨by rfl,?_⟩) (by assumption) ?_)
    rotate_left
    ·(intro w hSw;(try dsimp only at hSw);go_simp;first | done | with_reducible rfl)
    (try simp only [Act.put,List.setIfInBounds_toArray,List.set_cons_zero,List.set_cons_succ])
    (refine takeL (i:=5) (v:=?_) rfl (by kernel_rfl) (by kernel_rfl) (by kernel_rfl) (fun _ _ _ h=>h) (Or.inl ⟨by rfl,?_⟩) (by assumption) ?_)
    rotate_left
    ·(intro w hSw;(try dsimp only at hSw);go_simp;first | done | with_reducible rfl)
    (try simp only [Act.put,List.setIfInBounds_toArray,List.set_cons_zero,List.set_cons_succ])
    (refine takeL (i:=6) (v:=?_) rfl (by kernel_rfl) (by kernel_rfl) (by kernel_rfl) (fun _ _ _ h=>h) (Or.inl ⟨by rfl,?_⟩) (by assumption) ?_)
    rotate_left
    ·(intro w hSw;(try dsimp only at hSw);go_simp;first | done | with_reducible rfl)
    (try simp only [Act.put,List.setIfInBounds_toArray,List.set_cons_zero,List.set_cons_succ])
    (refine takeL (i:=7) (v:=?_) rfl (by kernel_rfl) (by kernel_rfl) (by kernel_rfl) (fun _ _ _ h=>h) (Or.inl ⟨by rfl,?_⟩) (by assumption) ?_)
    rotate_left
    ·(intro w hSw;(try dsimp only at hSw);go_simp;first | done | with_reducible rfl)
    (try simp only [Act.put,List.setIfInBounds_toArray,List.set_cons_zero,List.set_cons_succ])
    (refine takeL (i:=8) (v:=?_) rfl (by kernel_rfl) (by kernel_rfl) (by kernel_rfl) (fun _ _ _ h=>h) (Or.inl ⟨by rfl,?_⟩) (by assumption) ?_)
    rotate_left
    ·(intro w hSw;(try dsimp only at hSw);go_simp;first | done | with_reducible rfl)
    (try simp only [Act.put,List.setIfInBounds_toArray,List.set_cons_zero,List.set_cons_succ])
    (refine takeL (i:=9) (v:=?_) rfl (by kernel_rfl) (by kernel_rfl) (by kernel_rfl) (fun _ _ _ h=>h) (Or.inl ⟨by rfl,?_⟩) (by assumption) ?_)
    rotate_left
    ·(intro w hSw;(try dsimp only at hSw);go_simp;first | done | with_reducible rfl)
    (try simp only [Act.put,List.setIfInBounds_toArray,List.set_cons_zero,List.set_cons_succ])
    (refine takeL (i:=10) (v:=?_) rfl (by kernel_rfl) (by kernel_rfl) (by kernel_rfl) (fun _ _ _ h=>h) (Or.inl ⟨by rfl,?_⟩) (by assumption) ?_)
    rotate_left
    ·(intro w hSw;(try dsimp only at hSw);go_simp;first | done | with_reducible rfl)
    (try simp only [Act.put,List.setIfInBounds_toArray,List.set_cons_zero,List.set_cons_succ])
    (refine takeL (i:=11) (v:=?_) rfl (by kernel_rfl) (by kernel_rfl) (by kernel_rfl) (fun _ _ _ h=>h) (Or.inl ⟨by rfl,?_⟩) (by assumption) ?_)
    rotate_left
    ·(intro w hSw;(try dsimp only at hSw);go_simp;first | done | with_reducible rfl)
    (try simp only [Act.put,List.setIfInBounds_toArray,List.set_cons_zero,List.set_cons_succ])
    replace hro:=Lib.hid (hro.out.next (Below.refl wd.heap.size wd).drew)
    generalize wd.drew = we at *
    (refine wpAnyH_ready (rs:=[12]) (by kernel_rfl) (by simp) ?_)
    (refine consL rfl (fun K hK=>?_))
    (rw [if_pos (by rfl)])
    refine wp_append_ints _ _ rfl w.heap.size i0 hi0 hz0 hz1 hz2 _ (castL m).length ((castL m).map encZ) rfl hro.out.2 bb cc (castL ip) (by show Value.slice bb ip.length cc = _;rw [castL_len]) (hip.out we hro.out.1) (by rw [castL_len,castL_len];omega) hro.out.1.size (fun v4 w4 ho4 hg4=>?_)
    have hr4:=hro.out.app ho4 hg4
    refine hK.out _ _ (hS.out _ hr4.1) (fun hHeld=>?_)
    clear hK K ho4 hg4
    (try simp only [Act.put,List.setIfInBounds_toArray,List.set_cons_zero,List.set_cons_succ])
    have hr5:Hid (IRow w (castL (L.flatND bl kx (l.take (k+1)))) v4 w4):=Lib.hid (by rw [hnx.out,castL_app];exact hr4)
    obtain ⟨b4,c4,rfl⟩:=hr5.out.shapeN
    clear hr4
    (refine takeL (i:=13) (v:=?_) rfl (by kernel_rfl) (by kernel_rfl) (by kernel_rfl) (fun _ _ _ h=>h) (Or.inl ⟨by rfl,?_⟩) (by assumption) ?_)
    rotate_left
    ·(intro w hSw;(try dsimp only at hSw);go_simp;first | done | with_reducible rfl)
    (try simp only [Act.put,List.setIfInBounds_toArray,List.set_cons_zero,List.set_cons_succ])
    (refine wpAnyH_done (by kernel_rfl) ?_ _)
    clear hHeld
    go_wp2_with fail
    go_roundw
    case rel=>exact ⟨k+1,by omega,by go_num,hr5⟩
    case measure=>simp [intOf];omega
   ·rw [if_neg hkk] at hnx
    replace hnx:=Lib.hid hnx
    have dk:(kx == kd) = false:=beq_eq_false_iff_ne.2 hkk
    obtain ⟨fb,fc,rfl⟩:=hro.out.shapeN
    go_wp2_with fail
    (refine wp_region_held_drew (S:=(fun V=>V.cell? ⟨bx,1,none⟩ = some (.slice (some ⟨nb,no,none⟩) bl.length ncp)∧V.cell? ⟨b,o+k,none⟩ = some (.int .i64 (i:Nat))∧V.cell? ⟨nb,no+i * 3,none⟩ = some (.int .i64 kx)∧V.cell? ⟨nb,no+i * 3+2,none⟩ = some (.slice bb ip.length cc))) (by kernel_rfl) ?_ (fun hHeld=>?_))
    ·exact hS.out _ hro.out.1.drew
    (refine takeL (i:=0) (v:=?_) rfl (by kernel_rfl) (by kernel_rfl) (by kernel_rfl) (fun _ _ _ h=>h) (Or.inl ⟨by rfl,?_⟩) (by assumption) ?_)
    rotate_left
    ·(intro w hSw;(try dsimp only at hSw);go_simp;first | done | with_reducible rfl)
    (try simp only [Act.put,List.setIfInBounds_toArray,List.set_cons_zero,List.set_cons_succ])
    (refine takeL (i:=1) (v:=?_) rfl (by kernel_rfl) (by kernel_rfl) (by kernel_rfl) (fun _ _ _ h=>h) (Or.inl ⟨by rfl,?_⟩) (by assumption) ?_)
    rotate_left
    ·(intro w hSw;(try dsimp only at hSw);go_simp;first | done | with_reducible rfl)
    (try simp only [Act.put,List.setIfInBounds_toArray,List.set_cons_zero,List.set_cons_succ])
    (refine takeL (i:=2) (v:=?_) rfl (by kernel_rfl) (by kernel_rfl) (by kernel_rfl) (fun _ _ _ h=>h) (Or.inl ⟨by rfl,?_⟩) (by assumption) ?_)
    rotate_left
    ·(intro w hSw;(try dsimp only at hSw);go_simp;first | done | with_reducible rfl)
    (try simp only [Act.put,List.setIfInBounds_toArray,List.set_cons_zero,List.set_cons_succ])
    (refine takeL (i:=3) (v:=?_) rfl (by kernel_rfl) (by kernel_rfl) (by kernel_rfl) (fun _ _ _ h=>h) (Or.inl ⟨by rfl,?_⟩) (by assumption) ?_)
    rotate_left
    ·(intro w hSw;(try dsimp only at hSw);go_simp;first | done | with_reducible rfl)
    (try simp only [Act.put,List.setIfInBounds_toArray,List.set_cons_zero,List.set_cons_succ])
    (refine takeL (i:=4) (v:=?_) rfl (by kernel_rfl) (by kernel_rfl) (by kernel_rfl) (fun _ _ _ h=>h) (Or.inl ⟨by rfl,?_⟩) (by assumption) ?_)
    rotate_left
    ·(intro w hSw;(try dsimp only at hSw);go_simp;first | done | with_reducible rfl)
    (try simp only [Act.put,List.setIfInBounds_toArray,List.set_cons_zero,List.set_cons_succ])
    (refine takeL (i:=5) (v:=?_) rfl (by kernel_rfl) (by kernel_rfl) (by kernel_rfl) (fun _ _ _ h=>h) (Or.inl ⟨by rfl,?_⟩) (by assumption) ?_)
    rotate_left
    ·(intro w hSw;(try dsimp only at hSw);go_simp;first | done | with_reducible rfl)
    (try simp only [Act.put,List.setIfInBounds_toArray,List.set_cons_zero,List.set_cons_succ])
    (refine takeL (i:=6) (v:=?_) rfl (by kernel_rfl) (by kernel_rfl) (by kernel_rfl) (fun _ _ _ h=>h) (Or.inl ⟨by rfl,?_⟩) (by assumption) ?_)
    rotate_left
    ·(intro w hSw;(try dsimp only at hSw);go_simp;first | done | with_reducible rfl)
    (try simp only [Act.put,List.setIfInBounds_toArray,List.set_cons_zero,List.set_cons_succ])
    (refine takeL (i:=7) (v:=?_) rfl (by kernel_rfl) (by kernel_rfl) (by kernel_rfl) (fun _ _ _ h=>h) (Or.inl ⟨by rfl,?_⟩) (by assumption) ?_)
    rotate_left
    ·(intro w hSw;(try dsimp only at hSw);go_simp;first | done | with_reducible rfl)
    (try simp only [Act.put,List.setIfInBounds_toArray,List.set_cons_zero,List.set_cons_succ])
    (refine takeL (i:=8) (v:=?_) rfl (by kernel_rfl) (by kernel_rfl) (by kernel_rfl) (fun _ _ _ h=>h) (Or.inl ⟨by rfl,?_⟩) (by assumption) ?_)
    rotate_left
    ·(intro w hSw;(try dsimp only at hSw);go_simp;first | done | with_reducible rfl)
    (try simp only [Act.put,List.setIfInBounds_toArray,List.set_cons_zero,List.set_cons_succ])
    (refine takeL (i:=9) (v:=?_) rfl (by kernel_rfl) (by kernel_rfl) (by kernel_rfl) (fun _ _ _ h=>h) (Or.inl ⟨by rfl,?_⟩) (by assumption) ?_)
    rotate_left
    ·(intro w hSw;(try dsimp only at hSw);go_simp;first | done | with_reducible rfl)
    (try simp only [Act.put,List.setIfInBounds_toArray,List.set_cons_zero,List.set_cons_succ])
    (refine takeL (i:=10) (v:=?_) rfl (by kernel_rfl) (by kernel_rfl) (by kernel_rfl) (fun _ _ _ h=>h) (Or.inl ⟨by rfl,?_⟩) (by assumption) ?_)
    rotate_left
    ·(intro w hSw;(try dsimp only at hSw);go_simp;first | done | with_reducible rfl)
    (try simp only [Act.put,List.setIfInBounds_toArray,List.set_cons_zero,List.set_cons_succ])
    (refine takeL (i:=11) (v:=?_) rfl (by kernel_rfl) (by kernel_rfl) (by kernel_rfl) (fun _ _ _ h=>h) (Or.inl ⟨by rfl,?_⟩) (by assumption) ?_)
    rotate_left
    ·(intro w hSw;(try dsimp only at hSw);go_simp;first | done | with_reducible rfl)
    (try simp only [Act.put,List.setIfInBounds_toArray,List.set_cons_zero,List.set_cons_succ])
    (refine takeL (i:=12) (v:=?_) rfl (by kernel_rfl) (by kernel_rfl) (by kernel_rfl) (fun _ _ _ h=>h) (Or.inl ⟨by rfl,?_⟩) (by assumption) ?_)
    rotate_left
    ·(intro w hSw;(try dsimp only at hSw);go_simp;first | done | with_reducible rfl)
    (try simp only [Act.put,List.setIfInBounds_toArray,List.set_cons_zero,List.set_cons_succ])
    (refine wpAnyH_done (by kernel_rfl) ?_ _)
    clear hHeld
    replace hro:=Lib.hid (hro.out.next (Below.refl wr.heap.size wr).drew)
    generalize wr.drew = wd at *
    obtain ⟨s0,s1,s2,s3⟩:=hS.out _ hro.out.1
    go_wp2_with (at_builtin;go_loud (refine wpList_append_own _ rfl _ _ 25 rfl w.heap.size 3 i0 (.int .i64 0) 1 8 Tryz.underlying25 hi0 hz0 hz1 hz2 rfl (by decide) _ _ _ rfl (hro.out.2.alloc _) ⟨wd.heap.size,0,none⟩ 1 1 [.int .i64 (i:Nat)] rfl rfl (cell_one_at _ _ _ _ rfl) (by simp [Value.oneCell']) (by rw [castL_len];unfold maxLen;omega) (by rw [castL_len];omega) (by simp;have:=hro.out.1.size;omega) ?_);intro v4 w4 ho4 hg4 _)
    have hr4:=hro.out.snoc ho4 hg4
    have hr5:Hid (IRow w (castL (L.flatND bl kd (l.take (k+1)))) v4 w4):=Lib.hid (by rw [hnx.out,castL_app];exact hr4)
    obtain ⟨b4,c4,rfl⟩:=hr5.out.shapeN
    clear hr4 ho4 hg4 s0 s1 s2 s3
    go_wp2_with fail
    go_roundw
    case rel=>exact ⟨k+1,by omega,by go_num,hr5⟩
    case measure=>simp [intOf];omega
  ·obtain rfl:k = l.length:=by omega
   rw [List.take_length] at hro
   generalize hfle:L.flatND bl kd l = fl at *
   replace hfle:=Lib.hid hfle
   obtain ⟨fb,fc,rfl⟩:=hro.out.shapeN
   obtain ⟨_,_,e,hfc⟩:=slI_castN hro.out.slI
   rw [Value.slice.injEq] at e
   obtain ⟨rfl,-,rfl⟩:=e
   rename World=>w2
   replace hfc:=Lib.hid hfc
   go_wp2_with fail
   go_loopw [10,12] (fun vo i wr=>∃ k:Nat,k≤fl.length∧i = .int .i64 (k:Nat)∧Hid (IRow w2 (castL (L.onceL bl drop (fl.take k))) vo wr)) (fun _ i _=>fl.length - (intOf i).toNat)
   case atStart=>exact ⟨0,Nat.zero_le _,rfl,Lib.hid (IRow.nil (Below.refl _ _))⟩
   case round =>
    obtain ⟨k,hk',rfl,hrp⟩:=hrel
    by_cases hlt2:k < fl.length
    ·have hil:=hflt.out _ (List.getElem_mem hlt2)
     have hnx:L.onceL bl drop (fl.take (k+1)) = L.onceStep bl drop (L.onceL bl drop (fl.take k)) fl[k]:=by
      rw [List.take_succ_eq_append_getElem hlt2,L.onceL_snoc]
     have hml:(L.onceL bl drop (fl.take k)).length≤bl.length:=L.nodup_lt _ bl.length (hon.out _) fun x hx=>hflt.out x (List.mem_of_mem_take ((hom.out _ x).1 hx).1)
     obtain ⟨b,o,rfl,hbl',hc⟩:=hfc.out k hlt2
     generalize fl[k] = i at *
     generalize L.onceL bl drop (fl.take k) = m at *
     obtain ⟨nb,no,bb,cc,rfl,n0,-,n2,-⟩:=hnd.out i hil
     unfold L.onceStep at hnx
     generalize (L.ndAt bl i).kind = kx at *
     generalize (L.ndAt bl i).inp = ip at *
     have hS:∀ V,Below w2.heap.size w2 V→V.cell? ⟨bx,1,none⟩ = some (.slice (some ⟨nb,no,none⟩) bl.length ncp)∧V.cell? ⟨b,o+k,none⟩ = some (.int .i64 (i:Nat))∧V.cell? ⟨nb,no+i * 3,none⟩ = some (.int .i64 kx):=fun V hV=>by
      have hw:=hro.out.1.trans (hV.mono hro.out.1.size)
      exact ⟨hbox.out V hw,(hV.cell hbl').trans hc,(hw.cell (World.block_lt_of_cell? w _ n0)).trans n0⟩
     have g0:(0:Int)≤(i:Int):=by omega
     have g1:(i:Int) < (bl.length:Int):=by omega
     have g2:(0:Int)≤(k:Int):=by omega
     have g3:(k:Int) < (fl.length:Int):=by omega
     replace hS:=Lib.hid hS
     clear n0 n2 hc
     rename World=>wr
     have hrd:=Lib.hid (hrp.out.next (Below.refl wr.heap.size wr).drew)
     obtain ⟨ob,oc,rfl⟩:=hrp.out.shapeN
     by_cases hkk:kx = drop
     ·rw [if_neg (fun e=>e.1 hkk)] at hnx
      have dk:(kx != drop) = false:=by rw [hkk];simp
      replace hnx:=Lib.hid hnx
      replace hkk:=Lib.hid hkk
      go_wp2_with fail
      (refine wp_region_held_drew (S:=(fun V=>V.cell? ⟨bx,1,none⟩ = some (.slice (some ⟨nb,no,none⟩) bl.length ncp)∧V.cell? ⟨b,o+k,none⟩ = some (.int .i64 (i:Nat))∧V.cell? ⟨nb,no+i * 3,none⟩ = some (.int .i64 kx))) (by kernel_rfl) ?_ (fun hHeld=>?_))
      ·exact hS.out _ hrp.out.1.drew
      (refine takeL (i:=0) (v:=?_) rfl (by kernel_rfl) (by kernel_rfl) (by kernel_rfl) (fun _ _ _ h=>h) (Or.inl ⟨by rfl,?_⟩) (by assumption) ?_)
      rotate_left
      ·(intro w hSw;(try dsimp only at hSw);go_simp;first | done | with_reducible rfl)
      (try simp only [Act.put,List.setIfInBounds_toArray,List.set_cons_zero,List.set_cons_succ])
      (refine takeL (i:=1) (v:=?_) rfl (by kernel_rfl) (by kernel_rfl) (by kernel_rfl) (fun _ _ _ h=>h) (Or.inl ⟨by rfl,?_⟩) (by assumption) ?_)
      rotate_left
      ·(intro w hSw;(try dsimp only at hSw);go_simp;first | done | with_reducible rfl)
      (try simp only [Act.put,List.setIfInBounds_toArray,List.set_cons_zero,List.set_cons_succ])
      (refine takeL (i:=2) (v:=?_) rfl (by kernel_rfl) (by kernel_rfl) (by kernel_rfl) (fun _ _ _ h=>h) (Or.inl ⟨by rfl,?_⟩) (by assumption) ?_)
      rotate_left
      ·(intro w hSw;(try dsimp only at hSw);go_simp;first | done | with_reducible rfl)
      (try simp only [Act.put,List.setIfInBounds_toArray,List.set_cons_zero,List.set_cons_succ])
      (refine takeL (i:=3) (v:=?_) rfl (by kernel_rfl) (by kernel_rfl) (by kernel_rfl) (fun _ _ _ h=>h) (Or.inl ⟨by rfl,?_⟩) (by assumption) ?_)
      rotate_left
      ·(intro w hSw;(try dsimp only at hSw);go_simp;first | done | with_reducible rfl)
      (try simp only [Act.put,List.setIfInBounds_toArray,List.set_cons_zero,List.set_cons_succ])
      (refine takeL (i:=4) (v:=?_) rfl (by kernel_rfl) (by kernel_rfl) (by kernel_rfl) (fun _ _ _ h=>h) (Or.inl ⟨by rfl,?_⟩) (by assumption) ?_)
      rotate_left
      ·(intro w hSw;(try dsimp only at hSw);go_simp;first | done | with_reducible rfl)
      (try simp only [Act.put,List.setIfInBounds_toArray,List.set_cons_zero,List.set_cons_succ])
      (refine takeL (i:=5) (v:=?_) rfl (by kernel_rfl) (by kernel_rfl) (by kernel_rfl) (fun _ _ _ h=>h) (Or.inl ⟨by rfl,?_⟩) (by assumption) ?_)
      rotate_left
      ·(intro w hSw;(try dsimp only at hSw);go_simp;first | done | with_reducible rfl)
      (try simp only [Act.put,List.setIfInBounds_toArray,List.set_cons_zero,List.set_cons_succ])
      (refine takeL (i:=6) (v:=?_) rfl (by kernel_rfl) (by kernel_rfl) (by kernel_rfl) (fun _ _ _ h=>h) (Or.inl ⟨by rfl,?_⟩) (by assumption) ?_)
      rotate_left
      ·(intro w hSw;(try dsimp only at hSw);go_simp;first | done | with_reducible rfl)
      (try simp only [Act.put,List.setIfInBounds_toArray,List.set_cons_zero,List.set_cons_succ])
      (refine takeL (i:=7) (v:=?_) rfl (by kernel_rfl) (by kernel_rfl) (by kernel_rfl) (fun _ _ _ h=>h) (Or.inl ⟨by rfl,?_⟩) (by assumption) ?_)
      rotate_left
      ·(intro w hSw;(try dsimp only at hSw);go_simp;first | done | with_reducible rfl)
      (try simp only [Act.put,List.setIfInBounds_toArray,List.set_cons_zero,List.set_cons_succ])
      (refine takeL (i:=8) (v:=?_) rfl (by kernel_rfl) (by kernel_rfl) (by kernel_rfl) (fun _ _ _ h=>h) (Or.inl ⟨by rfl,?_⟩) (by assumption) ?_)
      rotate_left
      ·(intro w hSw;(try dsimp only at hSw);go_simp;first | done | with_reducible rfl)
      (try simp only [Act.put,List.setIfInBounds_toArray,List.set_cons_zero,List.set_cons_succ])
      (refine takeL (i:=9) (v:=?_) rfl (by kernel_rfl) (by kernel_rfl) (by kernel_rfl) (fun _ _ _ h=>h) (Or.inl ⟨by rfl,?_⟩) (by assumption) ?_)
      rotate_left
      ·(intro w hSw;(try dsimp only at hSw);go_simp;first | done | with_reducible rfl)
      (try simp only [Act.put,List.setIfInBounds_toArray,List.set_cons_zero,List.set_cons_succ])
      (refine takeL (i:=10) (v:=?_) rfl (by kernel_rfl) (by kernel_rfl) (by kernel_rfl) (fun _ _ _ h=>h) (Or.inl ⟨by rfl,?_⟩) (by assumption) ?_)
      rotate_left
      ·(intro w hSw;(try dsimp only at hSw);go_simp;first | done | with_reducible rfl)
      (try simp only [Act.put,List.setIfInBounds_toArray,List.set_cons_zero,List.set_cons_succ])
      (refine takeL (i:=11) (v:=?_) rfl (by kernel_rfl) (by kernel_rfl) (by kernel_rfl) (fun _ _ _ h=>h) (Or.inl ⟨by rfl,?_⟩) (by assumption) ?_)
      rotate_left
      ·(intro w hSw;(try dsimp only at hSw);go_simp;first | done | with_reducible rfl)
      (try simp only [Act.put,List.setIfInBounds_toArray,List.set_cons_zero,List.set_cons_succ])
      (refine takeL (i:=12) (v:=?_) rfl (by kernel_rfl) (by kernel_rfl) (by kernel_rfl) (fun _ _ _ h=>h) (Or.inl ⟨by rfl,?_⟩) (by assumption) ?_)
      rotate_left
      ·(intro w hSw;(try dsimp only at hSw);go_simp;first | done | with_reducible rfl)
      (try simp only [Act.put,List.setIfInBounds_toArray,List.set_cons_zero,List.set_cons_succ])
      (refine takeL (i:=13) (v:=?_) rfl (by kernel_rfl) (by kernel_rfl) (by kernel_rfl) (fun _ _ _ h=>h) (Or.inl ⟨by rfl,?_⟩) (by assumption) ?_)
      rotate_left
      ·(intro w hSw;(try dsimp only at hSw);go_simp;first | done | with_reducible rfl)
      (try simp only [Act.put,List.setIfInBounds_toArray,List.set_cons_zero,List.set_cons_succ])
      (refine takeL (i:=14) (v:=_) rfl (by kernel_rfl) (by kernel_rfl) (by kernel_rfl) (fun _ _ _ h=>h) (Or.inr ⟨by rfl,rfl⟩) (by assumption) ?_)
      (try simp only [Act.put,List.setIfInBounds_toArray,List.set_cons_zero,List.set_cons_succ])
      (refine takeL (i:=15) (v:=_) rfl (by kernel_rfl) (by kernel_rfl) (by kernel_rfl) (fun _ _ _ h=>h) (Or.inr ⟨by rfl,rfl⟩) (by assumption) ?_)
      (try simp only [Act.put,List.setIfInBounds_toArray,List.set_cons_zero,List.set_cons_succ])
      (refine takeL (i:=16) (v:=_) rfl (by kernel_rfl) (by kernel_rfl) (by kernel_rfl) (fun _ _ _ h=>h) (Or.inr ⟨by rfl,rfl⟩) (by assumption) ?_)
      (try simp only [Act.put,List.setIfInBounds_toArray,List.set_cons_zero,List.set_cons_succ])
      (refine takeL (i:=17) (v:=_) rfl (by kernel_rfl) (by kernel_rfl) (by kernel_rfl) (fun _ _ _ h=>h) (Or.inr ⟨by rfl,rfl⟩) (by assumption) ?_)
      (try simp only [Act.put,List.setIfInBounds_toArray,List.set_cons_zero,List.set_cons_succ])
      (refine takeL (i:=18) (v:=_) rfl (by kernel_rfl) (by kernel_rfl) (by kernel_rfl) (fun _ _ _ h=>h) (Or.inr ⟨by rfl,rfl⟩) (by assumption) ?_)
      (try simp only [Act.put,List.setIfInBounds_toArray,List.set_cons_zero,List.set_cons_succ])
      (refine takeL (i:=19) (v:=_) rfl (by kernel_rfl) (by kernel_rfl) (by kernel_rfl) (fun _ _ _ h=>h) (Or.inr ⟨by rfl,rfl⟩) (by assumption) ?_)
      (try simp only [Act.put,List.setIfInBounds_toArray,List.set_cons_zero,List.set_cons_succ])
      (refine takeL (i:=20) (v:=_) rfl (by kernel_rfl) (by kernel_rfl) (by kernel_rfl) (fun _ _ _ h=>h) (Or.inr ⟨by rfl,rfl⟩) (by assumption) ?_)
      (try simp only [Act.put,List.setIfInBounds_toArray,List.set_cons_zero,List.set_cons_succ])
      (refine takeL (i:=21) (v:=?_) rfl (by kernel_rfl) (by kernel_rfl) (by kernel_rfl) (fun _ _ _ h=>h) (Or.inl ⟨by rfl,?_⟩) (by assumption) ?_)
      rotate_left
      ·(intro w hSw;(try dsimp only at hSw);go_simp;first | done | with_reducible rfl)
      (try simp only [Act.put,List.setIfInBounds_toArray,List.set_cons_zero,List.set_cons_succ])
      (refine wpAnyH_done (by kernel_rfl) ?_ _)
      clear hHeld
      go_wp2_with fail
      go_roundw
      case rel=>exact ⟨k+1,by omega,by go_num,by rw [hnx.out];exact hrd⟩
      case measure=>simp [intOf];omega
     ·have dk:(kx != drop) = true:=by simpa using hkk
      have q:=has20_any (i:Int) hrd.out.slI (by rw [castL_len];omega)
      by_cases him:i∈m
      ·rw [if_neg (fun e=>e.2 him)] at hnx
       rw [decide_eq_true (castL_mem.2 him)] at q
       replace hnx:=Lib.hid hnx
       replace hkk:=Lib.hid hkk
       replace q:=Lib.hid q
       go_wp2_with fail
       (refine wp_region_held_drew (S:=(fun V=>V.cell? ⟨bx,1,none⟩ = some (.slice (some ⟨nb,no,none⟩) bl.length ncp)∧V.cell? ⟨b,o+k,none⟩ = some (.int .i64 (i:Nat))∧V.cell? ⟨nb,no+i * 3,none⟩ = some (.int .i64 kx))) (by kernel_rfl) ?_ (fun hHeld=>?_))
       ·exact hS.out _ hrp.out.1.drew
       (refine takeL (i:=0) (v:=?_) rfl (by kernel_rfl) (by kernel_rfl) (by kernel_rfl) (fun _ _ _ h=>h) (Or.inl ⟨by rfl,?_⟩) (by assumption) ?_)
       rotate_left
       ·(intro w hSw;(try dsimp only at hSw);go_simp;first | done | with_reducible rfl)
       (try simp only [Act.put,List.setIfInBounds_toArray,List.set_cons_zero,List.set_cons_succ])
       (refine takeL (i:=1) (v:=?_) rfl (by kernel_rfl) (by kernel_rfl) (by kernel_rfl) (fun _ _ _ h=>h) (Or.inl ⟨by rfl,?_⟩) (by assumption) ?_)
       rotate_left
       ·(intro w hSw;(try dsimp only at hSw);go_simp;first | done | with_reducible rfl)
       (try simp only [Act.put,List.setIfInBounds_toArray,List.set_cons_zero,List.set_cons_succ])
       (refine takeL (i:=2) (v:=?_) rfl (by kernel_rfl) (by kernel_rfl) (by kernel_rfl) (fun _ _ _ h=>h) (Or.inl ⟨by rfl,?_⟩) (by assumption) ?_)
       rotate_left
       ·(intro w hSw;(try dsimp only at hSw);go_simp;first | done | with_reducible rfl)
       (try simp only [Act.put,List.setIfInBounds_toArray,List.set_cons_zero,List.set_cons_succ])
       (refine takeL (i:=3) (v:=?_) rfl (by kernel_rfl) (by kernel_rfl) (by kernel_rfl) (fun _ _ _ h=>h) (Or.inl ⟨by rfl,?_⟩) (by assumption) ?_)
       rotate_left
       ·(intro w hSw;(try dsimp only at hSw);go_simp;first | done | with_reducible rfl)
       (try simp only [Act.put,List.setIfInBounds_toArray,List.set_cons_zero,List.set_cons_succ])
       (refine takeL (i:=4) (v:=?_) rfl (by kernel_rfl) (by kernel_rfl) (by kernel_rfl) (fun _ _ _ h=>h) (Or.inl ⟨by rfl,?_⟩) (by assumption) ?_)
       rotate_left
       ·(intro w hSw;(try dsimp only at hSw);go_simp;first | done | with_reducible rfl)
       (try simp only [Act.put,List.setIfInBounds_toArray,List.set_cons_zero,List.set_cons_succ])
       (refine takeL (i:=5) (v:=?_) rfl (by kernel_rfl) (by kernel_rfl) (by kernel_rfl) (fun _ _ _ h=>h) (Or.inl ⟨by rfl,?_⟩) (by assumption) ?_)
       rotate_left
       ·(intro w hSw;(try dsimp only at hSw);go_simp;first | done | with_reducible rfl)
       (try simp only [Act.put,List.setIfInBounds_toArray,List.set_cons_zero,List.set_cons_succ])
       (refine takeL (i:=6) (v:=?_) rfl (by kernel_rfl) (by kernel_rfl) (by kernel_rfl) (fun _ _ _ h=>h) (Or.inl ⟨by rfl,?_⟩) (by assumption) ?_)
       rotate_left
       ·(intro w hSw;(try dsimp only at hSw);go_simp;first | done | with_reducible rfl)
       (try simp only [Act.put,List.setIfInBounds_toArray,List.set_cons_zero,List.set_cons_succ])
       (refine takeL (i:=7) (v:=?_) rfl (by kernel_rfl) (by kernel_rfl) (by kernel_rfl) (fun _ _ _ h=>h) (Or.inl ⟨by rfl,?_⟩) (by assumption) ?_)
       rotate_left
       ·(intro w hSw;(try dsimp only at hSw);go_simp;first | done | with_reducible rfl)
       (try simp only [Act.put,List.setIfInBounds_toArray,List.set_cons_zero,List.set_cons_succ])
       (refine takeL (i:=8) (v:=?_) rfl (by kernel_rfl) (by kernel_rfl) (by kernel_rfl) (fun _ _ _ h=>h) (Or.inl ⟨by rfl,?_⟩) (by assumption) ?_)
       rotate_left
       ·(intro w hSw;(try dsimp only at hSw);go_simp;first | done | with_reducible rfl)
       (try simp only [Act.put,List.setIfInBounds_toArray,List.set_cons_zero,List.set_cons_succ])
       (refine takeL (i:=9) (v:=?_) rfl (by kernel_rfl) (by kernel_rfl) (by kernel_rfl) (fun _ _ _ h=>h) (Or.inl ⟨by rfl,?_⟩) (by assumption) ?_)
       rotate_left
       ·(intro w hSw;(try dsimp only at hSw);go_simp;first | done | with_reducible rfl)
       (try simp only [Act.put,List.setIfInBounds_toArray,List.set_cons_zero,List.set_cons_succ])
       (refine takeL (i:=10) (v:=?_) rfl (by kernel_rfl) (by kernel_rfl) (by kernel_rfl) (fun _ _ _ h=>h) (Or.inl ⟨by rfl,?_⟩) (by assumption) ?_)
       rotate_left
       ·(intro w hSw;(try dsimp only at hSw);go_simp;first | done | with_reducible rfl)
       (try simp only [Act.put,List.setIfInBounds_toArray,List.set_cons_zero,List.set_cons_succ])
       (refine takeL (i:=11) (v:=?_) rfl (by kernel_rfl) (by kernel_rfl) (by kernel_rfl) (fun _ _ _ h=>h) (Or.inl ⟨by rfl,?_⟩) (by assumption) ?_)
       rotate_left
       ·(intro w hSw;(try dsimp only at hSw);go_simp;first | done | with_reducible rfl)
       (try simp only [Act.put,List.setIfInBounds_toArray,List.set_cons_zero,List.set_cons_succ])
       (refine takeL (i:=12) (v:=?_) rfl (by kernel_rfl) (by kernel_rfl) (by kernel_rfl) (fun _ _ _ h=>h) (Or.inl ⟨by rfl,?_⟩) (by assumption) ?_)
       rotate_left
       ·(intro w hSw;(try dsimp only at hSw);go_simp;first | done | with_reducible rfl)
       (try simp only [Act.put,List.setIfInBounds_toArray,List.set_cons_zero,List.set_cons_succ])
       (refine takeL (i:=13) (v:=?_) rfl (by kernel_rfl) (by kernel_rfl) (by kernel_rfl) (fun _ _ _ h=>h) (Or.inl ⟨by rfl,?_⟩) (by assumption) ?_)
       rotate_left
       ·(intro w hSw;(try dsimp only at hSw);go_simp;first | done | with_reducible rfl)
       (try simp only [Act.put,List.setIfInBounds_toArray,List.set_cons_zero,List.set_cons_succ])
       (refine takeL (i:=14) (v:=?_) rfl (by kernel_rfl) (by kernel_rfl) (by kernel_rfl) (fun _ _ _ h=>h) (Or.inl ⟨by rfl,?_⟩) (by assumption) ?_)
       rotate_left
       ·(intro w hSw;(try dsimp only at hSw);go_simp;first | done | with_reducible rfl)
       (try simp only [Act.put,List.setIfInBounds_toArray,List.set_cons_zero,List.set_cons_succ])
       (refine takeL (i:=15) (v:=?_) rfl (by kernel_rfl) (by kernel_rfl) (by kernel_rfl) (fun _ _ _ h=>h) (Or.inl ⟨by rfl,?_⟩) (by assumption) ?_)
       rotate_left
       ·(intro w hSw;(try dsimp only at hSw);go_simp;first | done | with_reducible rfl)
       (try simp only [Act.put,List.setIfInBounds_toArray,List.set_cons_zero,List.set_cons_succ])
       (refine takeL (i:=16) (v:=?_) rfl (by kernel_rfl) (by kernel_rfl) (by kernel_rfl) (fun _ _ _ h=>h) (Or.inl ⟨by rfl,?_⟩) (by assumption) ?_)
       rotate_left
       ·(intro w hSw;(try dsimp only at hSw);go_simp;first | done | with_reducible rfl)
       (try simp only [Act.put,List.setIfInBounds_toArray,List.set_cons_zero,List.set_cons_succ])
       (refine takeL (i:=17) (v:=?_) rfl (by kernel_rfl) (by kernel_rfl) (by kernel_rfl) (fun _ _ _ h=>h) (Or.inl ⟨by rfl,?_⟩) (by assumption) ?_)
       rotate_left
       ·(intro w hSw;(try dsimp only at hSw);go_simp;first | done | with_reducible rfl)
       (try simp only [Act.put,List.setIfInBounds_toArray,List.set_cons_zero,List.set_cons_succ])
       (refine takeL (i:=18) (v:=?_) rfl (by kernel_rfl) (by kernel_rfl) (by kernel_rfl) (fun _ _ _ h=>h) (Or.inl ⟨by rfl,?_⟩) (by assumption) ?_)
       rotate_left
       ·(intro w hSw;(try dsimp only at hSw);go_simp;first | done | with_reducible rfl)
       (try simp only [Act.put,List.setIfInBounds_toArray,List.set_cons_zero,List.set_cons_succ])
       (refine wpAnyH_ready (rs:=[19]) (by kernel_rfl) (by simp) ?_)
       (refine consL rfl (fun K hK=>?_))
       ((rw [if_pos (by rfl)]);go_simp;refine q.out.mono ?_;rintro e w3 ⟨rfl,rfl⟩;refine hK.out _ _ (hS.out _ hrd.out.1) (fun hHeld=>?_))
       (clear hK K)
       (try simp only [Act.put,List.setIfInBounds_toArray,List.set_cons_zero,List.set_cons_succ])
       (refine takeL (i:=20) (v:=?_) rfl (by kernel_rfl) (by kernel_rfl) (by kernel_rfl) (fun _ _ _ h=>h) (Or.inl ⟨by rfl,?_⟩) (by assumption) ?_)
       rotate_left
       ·(intro w hSw;(try dsimp only at hSw);go_simp;first | done | with_reducible rfl)
       (try simp only [Act.put,List.setIfInBounds_toArray,List.set_cons_zero,List.set_cons_succ])
       (refine takeL (i:=21) (v:=?_) rfl (by kernel_rfl) (by kernel_rfl) (by kernel_rfl) (fun _ _ _ h=>h) (Or.inl ⟨by rfl,?_⟩) (by assumption) ?_)
       rotate_left
       ·(intro w hSw;(try dsimp only at hSw);go_simp;first | done | with_reducible rfl)
       (try simp only [Act.put,List.setIfInBounds_toArray,List.set_cons_zero,List.set_cons_succ])
       (refine wpAnyH_done (by kernel_rfl) ?_ _)
       clear hHeld
       go_wp2_with fail
       go_roundw
       case rel=>exact ⟨k+1,by omega,by go_num,by rw [hnx.out];exact hrd⟩
       case measure=>simp [intOf];omega
      ·rw [if_pos ⟨hkk,him⟩] at hnx
       rw [decide_eq_false (fun e=>him (castL_mem.1 e))] at q
       replace hnx:=Lib.hid hnx
       replace hkk:=Lib.hid hkk
       replace q:=Lib.hid q
       go_wp2_with fail
       (refine wp_region_held_drew (S:=(fun V=>V.cell? ⟨bx,1,none⟩ = some (.slice (some ⟨nb,no,none⟩) bl.length ncp)∧V.cell? ⟨b,o+k,none⟩ = some (.int .i64 (i:Nat))∧V.cell? ⟨nb,no+i * 3,none⟩ = some (.int .i64 kx))) (by kernel_rfl) ?_ (fun hHeld=>?_))
       ·exact hS.out _ hrp.out.1.drew
       (refine takeL (i:=0) (v:=?_) rfl (by kernel_rfl) (by kernel_rfl) (by kernel_rfl) (fun _ _ _ h=>h) (Or.inl ⟨by rfl,?_⟩) (by assumption) ?_)
       rotate_left
       ·(intro w hSw;(try dsimp only at hSw);go_simp;first | done | with_reducible rfl)
       (try simp only [Act.put,List.setIfInBounds_toArray,List.set_cons_zero,List.set_cons_succ])
       (refine takeL (i:=1) (v:=?_) rfl (by kernel_rfl) (by kernel_rfl) (by kernel_rfl) (fun _ _ _ h=>h) (Or.inl ⟨by rfl,?_⟩) (by assumption) ?_)
       rotate_left
       ·(intro w hSw;(try dsimp only at hSw);go_simp;first | done | with_reducible rfl)
       (try simp only [Act.put,List.setIfInBounds_toArray,List.set_cons_zero,List.set_cons_succ])
       (refine takeL (i:=2) (v:=?_) rfl (by kernel_rfl) (by kernel_rfl) (by kernel_rfl) (fun _ _ _ h=>h) (Or.inl ⟨by rfl,?_⟩) (by assumption) ?_)
       rotate_left
       ·(intro w hSw;(try dsimp only at hSw);go_simp;first | done | with_reducible rfl)
       (try simp only [Act.put,List.setIfInBounds_toArray,List.set_cons_zero,List.set_cons_succ])
       (refine takeL (i:=3) (v:=?_) rfl (by kernel_rfl) (by kernel_rfl) (by kernel_rfl) (fun _ _ _ h=>h) (Or.inl ⟨by rfl,?_⟩) (by assumption) ?_)
       rotate_left
       ·(intro w hSw;(try dsimp only at hSw);go_simp;first | done | with_reducible rfl)
       (try simp only [Act.put,List.setIfInBounds_toArray,List.set_cons_zero,List.set_cons_succ])
       (refine takeL (i:=4) (v:=?_) rfl (by kernel_rfl) (by kernel_rfl) (by kernel_rfl) (fun _ _ _ h=>h) (Or.inl ⟨by rfl,?_⟩) (by assumption) ?_)
       rotate_left
       ·(intro w hSw;(try dsimp only at hSw);go_simp;first | done | with_reducible rfl)
       (try simp only [Act.put,List.setIfInBounds_toArray,List.set_cons_zero,List.set_cons_succ])
       (refine takeL (i:=5) (v:=?_) rfl (by kernel_rfl) (by kernel_rfl) (by kernel_rfl) (fun _ _ _ h=>h) (Or.inl ⟨by rfl,?_⟩) (by assumption) ?_)
       rotate_left
       ·(intro w hSw;(try dsimp only at hSw);go_simp;first | done | with_reducible rfl)
       (try simp only [Act.put,List.setIfInBounds_toArray,List.set_cons_zero,List.set_cons_succ])
       (refine takeL (i:=6) (v:=?_) rfl (by kernel_rfl) (by kernel_rfl) (by kernel_rfl) (fun _ _ _ h=>h) (Or.inl ⟨by rfl,?_⟩) (by assumption) ?_)
       rotate_left
       ·(intro w hSw;(try dsimp only at hSw);go_simp;first | done | with_reducible rfl)
       (try simp only [Act.put,List.setIfInBounds_toArray,List.set_cons_zero,List.set_cons_succ])
       (refine takeL (i:=7) (v:=?_) rfl (by kernel_rfl) (by kernel_rfl) (by kernel_rfl) (fun _ _ _ h=>h) (Or.inl ⟨by rfl,?_⟩) (by assumption) ?_)
       rotate_left
       ·(intro w hSw;(try dsimp only at hSw);go_simp;first | done | with_reducible rfl)
       (try simp only [Act.put,List.setIfInBounds_toArray,List.set_cons_zero,List.set_cons_succ])
       (refine takeL (i:=8) (v:=?_) rfl (by kernel_rfl) (by kernel_rfl) (by kernel_rfl) (fun _ _ _ h=>h) (Or.inl ⟨by rfl,?_⟩) (by assumption) ?_)
       rotate_left
       ·(intro w hSw;(try dsimp only at hSw);go_simp;first | done | with_reducible rfl)
       (try simp only [Act.put,List.setIfInBounds_toArray,List.set_cons_zero,List.set_cons_succ])
       (refine takeL (i:=9) (v:=?_) rfl (by kernel_rfl) (by kernel_rfl) (by kernel_rfl) (fun _ _ _ h=>h) (Or.inl ⟨by rfl,?_⟩) (by assumption) ?_)
       rotate_left
       ·(intro w hSw;(try dsimp only at hSw);go_simp;first | done | with_reducible rfl)
       (try simp only [Act.put,List.setIfInBounds_toArray,List.set_cons_zero,List.set_cons_succ])
       (refine takeL (i:=10) (v:=?_) rfl (by kernel_rfl) (by kernel_rfl) (by kernel_rfl) (fun _ _ _ h=>h) (Or.inl ⟨by rfl,?_⟩) (by assumption) ?_)
       rotate_left
       ·(intro w hSw;(try dsimp only at hSw);go_simp;first | done | with_reducible rfl)
       (try simp only [Act.put,List.setIfInBounds_toArray,List.set_cons_zero,List.set_cons_succ])
       (refine takeL (i:=11) (v:=?_) rfl (by kernel_rfl) (by kernel_rfl) (by kernel_rfl) (fun _ _ _ h=>h) (Or.inl ⟨by rfl,?_⟩) (by assumption) ?_)
       rotate_left
       ·(intro w hSw;(try dsimp only at hSw);go_simp;first | done | with_reducible rfl)
       (try simp only [Act.put,List.setIfInBounds_toArray,List.set_cons_zero,List.set_cons_succ])
       (refine takeL (i:=12) (v:=?_) rfl (by kernel_rfl) (by kernel_rfl) (by kernel_rfl) (fun _ _ _ h=>h) (Or.inl ⟨by rfl,?_⟩) (by assumption) ?_)
       rotate_left
       ·(intro w hSw;(try dsimp only at hSw);go_simp;first | done | with_reducible rfl)
       (try simp only [Act.put,List.setIfInBounds_toArray,List.set_cons_zero,List.set_cons_succ])
       (refine takeL (i:=13) (v:=?_) rfl (by kernel_rfl) (by kernel_rfl) (by kernel_rfl) (fun _ _ _ h=>h) (Or.inl ⟨by rfl,?_⟩) (by assumption) ?_)
       rotate_left
       ·(intro w hSw;(try dsimp only at hSw);go_simp;first | done | with_reducible rfl)
       (try simp only [Act.put,List.setIfInBounds_toArray,List.set_cons_zero,List.set_cons_succ])
       (refine takeL (i:=14) (v:=?_) rfl (by kernel_rfl) (by kernel_rfl) (by kernel_rfl) (fun _ _ _ h=>h) (Or.inl ⟨by rfl,?_⟩) (by assumption) ?_)
       rotate_left
       ·(intro w hSw;(try dsimp only at hSw);go_simp;first | done | with_reducible rfl)
       (try simp only [Act.put,List.setIfInBounds_toArray,List.set_cons_zero,List.set_cons_succ])
       (refine takeL (i:=15) (v:=?_) rfl (by kernel_rfl) (by kernel_rfl) (by kernel_rfl) (fun _ _ _ h=>h) (Or.inl ⟨by rfl,?_⟩) (by assumption) ?_)
       rotate_left
       ·(intro w hSw;(try dsimp only at hSw);go_simp;first | done | with_reducible rfl)
       (try simp only [Act.put,List.setIfInBounds_toArray,List.set_cons_zero,List.set_cons_succ])
       (refine takeL (i:=16) (v:=?_) rfl (by kernel_rfl) (by kernel_rfl) (by kernel_rfl) (fun _ _ _ h=>h) (Or.inl ⟨by rfl,?_⟩) (by assumption) ?_)
       rotate_left
       ·(intro w hSw;(try dsimp only at hSw);go_simp;first | done | with_reducible rfl)
       (try simp only [Act.put,List.setIfInBounds_toArray,List.set_cons_zero,List.set_cons_succ])
       (refine takeL (i:=17) (v:=?_) rfl (by kernel_rfl) (by kernel_rfl) (by kernel_rfl) (fun _ _ _ h=>h) (Or.inl ⟨by rfl,?_⟩) (by assumption) ?_)
       rotate_left
       ·(intro w hSw;(try dsimp only at hSw);go_simp;first | done | with_reducible rfl)
       (try simp only [Act.put,List.setIfInBounds_toArray,List.set_cons_zero,List.set_cons_succ])
       (refine takeL (i:=18) (v:=?_) rfl (by kernel_rfl) (by kernel_rfl) (by kernel_rfl) (fun _ _ _ h=>h) (Or.inl ⟨by rfl,?_⟩) (by assumption) ?_)
       rotate_left
       ·(intro w hSw;(try dsimp only at hSw);go_simp;first | done | with_reducible rfl)
       (try simp only [Act.put,List.setIfInBounds_toArray,List.set_cons_zero,List.set_cons_succ])
       (refine wpAnyH_ready (rs:=[19]) (by kernel_rfl) (by simp) ?_)
       (refine consL rfl (fun K hK=>?_))
       ((rw [if_pos (by rfl)]);go_simp;refine q.out.mono ?_;rintro e w3 ⟨rfl,rfl⟩;refine hK.out _ _ (hS.out _ hrd.out.1) (fun hHeld=>?_))
       (clear hK K)
       (try simp only [Act.put,List.setIfInBounds_toArray,List.set_cons_zero,List.set_cons_succ])
       (refine takeL (i:=20) (v:=?_) rfl (by kernel_rfl) (by kernel_rfl) (by kernel_rfl) (fun _ _ _ h=>h) (Or.inl ⟨by rfl,?_⟩) (by assumption) ?_)
       rotate_left
       ·(intro w hSw;(try dsimp only at hSw);go_simp;first | done | with_reducible rfl)
       (try simp only [Act.put,List.setIfInBounds_toArray,List.set_cons_zero,List.set_cons_succ])
       (refine takeL (i:=21) (v:=?_) rfl (by kernel_rfl) (by kernel_rfl) (by kernel_rfl) (fun _ _ _ h=>h) (Or.inl ⟨by rfl,?_⟩) (by assumption) ?_)
       rotate_left
       ·(intro w hSw;(try dsimp only at hSw);go_simp;first | done | with_reducible rfl)
       (try simp only [Act.put,List.setIfInBounds_toArray,List.set_cons_zero,List.set_cons_succ])
       (refine wpAnyH_done (by kernel_rfl) ?_ _)
       clear hHeld
       clear hrp q
       generalize wr.drew = wd at *
       obtain ⟨s0,s1,s2⟩:=hS.out _ hrd.out.1
       go_wp2_with (at_builtin;go_loud (refine wpList_append_own _ rfl _ _ 25 rfl w2.heap.size 3 i0 (.int .i64 0) 1 8 Tryz.underlying25 hi0 hz0 hz1 hz2 rfl (by decide) _ _ _ rfl (hrd.out.2.alloc _) ⟨wd.heap.size,0,none⟩ 1 1 [.int .i64 (i:Nat)] rfl rfl (cell_one_at _ _ _ _ rfl) (by simp [Value.oneCell']) (by rw [castL_len];unfold maxLen;omega) (by rw [castL_len];omega) (by simp;have:=hrd.out.1.size;omega) ?_);intro v4 w4 ho4 hg4 _)
       have hr4:=hrd.out.snoc ho4 hg4
       have hr5:Hid (IRow w2 (castL (L.onceL bl drop (fl.take (k+1)))) v4 w4):=Lib.hid (by rw [hnx.out,castL_app];exact hr4)
       obtain ⟨b4,c4,rfl⟩:=hr5.out.shapeN
       clear hr4 ho4 hg4 s0 s1 s2 hrd
       go_wp2_with fail
       go_roundw
       case rel=>exact ⟨k+1,by omega,by go_num,hr5⟩
       case measure=>simp [intOf];omega
    ·obtain rfl:k = fl.length:=by omega
     rw [List.take_length] at hrp
     obtain ⟨ob,oc,rfl⟩:=hrp.out.shapeN
     go_wp2_with fail
     go_ret
     exact ⟨_,rfl,by rw [hfle.out];exact ⟨hro.out.1.trans (hrp.out.1.mono hro.out.1.size),own_weak hrp.out.2 hro.out.1.size⟩⟩
end Go.Proofs.YtckhohpbokojdaaGreatDoor
