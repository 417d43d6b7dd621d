import Derived.Test.YtckhohpbokojdaaGreatDoorMD1
import Derived.Test.YtckhohpbokojdaaGreatDoorMN44
import Derived.Test.YtckhohpbokojdaaGreatDoorMN10
import Derived.Test.YtckhohpbokojdaaGreatDoorMN28
import Derived.Maps.AppendAt
import Derived.Test.YtckhohpbokojdaaGreatDoorMN34
import Derived.Test.YtckhohpbokojdaaGreatDoorMN31
set_option linter.unusedSimpArgs false
set_option linter.unusedVariables false
namespace Go.Proofs.YtckhohpbokojdaaGreatDoor
open Go Go.RowKit Go.Shelf
theorem bits_xor_bv (x y:BitVec 64):bits .xor .u64 (x.toNat:Int) (y.toNat:Int) = ((x ^^^ y).toNat:Int):=by
 show IntKind.u64.wrap ((BitVec.ofInt 64 (x.toNat:Int) ^^^ BitVec.ofInt 64 (y.toNat:Int)).toNat:Int) = _
 have e:∀ z:BitVec 64,BitVec.ofInt 64 (z.toNat:Int) = z:=fun z=>by rw [BitVec.ofInt_natCast];simp
 rw [e,e,IntKind.wrap_u64]
 have:=(x ^^^ y).isLt
 omega
theorem xor_u (x:BitVec 64):bits .xor .u64 (if IntKind.u64.signed = true then -1 else IntKind.u64.max) (x.toNat:Int) = ((~~~x).toNat:Int):=by
 have e:(if IntKind.u64.signed = true then (-1:Int) else IntKind.u64.max) = (((BitVec.allOnes 64).toNat:Nat):Int):=by decide
 rw [e,bits_xor_bv]
 first
  | done
  | (congr 2;first | done | (ext i hi;simp))
def vU (x:BitVec 64):Value:=.int .u64 (x.toNat:Int)
def valU (X:Nat→BitVec 64):Nat→Value:=fun j=>vU (X j)
def mixX (X f:Nat→BitVec 64) (k:Nat):Nat→BitVec 64:=fun j=>if j < k then X j else f j
theorem mixX_next (X f:Nat→BitVec 64) (k j:Nat):putF (valU (mixX X f k)) k (vU (X k)) j = valU (mixX X f (k+1)) j:=by
 unfold putF valU mixX
 by_cases h:j = k
 ·subst h;rw [if_pos rfl,if_pos (Nat.lt_succ_self _)]
 ·rw [if_neg h]
  by_cases h2:j < k
  ·rw [if_pos h2,if_pos (by omega)]
  ·rw [if_neg h2,if_neg (by omega)]
def SpI (w0 w1:World) (g wb m:Nat) (W X f:Nat→BitVec 64) (k:Nat) (V:World):Prop :=
 Below w0.heap.size w0 V∧RowF V g 35 m (valU (mixX X f k))∧RowF V wb 80 129 (valU W)∧(w1.heap.size≤V.heap.size∧∀ j,j < w1.heap.size→j≠g→V.heap[j]? = w1.heap[j]?)
theorem SpI.next {w0 w1 V V':World} {g wb m k:Nat} {W X f:Nat→BitVec 64} (h:SpI w0 w1 g wb m W X f k V) (hb:Below V.heap.size V V'):SpI w0 w1 g wb m W X f k V':=by
 obtain ⟨h1,h2,h3,h4,h5⟩:=h
 exact ⟨h1.trans (hb.mono h1.size),h2.below hb,h3.below hb,Nat.le_trans h4 hb.size,fun j hj hne=>(hb.block j (by omega)).trans (h5 j hj hne)⟩
theorem SpI.fin {w0 w1 V:World} {g wb m k:Nat} {W X f:Nat→BitVec 64} (h:SpI w0 w1 g wb m W X f k V):SpI w0 w1 g wb m W (mixX X f k) (mixX X f k) 0 V :=
 ⟨h.1,h.2.1.congr fun j _=>by unfold valU;congr 1,h.2.2⟩
theorem SpI.put {w0 w1 V:World} {g wb m k:Nat} {W X f:Nat→BitVec 64} (h:SpI w0 w1 g wb m W X f k V) (hg:w0.heap.size≤g):SpI w0 w1 g wb m W X f (k+1) (V.setCell ⟨g,k,none⟩ (vU (X k))):=by
 obtain ⟨h1,h2,h3,h4,h5⟩:=h
 obtain ⟨c2,e2,-⟩:=id h2
 obtain ⟨c3,e3,h3'⟩:=h3
 exact ⟨h1.setCell (p:=⟨g,k,none⟩) hg _,(h2.set k _).congr fun j _=>mixX_next X f k j,⟨c3,(Below.heap_setCell _ _ _ _ (ne_type e3 e2 (by decide))).trans e3,h3'⟩,by simpa [World.setCell] using h4,fun j hj hne=>(Below.heap_setCell _ _ _ _ hne).trans (h5 j hj hne)⟩
set_option maxRecDepth 100000 in
set_option maxHeartbeats 4000000 in
theorem separate_any {n:Int} {nl:List L.ND} {v:Value} {w0 w:World} {wb g:Nat} {W f0:Nat→BitVec 64} (hv:SlC w0 v (nl.map L.ofND)) (hc:L.netChk n (nl.map L.ofND) = 0) (h2:∀ y∈nl,y.inp.length≤100000) (hw0:Below w0.heap.size w0 w) (hg:w0.heap.size≤g) (hX:RowF w g 35 nl.length (valU f0)) (hW:RowF w wb 80 129 (valU W)) :
  Calls Tryz.prog 56 #[.agg #[.int .i64 n,v],.pointer (some ⟨wb,0,none⟩),.slice (some ⟨g,0,none⟩) nl.length nl.length] w fun e w'=>∃ B,e = .returned (.bool B)∧(B = true↔SepP W nl)∧∃ f,SpI w0 w g wb nl.length W f f 0 w':=by
 have hnok:L.NOK n nl:=by
  have:=(L.net_nok hc).1
  rwa [List.map_map,show (L.toND ∘ L.ofND) = id from funext L.toND_ofND,List.map_id] at this
 obtain ⟨hn,hl1,-⟩:=L.netChk_ok.1 hc
 rw [List.length_map] at hl1
 obtain ⟨ba,cp,rfl,hcell⟩:=slC_nd hv
 have hx1:Ext w (w.alloc (.cells #[.int .i64 n,.slice ba nl.length cp] 24)):=(Ext.refl w).alloc _
 have e0:=heap_alloc_new w (.cells #[.int .i64 n,.slice ba nl.length cp] 24)
 have p1:((w.alloc (.cells #[.int .i64 n,.slice ba nl.length cp] 24))).cell? ⟨w.heap.size,1,none⟩ = some (.slice ba nl.length cp):=by rw [World.cell?,e0];rfl
 have hI0:Hid (SpI w0 w g wb nl.length W (XV W nl) f0 0 (w.alloc (.cells #[.int .i64 n,.slice ba nl.length cp] 24))):=Lib.hid ((show SpI w0 w g wb nl.length W (XV W nl) f0 0 w from ⟨hw0,hX.congr fun j _=>by unfold valU mixX;rw [if_neg (Nat.not_lt_zero _)],hW,Nat.le_refl _,fun _ _ _=>rfl⟩).next hx1.below)
 have hval:=fun i (hi:i < nl.length)=>XV_val (W:=W) hnok hi
 have hform:=fun k (hk:k < nl.length)=>hnok.form _ (List.getElem_mem hk)
 have hcell0:∀ V,Below w0.heap.size w0 V→∀ k (hk:k < nl.length),∃ b o bb cc,ba = some ⟨b,o,none⟩∧V.cell? ⟨b,o+k * 3,none⟩ = some (.int .i64 nl[k].kind)∧V.cell? ⟨b,o+k * 3+1,none⟩ = some (.int .i64 nl[k].lit)∧V.cell? ⟨b,o+k * 3+2,none⟩ = some (.slice bb nl[k].inp.length cc)∧SlI V (.slice bb nl[k].inp.length cc) (castL nl[k].inp):=fun V hV k hk=>by
  obtain ⟨b,o,bb,cc,h1,f0,f1,f2,fin⟩:=hcell k hk
  have kp:∀ {a:Addr} {v:Value},w0.cell? a = some v→V.cell? a = some v:=fun e=>(hV.cell (World.block_lt_of_cell? w0 _ e)).trans e
  exact ⟨b,o,bb,cc,h1,kp f0,kp f1,kp f2,fin.ext hV⟩
 obtain ⟨X,hXe⟩:∃ X,X = XV W nl:=⟨_,rfl⟩
 have hSepE:Hid (SepP W nl↔∀ i (hi:i < nl.length),nl[i].kind = 4→clash X nl[i].inp 0 = false):=Lib.hid (by
  rw [hXe]
  unfold SepP
  exact ⟨fun h i hi h4=>by have:=h i hi;rw [L.ndAt_lt hi] at this;exact this h4,fun h i hi h4=>by rw [L.ndAt_lt hi] at h4 ⊢;exact h i hi h4⟩)
 rw [←hXe] at hI0
 simp only [←hXe] at hval
 have hx0:bits .xor .u64 (if IntKind.u64.signed = true then -1 else IntKind.u64.max) 0 = 18446744073709551615:=xor_u 0
 replace hcell:=Lib.hid hcell0
 clear hcell0
 replace h2:=Lib.hid h2
 replace e0:=Lib.hid e0
 replace hnok:=Lib.hid hnok
 replace hform:=Lib.hid hform
 replace hval:=Lib.hid hval
 replace hXe:=Lib.hid hXe
 clear hc hv hX hW hw0
 go_enter Tryz.func56,Tryz.ntmps56
 go_wp2_with fail
 generalize (w.alloc (.cells #[.int .i64 n,.slice ba nl.length cp] 24)) = w1 at *
 clear p1
 go_loopw [17] (fun i wr=>∃ k:Nat,k≤nl.length∧i = .int .i64 (k:Nat)∧Hid (SpI w0 w g wb nl.length W X f0 k wr)∧Hid (∀ i (hi:i < nl.length),i < k→nl[i].kind = 4→clash X nl[i].inp 0 = false)) (fun i _=>nl.length - (intOf i).toNat)
 case atStart=>exact ⟨0,Nat.zero_le _,rfl,hI0,Lib.hid (fun i hi h=>absurd h (Nat.not_lt_zero _))⟩
 case round =>
  clear hI0
  obtain ⟨k,hk,rfl,hI,hN⟩:=hrel
  by_cases hlt:k < nl.length
  ·have q0:(0:Int)≤(k:Int):=by omega
   have q1:(k:Int) < (nl.length:Int):=by omega
   have dk:decide ((k:Int) < (nl.length:Int)) = true:=decide_eq_true q1
   obtain ⟨b,o,bb,cc,rfl,r0,r1,r2,fin⟩:=hcell.out wr hI.out.1 k hlt
   have hkid:=hnok.out.kids k hlt
   have hfm:=hform.out k hlt
   have hvl:=hval.out k hlt
   have hilen:=h2.out _ (List.getElem_mem hlt)
   have hse:=hSepE.out
   have hcl:nl[k].kind = 4→clash X nl[k].inp 0 = true→Hid (¬ SepP W nl):=fun h4 h=>Lib.hid fun e=>by
    rw [hse] at e
    rw [e k hlt h4] at h;cases h
   have hn2:(nl[k].kind = 4→clash X nl[k].inp 0 = false)→Hid (∀ i (hi:i < nl.length),i < k+1→nl[i].kind = 4→clash X nl[i].inp 0 = false):=fun h=>Lib.hid fun j hj hjk=>by
    by_cases e:j = k
    ·subst e;exact h
    ·exact hN.out j hj (by omega)
   clear hse
   generalize nl[k] = y at *
   obtain ⟨kd,lt,ip⟩:=y
   dsimp only at *
   rename World=>wr
   have hbA:Below wr.heap.size wr (wr.alloc (.cells #[.int .i64 kd,.int .i64 lt,.slice bb ip.length cc] 40)):=(Below.refl _ _).alloc (Nat.le_refl _) _
   have hIx:=hI.out.next hbA
   have hna:=heap_alloc_new wr (.cells #[.int .i64 kd,.int .i64 lt,.slice bb ip.length cc] 40)
   obtain ⟨⟨x0,x1,x2⟩,-⟩:=bx3q hna
   have hip:∀ j (hj:j < ip.length),∃ b o,bb = some ⟨b,o,none⟩∧(wr.alloc (.cells #[.int .i64 kd,.int .i64 lt,.slice bb ip.length cc] 40)).cell? ⟨b,o+j,none⟩ = some (.int .i64 (ip[j]:Nat)):=fun j hj=>by
    obtain ⟨b,o,h1,h2⟩:=slI_cell (fin.ext hbA) (k:=j) (by rw [castL_len];exact hj)
    rw [castL_at _ hj] at h2
    exact ⟨b,o,h1,h2⟩
   obtain ⟨y0,yf⟩:=hIx.2.1.cell hlt
   have hput:=Lib.hid (hIx.put (k:=k) hg)
   replace hip:=Lib.hid hip
   replace hkid:=Lib.hid hkid
   replace hna:=Lib.hid hna
   replace hIx:=Lib.hid hIx
   clear fin
   unfold valW at hvl
   by_cases h1:kd = 1
   ·rw [if_pos h1] at hvl
    have d1:(kd == 1) = true:=by simpa using h1
    have hn3:=hn2 (fun e=>by omega)
    have hvu:vU (X k) = .int .u64 18446744073709551615:=by rw [hvl];rfl
    rw [hvu] at hput
    replace h1:=Lib.hid h1
    replace hvl:=Lib.hid hvl
    replace hvu:=Lib.hid hvu
    clear hcl hn2 hfm
    go_wp2_with fail
    go_roundw
    case rel=>exact ⟨k+1,by omega,by go_num,hput,hn3⟩
    case measure=>simp [intOf];omega
   ·rw [if_neg h1] at hvl
    have d1:(kd == 1) = false:=beq_eq_false_iff_ne.2 h1
    by_cases h2:kd = 2
    ·rw [if_pos h2] at hvl
     have d2:(kd == 2) = true:=by simpa using h2
     have hn3:=hn2 (fun e=>by omega)
     have hr:lt≠0∧-128≤lt∧lt≤128:=by
      rcases hfm with h | h | h <;> omega
     obtain ⟨kk,hkk⟩:∃ kk:Nat,kk = lt.natAbs:=⟨_,rfl⟩
     have qv:∀ V,Calls Tryz.prog 25 #[.int .i64 lt] V fun e w'=>e = .returned (.int .i64 (kk:Int))∧V = w':=fun V=>by
      have:=var_any lt V
      rw [varF_abs (by omega),←hkk] at this
      exact this
     have hc9:=(hIx.out.2.2.1.cell (j:=kk) (by omega)).1
     have m0:(0:Int)≤(kk:Int):=by omega
     have m1:(kk:Int) < 129:=by omega
     have hS9:∀ V,Ext (wr.alloc (.cells #[.int .i64 kd,.int .i64 lt,.slice bb ip.length cc] 40)) V→V.cell? ⟨wr.heap.size,1,none⟩ = some (.int .i64 lt)∧V.cell? ⟨wb,kk,none⟩ = some (.int .u64 ((W kk).toNat:Nat)):=fun V hV=>⟨hV.cell x1,hV.cell hc9⟩
     have hIy:=hIx.out.next (Ext.refl (wr.alloc (.cells #[.int .i64 kd,.int .i64 lt,.slice bb ip.length cc] 40))).drew.below
     obtain ⟨z0,zf⟩:=hIy.2.1.cell hlt
     have hput2:=Lib.hid (hIy.put (k:=k) hg)
     have hS9d:=hS9 _ (Ext.refl (wr.alloc (.cells #[.int .i64 kd,.int .i64 lt,.slice bb ip.length cc] 40))).drew
     obtain ⟨u1,-⟩:=hS9d
     replace hS9:=Lib.hid hS9
     replace h1:=Lib.hid h1
     replace h2:=Lib.hid h2
     unfold litW at hvl
     rw [←hkk] at hvl
     replace hkk:=Lib.hid hkk
     replace hIy:=Lib.hid hIy
     clear hcl hn2 hfm hput hc9
     by_cases hneg:lt < 0
     ·have dn:decide (lt < 0) = true:=decide_eq_true hneg
      rw [if_pos hneg] at hvl
      have hxn:=xor_u (W kk)
      have hvu:vU (X k) = .int .u64 (((~~~(W kk)).toNat:Nat):Int):=by rw [hvl];rfl
      rw [hvu] at hput2
      generalize (~~~(W kk)) = wk at *
      replace hneg:=Lib.hid hneg
      replace hvl:=Lib.hid hvl
      replace hvu:=Lib.hid hvu
      go_wp2_with fail
      (refine wp_region_held_drew (S:=(fun V=>V.cell? ⟨wr.heap.size,1,none⟩ = some (.int .i64 lt)∧V.cell? ⟨wb,kk,none⟩ = some (.int .u64 ((W kk).toNat:Nat)))) (by kernel_rfl) ?_ (fun hHeld=>?_))
      ·exact hS9.out _ (Ext.refl (wr.alloc (.cells #[.int .i64 kd,.int .i64 lt,.slice bb ip.length cc] 40))).drew
      (refine takeL (i:=0) (v:=?_) rfl (by kernel_rfl) (by kernel_rfl) (by kernel_rfl) (fun _ _ _ h=>h) (Or.inl ⟨by rfl,?_⟩) (by assumption) ?_)
      rotate_left
      ·(intro w hSw;(try dsimp only at hSw);go_simp;first | done | with_reducible rfl)
      (try simp only [Act.put,List.setIfInBounds_toArray,List.set_cons_zero,List.set_cons_succ])
      (refine takeL (i:=1) (v:=?_) rfl (by kernel_rfl) (by kernel_rfl) (by kernel_rfl) (fun _ _ _ h=>h) (Or.inl ⟨by rfl,?_⟩) (by assumption) ?_)
      rotate_left
      ·(intro w hSw;(try dsimp only at hSw);go_simp;first | done | with_reducible rfl)
      (try simp only [Act.put,List.setIfInBounds_toArray,List.set_cons_zero,List.set_cons_succ])
      (refine takeL (i:=2) (v:=?_) rfl (by kernel_rfl) (by kernel_rfl) (by kernel_rfl) (fun _ _ _ h=>h) (Or.inl ⟨by rfl,?_⟩) (by assumption) ?_)
      rotate_left
      ·(intro w hSw;(try dsimp only at hSw);go_simp;first | done | with_reducible rfl)
      (try simp only [Act.put,List.setIfInBounds_toArray,List.set_cons_zero,List.set_cons_succ])
      (refine takeL (i:=4) (v:=?_) rfl (by kernel_rfl) (by kernel_rfl) (by kernel_rfl) (fun _ _ _ h=>h) (Or.inl ⟨by rfl,?_⟩) (by assumption) ?_)
      rotate_left
      ·(intro w hSw;(try dsimp only at hSw);go_simp;first | done | with_reducible rfl)
      (try simp only [Act.put,List.setIfInBounds_toArray,List.set_cons_zero,List.set_cons_succ])
      (refine wpAnyH_ready (rs:=[3]) (by kernel_rfl) (by simp) ?_)
      (refine consL rfl (fun K hK=>?_))
      ((rw [if_pos (by rfl)]);go_simp;(go_at_call 25);refine (qv _).mono ?_;rintro e w9 ⟨rfl,rfl⟩;refine hK.out _ _ hHeld (fun hHeld=>?_))
      (clear hK K)
      (try simp only [Act.put,List.setIfInBounds_toArray,List.set_cons_zero,List.set_cons_succ])
      (refine takeL (i:=5) (v:=?_) rfl (by kernel_rfl) (by kernel_rfl) (by kernel_rfl) (fun _ _ _ h=>h) (Or.inl ⟨by rfl,?_⟩) (by assumption) ?_)
      rotate_left
      ·(intro w hSw;(try dsimp only at hSw);go_simp;first | done | with_reducible rfl)
      (try simp only [Act.put,List.setIfInBounds_toArray,List.set_cons_zero,List.set_cons_succ])
      (refine takeL (i:=6) (v:=?_) rfl (by kernel_rfl) (by kernel_rfl) (by kernel_rfl) (fun _ _ _ h=>h) (Or.inl ⟨by rfl,?_⟩) (by assumption) ?_)
      rotate_left
      ·(intro w hSw;(try dsimp only at hSw);go_simp;first | done | with_reducible rfl)
      (try simp only [Act.put,List.setIfInBounds_toArray,List.set_cons_zero,List.set_cons_succ])
      (refine takeL (i:=7) (v:=?_) rfl (by kernel_rfl) (by kernel_rfl) (by kernel_rfl) (fun _ _ _ h=>h) (Or.inl ⟨by rfl,?_⟩) (by assumption) ?_)
      rotate_left
      ·(intro w hSw;(try dsimp only at hSw);go_simp;first | done | with_reducible rfl)
      (try simp only [Act.put,List.setIfInBounds_toArray,List.set_cons_zero,List.set_cons_succ])
      (refine wpAnyH_done (by kernel_rfl) ?_ _)
      clear hHeld
      go_wp2_with fail
      go_roundw
      case rel=>exact ⟨k+1,by omega,by go_num,hput2,hn3⟩
      case measure=>simp [intOf];omega
     ·have dn:decide (lt < 0) = false:=decide_eq_false hneg
      rw [if_neg hneg] at hvl
      have hvu:vU (X k) = .int .u64 (((W kk).toNat:Nat):Int):=by rw [hvl];rfl
      rw [hvu] at hput2
      replace hneg:=Lib.hid hneg
      replace hvl:=Lib.hid hvl
      replace hvu:=Lib.hid hvu
      go_wp2_with fail
      (refine wp_region_held_drew (S:=(fun V=>V.cell? ⟨wr.heap.size,1,none⟩ = some (.int .i64 lt)∧V.cell? ⟨wb,kk,none⟩ = some (.int .u64 ((W kk).toNat:Nat)))) (by kernel_rfl) ?_ (fun hHeld=>?_))
      ·exact hS9.out _ (Ext.refl (wr.alloc (.cells #[.int .i64 kd,.int .i64 lt,.slice bb ip.length cc] 40))).drew
      (refine takeL (i:=0) (v:=?_) rfl (by kernel_rfl) (by kernel_rfl) (by kernel_rfl) (fun _ _ _ h=>h) (Or.inl ⟨by rfl,?_⟩) (by assumption) ?_)
      rotate_left
      ·(intro w hSw;(try dsimp only at hSw);go_simp;first | done | with_reducible rfl)
      (try simp only [Act.put,List.setIfInBounds_toArray,List.set_cons_zero,List.set_cons_succ])
      (refine takeL (i:=1) (v:=?_) rfl (by kernel_rfl) (by kernel_rfl) (by kernel_rfl) (fun _ _ _ h=>h) (Or.inl ⟨by rfl,?_⟩) (by assumption) ?_)
      rotate_left
      ·(intro w hSw;(try dsimp only at hSw);go_simp;first | done | with_reducible rfl)
      (try simp only [Act.put,List.setIfInBounds_toArray,List.set_cons_zero,List.set_cons_succ])
      (refine takeL (i:=2) (v:=?_) rfl (by kernel_rfl) (by kernel_rfl) (by kernel_rfl) (fun _ _ _ h=>h) (Or.inl ⟨by rfl,?_⟩) (by assumption) ?_)
      rotate_left
      ·(intro w hSw;(try dsimp only at hSw);go_simp;first | done | with_reducible rfl)
      (try simp only [Act.put,List.setIfInBounds_toArray,List.set_cons_zero,List.set_cons_succ])
      (refine takeL (i:=4) (v:=?_) rfl (by kernel_rfl) (by kernel_rfl) (by kernel_rfl) (fun _ _ _ h=>h) (Or.inl ⟨by rfl,?_⟩) (by assumption) ?_)
      rotate_left
      ·(intro w hSw;(try dsimp only at hSw);go_simp;first | done | with_reducible rfl)
      (try simp only [Act.put,List.setIfInBounds_toArray,List.set_cons_zero,List.set_cons_succ])
      (refine wpAnyH_ready (rs:=[3]) (by kernel_rfl) (by simp) ?_)
      (refine consL rfl (fun K hK=>?_))
      ((rw [if_pos (by rfl)]);go_simp;(go_at_call 25);refine (qv _).mono ?_;rintro e w9 ⟨rfl,rfl⟩;refine hK.out _ _ hHeld (fun hHeld=>?_))
      (clear hK K)
      (try simp only [Act.put,List.setIfInBounds_toArray,List.set_cons_zero,List.set_cons_succ])
      (refine takeL (i:=5) (v:=?_) rfl (by kernel_rfl) (by kernel_rfl) (by kernel_rfl) (fun _ _ _ h=>h) (Or.inl ⟨by rfl,?_⟩) (by assumption) ?_)
      rotate_left
      ·(intro w hSw;(try dsimp only at hSw);go_simp;first | done | with_reducible rfl)
      (try simp only [Act.put,List.setIfInBounds_toArray,List.set_cons_zero,List.set_cons_succ])
      (refine takeL (i:=6) (v:=?_) rfl (by kernel_rfl) (by kernel_rfl) (by kernel_rfl) (fun _ _ _ h=>h) (Or.inl ⟨by rfl,?_⟩) (by assumption) ?_)
      rotate_left
      ·(intro w hSw;(try dsimp only at hSw);go_simp;first | done | with_reducible rfl)
      (try simp only [Act.put,List.setIfInBounds_toArray,List.set_cons_zero,List.set_cons_succ])
      (refine takeL (i:=7) (v:=?_) rfl (by kernel_rfl) (by kernel_rfl) (by kernel_rfl) (fun _ _ _ h=>h) (Or.inl ⟨by rfl,?_⟩) (by assumption) ?_)
      rotate_left
      ·(intro w hSw;(try dsimp only at hSw);go_simp;first | done | with_reducible rfl)
      (try simp only [Act.put,List.setIfInBounds_toArray,List.set_cons_zero,List.set_cons_succ])
      (refine wpAnyH_done (by kernel_rfl) ?_ _)
      clear hHeld
      go_wp2_with fail
      go_roundw
      case rel=>exact ⟨k+1,by omega,by go_num,hput2,hn3⟩
      case measure=>simp [intOf];omega
    ·rw [if_neg h2] at hvl
     have d2:(kd == 2) = false:=beq_eq_false_iff_ne.2 h2
     by_cases h3:kd = 3
     ·rw [if_pos h3] at hvl
      have d3:(kd == 3) = true:=by simpa using h3
      have hn3:=hn2 (fun e=>by omega)
      replace h1:=Lib.hid h1
      replace h2:=Lib.hid h2
      replace h3:=Lib.hid h3
      clear hcl hn2 hfm
      go_wp2_with fail
      obtain ⟨w5,hw5⟩:∃ x,x = (wr.alloc (.cells #[.int .i64 kd,.int .i64 lt,.slice bb ip.length cc] 40)):=⟨_,rfl⟩
      rw [←hw5] at hip hIx hput y0 yf x0 x1 x2 ⊢
      clear hw5
      replace hput:=Lib.hid hput.out
      go_loopw [9,49] (fun vw i wr'=>∃ j:Nat,j≤ip.length∧i = .int .i64 (j:Nat)∧vw = .int .u64 ((((ip.take j).foldl (fun w k=>w &&& X k) (BitVec.allOnes 64)).toNat:Nat):Int)∧wr' = w5) (fun _ i _=>ip.length - (intOf i).toNat)
      case atStart=>exact ⟨0,Nat.zero_le _,rfl,rfl,rfl⟩
      case round =>
       obtain ⟨j,hj,rfl,rfl,rfl⟩:=hrel
       by_cases hjl:j < ip.length
       ·have p0:(0:Int)≤(j:Int):=by omega
        have p1:(j:Int) < (ip.length:Int):=by omega
        have dj:decide ((j:Int) < (ip.length:Int)) = true:=decide_eq_true p1
        have hfo:(ip.take (j+1)).foldl (fun w k=>w &&& X k) (BitVec.allOnes 64) = (ip.take j).foldl (fun w k=>w &&& X k) (BitVec.allOnes 64) &&& X ip[j]:=by
         rw [List.take_succ_eq_append_getElem hjl,List.foldl_append];rfl
        obtain ⟨b2,o2,rfl,x3⟩:=hip.out j hjl
        have hck:=hkid.out _ (List.getElem_mem hjl)
        generalize ip[j] = c at *
        have hcc:=(hIx.out.2.1.cell (j:=c) (by omega)).1
        have hcv:valU (mixX X f0 k) c = .int .u64 (((X c).toNat:Nat):Int):=by unfold valU mixX vU;rw [if_pos hck]
        rw [hcv] at hcc
        have hand:=bits_and_bv ((ip.take j).foldl (fun w k=>w &&& X k) (BitVec.allOnes 64)) (X c)
        rw [←hfo] at hand
        have hfin:Hid (bits .and .u64 ((((ip.take j).foldl (fun w k=>w &&& X k) (BitVec.allOnes 64)).toNat:Nat):Int) (((X c).toNat:Nat):Int) = ((((ip.take (j+1)).foldl (fun w k=>w &&& X k) (BitVec.allOnes 64)).toNat:Nat):Int)):=Lib.hid hand
        have m0:(0:Int)≤(c:Int):=by omega
        have m1:(c:Int) < (nl.length:Int):=by omega
        generalize (ip.take j).foldl (fun w k=>w &&& X k) (BitVec.allOnes 64) = wA at *
        replace hfo:=Lib.hid hfo
        replace hcv:=Lib.hid hcv
        clear hand
        go_wp2_with fail
        go_roundw
        case rel=>exact ⟨j+1,by omega,by go_num,by rw [hfin.out],by first | rfl | trivial⟩
        case measure=>simp [intOf];omega
       ·obtain rfl:j = ip.length:=by omega
        have dj:decide ((ip.length:Int) < (ip.length:Int)) = false:=decide_eq_false (by omega)
        rw [List.take_length]
        have hvu:vU (X k) = .int .u64 ((((ip.foldl (fun w k=>w &&& X k) (BitVec.allOnes 64)).toNat:Nat):Int)):=by rw [hvl];rfl
        rw [hvu] at hput
        replace hvu:=Lib.hid hvu
        generalize ip.foldl (fun w k=>w &&& X k) (BitVec.allOnes 64) = wA at *
        go_wp2_with fail
        go_roundw
        case rel=>exact ⟨k+1,by omega,by go_num,hput,hn3⟩
        case measure=>simp [intOf];omega
     ·rw [if_neg h3] at hvl
      have d3:(kd == 3) = false:=beq_eq_false_iff_ne.2 h3
      by_cases h4:kd = 4
      ·rw [if_pos h4] at hvl
       have d4:(kd == 4) = true:=by simpa using h4
       have hcl2:=hcl h4
       have hn3:clash X ip 0 = false→_:=fun h=>hn2 (fun _=>h)
       replace hcl2:=Lib.hid hcl2
       replace hn3:=Lib.hid hn3
       replace h1:=Lib.hid h1
       replace h2:=Lib.hid h2
       replace h3:=Lib.hid h3
       replace h4:=Lib.hid h4
       clear hcl hn2 hfm
       go_wp2_with fail
       obtain ⟨w5,hw5⟩:∃ x,x = (wr.alloc (.cells #[.int .i64 kd,.int .i64 lt,.slice bb ip.length cc] 40)):=⟨_,rfl⟩
       rw [←hw5] at hip hIx hput y0 yf x0 x1 x2 ⊢
       clear hw5
       go_loopw [9,65] (fun vw i wr'=>∃ j:Nat,j≤ip.length∧i = .int .i64 (j:Nat)∧vw = .int .u64 ((((ip.take j).foldl (fun w k=>w ||| X k) (0:BitVec 64)).toNat:Nat):Int)∧Hid (clash X ip 0 = clash X (ip.drop j) ((ip.take j).foldl (fun w k=>w ||| X k) (0:BitVec 64)))∧wr' = w5) (fun _ i _=>ip.length - (intOf i).toNat)
       case atStart=>exact ⟨0,Nat.zero_le _,rfl,rfl,Lib.hid rfl,rfl⟩
       case round =>
        obtain ⟨j,hj,rfl,rfl,hcj,rfl⟩:=hrel
        by_cases hjl:j < ip.length
        ·have p0:(0:Int)≤(j:Int):=by omega
         have p1:(j:Int) < (ip.length:Int):=by omega
         have dj:decide ((j:Int) < (ip.length:Int)) = true:=decide_eq_true p1
         have hfo:(ip.take (j+1)).foldl (fun w k=>w ||| X k) (0:BitVec 64) = (ip.take j).foldl (fun w k=>w ||| X k) (0:BitVec 64) ||| X ip[j]:=by
          rw [List.take_succ_eq_append_getElem hjl,List.foldl_append];rfl
         have hst:clash X ip 0 = (decide ((ip.take j).foldl (fun w k=>w ||| X k) (0:BitVec 64) &&& X ip[j]≠0) || clash X (ip.drop (j+1)) ((ip.take (j+1)).foldl (fun w k=>w ||| X k) (0:BitVec 64))):=by
          rw [hcj.out,List.drop_eq_getElem_cons hjl,clash,hfo]
         obtain ⟨b2,o2,rfl,x3⟩:=hip.out j hjl
         have hck:=hkid.out _ (List.getElem_mem hjl)
         generalize ip[j] = c at *
         have hcc:=(hIx.out.2.1.cell (j:=c) (by omega)).1
         have hcv:valU (mixX X f0 k) c = .int .u64 (((X c).toNat:Nat):Int):=by unfold valU mixX vU;rw [if_pos hck]
         rw [hcv] at hcc
         have hand:=bits_and_bv ((ip.take j).foldl (fun w k=>w ||| X k) (0:BitVec 64)) (X c)
         have hor:=bits_or_bv ((ip.take j).foldl (fun w k=>w ||| X k) (0:BitVec 64)) (X c)
         rw [←hfo] at hor
         have hfin:Hid (bits .or .u64 ((((ip.take j).foldl (fun w k=>w ||| X k) (0:BitVec 64)).toNat:Nat):Int) (((X c).toNat:Nat):Int) = ((((ip.take (j+1)).foldl (fun w k=>w ||| X k) (0:BitVec 64)).toNat:Nat):Int)):=Lib.hid hor
         have m0:(0:Int)≤(c:Int):=by omega
         have m1:(c:Int) < (nl.length:Int):=by omega
         clear hor hcj
         generalize (ip.take j).foldl (fun w k=>w ||| X k) (0:BitVec 64) = wA at *
         replace hfo:=Lib.hid hfo
         replace hcv:=Lib.hid hcv
         by_cases hz:wA &&& X c = 0
         ·have hst2:clash X ip 0 = clash X (ip.drop (j+1)) ((ip.take (j+1)).foldl (fun w k=>w ||| X k) (0:BitVec 64)):=by rw [hst,decide_eq_false (fun e=>e hz),Bool.false_or]
          have hz0:bits .and .u64 ((wA.toNat:Nat):Int) (((X c).toNat:Nat):Int) = 0:=by rw [hand,hz];rfl
          replace hst2:=Lib.hid hst2
          replace hz:=Lib.hid hz
          clear hand hst
          go_wp2_with fail
          go_roundw
          case rel=>exact ⟨j+1,by omega,by go_num,by rw [hfin.out],hst2,by first | rfl | trivial⟩
          case measure=>simp [intOf];omega
         ·have hct:clash X ip 0 = true:=by rw [hst,decide_eq_true hz,Bool.true_or]
          have hr:=hcl2.out hct
          have hne:(bits .and .u64 ((wA.toNat:Nat):Int) (((X c).toNat:Nat):Int) != 0) = true:=by
           rw [hand,bne_iff_ne]
           intro e
           exact hz (BitVec.eq_of_toNat_eq (by simpa using e))
          replace hz:=Lib.hid hz
          replace hct:=Lib.hid hct
          clear hand hst
          go_wp2_with fail
          go_ret
          exact ⟨false,rfl,⟨fun e=>(by cases e),fun h=>absurd h hr.out⟩,_,hIx.out.fin⟩
        ·obtain rfl:j = ip.length:=by omega
         have dj:decide ((ip.length:Int) < (ip.length:Int)) = false:=decide_eq_false (by omega)
         have hcf:clash X ip 0 = false:=by rw [hcj.out,List.drop_length];rfl
         have hn4:=hn3.out hcf
         rw [List.take_length]
         have hvu:vU (X k) = .int .u64 ((((ip.foldl (fun w k=>w ||| X k) (0:BitVec 64)).toNat:Nat):Int)):=by rw [hvl];rfl
         rw [hvu] at hput
         replace hvu:=Lib.hid hvu
         replace hcf:=Lib.hid hcf
         clear hcj
         generalize ip.foldl (fun w k=>w ||| X k) (0:BitVec 64) = wA at *
         go_wp2_with fail
         go_roundw
         case rel=>exact ⟨k+1,by omega,by go_num,hput,hn4⟩
         case measure=>simp [intOf];omega
      ·rw [if_neg h4] at hvl
       have d4:(kd == 4) = false:=beq_eq_false_iff_ne.2 h4
       have hn3:=hn2 (fun e=>absurd e h4)
       have hvu:vU (X k) = .int .u64 0:=by rw [hvl];rfl
       rw [hvu] at hput
       replace h1:=Lib.hid h1
       replace h2:=Lib.hid h2
       replace h3:=Lib.hid h3
       replace h4:=Lib.hid h4
       replace hvl:=Lib.hid hvl
       replace hvu:=Lib.hid hvu
       clear hcl hn2 hfm
       go_wp2_with fail
       go_roundw
       case rel=>exact ⟨k+1,by omega,by go_num,hput,hn3⟩
       case measure=>simp [intOf];omega
  ·obtain rfl:k = nl.length:=by omega
   have dk:decide ((nl.length:Int) < (nl.length:Int)) = false:=decide_eq_false (by omega)
   have hr:=Lib.hid (hSepE.out.2 fun i hi=>hN.out i hi hi)
   go_wp2_with fail
   go_ret
   exact ⟨true,rfl,⟨fun _=>hr.out,fun _=>rfl⟩,_,hI.out.fin⟩
end Go.Proofs.YtckhohpbokojdaaGreatDoor
