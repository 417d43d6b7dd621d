import Derived.Test.YtckhohpbokojdaaGreatDoorLQ7
import Derived.Test.YtckhohpbokojdaaGreatDoorLN10
set_option linter.unusedSimpArgs false
set_option linter.unusedVariables false
namespace Go.Proofs.YtckhohpbokojdaaGreatDoor
open Go Go.RowKit Go.Shelf
theorem decided_once {bl:List L.ND} {drop fin:Int} {l:List Nat} (h1:drop≠fin) (h2:drop≠2):L.decidedP bl fin (L.onceL bl drop l)↔L.decidedP bl fin l:=by
 unfold L.decidedP
 constructor
 ·rintro ⟨i,hi,h⟩
  refine ⟨i,((L.mem_onceL bl drop i l).1 hi).1,h.imp id ?_⟩
  rintro ⟨k,hk,h⟩
  exact ⟨k,((L.mem_onceL bl drop k l).1 hk).1,h⟩
 ·rintro ⟨i,hi,h⟩
  refine ⟨i,(L.mem_onceL bl drop i l).2 ⟨hi,fun e=>?_⟩,h.imp id ?_⟩
  ·rcases h with h | ⟨_,_,h,_⟩
   ·exact h1 (e.symm.trans h)
   ·exact h2 (e.symm.trans h)
  ·rintro ⟨k,hk,h⟩
   exact ⟨k,(L.mem_onceL bl drop k l).2 ⟨hk,fun e=>h2 (e.symm.trans h.2.1)⟩,h⟩
theorem addND_ref {bl:List L.ND} {kd lt drop fin:Int} {ip:List Nat} (h:kd = 3∧drop = 1∧fin = 0∨kd = 4∧drop = 0∧fin = 1):L.addND bl ⟨kd,lt,ip⟩ = if L.decidedP bl fin (L.onceL bl drop (L.flatND bl kd ip)) then L.putND bl ⟨fin,0,[]⟩ else (match L.onceL bl drop (L.flatND bl kd ip) with | []=>L.putND bl ⟨drop,0,[]⟩ | [i]=>(i,bl) | m=>L.putND bl ⟨kd,0,L.sortN m⟩):=by
 have hk:¬ (kd < 3):=by omega
 have hd:(if kd = 4 then (0:Int) else 1) = drop:=by rcases h with ⟨rfl,rfl,rfl⟩ | ⟨rfl,rfl,rfl⟩ <;> rfl
 have hf:(if kd = 4 then (1:Int) else 0) = fin:=by rcases h with ⟨rfl,rfl,rfl⟩ | ⟨rfl,rfl,rfl⟩ <;> rfl
 have hq:=decided_once (bl:=bl) (drop:=drop) (fin:=fin) (l:=L.flatND bl kd ip) (by omega) (by omega)
 unfold L.addND
 dsimp only
 rw [if_neg hk,hd,hf]
 by_cases hD:L.decidedP bl fin (L.flatND bl kd ip)
 ·rw [if_pos hD,if_pos (hq.2 hD)]
 ·rw [if_neg hD,if_neg (fun e=>hD (hq.1 e))]
  cases L.onceL bl drop (L.flatND bl kd ip) with
  | nil=>rfl
  | cons a r=>cases r <;> rfl
set_option maxRecDepth 100000 in
set_option maxHeartbeats 8000000 in
theorem radd_any {fb lo base bx cc:Nat} {n kd lt:Int} {bb:Option Addr} {bl:List L.ND} {ip:List Nat} {W:World} (h:RB fb lo base bx n bl W) (hfb:fb < W.heap.size) (hb:base≤W.heap.size) (hB:L.BOK n bl) (hn:0≤n∧n≤128) (hbl:bl.length≤2000) (hs:SlI W (.slice bb ip.length cc) (castL ip)) (hl:ip.length≤100000) (hfl:(L.flatND bl kd ip).length≤1000000) (hf:L.fmOk n bl.length ⟨kd,lt,castL ip⟩ = true) (hkd:0≤kd∧kd≤4) (hk:∀ k∈ip,k < bl.length) :
  Calls Tryz.prog 67 #[.pointer (some ⟨bx,0,none⟩),.agg #[.int .i64 kd,.int .i64 lt,.slice bb ip.length cc]] W fun e W'=>e = .returned (.tuple #[.int .i64 ((L.addND bl ⟨kd,lt,ip⟩).1:Nat),.int .i64 0])∧RB fb lo base bx n (L.addND bl ⟨kd,lt,ip⟩).2 W'∧BI lo W W':=by
 have hb1:Below W.heap.size W (W.alloc (.cells #[.int .i64 kd,.int .i64 lt,.slice bb ip.length cc] 40)):=(Below.refl _ W).alloc (Nat.le_refl _) _
 have hx1:Ext W (W.alloc (.cells #[.int .i64 kd,.int .i64 lt,.slice bb ip.length cc] 40)):=(Ext.refl W).alloc _
 have e1:=heap_alloc_new W (.cells #[.int .i64 kd,.int .i64 lt,.slice bb ip.length cc] 40)
 obtain ⟨vL,us,hN⟩:=h
 have hlo:lo≤base:=hN.2.2.2.2.1
 have hN1:=hN.next hb1
 obtain ⟨c0,c1⟩:=hN1.cells
 obtain ⟨ba,cp,rfl⟩:=hN.shape
 have F1:∀ w':World,Ext (W.alloc (.cells #[.int .i64 kd,.int .i64 lt,.slice bb ip.length cc] 40)) w'→(w'.cell? ⟨bx,0,none⟩ = some (.int .i64 n)∧w'.cell? ⟨bx,1,none⟩ = some (.slice ba bl.length cp))∧w'.cell? ⟨W.heap.size,0,none⟩ = some (.int .i64 kd)∧w'.cell? ⟨W.heap.size,1,none⟩ = some (.int .i64 lt)∧w'.cell? ⟨W.heap.size,2,none⟩ = some (.slice bb ip.length cc):=fun w' hw'=>by
  have f:=(hw'.below.block _ (Array.getElem?_eq_some_iff.1 e1).1).trans e1
  exact ⟨⟨hw'.cell c0,hw'.cell c1⟩,by rw [World.cell?,f];rfl,by rw [World.cell?,f];rfl,by rw [World.cell?,f];rfl⟩
 have hQ:∀ w':World,Ext (W.alloc (.cells #[.int .i64 kd,.int .i64 lt,.slice bb ip.length cc] 40)) w'→Calls Tryz.prog 64 #[.agg #[.int .i64 kd,.int .i64 lt,.slice bb ip.length cc],.int .i64 n,.int .i64 (bl.length:Nat)] w' fun e W'=>e = .returned (.bool true)∧Ext w' W':=fun w' hw'=>by
  have q:=rformed_any (kd:=kd) (lt:=lt) (bb:=bb) (cc:=cc) (ip:=castL ip) (i:=bl.length) (w:=w') hn (by rw [castL_len];exact (hs.ext hx1.below).ext hw'.below) (by rw [castL_len];omega)
  rw [hf,castL_len] at q
  exact q
 have hG:∀ w':World,Ext (W.alloc (.cells #[.int .i64 kd,.int .i64 lt,.slice bb ip.length cc] 40)) w'→RB fb lo base bx n bl w'∧BI lo W w'∧base≤w'.heap.size∧SlI w' (.slice bb ip.length cc) (castL ip):=fun w' hw'=>⟨⟨_,us,hN1.next hw'.below⟩,BI.of (hx1.trans hw').below (Nat.le_trans hlo hb),Nat.le_trans (Nat.le_trans hb hx1.size) hw'.size,(hs.ext hx1.below).ext hw'.below⟩
 have hflt:=hB.flat_lt (kind:=kd) hk
 have hin0:∀ y∈bl,y.inp.length≤9223372036854775807:=fun y hy=>by
  obtain ⟨j,hj,rfl⟩:=List.getElem_of_mem hy
  have:=L.bok_inp hB hj
  omega
 obtain ⟨⟨f0a,f0b⟩,f0c,f0d,f0e⟩:=F1 _ (Ext.refl _)
 replace F1:=Lib.hid F1
 replace hQ:=Lib.hid hQ
 replace hG:=Lib.hid hG
 replace hN:=Lib.hid hN
 replace hN1:=Lib.hid hN1
 replace hs:=Lib.hid hs
 replace hk:=Lib.hid hk
 replace hf:=Lib.hid hf
 replace e1:=Lib.hid e1
 replace hb1:=Lib.hid hb1
 replace hx1:=Lib.hid hx1
 replace hflt:=Lib.hid hflt
 have hput:∀ (w':World) (kd':Int) (lt':Int) (ip':List Nat) (bb':Option Addr) (cc':Nat),RB fb lo base bx n bl w'→base≤w'.heap.size→ip'.length≤100000→w'.ownsRow base 3 1 (.slice bb' ip'.length cc') ip'.length ((castL ip').map encZ)→(Value.slice bb' ip'.length cc').ownBlock≠some fb→_ :=
  fun w' kd' lt' ip' bb' cc' h1 h2 h3 h4 h5=>rput_any h1 h2 (by omega) hin0 (kd:=kd') (lt:=lt') h4 (by omega) h5
 replace hput:=Lib.hid hput
 replace hin0:=Lib.hid hin0
 by_cases hk3:kd < 3
 ·have hadd:L.addND bl ⟨kd,lt,ip⟩ = L.putND bl ⟨kd,lt,[]⟩:=by unfold L.addND;rw [if_pos hk3]
  rw [hadd]
  have q3:decide (kd < 3) = true:=decide_eq_true hk3
  replace hadd:=Lib.hid hadd
  replace hk3:=Lib.hid hk3
  go_enter Tryz.func67,Tryz.ntmps67
  go_wp2_with fail
  generalize (W.alloc (.cells #[.int .i64 kd,.int .i64 lt,.slice bb ip.length cc] 40)) = w1 at *
  clear f0a f0b f0c f0d f0e c0 c1
  (refine wp_region_below (by kernel_rfl) (by kernel_rfl) ?_
   repeat (refine wpQuiet_step (fun K hK=>?_)
           go_simp
           first
            | (refine hK _ ?_;clear hK K)
            | (replace hK:=Lib.hid hK
               apply Exists.intro
               refine ⟨fun wq hq=>?_,hK.out _ ?_⟩
               ·(obtain ⟨⟨f1,f2⟩,f3,f4,f5⟩:=F1.out wq hq)
                go_simp
                first
                 | done
                 | (refine (hQ.out wq hq).mono ?_;rintro e w' ⟨rfl,hb⟩;exact ⟨rfl,hq.trans hb⟩)
                 | rfl
                 | exact ⟨rfl,rfl⟩
               clear hK K))
   refine wpQuiet_nil ?_)
  intro w3 hw3
  obtain ⟨⟨f1,f2⟩,f3,f4,f5⟩:=F1.out w3 hw3
  obtain ⟨hN3,hW3,hsz3,hs3⟩:=hG.out w3 hw3
  clear F1 hQ hG
  have q:=hput.out w3 kd lt [] none 0 hN3 hsz3 (by simp) (own_nilN _ _) (by simp [Value.ownBlock])
  simp only [List.length_nil] at q
  replace hN3:=Lib.hid hN3
  replace hW3:=Lib.hid hW3
  replace hs3:=Lib.hid hs3
  replace hw3:=Lib.hid hw3
  go_wp2_with fail
  refine q.mono ?_
  rintro e w4 ⟨rfl,hN4,hb4⟩
  replace hN4:=Lib.hid hN4
  clear q
  go_wp2_with fail
  go_ret2
  exact ⟨rfl,hN4.out,hW3.out.trans hb4⟩
 ·have hk34:kd = 3∨kd = 4:=by omega
  clear hkd
  rcases hk34 with rfl | rfl
  ·have hadd:=addND_ref (bl:=bl) (kd:=3) (lt:=lt) (drop:=1) (fin:=0) (ip:=ip) (.inl ⟨rfl,rfl,rfl⟩)
   have hml:(L.onceL bl 1 (L.flatND bl 3 ip)).length≤bl.length:=L.nodup_lt _ bl.length (L.nodup_onceL bl 1 _) fun x hx=>hflt.out x ((L.mem_onceL bl 1 x _).1 hx).1
   have hmk:∀ x∈L.onceL bl 1 (L.flatND bl 3 ip),x < bl.length:=fun x hx=>hflt.out x ((L.mem_onceL bl 1 x _).1 hx).1
   clear hk3
   go_enter Tryz.func67,Tryz.ntmps67
   go_wp2_with fail
   generalize (W.alloc (.cells #[.int .i64 3,.int .i64 lt,.slice bb ip.length cc] 40)) = w1 at *
   clear f0a f0b f0c f0d f0e c0 c1
   (refine wp_region_below (by kernel_rfl) (by kernel_rfl) ?_
    repeat (refine wpQuiet_step (fun K hK=>?_)
            go_simp
            first
             | (refine hK _ ?_;clear hK K)
             | (replace hK:=Lib.hid hK
                apply Exists.intro
                refine ⟨fun wq hq=>?_,hK.out _ ?_⟩
                ·(obtain ⟨⟨f1,f2⟩,f3,f4,f5⟩:=F1.out wq hq)
                 go_simp
                 first
                  | done
                  | (refine (hQ.out wq hq).mono ?_;rintro e w' ⟨rfl,hb⟩;exact ⟨rfl,hq.trans hb⟩)
                  | rfl
                  | exact ⟨rfl,rfl⟩
                clear hK K))
    refine wpQuiet_nil ?_)
   intro w3 hw3
   obtain ⟨⟨f1,f2⟩,f3,f4,f5⟩:=F1.out w3 hw3
   obtain ⟨hN3,hW3,hsz3,hs3⟩:=hG.out w3 hw3
   clear F1 hQ hG
   have q:=rinputs_any (kd:=3) (drop:=1) hN3 hs3 hk.out hB (by omega) hl hfl
   generalize L.onceL bl 1 (L.flatND bl 3 ip) = m at *
   replace hmk:=Lib.hid hmk
   replace hadd:=Lib.hid hadd
   replace hN3:=Lib.hid hN3
   replace hW3:=Lib.hid hW3
   replace hs3:=Lib.hid hs3
   replace hw3:=Lib.hid hw3
   go_wp2_with fail
   refine q.mono ?_
   rintro e w4 ⟨v,rfl,hr4⟩
   clear q
   have hb4:Hid (BI lo w3 w4):=Lib.hid (BI.of hr4.1 (Nat.le_trans hlo hsz3))
   have hN4:=hN3.out.next hr4.1
   have hsz4:=Nat.le_trans hsz3 hr4.1.size
   have f34:=(hr4.1.cell (World.block_lt_of_cell? w3 _ f3)).trans f3
   obtain ⟨b4,c4,rfl⟩:=hr4.shapeN
   have q:=rdecided_any (kd:=0) hN4 hr4.slI hmk.out hB hn (by omega) (by omega)
   replace hN4:=Lib.hid hN4
   replace hr4:=Lib.hid hr4
   go_wp2_with fail
   refine q.mono ?_
   rintro e w5 ⟨rfl,hb5⟩
   clear q
   have hr5:=hr4.out.next hb5
   have hN5:=hN4.out.next hb5
   have hsz5:=Nat.le_trans hsz4 hb5.size
   have hB5:Hid (BI lo w3 w5):=Lib.hid (hb4.out.trans (BI.of hb5 (Nat.le_trans hlo hsz4)))
   have f35:=(hb5.cell (World.block_lt_of_cell? w4 _ f34)).trans f34
   clear hb4 hb5 hN4 hr4 f34
   by_cases hD:L.decidedP bl 0 m
   ·have hdd:decide (L.decidedP bl 0 m) = true:=decide_eq_true hD
    have hadd2:=hadd.out.trans (if_pos hD)
    replace hadd2:=Lib.hid hadd2
    replace hD:=Lib.hid hD
    have q:=hput.out w5 0 0 [] none 0 hN5 hsz5 (by simp) (own_nilN _ _) (by simp [Value.ownBlock])
    simp only [List.length_nil] at q
    replace hN5:=Lib.hid hN5
    replace hr5:=Lib.hid hr5
    go_wp2_with fail
    refine q.mono ?_
    rintro e w6 ⟨rfl,hN6,hb6⟩
    replace hN6:=Lib.hid hN6
    clear q
    go_wp2_with fail
    go_ret2
    exact ⟨by rw [hadd2.out];rfl,by rw [hadd2.out];exact hN6.out,hW3.out.trans (hB5.out.trans hb6)⟩
   ·have hdd:decide (L.decidedP bl 0 m) = false:=decide_eq_false hD
    have hadd2:=hadd.out.trans (if_neg hD)
    replace hD:=Lib.hid hD
    cases m with
    | nil =>
      dsimp only at hadd2
      replace hadd2:=Lib.hid hadd2
      have q:=hput.out w5 1 0 [] none 0 hN5 hsz5 (by simp) (own_nilN _ _) (by simp [Value.ownBlock])
      simp only [List.length_nil] at q
      replace hN5:=Lib.hid hN5
      replace hr5:=Lib.hid hr5
      clear hml
      go_wp2_with fail
      refine q.mono ?_
      rintro e w6 ⟨rfl,hN6,hb6⟩
      replace hN6:=Lib.hid hN6
      clear q
      go_wp2_with fail
      go_ret2
      exact ⟨by rw [hadd2.out];rfl,by rw [hadd2.out];exact hN6.out,hW3.out.trans (hB5.out.trans hb6)⟩
    | cons i r =>
      cases r with
      | nil =>
        dsimp only at hadd2
        replace hadd2:=Lib.hid hadd2
        obtain ⟨_,_,e,hc⟩:=slI_castN hr5.slI
        cases e
        obtain ⟨b,o,rfl,-,hc⟩:=hc 0 (by simp)
        have hc0:w5.cell? ⟨b,o,none⟩ = some (.int .i64 (i:Nat)):=hc
        replace hN5:=Lib.hid hN5
        replace hr5:=Lib.hid hr5
        clear hc
        go_wp2_with fail
        go_ret2
        exact ⟨by rw [hadd2.out];rfl,by rw [hadd2.out];exact hN5.out,hW3.out.trans hB5.out⟩
      | cons j r =>
        dsimp only at hadd2
        replace hadd2:=Lib.hid hadd2
        have hlen:2≤(i :: j :: r).length:=by simp
        generalize i :: j :: r = m at *
        have z0:((m.length:Int) == 0) = false:=beq_eq_false_iff_ne.2 (by omega)
        have z1:((m.length:Int) == 1) = false:=beq_eq_false_iff_ne.2 (by omega)
        have z2:¬ ((m.length:Int) = 0):=by omega
        have z3:¬ ((m.length:Int) = 1):=by omega
        have z4:¬ (m.length = 0):=by omega
        have z5:¬ (m.length = 1):=by omega
        have z6:m≠[]:=fun e=>by rw [e] at hlen;simp at hlen
        have hbd:=(Below.refl w5.heap.size w5).drew
        have hr5d:=hr5.next hbd
        have hN5d:=Lib.hid (hN5.next hbd)
        have q:=rsorted_any hr5d.slI (by omega)
        have hB5d:Hid (BI lo w3 w5.drew):=Lib.hid (hB5.out.trans (BI.of hbd (Nat.le_trans hlo hsz5)))
        have hsz5d:base≤w5.drew.heap.size:=hsz5
        have hS:∀ V,Below w5.drew.heap.size w5.drew V→V.cell? ⟨W.heap.size,0,none⟩ = some (.int .i64 3):=fun V hV=>(hV.cell (World.block_lt_of_cell? w5 _ f35)).trans f35
        have hsl:(L.sortN m).length = m.length:=sortN_len m
        generalize L.sortN m = so at *
        replace hsl:=Lib.hid hsl
        replace hN5:=Lib.hid hN5
        replace hr5:=Lib.hid hr5
        replace hr5d:=Lib.hid hr5d
        replace hS:=Lib.hid hS
        replace hbd:=Lib.hid hbd
        go_wp2_with fail
        (refine wp_region_held_drew (S:=(fun _=>True)) (by kernel_rfl) ?_ (fun hHeld=>?_))
        ·trivial
        have hT:True:=trivial
        (refine takeL (i:=0) (v:=?_) rfl (by kernel_rfl) (by kernel_rfl) (by kernel_rfl) (fun _ _ _ h=>h) (Or.inl ⟨by rfl,?_⟩) (by assumption) ?_)
        rotate_left
        ·(intro w hSw;(try dsimp only at hSw);go_simp;first | done | with_reducible rfl)
        (try simp only [Act.put,List.setIfInBounds_toArray,List.set_cons_zero,List.set_cons_succ])
        (refine takeL (i:=1) (v:=?_) rfl (by kernel_rfl) (by kernel_rfl) (by kernel_rfl) (fun _ _ _ h=>h) (Or.inl ⟨by rfl,?_⟩) (by assumption) ?_)
        rotate_left
        ·(intro w hSw;(try dsimp only at hSw);go_simp;first | done | with_reducible rfl)
        (try simp only [Act.put,List.setIfInBounds_toArray,List.set_cons_zero,List.set_cons_succ])
        (refine takeL (i:=3) (v:=?_) rfl (by kernel_rfl) (by kernel_rfl) (by kernel_rfl) (fun _ _ _ h=>h) (Or.inl ⟨by rfl,?_⟩) (by assumption) ?_)
        rotate_left
        ·(intro w hSw;(try dsimp only at hSw);go_simp;first | done | with_reducible rfl)
        (try simp only [Act.put,List.setIfInBounds_toArray,List.set_cons_zero,List.set_cons_succ])
        clear f35 hT
        have f36:=hS.out _ (Below.refl _ _)
        generalize w5.drew = w6 at *
        (refine wpAnyH_ready (rs:=[2,4]) (by kernel_rfl) (by simp) ?_)
        (refine consL2 rfl rfl (fun K hK=>?_) (fun K hK=>?_))
        ·(rw [if_pos (by rfl)])
         go_simp
         (refine hK.out _ _ trivial (fun hT=>?_))
         clear hT hK K
         (try simp only [Act.put,List.setIfInBounds_toArray,List.set_cons_zero,List.set_cons_succ])
         (refine wpAnyH_ready (rs:=[4]) (by kernel_rfl) (by simp) ?_)
         (refine consL rfl (fun K hK=>?_))
         ((rw [if_pos (by rfl)]);go_simp;refine q.mono ?_;rintro e w7 ⟨v7,rfl,hr7⟩;refine hK.out _ _ trivial (fun hT=>?_))
         (clear hK K)
         (try simp only [Act.put,List.setIfInBounds_toArray,List.set_cons_zero,List.set_cons_succ])
         clear q
         obtain ⟨b7,c7,rfl⟩:=hr7.shapeN
         have hsz7:=Nat.le_trans hsz5d hr7.1.size
         have q2:=hput.out w7 3 0 so b7 c7 (hN5d.out.next hr7.1) hsz7 (by have:=hsl.out;omega) (own_weak (by have:=hr7.2;rwa [castL_len] at this) hsz5d) (fun e=>by have h1:=own_ge hr7.2 e;have h2:=hW3.out.1.size;have h3:=hB5d.out.1.size;omega)
         have hB7:Hid (BI lo w3 w7):=Lib.hid (hB5d.out.trans (BI.of hr7.1 (Nat.le_trans hlo hsz5d)))
         replace hr7:=Lib.hid hr7
         (refine takeL (i:=5) (v:=?_) rfl (by kernel_rfl) (by kernel_rfl) (by kernel_rfl) (fun _ _ _ h=>h) (Or.inl ⟨by rfl,?_⟩) (by assumption) ?_)
         rotate_left
         ·(intro w hSw;(try dsimp only at hSw);go_simp;first | done | with_reducible rfl)
         (try simp only [Act.put,List.setIfInBounds_toArray,List.set_cons_zero,List.set_cons_succ])
         clear hT
         (refine wpAnyH_ready (rs:=[6]) (by kernel_rfl) (by simp) ?_)
         (refine consL rfl (fun K hK=>?_))
         ((rw [if_pos (by rfl)]);go_simp;refine q2.mono ?_;rintro e w8 ⟨rfl,hN8,hb8⟩;refine hK.out _ _ trivial (fun hT=>?_))
         (clear hK K)
         (try simp only [Act.put,List.setIfInBounds_toArray,List.set_cons_zero,List.set_cons_succ])
         clear q2
         (refine takeL (i:=7) (v:=?_) rfl (by kernel_rfl) (by kernel_rfl) (by kernel_rfl) (fun _ _ _ h=>h) (Or.inl ⟨by rfl,?_⟩) (by assumption) ?_)
         rotate_left
         ·(intro w hSw;(try dsimp only at hSw);go_simp;first | done | with_reducible rfl)
         (try simp only [Act.put,List.setIfInBounds_toArray,List.set_cons_zero,List.set_cons_succ])
         (refine takeL (i:=8) (v:=?_) rfl (by kernel_rfl) (by kernel_rfl) (by kernel_rfl) (fun _ _ _ h=>h) (Or.inl ⟨by rfl,?_⟩) (by assumption) ?_)
         rotate_left
         ·(intro w hSw;(try dsimp only at hSw);go_simp;first | done | with_reducible rfl)
         (try simp only [Act.put,List.setIfInBounds_toArray,List.set_cons_zero,List.set_cons_succ])
         (refine takeL (i:=9) (v:=?_) rfl (by kernel_rfl) (by kernel_rfl) (by kernel_rfl) (fun _ _ _ h=>h) (Or.inl ⟨by rfl,?_⟩) (by assumption) ?_)
         rotate_left
         ·(intro w hSw;(try dsimp only at hSw);go_simp;first | done | with_reducible rfl)
         (try simp only [Act.put,List.setIfInBounds_toArray,List.set_cons_zero,List.set_cons_succ])
         (refine takeL (i:=10) (v:=?_) rfl (by kernel_rfl) (by kernel_rfl) (by kernel_rfl) (fun _ _ _ h=>h) (Or.inl ⟨by rfl,?_⟩) (by assumption) ?_)
         rotate_left
         ·(intro w hSw;(try dsimp only at hSw);go_simp;first | done | with_reducible rfl)
         (try simp only [Act.put,List.setIfInBounds_toArray,List.set_cons_zero,List.set_cons_succ])
         (refine wpAnyH_done (by kernel_rfl) ?_ _)
         clear hT
         replace hN8:=Lib.hid hN8
         go_wp2_with fail
         go_ret2
         exact ⟨by rw [hadd2.out];rfl,by rw [hadd2.out];exact hN8.out,hW3.out.trans (hB7.out.trans hb8)⟩
        ·(rw [if_pos (by rfl)])
         go_simp
         refine q.mono ?_
         rintro e w7 ⟨v7,rfl,hr7⟩
         refine hK.out _ _ trivial (fun hT=>?_)
         clear hT hK K
         (try simp only [Act.put,List.setIfInBounds_toArray,List.set_cons_zero,List.set_cons_succ])
         have f37:=hS.out _ hr7.1
         (refine wpAnyH_ready (rs:=[2]) (by kernel_rfl) (by simp) ?_)
         (refine consL rfl (fun K hK=>?_))
         ((rw [if_pos (by rfl)]);go_simp;refine hK.out _ _ trivial (fun hT=>?_))
         (clear hK K)
         (try simp only [Act.put,List.setIfInBounds_toArray,List.set_cons_zero,List.set_cons_succ])
         clear q
         obtain ⟨b7,c7,rfl⟩:=hr7.shapeN
         have hsz7:=Nat.le_trans hsz5d hr7.1.size
         have q2:=hput.out w7 3 0 so b7 c7 (hN5d.out.next hr7.1) hsz7 (by have:=hsl.out;omega) (own_weak (by have:=hr7.2;rwa [castL_len] at this) hsz5d) (fun e=>by have h1:=own_ge hr7.2 e;have h2:=hW3.out.1.size;have h3:=hB5d.out.1.size;omega)
         have hB7:Hid (BI lo w3 w7):=Lib.hid (hB5d.out.trans (BI.of hr7.1 (Nat.le_trans hlo hsz5d)))
         replace hr7:=Lib.hid hr7
         (refine takeL (i:=5) (v:=?_) rfl (by kernel_rfl) (by kernel_rfl) (by kernel_rfl) (fun _ _ _ h=>h) (Or.inl ⟨by rfl,?_⟩) (by assumption) ?_)
         rotate_left
         ·(intro w hSw;(try dsimp only at hSw);go_simp;first | done | with_reducible rfl)
         (try simp only [Act.put,List.setIfInBounds_toArray,List.set_cons_zero,List.set_cons_succ])
         clear hT
         (refine wpAnyH_ready (rs:=[6]) (by kernel_rfl) (by simp) ?_)
         (refine consL rfl (fun K hK=>?_))
         ((rw [if_pos (by rfl)]);go_simp;refine q2.mono ?_;rintro e w8 ⟨rfl,hN8,hb8⟩;refine hK.out _ _ trivial (fun hT=>?_))
         (clear hK K)
         (try simp only [Act.put,List.setIfInBounds_toArray,List.set_cons_zero,List.set_cons_succ])
         clear q2
         (refine takeL (i:=7) (v:=?_) rfl (by kernel_rfl) (by kernel_rfl) (by kernel_rfl) (fun _ _ _ h=>h) (Or.inl ⟨by rfl,?_⟩) (by assumption) ?_)
         rotate_left
         ·(intro w hSw;(try dsimp only at hSw);go_simp;first | done | with_reducible rfl)
         (try simp only [Act.put,List.setIfInBounds_toArray,List.set_cons_zero,List.set_cons_succ])
         (refine takeL (i:=8) (v:=?_) rfl (by kernel_rfl) (by kernel_rfl) (by kernel_rfl) (fun _ _ _ h=>h) (Or.inl ⟨by rfl,?_⟩) (by assumption) ?_)
         rotate_left
         ·(intro w hSw;(try dsimp only at hSw);go_simp;first | done | with_reducible rfl)
         (try simp only [Act.put,List.setIfInBounds_toArray,List.set_cons_zero,List.set_cons_succ])
         (refine takeL (i:=9) (v:=?_) rfl (by kernel_rfl) (by kernel_rfl) (by kernel_rfl) (fun _ _ _ h=>h) (Or.inl ⟨by rfl,?_⟩) (by assumption) ?_)
         rotate_left
         ·(intro w hSw;(try dsimp only at hSw);go_simp;first | done | with_reducible rfl)
         (try simp only [Act.put,List.setIfInBounds_toArray,List.set_cons_zero,List.set_cons_succ])
         (refine takeL (i:=10) (v:=?_) rfl (by kernel_rfl) (by kernel_rfl) (by kernel_rfl) (fun _ _ _ h=>h) (Or.inl ⟨by rfl,?_⟩) (by assumption) ?_)
         rotate_left
         ·(intro w hSw;(try dsimp only at hSw);go_simp;first | done | with_reducible rfl)
         (try simp only [Act.put,List.setIfInBounds_toArray,List.set_cons_zero,List.set_cons_succ])
         (refine wpAnyH_done (by kernel_rfl) ?_ _)
         clear hT
         replace hN8:=Lib.hid hN8
         go_wp2_with fail
         go_ret2
         exact ⟨by rw [hadd2.out];rfl,by rw [hadd2.out];exact hN8.out,hW3.out.trans (hB7.out.trans hb8)⟩
  ·have hadd:=addND_ref (bl:=bl) (kd:=4) (lt:=lt) (drop:=0) (fin:=1) (ip:=ip) (.inr ⟨rfl,rfl,rfl⟩)
   have hml:(L.onceL bl 0 (L.flatND bl 4 ip)).length≤bl.length:=L.nodup_lt _ bl.length (L.nodup_onceL bl 0 _) fun x hx=>hflt.out x ((L.mem_onceL bl 0 x _).1 hx).1
   have hmk:∀ x∈L.onceL bl 0 (L.flatND bl 4 ip),x < bl.length:=fun x hx=>hflt.out x ((L.mem_onceL bl 0 x _).1 hx).1
   clear hk3
   go_enter Tryz.func67,Tryz.ntmps67
   go_wp2_with fail
   generalize (W.alloc (.cells #[.int .i64 4,.int .i64 lt,.slice bb ip.length cc] 40)) = w1 at *
   clear f0a f0b f0c f0d f0e c0 c1
   (refine wp_region_below (by kernel_rfl) (by kernel_rfl) ?_
    repeat (refine wpQuiet_step (fun K hK=>?_)
            go_simp
            first
             | (refine hK _ ?_;clear hK K)
             | (replace hK:=Lib.hid hK
                apply Exists.intro
                refine ⟨fun wq hq=>?_,hK.out _ ?_⟩
                ·(obtain ⟨⟨f1,f2⟩,f3,f4,f5⟩:=F1.out wq hq)
                 go_simp
                 first
                  | done
                  | (refine (hQ.out wq hq).mono ?_;rintro e w' ⟨rfl,hb⟩;exact ⟨rfl,hq.trans hb⟩)
                  | rfl
                  | exact ⟨rfl,rfl⟩
                clear hK K))
    refine wpQuiet_nil ?_)
   intro w3 hw3
   obtain ⟨⟨f1,f2⟩,f3,f4,f5⟩:=F1.out w3 hw3
   obtain ⟨hN3,hW3,hsz3,hs3⟩:=hG.out w3 hw3
   clear F1 hQ hG
   have q:=rinputs_any (kd:=4) (drop:=0) hN3 hs3 hk.out hB (by omega) hl hfl
   generalize L.onceL bl 0 (L.flatND bl 4 ip) = m at *
   replace hmk:=Lib.hid hmk
   replace hadd:=Lib.hid hadd
   replace hN3:=Lib.hid hN3
   replace hW3:=Lib.hid hW3
   replace hs3:=Lib.hid hs3
   replace hw3:=Lib.hid hw3
   go_wp2_with fail
   refine q.mono ?_
   rintro e w4 ⟨v,rfl,hr4⟩
   clear q
   have hb4:Hid (BI lo w3 w4):=Lib.hid (BI.of hr4.1 (Nat.le_trans hlo hsz3))
   have hN4:=hN3.out.next hr4.1
   have hsz4:=Nat.le_trans hsz3 hr4.1.size
   have f34:=(hr4.1.cell (World.block_lt_of_cell? w3 _ f3)).trans f3
   obtain ⟨b4,c4,rfl⟩:=hr4.shapeN
   have q:=rdecided_any (kd:=1) hN4 hr4.slI hmk.out hB hn (by omega) (by omega)
   replace hN4:=Lib.hid hN4
   replace hr4:=Lib.hid hr4
   go_wp2_with fail
   refine q.mono ?_
   rintro e w5 ⟨rfl,hb5⟩
   clear q
   have hr5:=hr4.out.next hb5
   have hN5:=hN4.out.next hb5
   have hsz5:=Nat.le_trans hsz4 hb5.size
   have hB5:Hid (BI lo w3 w5):=Lib.hid (hb4.out.trans (BI.of hb5 (Nat.le_trans hlo hsz4)))
   have f35:=(hb5.cell (World.block_lt_of_cell? w4 _ f34)).trans f34
   clear hb4 hb5 hN4 hr4 f34
   by_cases hD:L.decidedP bl 1 m
   ·have hdd:decide (L.decidedP bl 1 m) = true:=decide_eq_true hD
    have hadd2:=hadd.out.trans (if_pos hD)
    replace hadd2:=Lib.hid hadd2
    replace hD:=Lib.hid hD
    have q:=hput.out w5 1 0 [] none 0 hN5 hsz5 (by simp) (own_nilN _ _) (by simp [Value.ownBlock])
    simp only [List.length_nil] at q
    replace hN5:=Lib.hid hN5
    replace hr5:=Lib.hid hr5
    go_wp2_with fail
    refine q.mono ?_
    rintro e w6 ⟨rfl,hN6,hb6⟩
    replace hN6:=Lib.hid hN6
    clear q
    go_wp2_with fail
    go_ret2
    exact ⟨by rw [hadd2.out];rfl,by rw [hadd2.out];exact hN6.out,hW3.out.trans (hB5.out.trans hb6)⟩
   ·have hdd:decide (L.decidedP bl 1 m) = false:=decide_eq_false hD
    have hadd2:=hadd.out.trans (if_neg hD)
    replace hD:=Lib.hid hD
    cases m with
    | nil =>
      dsimp only at hadd2
      replace hadd2:=Lib.hid hadd2
      have q:=hput.out w5 0 0 [] none 0 hN5 hsz5 (by simp) (own_nilN _ _) (by simp [Value.ownBlock])
      simp only [List.length_nil] at q
      replace hN5:=Lib.hid hN5
      replace hr5:=Lib.hid hr5
      clear hml
      go_wp2_with fail
      refine q.mono ?_
      rintro e w6 ⟨rfl,hN6,hb6⟩
      replace hN6:=Lib.hid hN6
      clear q
      go_wp2_with fail
      go_ret2
      exact ⟨by rw [hadd2.out];rfl,by rw [hadd2.out];exact hN6.out,hW3.out.trans (hB5.out.trans hb6)⟩
    | cons i r =>
      cases r with
      | nil =>
        dsimp only at hadd2
        replace hadd2:=Lib.hid hadd2
        obtain ⟨_,_,e,hc⟩:=slI_castN hr5.slI
        cases e
        obtain ⟨b,o,rfl,-,hc⟩:=hc 0 (by simp)
        have hc0:w5.cell? ⟨b,o,none⟩ = some (.int .i64 (i:Nat)):=hc
        replace hN5:=Lib.hid hN5
        replace hr5:=Lib.hid hr5
        clear hc
        go_wp2_with fail
        go_ret2
        exact ⟨by rw [hadd2.out];rfl,by rw [hadd2.out];exact hN5.out,hW3.out.trans hB5.out⟩
      | cons j r =>
        dsimp only at hadd2
        replace hadd2:=Lib.hid hadd2
        have hlen:2≤(i :: j :: r).length:=by simp
        generalize i :: j :: r = m at *
        have z0:((m.length:Int) == 0) = false:=beq_eq_false_iff_ne.2 (by omega)
        have z1:((m.length:Int) == 1) = false:=beq_eq_false_iff_ne.2 (by omega)
        have z2:¬ ((m.length:Int) = 0):=by omega
        have z3:¬ ((m.length:Int) = 1):=by omega
        have z4:¬ (m.length = 0):=by omega
        have z5:¬ (m.length = 1):=by omega
        have z6:m≠[]:=fun e=>by rw [e] at hlen;simp at hlen
        have hbd:=(Below.refl w5.heap.size w5).drew
        have hr5d:=hr5.next hbd
        have hN5d:=Lib.hid (hN5.next hbd)
        have q:=rsorted_any hr5d.slI (by omega)
        have hB5d:Hid (BI lo w3 w5.drew):=Lib.hid (hB5.out.trans (BI.of hbd (Nat.le_trans hlo hsz5)))
        have hsz5d:base≤w5.drew.heap.size:=hsz5
        have hS:∀ V,Below w5.drew.heap.size w5.drew V→V.cell? ⟨W.heap.size,0,none⟩ = some (.int .i64 4):=fun V hV=>(hV.cell (World.block_lt_of_cell? w5 _ f35)).trans f35
        have hsl:(L.sortN m).length = m.length:=sortN_len m
        generalize L.sortN m = so at *
        replace hsl:=Lib.hid hsl
        replace hN5:=Lib.hid hN5
        replace hr5:=Lib.hid hr5
        replace hr5d:=Lib.hid hr5d
        replace hS:=Lib.hid hS
        replace hbd:=Lib.hid hbd
        go_wp2_with fail
        (refine wp_region_held_drew (S:=(fun _=>True)) (by kernel_rfl) ?_ (fun hHeld=>?_))
        ·trivial
        have hT:True:=trivial
        (refine takeL (i:=0) (v:=?_) rfl (by kernel_rfl) (by kernel_rfl) (by kernel_rfl) (fun _ _ _ h=>h) (Or.inl ⟨by rfl,?_⟩) (by assumption) ?_)
        rotate_left
        ·(intro w hSw;(try dsimp only at hSw);go_simp;first | done | with_reducible rfl)
        (try simp only [Act.put,List.setIfInBounds_toArray,List.set_cons_zero,List.set_cons_succ])
        (refine takeL (i:=1) (v:=?_) rfl (by kernel_rfl) (by kernel_rfl) (by kernel_rfl) (fun _ _ _ h=>h) (Or.inl ⟨by rfl,?_⟩) (by assumption) ?_)
        rotate_left
        ·(intro w hSw;(try dsimp only at hSw);go_simp;first | done | with_reducible rfl)
        (try simp only [Act.put,List.setIfInBounds_toArray,List.set_cons_zero,List.set_cons_succ])
        (refine takeL (i:=3) (v:=?_) rfl (by kernel_rfl) (by kernel_rfl) (by kernel_rfl) (fun _ _ _ h=>h) (Or.inl ⟨by rfl,?_⟩) (by assumption) ?_)
        rotate_left
        ·(intro w hSw;(try dsimp only at hSw);go_simp;first | done | with_reducible rfl)
        (try simp only [Act.put,List.setIfInBounds_toArray,List.set_cons_zero,List.set_cons_succ])
        clear f35 hT
        have f36:=hS.out _ (Below.refl _ _)
        generalize w5.drew = w6 at *
        (refine wpAnyH_ready (rs:=[2,4]) (by kernel_rfl) (by simp) ?_)
        (refine consL2 rfl rfl (fun K hK=>?_) (fun K hK=>?_))
        ·(rw [if_pos (by rfl)])
         go_simp
         (refine hK.out _ _ trivial (fun hT=>?_))
         clear hT hK K
         (try simp only [Act.put,List.setIfInBounds_toArray,List.set_cons_zero,List.set_cons_succ])
         (refine wpAnyH_ready (rs:=[4]) (by kernel_rfl) (by simp) ?_)
         (refine consL rfl (fun K hK=>?_))
         ((rw [if_pos (by rfl)]);go_simp;refine q.mono ?_;rintro e w7 ⟨v7,rfl,hr7⟩;refine hK.out _ _ trivial (fun hT=>?_))
         (clear hK K)
         (try simp only [Act.put,List.setIfInBounds_toArray,List.set_cons_zero,List.set_cons_succ])
         clear q
         obtain ⟨b7,c7,rfl⟩:=hr7.shapeN
         have hsz7:=Nat.le_trans hsz5d hr7.1.size
         have q2:=hput.out w7 4 0 so b7 c7 (hN5d.out.next hr7.1) hsz7 (by have:=hsl.out;omega) (own_weak (by have:=hr7.2;rwa [castL_len] at this) hsz5d) (fun e=>by have h1:=own_ge hr7.2 e;have h2:=hW3.out.1.size;have h3:=hB5d.out.1.size;omega)
         have hB7:Hid (BI lo w3 w7):=Lib.hid (hB5d.out.trans (BI.of hr7.1 (Nat.le_trans hlo hsz5d)))
         replace hr7:=Lib.hid hr7
         (refine takeL (i:=5) (v:=?_) rfl (by kernel_rfl) (by kernel_rfl) (by kernel_rfl) (fun _ _ _ h=>h) (Or.inl ⟨by rfl,?_⟩) (by assumption) ?_)
         rotate_left
         ·(intro w hSw;(try dsimp only at hSw);go_simp;first | done | with_reducible rfl)
         (try simp only [Act.put,List.setIfInBounds_toArray,List.set_cons_zero,List.set_cons_succ])
         clear hT
         (refine wpAnyH_ready (rs:=[6]) (by kernel_rfl) (by simp) ?_)
         (refine consL rfl (fun K hK=>?_))
         ((rw [if_pos (by rfl)]);go_simp;refine q2.mono ?_;rintro e w8 ⟨rfl,hN8,hb8⟩;refine hK.out _ _ trivial (fun hT=>?_))
         (clear hK K)
         (try simp only [Act.put,List.setIfInBounds_toArray,List.set_cons_zero,List.set_cons_succ])
         clear q2
         (refine takeL (i:=7) (v:=?_) rfl (by kernel_rfl) (by kernel_rfl) (by kernel_rfl) (fun _ _ _ h=>h) (Or.inl ⟨by rfl,?_⟩) (by assumption) ?_)
         rotate_left
         ·(intro w hSw;(try dsimp only at hSw);go_simp;first | done | with_reducible rfl)
         (try simp only [Act.put,List.setIfInBounds_toArray,List.set_cons_zero,List.set_cons_succ])
         (refine takeL (i:=8) (v:=?_) rfl (by kernel_rfl) (by kernel_rfl) (by kernel_rfl) (fun _ _ _ h=>h) (Or.inl ⟨by rfl,?_⟩) (by assumption) ?_)
         rotate_left
         ·(intro w hSw;(try dsimp only at hSw);go_simp;first | done | with_reducible rfl)
         (try simp only [Act.put,List.setIfInBounds_toArray,List.set_cons_zero,List.set_cons_succ])
         (refine takeL (i:=9) (v:=?_) rfl (by kernel_rfl) (by kernel_rfl) (by kernel_rfl) (fun _ _ _ h=>h) (Or.inl ⟨by rfl,?_⟩) (by assumption) ?_)
         rotate_left
         ·(intro w hSw;(try dsimp only at hSw);go_simp;first | done | with_reducible rfl)
         (try simp only [Act.put,List.setIfInBounds_toArray,List.set_cons_zero,List.set_cons_succ])
         (refine takeL (i:=10) (v:=?_) rfl (by kernel_rfl) (by kernel_rfl) (by kernel_rfl) (fun _ _ _ h=>h) (Or.inl ⟨by rfl,?_⟩) (by assumption) ?_)
         rotate_left
         ·(intro w hSw;(try dsimp only at hSw);go_simp;first | done | with_reducible rfl)
         (try simp only [Act.put,List.setIfInBounds_toArray,List.set_cons_zero,List.set_cons_succ])
         (refine wpAnyH_done (by kernel_rfl) ?_ _)
         clear hT
         replace hN8:=Lib.hid hN8
         go_wp2_with fail
         go_ret2
         exact ⟨by rw [hadd2.out];rfl,by rw [hadd2.out];exact hN8.out,hW3.out.trans (hB7.out.trans hb8)⟩
        ·(rw [if_pos (by rfl)])
         go_simp
         refine q.mono ?_
         rintro e w7 ⟨v7,rfl,hr7⟩
         refine hK.out _ _ trivial (fun hT=>?_)
         clear hT hK K
         (try simp only [Act.put,List.setIfInBounds_toArray,List.set_cons_zero,List.set_cons_succ])
         have f37:=hS.out _ hr7.1
         (refine wpAnyH_ready (rs:=[2]) (by kernel_rfl) (by simp) ?_)
         (refine consL rfl (fun K hK=>?_))
         ((rw [if_pos (by rfl)]);go_simp;refine hK.out _ _ trivial (fun hT=>?_))
         (clear hK K)
         (try simp only [Act.put,List.setIfInBounds_toArray,List.set_cons_zero,List.set_cons_succ])
         clear q
         obtain ⟨b7,c7,rfl⟩:=hr7.shapeN
         have hsz7:=Nat.le_trans hsz5d hr7.1.size
         have q2:=hput.out w7 4 0 so b7 c7 (hN5d.out.next hr7.1) hsz7 (by have:=hsl.out;omega) (own_weak (by have:=hr7.2;rwa [castL_len] at this) hsz5d) (fun e=>by have h1:=own_ge hr7.2 e;have h2:=hW3.out.1.size;have h3:=hB5d.out.1.size;omega)
         have hB7:Hid (BI lo w3 w7):=Lib.hid (hB5d.out.trans (BI.of hr7.1 (Nat.le_trans hlo hsz5d)))
         replace hr7:=Lib.hid hr7
         (refine takeL (i:=5) (v:=?_) rfl (by kernel_rfl) (by kernel_rfl) (by kernel_rfl) (fun _ _ _ h=>h) (Or.inl ⟨by rfl,?_⟩) (by assumption) ?_)
         rotate_left
         ·(intro w hSw;(try dsimp only at hSw);go_simp;first | done | with_reducible rfl)
         (try simp only [Act.put,List.setIfInBounds_toArray,List.set_cons_zero,List.set_cons_succ])
         clear hT
         (refine wpAnyH_ready (rs:=[6]) (by kernel_rfl) (by simp) ?_)
         (refine consL rfl (fun K hK=>?_))
         ((rw [if_pos (by rfl)]);go_simp;refine q2.mono ?_;rintro e w8 ⟨rfl,hN8,hb8⟩;refine hK.out _ _ trivial (fun hT=>?_))
         (clear hK K)
         (try simp only [Act.put,List.setIfInBounds_toArray,List.set_cons_zero,List.set_cons_succ])
         clear q2
         (refine takeL (i:=7) (v:=?_) rfl (by kernel_rfl) (by kernel_rfl) (by kernel_rfl) (fun _ _ _ h=>h) (Or.inl ⟨by rfl,?_⟩) (by assumption) ?_)
         rotate_left
         ·(intro w hSw;(try dsimp only at hSw);go_simp;first | done | with_reducible rfl)
         (try simp only [Act.put,List.setIfInBounds_toArray,List.set_cons_zero,List.set_cons_succ])
         (refine takeL (i:=8) (v:=?_) rfl (by kernel_rfl) (by kernel_rfl) (by kernel_rfl) (fun _ _ _ h=>h) (Or.inl ⟨by rfl,?_⟩) (by assumption) ?_)
         rotate_left
         ·(intro w hSw;(try dsimp only at hSw);go_simp;first | done | with_reducible rfl)
         (try simp only [Act.put,List.setIfInBounds_toArray,List.set_cons_zero,List.set_cons_succ])
         (refine takeL (i:=9) (v:=?_) rfl (by kernel_rfl) (by kernel_rfl) (by kernel_rfl) (fun _ _ _ h=>h) (Or.inl ⟨by rfl,?_⟩) (by assumption) ?_)
         rotate_left
         ·(intro w hSw;(try dsimp only at hSw);go_simp;first | done | with_reducible rfl)
         (try simp only [Act.put,List.setIfInBounds_toArray,List.set_cons_zero,List.set_cons_succ])
         (refine takeL (i:=10) (v:=?_) rfl (by kernel_rfl) (by kernel_rfl) (by kernel_rfl) (fun _ _ _ h=>h) (Or.inl ⟨by rfl,?_⟩) (by assumption) ?_)
         rotate_left
         ·(intro w hSw;(try dsimp only at hSw);go_simp;first | done | with_reducible rfl)
         (try simp only [Act.put,List.setIfInBounds_toArray,List.set_cons_zero,List.set_cons_succ])
         (refine wpAnyH_done (by kernel_rfl) ?_ _)
         clear hT
         replace hN8:=Lib.hid hN8
         go_wp2_with fail
         go_ret2
         exact ⟨by rw [hadd2.out];rfl,by rw [hadd2.out];exact hN8.out,hW3.out.trans (hB7.out.trans hb8)⟩
end Go.Proofs.YtckhohpbokojdaaGreatDoor
