import Derived.Test.YtckhohpbokojdaaGreatDoorMN9
set_option linter.unusedSimpArgs false
set_option linter.unusedVariables false
namespace Go.Proofs.YtckhohpbokojdaaGreatDoor
open Go Go.RowKit Go.Shelf
theorem addND_eq {n:Int} {bl:List L.ND} (hB:L.BOK n bl) {kd lt drop fin:Int} {ip:List Nat} (h:kd = 3∧drop = 1∧fin = 0∨kd = 4∧drop = 0∧fin = 1):L.addND bl ⟨kd,lt,ip⟩ = if (L.inRun bl drop fin (L.flatND bl kd ip)).opn = true then (match (L.inRun bl drop fin (L.flatND bl kd ip)).out with | []=>L.putND bl ⟨drop,0,[]⟩ | [i]=>(i,bl) | m=>L.putND bl ⟨kd,0,L.sortN m⟩) else L.putND bl ⟨fin,0,[]⟩:=by
 have hl:∀ i,(L.ndAt bl i).kind = 2→(L.ndAt bl i).lit≠0:=fun i hi=>by
  by_cases hlt:i < bl.length
  ·rw [L.ndAt_lt hlt] at hi ⊢
   rcases hB.form _ (List.getElem_mem hlt) with ⟨e,_⟩ | ⟨_,e,_⟩ | ⟨e,_⟩
   ·omega
   ·exact e.1
   ·omega
  ·exfalso
   have:L.ndAt bl i = L.zeroND:=by unfold L.ndAt;rw [List.getD_eq_getElem?_getD,List.getElem?_eq_none (by omega)];rfl
   rw [this] at hi
   exact absurd hi (by decide)
 obtain ⟨h1,h2⟩:=L.inRun_eq bl drop fin hl (L.flatND bl kd ip)
 unfold L.addND
 have hk:¬ (kd < 3):=by omega
 have hd:(if kd = 4 then (0:Int) else 1) = drop:=by rcases h with ⟨rfl,rfl,rfl⟩ | ⟨rfl,rfl,rfl⟩ <;> rfl
 have hf:(if kd = 4 then (1:Int) else 0) = fin:=by rcases h with ⟨rfl,rfl,rfl⟩ | ⟨rfl,rfl,rfl⟩ <;> rfl
 dsimp only
 rw [if_neg hk,hd,hf]
 by_cases ho:(L.inRun bl drop fin (L.flatND bl kd ip)).opn = true
 ·rw [if_pos ho,if_neg (h1.1 ho),h2 ho]
  cases L.onceL bl drop (L.flatND bl kd ip) with
  | nil=>rfl
  | cons a r=>cases r <;> rfl
 ·rw [if_neg ho,if_pos (Classical.not_not.1 fun hn=>ho (h1.2 hn))]
theorem own_weak {w:World} {base base' n size:Nat} {e:TypeId} {v:Value} {xs:List Value} (h:w.ownsRow base e size v n xs) (hb:base'≤base):w.ownsRow base' e size v n xs:=by
 obtain ⟨a,⟨h1,h2⟩ | ⟨g,cap,cur,e1,hgb,hr⟩⟩:=h
 ·exact ⟨a,.inl ⟨h1,h2⟩⟩
 ·exact ⟨a,.inr ⟨g,cap,cur,e1,by omega,hr⟩⟩
theorem own_nilN (w:World) (base:Nat):w.ownsRow base 3 1 (.slice none 0 0) 0 ((castL []).map encZ):=⟨rfl,.inl ⟨rfl,rfl⟩⟩
theorem sortN_len (l:List Nat):(L.sortN l).length = l.length:=(L.sortN_perm l).length_eq
set_option maxRecDepth 100000 in
set_option maxHeartbeats 8000000 in
theorem bnadd_any {lo base bx cc:Nat} {n kd lt:Int} {bb:Option Addr} {bl:List L.ND} {ip:List Nat} {W:World} (h:NB lo base bx n bl W) (hb:base≤W.heap.size) (hP:PowTab W) (hgP:gPow < base) (hB:L.BOK n bl) (hn:0≤n∧n≤128) (hbl:bl.length≤2000) (hs:SlI W (.slice bb ip.length cc) (castL ip)) (hl:ip.length≤100000) (hf:L.fmOk n bl.length ⟨kd,lt,castL ip⟩ = true) (hkd:0≤kd∧kd≤4) (hlt:-128≤lt∧lt≤128) (hk:∀ k∈ip,k < bl.length) :
  Calls Tryz.prog 86 #[.pointer (some ⟨bx,0,none⟩),.agg #[.int .i64 kd,.int .i64 lt,.slice bb ip.length cc]] W fun e W'=>e = .returned (.tuple #[.int .i64 ((L.addND bl ⟨kd,lt,ip⟩).1:Nat),.int .i64 0])∧NB lo base bx n (L.addND bl ⟨kd,lt,ip⟩).2 W'∧BI lo W W':=by
 have hb1:Below W.heap.size W (W.alloc (.cells #[.int .i64 kd,.int .i64 lt,.slice bb ip.length cc] 40)):=(Below.refl _ W).alloc (Nat.le_refl _) _
 have hx1:Ext W (W.alloc (.cells #[.int .i64 kd,.int .i64 lt,.slice bb ip.length cc] 40)):=(Ext.refl W).alloc _
 have e1:=heap_alloc_new W (.cells #[.int .i64 kd,.int .i64 lt,.slice bb ip.length cc] 40)
 obtain ⟨pm,vL,us,hN⟩:=h
 have hlo:lo≤base:=hN.2.2.2.2.2.2
 have hN1:=hN.next hb1
 obtain ⟨c0,c1,c2⟩:=hN1.cells
 obtain ⟨ba,cp,rfl⟩:=hN.shape
 have hbx1:bx < (W.alloc (.cells #[.int .i64 kd,.int .i64 lt,.slice bb ip.length cc] 40)).heap.size:=(Array.getElem?_eq_some_iff.1 hN1.1).1
 have F1:∀ w':World,Ext (W.alloc (.cells #[.int .i64 kd,.int .i64 lt,.slice bb ip.length cc] 40)) w'→(w'.cell? ⟨bx,0,none⟩ = some (.int .i64 n)∧w'.cell? ⟨bx,1,none⟩ = some (.slice ba bl.length cp))∧w'.cell? ⟨W.heap.size,0,none⟩ = some (.int .i64 kd)∧w'.cell? ⟨W.heap.size,1,none⟩ = some (.int .i64 lt)∧w'.cell? ⟨W.heap.size,2,none⟩ = some (.slice bb ip.length cc):=fun w' hw'=>by
  have f:=(hw'.below.block _ (Array.getElem?_eq_some_iff.1 e1).1).trans e1
  exact ⟨⟨hw'.cell c0,hw'.cell c1⟩,by rw [World.cell?,f];rfl,by rw [World.cell?,f];rfl,by rw [World.cell?,f];rfl⟩
 have hQ:∀ w':World,Ext (W.alloc (.cells #[.int .i64 kd,.int .i64 lt,.slice bb ip.length cc] 40)) w'→Calls Tryz.prog 57 #[.agg #[.int .i64 kd,.int .i64 lt,.slice bb ip.length cc],.int .i64 n,.int .i64 (bl.length:Nat)] w' fun e W'=>e = .returned (.bool true)∧Ext w' W':=fun w' hw'=>by
  have q:=formed_any (kd:=kd) (lt:=lt) (bb:=bb) (cc:=cc) (ip:=castL ip) (i:=bl.length) (w:=w') hn (by rw [castL_len];exact (hs.ext hx1.below).ext hw'.below) (by rw [castL_len];omega)
  rw [hf,castL_len] at q
  exact q
 have hG:∀ w':World,Ext (W.alloc (.cells #[.int .i64 kd,.int .i64 lt,.slice bb ip.length cc] 40)) w'→NB lo base bx n bl w'∧BI lo W w'∧base≤w'.heap.size∧PowTab w'∧SlI w' (.slice bb ip.length cc) (castL ip):=fun w' hw'=>⟨⟨pm,_,us,hN1.next hw'.below⟩,BI.of (hx1.trans hw').below (Nat.le_trans hlo hb),Nat.le_trans (Nat.le_trans hb hx1.size) hw'.size,(hP.below hx1.below).below hw'.below,(hs.ext hx1.below).ext hw'.below⟩
 have hfl:=hB.flat_lt (kind:=kd) hk
 obtain ⟨f0a,f0b,f0c,f0d⟩:=F1 _ (Ext.refl _)
 replace F1:=Lib.hid F1
 replace hQ:=Lib.hid hQ
 replace hG:=Lib.hid hG
 replace hN:=Lib.hid hN
 replace hN1:=Lib.hid hN1
 replace hs:=Lib.hid hs
 replace hP:=Lib.hid hP
 replace hk:=Lib.hid hk
 replace hf:=Lib.hid hf
 replace e1:=Lib.hid e1
 replace hb1:=Lib.hid hb1
 replace hx1:=Lib.hid hx1
 replace hfl:=Lib.hid hfl
 replace hbx1:=Lib.hid hbx1
 have hput:∀ (w':World) (kd':Int) (lt':Int) (ip':List Nat) (bb':Option Addr) (cc':Nat),NB lo base bx n bl w'→base≤w'.heap.size→PowTab w'→(0≤kd'∧kd'≤4)→(-128≤lt'∧lt'≤128)→(∀ k∈ip',k < bl.length)→ip'.length≤bl.length→w'.ownsRow base 3 1 (.slice bb' ip'.length cc') ip'.length ((castL ip').map encZ)→Calls Tryz.prog 98 #[.pointer (some ⟨bx,0,none⟩),.agg #[.int .i64 kd',.int .i64 lt',.slice bb' ip'.length cc']] w' fun e W'=>e = .returned (.tuple #[.int .i64 ((L.putND bl ⟨kd',lt',ip'⟩).1:Nat),.int .i64 0])∧NB lo base bx n (L.putND bl ⟨kd',lt',ip'⟩).2 W'∧BI lo w' W' :=
  fun w' kd' lt' ip' bb' cc' h1 h2 h3 h4 h5 h6 h7 h8=>nput_any h1 h2 h3 (by omega) (by omega) (by omega) (fun k hk=>by have:=h6 k hk;omega) h8 (by omega) hgP
 replace hput:=Lib.hid hput
 have hmq:∀ w,(binOp BinOp.eql 110 (.map (some pm)) (.map none)).run Tryz.prog w = .ok (.bool false) w:=fun w=>by have e:(Op.equalIn Op.maxDepth 110 (.map (some pm)) (.map none)).run Tryz.prog w = .ok (some pm).isNone w:=run_equalIn_map_nil (P:=Tryz.prog) w (Op.maxDepth - 1) 110 _ _ (some pm) Tryz.underlying110;simp only [binOp,Op.equal,Sem.run_bind,Sem.run_map];(try simp [go_sem]);rw [e];rfl
 by_cases hk3:kd < 3
 ·have hadd:L.addND bl ⟨kd,lt,ip⟩ = L.putND bl ⟨kd,lt,[]⟩:=by unfold L.addND;rw [if_pos hk3]
  rw [hadd]
  have q3:(kd == 3) = false:=beq_eq_false_iff_ne.2 (by omega)
  have q4:(kd == 4) = false:=beq_eq_false_iff_ne.2 (by omega)
  replace hadd:=Lib.hid hadd
  go_enter Tryz.func86,Tryz.ntmps86
  go_wp2_with fail
  generalize (W.alloc (.cells #[.int .i64 kd,.int .i64 lt,.slice bb ip.length cc] 40)) = w1 at *
  clear f0a f0b f0c f0d c0 c1 c2
  (refine wp_region_below (by kernel_rfl) (by kernel_rfl) ?_
   repeat (refine wpQuiet_step (fun K hK=>?_)
           go_simp
           first
            | (refine hK _ ?_;clear hK K)
            | (replace hK:=Lib.hid hK
               apply Exists.intro
               refine ⟨fun wq hq=>?_,hK.out _ ?_⟩
               ·(obtain ⟨⟨f1,f2⟩,f3,f4,f5⟩:=F1.out wq hq)
                go_simp
                first
                 | done
                 | (refine (hQ.out wq hq).mono ?_;rintro e w' ⟨rfl,hb⟩;exact ⟨rfl,hq.trans hb⟩)
                 | rfl
                 | exact ⟨rfl,rfl⟩
               clear hK K))
   refine wpQuiet_nil ?_)
  intro w3 hw3
  obtain ⟨⟨f1,f2⟩,f3,f4,f5⟩:=F1.out w3 hw3
  obtain ⟨hN3,hW3,hsz3,hP3,hs3⟩:=hG.out w3 hw3
  clear F1 hQ hG
  have q:=hput.out w3 kd lt [] none 0 hN3 hsz3 hP3 (by omega) hlt (fun k hk=>by cases hk) (Nat.zero_le _) (own_nilN _ _)
  simp only [List.length_nil] at q
  replace hN3:=Lib.hid hN3
  replace hW3:=Lib.hid hW3
  replace hP3:=Lib.hid hP3
  replace hs3:=Lib.hid hs3
  replace hw3:=Lib.hid hw3
  go_wp2_with fail
  refine q.mono ?_
  rintro e w4 ⟨rfl,hN4,hb4⟩
  replace hN4:=Lib.hid hN4
  clear q
  go_wp2_with fail
  go_ret2
  exact ⟨rfl,hN4.out,hW3.out.trans hb4⟩
 ·have hk34:kd = 3∨kd = 4:=by omega
  clear hkd hk3
  rcases hk34 with rfl | rfl
  ·have hadd:=addND_eq hB (kd:=3) (lt:=lt) (drop:=1) (fin:=0) (ip:=ip) (.inl ⟨rfl,rfl,rfl⟩)
   have hnd:=inRun_out bl 1 0 (L.flatND bl 3 ip)
   cases hop:(L.inRun bl 1 0 (L.flatND bl 3 ip)).opn with
   | false =>
     rw [hop,if_neg (by decide)] at hadd
     rw [hadd]
     go_enter Tryz.func86,Tryz.ntmps86
     go_wp2_with fail
     generalize (W.alloc (.cells #[.int .i64 3,.int .i64 lt,.slice bb ip.length cc] 40)) = w1 at *
     clear f0a f0b f0c f0d c0 c1 c2
     (refine wp_region_below (by kernel_rfl) (by kernel_rfl) ?_
      repeat (refine wpQuiet_step (fun K hK=>?_)
              go_simp
              first
               | (refine hK _ ?_;clear hK K)
               | (replace hK:=Lib.hid hK
                  apply Exists.intro
                  refine ⟨fun wq hq=>?_,hK.out _ ?_⟩
                  ·(obtain ⟨⟨f1,f2⟩,f3,f4,f5⟩:=F1.out wq hq)
                   go_simp
                   first
                    | done
                    | (refine (hQ.out wq hq).mono ?_;rintro e w' ⟨rfl,hb⟩;exact ⟨rfl,hq.trans hb⟩)
                    | rfl
                    | exact ⟨rfl,rfl⟩
                  clear hK K))
      refine wpQuiet_nil ?_)
     intro w3 hw3
     obtain ⟨⟨f1,f2⟩,f3,f4,f5⟩:=F1.out w3 hw3
     obtain ⟨hN3,hW3,hsz3,hP3,hs3⟩:=hG.out w3 hw3
     clear F1 hQ hG
     have q:=binputs_any (kd:=3) (drop:=1) (fin:=0) hN3 hB hn (by omega) hs3 hl hk.out (by decide) (by decide)
     rw [hop] at q
     replace hN3:=Lib.hid hN3
     replace hW3:=Lib.hid hW3
     replace hP3:=Lib.hid hP3
     replace hs3:=Lib.hid hs3
     replace hw3:=Lib.hid hw3
     replace hadd:=Lib.hid hadd
     replace hop:=Lib.hid hop
     go_wp2_with fail
     refine q.mono ?_
     rintro e w4 ⟨v,rfl,hb4,ho4⟩
     clear q
     have hb4b:Hid (BI lo w3 w4):=Lib.hid (BI.of hb4 (Nat.le_trans hlo hsz3))
     have hN4:=hN3.out.next hb4
     have hsz4:=Nat.le_trans hsz3 hb4.size
     have hP4:=hP3.out.below hb4
     have q2:=hput.out w4 0 0 [] none 0 hN4 hsz4 hP4 (by omega) (by omega) (fun k hk=>by cases hk) (Nat.zero_le _) (own_nilN _ _)
     simp only [List.length_nil] at q2
     replace hN4:=Lib.hid hN4
     replace hP4:=Lib.hid hP4
     replace ho4:=Lib.hid ho4
     clear hb4
     go_wp2_with fail
     refine q2.mono ?_
     rintro e w5 ⟨rfl,hN5,hb5⟩
     replace hN5:=Lib.hid hN5
     clear q2
     go_wp2_with fail
     go_ret2
     exact ⟨rfl,hN5.out,hW3.out.trans (hb4b.out.trans hb5)⟩
   | true =>
     rw [hop,if_pos rfl] at hadd
     cases hou:(L.inRun bl 1 0 (L.flatND bl 3 ip)).out with
     | nil =>
       rw [hou] at hadd
       dsimp only at hadd
       rw [hadd]
       go_enter Tryz.func86,Tryz.ntmps86
       go_wp2_with fail
       generalize (W.alloc (.cells #[.int .i64 3,.int .i64 lt,.slice bb ip.length cc] 40)) = w1 at *
       clear f0a f0b f0c f0d c0 c1 c2
       (refine wp_region_below (by kernel_rfl) (by kernel_rfl) ?_
        repeat (refine wpQuiet_step (fun K hK=>?_)
                go_simp
                first
                 | (refine hK _ ?_;clear hK K)
                 | (replace hK:=Lib.hid hK
                    apply Exists.intro
                    refine ⟨fun wq hq=>?_,hK.out _ ?_⟩
                    ·(obtain ⟨⟨f1,f2⟩,f3,f4,f5⟩:=F1.out wq hq)
                     go_simp
                     first
                      | done
                      | (refine (hQ.out wq hq).mono ?_;rintro e w' ⟨rfl,hb⟩;exact ⟨rfl,hq.trans hb⟩)
                      | rfl
                      | exact ⟨rfl,rfl⟩
                    clear hK K))
        refine wpQuiet_nil ?_)
       intro w3 hw3
       obtain ⟨⟨f1,f2⟩,f3,f4,f5⟩:=F1.out w3 hw3
       obtain ⟨hN3,hW3,hsz3,hP3,hs3⟩:=hG.out w3 hw3
       clear F1 hQ hG
       have q:=binputs_any (kd:=3) (drop:=1) (fin:=0) hN3 hB hn (by omega) hs3 hl hk.out (by decide) (by decide)
       rw [hop,hou] at q
       replace hou:=Lib.hid hou
       replace hN3:=Lib.hid hN3
       replace hW3:=Lib.hid hW3
       replace hP3:=Lib.hid hP3
       replace hs3:=Lib.hid hs3
       replace hw3:=Lib.hid hw3
       replace hadd:=Lib.hid hadd
       replace hop:=Lib.hid hop
       go_wp2_with fail
       refine q.mono ?_
       rintro e w4 ⟨v,rfl,hb4,ho4⟩
       clear q
       have hb4b:Hid (BI lo w3 w4):=Lib.hid (BI.of hb4 (Nat.le_trans hlo hsz3))
       have hN4:=hN3.out.next hb4
       have hsz4:=Nat.le_trans hsz3 hb4.size
       have hP4:=hP3.out.below hb4
       obtain ⟨ba4,cp4,hv4,_⟩:=owns_slI (l:=castL (L.sortN [])) ho4
       have hv5:v = .slice ba4 0 cp4:=hv4
       subst hv5
       clear hv4
       have q2:=hput.out w4 1 0 [] none 0 hN4 hsz4 hP4 (by omega) (by omega) (fun k hk=>by cases hk) (Nat.zero_le _) (own_nilN _ _)
       simp only [List.length_nil] at q2
       replace hN4:=Lib.hid hN4
       replace hP4:=Lib.hid hP4
       replace ho4:=Lib.hid ho4
       clear hb4
       go_wp2_with fail
       refine q2.mono ?_
       rintro e w5 ⟨rfl,hN5,hb5⟩
       replace hN5:=Lib.hid hN5
       clear q2
       go_wp2_with fail
       go_ret2
       exact ⟨rfl,hN5.out,hW3.out.trans (hb4b.out.trans hb5)⟩
     | cons i r =>
       cases r with
       | nil =>
         rw [hou] at hadd
         dsimp only at hadd
         rw [hadd]
         go_enter Tryz.func86,Tryz.ntmps86
         go_wp2_with fail
         generalize (W.alloc (.cells #[.int .i64 3,.int .i64 lt,.slice bb ip.length cc] 40)) = w1 at *
         clear f0a f0b f0c f0d c0 c1 c2
         (refine wp_region_below (by kernel_rfl) (by kernel_rfl) ?_
          repeat (refine wpQuiet_step (fun K hK=>?_)
                  go_simp
                  first
                   | (refine hK _ ?_;clear hK K)
                   | (replace hK:=Lib.hid hK
                      apply Exists.intro
                      refine ⟨fun wq hq=>?_,hK.out _ ?_⟩
                      ·(obtain ⟨⟨f1,f2⟩,f3,f4,f5⟩:=F1.out wq hq)
                       go_simp
                       first
                        | done
                        | (refine (hQ.out wq hq).mono ?_;rintro e w' ⟨rfl,hb⟩;exact ⟨rfl,hq.trans hb⟩)
                        | rfl
                        | exact ⟨rfl,rfl⟩
                      clear hK K))
          refine wpQuiet_nil ?_)
         intro w3 hw3
         obtain ⟨⟨f1,f2⟩,f3,f4,f5⟩:=F1.out w3 hw3
         obtain ⟨hN3,hW3,hsz3,hP3,hs3⟩:=hG.out w3 hw3
         clear F1 hQ hG
         have q:=binputs_any (kd:=3) (drop:=1) (fin:=0) hN3 hB hn (by omega) hs3 hl hk.out (by decide) (by decide)
         rw [hop,hou] at q
         replace hou:=Lib.hid hou
         replace hN3:=Lib.hid hN3
         replace hW3:=Lib.hid hW3
         replace hP3:=Lib.hid hP3
         replace hs3:=Lib.hid hs3
         replace hw3:=Lib.hid hw3
         replace hadd:=Lib.hid hadd
         replace hop:=Lib.hid hop
         go_wp2_with fail
         refine q.mono ?_
         rintro e w4 ⟨v,rfl,hb4,ho4⟩
         clear q
         have hb4b:Hid (BI lo w3 w4):=Lib.hid (BI.of hb4 (Nat.le_trans hlo hsz3))
         have hN4:=hN3.out.next hb4
         have hsz4:=Nat.le_trans hsz3 hb4.size
         have hP4:=hP3.out.below hb4
         obtain ⟨g4,cp4,hv4,hc4⟩:=ownsRow_cellN ho4 (k:=0) (by rw [List.length_map,castL_len,sortN_len];exact Nat.one_pos)
         have hv5:v = .slice (some ⟨g4,0,none⟩) 1 cp4:=hv4
         subst hv5
         clear hv4
         have c4:w4.cell? ⟨g4,0,none⟩ = some (.int .i64 (i:Nat)):=hc4 0 (by rw [List.length_map,castL_len,sortN_len];exact Nat.one_pos)
         replace hN4:=Lib.hid hN4
         replace hP4:=Lib.hid hP4
         replace ho4:=Lib.hid ho4
         clear hb4
         go_wp2_with fail
         go_ret2
         exact ⟨rfl,hN4.out,hW3.out.trans hb4b.out⟩
       | cons j r =>
         rw [hou] at hadd hnd
         dsimp only at hadd
         have hol:(L.sortN (i :: j :: r)).length≤bl.length:=by rw [sortN_len];exact L.nodup_lt _ _ hnd.1 fun x hx=>hfl.out x (hnd.2 x hx)
         have hok:∀ k∈L.sortN (i :: j :: r),k < bl.length:=fun k hk=>hfl.out k (hnd.2 k ((L.sortN_perm _).mem_iff.1 hk))
         have hlen:2≤(L.sortN (i :: j :: r)).length:=by rw [sortN_len];simp
         obtain ⟨so,hso⟩:∃ so,so = L.sortN (i :: j :: r):=⟨_,rfl⟩
         rw [←hso] at hol hok hlen
         have hadd2:L.addND bl ⟨3,lt,ip⟩ = L.putND bl ⟨3,0,so⟩:=by rw [hso];exact hadd
         replace hadd:=hadd2
         clear hadd2
         replace hok:=Lib.hid hok
         replace hso:=Lib.hid hso
         rw [hadd]
         go_enter Tryz.func86,Tryz.ntmps86
         go_wp2_with fail
         generalize (W.alloc (.cells #[.int .i64 3,.int .i64 lt,.slice bb ip.length cc] 40)) = w1 at *
         clear f0a f0b f0c f0d c0 c1 c2
         (refine wp_region_below (by kernel_rfl) (by kernel_rfl) ?_
          repeat (refine wpQuiet_step (fun K hK=>?_)
                  go_simp
                  first
                   | (refine hK _ ?_;clear hK K)
                   | (replace hK:=Lib.hid hK
                      apply Exists.intro
                      refine ⟨fun wq hq=>?_,hK.out _ ?_⟩
                      ·(obtain ⟨⟨f1,f2⟩,f3,f4,f5⟩:=F1.out wq hq)
                       go_simp
                       first
                        | done
                        | (refine (hQ.out wq hq).mono ?_;rintro e w' ⟨rfl,hb⟩;exact ⟨rfl,hq.trans hb⟩)
                        | rfl
                        | exact ⟨rfl,rfl⟩
                      clear hK K))
          refine wpQuiet_nil ?_)
         intro w3 hw3
         obtain ⟨⟨f1,f2⟩,f3,f4,f5⟩:=F1.out w3 hw3
         obtain ⟨hN3,hW3,hsz3,hP3,hs3⟩:=hG.out w3 hw3
         clear F1 hQ hG
         have q:=binputs_any (kd:=3) (drop:=1) (fin:=0) hN3 hB hn (by omega) hs3 hl hk.out (by decide) (by decide)
         rw [hop,hou,←sortN_len (i :: j :: r),←hso.out] at q
         replace hou:=Lib.hid hou
         replace hnd:=Lib.hid hnd
         replace hN3:=Lib.hid hN3
         replace hW3:=Lib.hid hW3
         replace hP3:=Lib.hid hP3
         replace hs3:=Lib.hid hs3
         replace hw3:=Lib.hid hw3
         replace hadd:=Lib.hid hadd
         replace hop:=Lib.hid hop
         go_wp2_with fail
         refine q.mono ?_
         rintro e w4 ⟨v,rfl,hb4,ho4⟩
         clear q
         have hb4b:Hid (BI lo w3 w4):=Lib.hid (BI.of hb4 (Nat.le_trans hlo hsz3))
         have hN4:=hN3.out.next hb4
         have hsz4:=Nat.le_trans hsz3 hb4.size
         have hP4:=hP3.out.below hb4
         have f34:=(hb4.cell (World.block_lt_of_cell? w3 _ f3)).trans f3
         obtain ⟨ba4,cp4,hv4,_⟩:=owns_slI (l:=castL so) (by rw [castL_len];exact ho4)
         rw [castL_len] at hv4
         subst hv4
         have q2:=hput.out w4 3 0 so ba4 cp4 hN4 hsz4 hP4 (by omega) (by omega) hok.out hol (own_weak ho4 hsz3)
         have z0:((so.length:Int) == 0) = false:=beq_eq_false_iff_ne.2 (by omega)
         have z1:((so.length:Int) == 1) = false:=beq_eq_false_iff_ne.2 (by omega)
         have z2:¬ ((so.length:Int) = 0):=by omega
         have z3:¬ ((so.length:Int) = 1):=by omega
         have z4:¬ (so.length = 0):=by omega
         have z5:¬ (so.length = 1):=by omega
         have z6:so≠[]:=fun e=>by rw [e] at hlen;simp at hlen
         replace hN4:=Lib.hid hN4
         replace hP4:=Lib.hid hP4
         replace ho4:=Lib.hid ho4
         clear hb4
         go_wp2_with fail
         refine q2.mono ?_
         rintro e w5 ⟨rfl,hN5,hb5⟩
         replace hN5:=Lib.hid hN5
         clear q2
         go_wp2_with fail
         go_ret2
         exact ⟨rfl,hN5.out,hW3.out.trans (hb4b.out.trans hb5)⟩
  ·have hadd:=addND_eq hB (kd:=4) (lt:=lt) (drop:=0) (fin:=1) (ip:=ip) (.inr ⟨rfl,rfl,rfl⟩)
   have hnd:=inRun_out bl 0 1 (L.flatND bl 4 ip)
   cases hop:(L.inRun bl 0 1 (L.flatND bl 4 ip)).opn with
   | false =>
     rw [hop,if_neg (by decide)] at hadd
     rw [hadd]
     go_enter Tryz.func86,Tryz.ntmps86
     go_wp2_with fail
     generalize (W.alloc (.cells #[.int .i64 4,.int .i64 lt,.slice bb ip.length cc] 40)) = w1 at *
     clear f0a f0b f0c f0d c0 c1 c2
     (refine wp_region_below (by kernel_rfl) (by kernel_rfl) ?_
      repeat (refine wpQuiet_step (fun K hK=>?_)
              go_simp
              first
               | (refine hK _ ?_;clear hK K)
               | (replace hK:=Lib.hid hK
                  apply Exists.intro
                  refine ⟨fun wq hq=>?_,hK.out _ ?_⟩
                  ·(obtain ⟨⟨f1,f2⟩,f3,f4,f5⟩:=F1.out wq hq)
                   go_simp
                   first
                    | done
                    | (refine (hQ.out wq hq).mono ?_;rintro e w' ⟨rfl,hb⟩;exact ⟨rfl,hq.trans hb⟩)
                    | rfl
                    | exact ⟨rfl,rfl⟩
                  clear hK K))
      refine wpQuiet_nil ?_)
     intro w3 hw3
     obtain ⟨⟨f1,f2⟩,f3,f4,f5⟩:=F1.out w3 hw3
     obtain ⟨hN3,hW3,hsz3,hP3,hs3⟩:=hG.out w3 hw3
     clear F1 hQ hG
     have q:=binputs_any (kd:=4) (drop:=0) (fin:=1) hN3 hB hn (by omega) hs3 hl hk.out (by decide) (by decide)
     rw [hop] at q
     replace hN3:=Lib.hid hN3
     replace hW3:=Lib.hid hW3
     replace hP3:=Lib.hid hP3
     replace hs3:=Lib.hid hs3
     replace hw3:=Lib.hid hw3
     replace hadd:=Lib.hid hadd
     replace hop:=Lib.hid hop
     go_wp2_with fail
     refine q.mono ?_
     rintro e w4 ⟨v,rfl,hb4,ho4⟩
     clear q
     have hb4b:Hid (BI lo w3 w4):=Lib.hid (BI.of hb4 (Nat.le_trans hlo hsz3))
     have hN4:=hN3.out.next hb4
     have hsz4:=Nat.le_trans hsz3 hb4.size
     have hP4:=hP3.out.below hb4
     have q2:=hput.out w4 1 0 [] none 0 hN4 hsz4 hP4 (by omega) (by omega) (fun k hk=>by cases hk) (Nat.zero_le _) (own_nilN _ _)
     simp only [List.length_nil] at q2
     replace hN4:=Lib.hid hN4
     replace hP4:=Lib.hid hP4
     replace ho4:=Lib.hid ho4
     clear hb4
     go_wp2_with fail
     refine q2.mono ?_
     rintro e w5 ⟨rfl,hN5,hb5⟩
     replace hN5:=Lib.hid hN5
     clear q2
     go_wp2_with fail
     go_ret2
     exact ⟨rfl,hN5.out,hW3.out.trans (hb4b.out.trans hb5)⟩
   | true =>
     rw [hop,if_pos rfl] at hadd
     cases hou:(L.inRun bl 0 1 (L.flatND bl 4 ip)).out with
     | nil =>
       rw [hou] at hadd
       dsimp only at hadd
       rw [hadd]
       go_enter Tryz.func86,Tryz.ntmps86
       go_wp2_with fail
       generalize (W.alloc (.cells #[.int .i64 4,.int .i64 lt,.slice bb ip.length cc] 40)) = w1 at *
       clear f0a f0b f0c f0d c0 c1 c2
       (refine wp_region_below (by kernel_rfl) (by kernel_rfl) ?_
        repeat (refine wpQuiet_step (fun K hK=>?_)
                go_simp
                first
                 | (refine hK _ ?_;clear hK K)
                 | (replace hK:=Lib.hid hK
                    apply Exists.intro
                    refine ⟨fun wq hq=>?_,hK.out _ ?_⟩
                    ·(obtain ⟨⟨f1,f2⟩,f3,f4,f5⟩:=F1.out wq hq)
                     go_simp
                     first
                      | done
                      | (refine (hQ.out wq hq).mono ?_;rintro e w' ⟨rfl,hb⟩;exact ⟨rfl,hq.trans hb⟩)
                      | rfl
                      | exact ⟨rfl,rfl⟩
                    clear hK K))
        refine wpQuiet_nil ?_)
       intro w3 hw3
       obtain ⟨⟨f1,f2⟩,f3,f4,f5⟩:=F1.out w3 hw3
       obtain ⟨hN3,hW3,hsz3,hP3,hs3⟩:=hG.out w3 hw3
       clear F1 hQ hG
       have q:=binputs_any (kd:=4) (drop:=0) (fin:=1) hN3 hB hn (by omega) hs3 hl hk.out (by decide) (by decide)
       rw [hop,hou] at q
       replace hou:=Lib.hid hou
       replace hN3:=Lib.hid hN3
       replace hW3:=Lib.hid hW3
       replace hP3:=Lib.hid hP3
       replace hs3:=Lib.hid hs3
       replace hw3:=Lib.hid hw3
       replace hadd:=Lib.hid hadd
       replace hop:=Lib.hid hop
       go_wp2_with fail
       refine q.mono ?_
       rintro e w4 ⟨v,rfl,hb4,ho4⟩
       clear q
       have hb4b:Hid (BI lo w3 w4):=Lib.hid (BI.of hb4 (Nat.le_trans hlo hsz3))
       have hN4:=hN3.out.next hb4
       have hsz4:=Nat.le_trans hsz3 hb4.size
       have hP4:=hP3.out.below hb4
       obtain ⟨ba4,cp4,hv4,_⟩:=owns_slI (l:=castL (L.sortN [])) ho4
       have hv5:v = .slice ba4 0 cp4:=hv4
       subst hv5
       clear hv4
       have q2:=hput.out w4 0 0 [] none 0 hN4 hsz4 hP4 (by omega) (by omega) (fun k hk=>by cases hk) (Nat.zero_le _) (own_nilN _ _)
       simp only [List.length_nil] at q2
       replace hN4:=Lib.hid hN4
       replace hP4:=Lib.hid hP4
       replace ho4:=Lib.hid ho4
       clear hb4
       go_wp2_with fail
       refine q2.mono ?_
       rintro e w5 ⟨rfl,hN5,hb5⟩
       replace hN5:=Lib.hid hN5
       clear q2
       go_wp2_with fail
       go_ret2
       exact ⟨rfl,hN5.out,hW3.out.trans (hb4b.out.trans hb5)⟩
     | cons i r =>
       cases r with
       | nil =>
         rw [hou] at hadd
         dsimp only at hadd
         rw [hadd]
         go_enter Tryz.func86,Tryz.ntmps86
         go_wp2_with fail
         generalize (W.alloc (.cells #[.int .i64 4,.int .i64 lt,.slice bb ip.length cc] 40)) = w1 at *
         clear f0a f0b f0c f0d c0 c1 c2
         (refine wp_region_below (by kernel_rfl) (by kernel_rfl) ?_
          repeat (refine wpQuiet_step (fun K hK=>?_)
                  go_simp
                  first
                   | (refine hK _ ?_;clear hK K)
                   | (replace hK:=Lib.hid hK
                      apply Exists.intro
                      refine ⟨fun wq hq=>?_,hK.out _ ?_⟩
                      ·(obtain ⟨⟨f1,f2⟩,f3,f4,f5⟩:=F1.out wq hq)
                       go_simp
                       first
                        | done
                        | (refine (hQ.out wq hq).mono ?_;rintro e w' ⟨rfl,hb⟩;exact ⟨rfl,hq.trans hb⟩)
                        | rfl
                        | exact ⟨rfl,rfl⟩
                      clear hK K))
          refine wpQuiet_nil ?_)
         intro w3 hw3
         obtain ⟨⟨f1,f2⟩,f3,f4,f5⟩:=F1.out w3 hw3
         obtain ⟨hN3,hW3,hsz3,hP3,hs3⟩:=hG.out w3 hw3
         clear F1 hQ hG
         have q:=binputs_any (kd:=4) (drop:=0) (fin:=1) hN3 hB hn (by omega) hs3 hl hk.out (by decide) (by decide)
         rw [hop,hou] at q
         replace hou:=Lib.hid hou
         replace hN3:=Lib.hid hN3
         replace hW3:=Lib.hid hW3
         replace hP3:=Lib.hid hP3
         replace hs3:=Lib.hid hs3
         replace hw3:=Lib.hid hw3
         replace hadd:=Lib.hid hadd
         replace hop:=Lib.hid hop
         go_wp2_with fail
         refine q.mono ?_
         rintro e w4 ⟨v,rfl,hb4,ho4⟩
         clear q
         have hb4b:Hid (BI lo w3 w4):=Lib.hid (BI.of hb4 (Nat.le_trans hlo hsz3))
         have hN4:=hN3.out.next hb4
         have hsz4:=Nat.le_trans hsz3 hb4.size
         have hP4:=hP3.out.below hb4
         obtain ⟨g4,cp4,hv4,hc4⟩:=ownsRow_cellN ho4 (k:=0) (by rw [List.length_map,castL_len,sortN_len];exact Nat.one_pos)
         have hv5:v = .slice (some ⟨g4,0,none⟩) 1 cp4:=hv4
         subst hv5
         clear hv4
         have c4:w4.cell? ⟨g4,0,none⟩ = some (.int .i64 (i:Nat)):=hc4 0 (by rw [List.length_map,castL_len,sortN_len];exact Nat.one_pos)
         replace hN4:=Lib.hid hN4
         replace hP4:=Lib.hid hP4
         replace ho4:=Lib.hid ho4
         clear hb4
         go_wp2_with fail
         go_ret2
         exact ⟨rfl,hN4.out,hW3.out.trans hb4b.out⟩
       | cons j r =>
         rw [hou] at hadd hnd
         dsimp only at hadd
         have hol:(L.sortN (i :: j :: r)).length≤bl.length:=by rw [sortN_len];exact L.nodup_lt _ _ hnd.1 fun x hx=>hfl.out x (hnd.2 x hx)
         have hok:∀ k∈L.sortN (i :: j :: r),k < bl.length:=fun k hk=>hfl.out k (hnd.2 k ((L.sortN_perm _).mem_iff.1 hk))
         have hlen:2≤(L.sortN (i :: j :: r)).length:=by rw [sortN_len];simp
         obtain ⟨so,hso⟩:∃ so,so = L.sortN (i :: j :: r):=⟨_,rfl⟩
         rw [←hso] at hol hok hlen
         have hadd2:L.addND bl ⟨4,lt,ip⟩ = L.putND bl ⟨4,0,so⟩:=by rw [hso];exact hadd
         replace hadd:=hadd2
         clear hadd2
         replace hok:=Lib.hid hok
         replace hso:=Lib.hid hso
         rw [hadd]
         go_enter Tryz.func86,Tryz.ntmps86
         go_wp2_with fail
         generalize (W.alloc (.cells #[.int .i64 4,.int .i64 lt,.slice bb ip.length cc] 40)) = w1 at *
         clear f0a f0b f0c f0d c0 c1 c2
         (refine wp_region_below (by kernel_rfl) (by kernel_rfl) ?_
          repeat (refine wpQuiet_step (fun K hK=>?_)
                  go_simp
                  first
                   | (refine hK _ ?_;clear hK K)
                   | (replace hK:=Lib.hid hK
                      apply Exists.intro
                      refine ⟨fun wq hq=>?_,hK.out _ ?_⟩
                      ·(obtain ⟨⟨f1,f2⟩,f3,f4,f5⟩:=F1.out wq hq)
                       go_simp
                       first
                        | done
                        | (refine (hQ.out wq hq).mono ?_;rintro e w' ⟨rfl,hb⟩;exact ⟨rfl,hq.trans hb⟩)
                        | rfl
                        | exact ⟨rfl,rfl⟩
                      clear hK K))
          refine wpQuiet_nil ?_)
         intro w3 hw3
         obtain ⟨⟨f1,f2⟩,f3,f4,f5⟩:=F1.out w3 hw3
         obtain ⟨hN3,hW3,hsz3,hP3,hs3⟩:=hG.out w3 hw3
         clear F1 hQ hG
         have q:=binputs_any (kd:=4) (drop:=0) (fin:=1) hN3 hB hn (by omega) hs3 hl hk.out (by decide) (by decide)
         rw [hop,hou,←sortN_len (i :: j :: r),←hso.out] at q
         replace hou:=Lib.hid hou
         replace hnd:=Lib.hid hnd
         replace hN3:=Lib.hid hN3
         replace hW3:=Lib.hid hW3
         replace hP3:=Lib.hid hP3
         replace hs3:=Lib.hid hs3
         replace hw3:=Lib.hid hw3
         replace hadd:=Lib.hid hadd
         replace hop:=Lib.hid hop
         go_wp2_with fail
         refine q.mono ?_
         rintro e w4 ⟨v,rfl,hb4,ho4⟩
         clear q
         have hb4b:Hid (BI lo w3 w4):=Lib.hid (BI.of hb4 (Nat.le_trans hlo hsz3))
         have hN4:=hN3.out.next hb4
         have hsz4:=Nat.le_trans hsz3 hb4.size
         have hP4:=hP3.out.below hb4
         have f34:=(hb4.cell (World.block_lt_of_cell? w3 _ f3)).trans f3
         obtain ⟨ba4,cp4,hv4,_⟩:=owns_slI (l:=castL so) (by rw [castL_len];exact ho4)
         rw [castL_len] at hv4
         subst hv4
         have q2:=hput.out w4 4 0 so ba4 cp4 hN4 hsz4 hP4 (by omega) (by omega) hok.out hol (own_weak ho4 hsz3)
         have z0:((so.length:Int) == 0) = false:=beq_eq_false_iff_ne.2 (by omega)
         have z1:((so.length:Int) == 1) = false:=beq_eq_false_iff_ne.2 (by omega)
         have z2:¬ ((so.length:Int) = 0):=by omega
         have z3:¬ ((so.length:Int) = 1):=by omega
         have z4:¬ (so.length = 0):=by omega
         have z5:¬ (so.length = 1):=by omega
         have z6:so≠[]:=fun e=>by rw [e] at hlen;simp at hlen
         replace hN4:=Lib.hid hN4
         replace hP4:=Lib.hid hP4
         replace ho4:=Lib.hid ho4
         clear hb4
         go_wp2_with fail
         refine q2.mono ?_
         rintro e w5 ⟨rfl,hN5,hb5⟩
         replace hN5:=Lib.hid hN5
         clear q2
         go_wp2_with fail
         go_ret2
         exact ⟨rfl,hN5.out,hW3.out.trans (hb4b.out.trans hb5)⟩
end Go.Proofs.YtckhohpbokojdaaGreatDoor
