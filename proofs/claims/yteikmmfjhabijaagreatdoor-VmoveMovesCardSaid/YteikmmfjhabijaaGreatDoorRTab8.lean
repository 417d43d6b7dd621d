import Derived.Test.YteikmmfjhabijaaGreatDoorRTab7
set_option linter.unusedSimpArgs false
set_option linter.unusedVariables false
namespace Go.Proofs.YteikmmfjhabijaaGreatDoor
open Go Go.RowKit Go.Shelf
theorem joinT_snoc (g:Nat→List UInt8):∀ (l:List (Nat × Nat)) (p:Nat × Nat),L.joinT g (l++[p]) = L.joinT g l++((if l = [] then [] else [59,32])++(g p.1++[32]++g p.2))
 | [],p=>by simp [L.joinT]
 | q :: r,p=>by simp [L.joinT]
theorem joinT_pre (g:Nat→List UInt8) (el:List (Nat × Nat)):∀ j,j≤el.length→∃ r,L.joinT g el = L.joinT g (el.take j)++r:=fun j hj=>by
 induction h:el.length - j generalizing j with
 | zero=>exact ⟨[],by rw [List.take_of_length_le (by omega)];simp⟩
 | succ k ih =>
   obtain ⟨r,hr⟩:=ih (j+1) (by omega) (by omega)
   rw [List.take_add_one,List.getElem?_eq_getElem (by omega),Option.toList_some,joinT_snoc] at hr
   exact ⟨_,by rw [hr,List.append_assoc]⟩
def preT (g:Nat→List UInt8) (el:List (Nat × Nat)) (j:Nat):List UInt8:=[40]++L.joinT g (el.take j)
theorem preT_succ (g:Nat→List UInt8) (el:List (Nat × Nat)) {j:Nat} (hj:j < el.length):preT g el (j+1) = (if j = 0 then preT g el j else preT g el j++[59,32])++g el[j].1++[32]++g el[j].2:=by
 unfold preT
 rw [List.take_add_one,List.getElem?_eq_getElem hj,Option.toList_some,joinT_snoc]
 by_cases h0:j = 0
 ·subst h0;simp [L.joinT]
 ·have:el.take j≠[]:=fun e=>by
   rcases List.take_eq_nil_iff.1 e with h | h
   ·exact h0 h
   ·rw [h] at hj;simp at hj
  rw [if_neg this,if_neg h0]
  simp
theorem preT_le (g:Nat→List UInt8) (el:List (Nat × Nat)) {j:Nat} (hj:j≤el.length):(preT g el j).length≤([40]++L.joinT g el++[41]).length:=by
 obtain ⟨r,hr⟩:=joinT_pre g el j hj
 rw [hr]
 unfold preT
 simp
theorem tB_all:∀ n,n≤6→L.tB n≤4000000:=by decide
def strB (l:List UInt8):ByteArray:=⟨l.toArray⟩
theorem strB_app (a b:List UInt8):strB a++strB b = strB (a++b):=ba_app a b
theorem strB_size (a:List UInt8):(strB a).size = a.length:=ba_size a
set_option maxRecDepth 100000 in
set_option maxHeartbeats 8000000 in
theorem ttext_any {s:St} {l:List Int} (hi:L.Inv s) (hfew:s.tree.length≤11) (hvr:varsR s.tree = some l) (hsb:L.SortedBel s.tree (s.tree.length - 1) l) (hl6:l.length≤6):∀ (a:Nat),a < s.nodes.length→∀ {w:World} {b o c:Nat} {vf:Value},TreeAt w b o s.tree→SlB w vf (L.tabO l (L.sem s.nodes a)) →
  Calls Tryz.prog 42 #[.slice (some ⟨b,o,none⟩) s.tree.length c,vf] w fun e w'=>e = .returned (.string (strB (L.tx s.nodes a)))∧Below w.heap.size w w':=by
 intro a
 induction a using Nat.strongRecOn with
 | ind a ih =>
   intro ha w b o c vf ht hf
   have hd:=hi.tabDep hsb ha
   have htab:=L.tabO_is hsb.sorted hd
   have hC:TabOf s.tree l (L.sem s.nodes a) (L.tabO l (L.sem s.nodes a)):=⟨hi.tree,hfew,hl6,hvr,hsb,htab,hd⟩
   have t0:=(check_ok hi.tree).1
   have htxl:=(L.tx_len hi hfew a ha (s.tree.length - 1) (by omega) (dep_root hi ha)).2
   have hM:(L.tx s.nodes a).length≤4000000:=Nat.le_trans htxl (tB_all _ (by have:=L.nv_le hi.tree (v:=s.tree.length - 1) (by omega);omega))
   have hNp:0 < (L.tabO l (L.sem s.nodes a)).length:=by rw [htab.len];exact Nat.pos_of_ne_zero (by simp)
   have hf0:(L.tabO l (L.sem s.nodes a))[0] = L.sem s.nodes a (L.asgI l 0):=by
    rw [←getD_get hNp,htab.get hsb.sorted (by rw [←htab.len];exact hNp)]
   have hall0:∀ v,L.asgI l 0 v = false:=fun v=>by
    unfold L.asgI
    rw [List.any_eq_false]
    intro k _
    simp
   generalize hff:L.tabO l (L.sem s.nodes a) = f at *
   replace hff:=Lib.hid hff
   replace htab:=Lib.hid htab
   have hf':=hf
   obtain ⟨bf,of,cf,rfl,hfl,hfc⟩:=hf
   have c0:=hfc 0 hNp
   rw [hf0] at c0
   replace hfc:=Lib.hid hfc
   have i0:(0:Int) < f.length:=by omega
   replace hf':=Lib.hid hf'
   rcases hi.kind ha with rfl | rfl | ⟨h2,n,hn,hk⟩
   ·have hz:AtIs s.tree (L.sem s.nodes 0) (-1):=.inl ⟨rfl,L.const_hangs (fun x=>hi.sem0 x)⟩
    have q1:=tat_any (c:=c) hC ht hf'.out hz
    have htx:L.tx s.nodes 0 = [70]:=by rw [L.tx_node hi.kids hi.zero];rfl
    rw [hi.sem0] at c0
    rw [htx]
    replace hC:=Lib.hid hC
    replace hi:=Lib.hid hi
    clear hf0 htx hd
    go_enter Tryz.func42,Tryz.ntmps42
    go_wp2_with fail
    refine q1.mono ?_
    rintro e w1 ⟨rfl,hb1⟩
    have c1:=(hb1.cell (p:=⟨bf,of+0,none⟩) hfl).trans c0
    rw [Nat.add_zero] at c1
    clear q1
    go_wp2_with fail
    go_ret
    exact ⟨rfl,hb1⟩
   ·have hz:AtIs s.tree (L.sem s.nodes 1) (-1):=.inl ⟨rfl,L.const_hangs (fun x=>hi.sem1 x)⟩
    have q1:=tat_any (c:=c) hC ht hf'.out hz
    have htx:L.tx s.nodes 1 = [84]:=by rw [L.tx_node hi.kids hi.one];rfl
    rw [hi.sem1] at c0
    rw [htx]
    replace hC:=Lib.hid hC
    replace hi:=Lib.hid hi
    clear hf0 htx hd
    go_enter Tryz.func42,Tryz.ntmps42
    go_wp2_with fail
    refine q1.mono ?_
    rintro e w1 ⟨rfl,hb1⟩
    have c1:=(hb1.cell (p:=⟨bf,of+0,none⟩) hfl).trans c0
    rw [Nat.add_zero] at c1
    clear q1
    go_wp2_with fail
    go_ret
    exact ⟨rfl,hb1⟩
   ·obtain ⟨P,hP,hPl⟩:=hi.placeOf hsb h2 hn
    have q1:=tat_any (c:=c) hC ht hf'.out (z:=P) (.inr ⟨P,rfl,hPl⟩)
    have hPt:=hPl.lt
    have p0:decide ((P:Int) < 0) = false:=decide_eq_false (by omega)
    have p1:(0:Int)≤P:=by omega
    have p2:(P:Int) < s.tree.length:=by omega
    rcases hk with hk | hk
    ·obtain ⟨u,y,e1,e2,e3,e4⟩:=hk.leaf
     have eu:u = P:=by omega
     subst eu
     have htx:L.tx s.nodes a = Lib.itoa n.lit:=by rw [L.tx_node hi.kids hn,if_pos hk.el,if_pos hk.lit]
     rw [hi.semLit hn hk,hall0] at c0
     have n012:=fun W (hb:Below w.heap.size w W)=>(ht.below hb).node hPt
     rw [(List.getElem?_eq_some_iff.1 e2).2] at n012
     obtain ⟨yl,yr,yv⟩:=y
     simp only [leafB,Bool.and_eq_true,decide_eq_true_eq] at e3
     obtain ⟨⟨rfl,rfl⟩,hyv⟩:=e3
     simp only at e4 n012
     have hlit0:=hk.lit
     rw [htx]
     replace n012:=Lib.hid n012
     replace hC:=Lib.hid hC
     replace hi:=Lib.hid hi
     clear hf0 htx hd
     by_cases hpos:0 < n.lit
     ·have hv:yv = n.lit:=by omega
      rw [decide_eq_true hpos] at c0
      subst hv
      have qd:=fun W=>decimal_any n.lit (by omega) W
      replace hk:=Lib.hid hk
      replace hn:=Lib.hid hn
      replace e2:=Lib.hid e2
      replace e4:=Lib.hid e4
      generalize n.lit = z at *
      go_enter Tryz.func42,Tryz.ntmps42
      go_wp2_with fail
      refine q1.mono ?_
      rintro e w1 ⟨rfl,hb1⟩
      have c1:=(hb1.cell (p:=⟨bf,of+0,none⟩) hfl).trans c0
      rw [Nat.add_zero] at c1
      obtain ⟨n0,n1,n2⟩:=n012.out w1 hb1
      clear q1
      go_wp2_with fail
      refine (qd _).mono ?_
      rintro e w2 ⟨rfl,rfl⟩
      go_wp2_with fail
      go_ret
      exact ⟨rfl,hb1⟩
     ·have hv:yv = -n.lit:=by omega
      rw [decide_eq_false hpos] at c0
      have qd:=fun W=>decimal_any n.lit (by omega) W
      have hneg:wrap64 (-yv) = n.lit:=by unfold wrap64;omega
      have hneg2:IntKind.i64.wrap (-yv) = n.lit:=by rw [IntWalk.i64_in _ (by omega)];omega
      have hneg3:-yv = n.lit:=by omega
      replace hk:=Lib.hid hk
      replace hn:=Lib.hid hn
      replace e2:=Lib.hid e2
      replace e4:=Lib.hid e4
      replace hv:=Lib.hid hv
      have hrz:-128≤n.lit∧n.lit≤128:=by omega
      generalize n.lit = z at *
      go_enter Tryz.func42,Tryz.ntmps42
      go_wp2_with fail
      refine q1.mono ?_
      rintro e w1 ⟨rfl,hb1⟩
      have c1:=(hb1.cell (p:=⟨bf,of+0,none⟩) hfl).trans c0
      rw [Nat.add_zero] at c1
      obtain ⟨n0,n1,n2⟩:=n012.out w1 hb1
      clear q1
      go_wp2_with fail
      refine (qd _).mono ?_
      rintro e w2 ⟨rfl,rfl⟩
      go_wp2_with fail
      go_ret
      exact ⟨rfl,hb1⟩
    ·obtain ⟨P',y,L',R',e1,e2,e3,e4,e5,hfit⟩:=hi.elFit hsb hn hk htab.out
     have eu:P' = P:=by omega
     subst eu
     have q2:=fun W (hb:Below w.heap.size w W)=>tels_any (c:=c) hC (ht.below hb) (hf'.out.below hb) hPl e2 e3 e4
     have hels:∀ mk,L.Mask l (L.Bel s.tree L') mk→L.elsN f mk (2 ^ l.length) = n.el.map fun p=>(L.tabO l (L.sem s.nodes p.1),L.tabO l (L.sem s.nodes p.2)):=fun mk hm=>by
      obtain ⟨lw,hfit'⟩:=hfit mk hm
      exact L.els_law hfit'
     obtain ⟨L2,R2,eL,eR,_,_,_⟩:=L.inner_ok hi.tree e2 e3
     have n012:=fun W (hb:Below w.heap.size w W)=>(ht.below hb).node hPt
     rw [(List.getElem?_eq_some_iff.1 e2).2] at n012
     obtain ⟨yl,yr,yv⟩:=y
     simp only at e4 e5 n012 eL eR
     subst e4
     have dl:decide (((L':Nat):Int) < 0) = false:=decide_eq_false (by omega)
     have hne:n.el≠[]:=fun e=>by
      obtain ⟨_,_,_,_,_,_,_,_,_,hp⟩:=hk.parts
      have:=hp.two;rw [e] at this;simp at this
     have htx:L.tx s.nodes a = [40]++L.joinT (L.tx s.nodes) n.el++[41]:=by rw [L.tx_node hi.kids hn,if_neg hne]
     have hkids:=hk.kids
     have ihx:=fun (x:Nat) (hx:x < a) W (hb:Below w.heap.size w W) v (hv:SlB W v (L.tabO l (L.sem s.nodes x)))=>ih x hx (by omega) (c:=c) (ht.below hb) hv
     rw [htx]
     rw [htx] at hM
     have hpl:=fun j (hj:j≤n.el.length)=>Nat.le_trans (preT_le (L.tx s.nodes) n.el hj) hM
     have hps:=fun j (hj:j < n.el.length)=>preT_succ (L.tx s.nodes) n.el hj
     have hfull:preT (L.tx s.nodes) n.el n.el.length++[41] = [40]++L.joinT (L.tx s.nodes) n.el++[41]:=by unfold preT;rw [List.take_length]
     rw [←hfull]
     replace n012:=Lib.hid n012
     replace hels:=Lib.hid hels
     replace hkids:=Lib.hid hkids
     replace hpl:=Lib.hid hpl
     replace hps:=Lib.hid hps
     replace hfull:=Lib.hid hfull
     replace ihx:=Lib.hid ihx
     replace q2:=Lib.hid q2
     replace hi:=Lib.hid hi
     replace hn:=Lib.hid hn
     replace hk:=Lib.hid hk
     replace hC:=Lib.hid hC
     replace htx:=Lib.hid htx
     replace hM:=Lib.hid hM
     replace hfit:=Lib.hid hfit
     replace e2:=Lib.hid e2
     replace e3:=Lib.hid e3
     replace hne:=Lib.hid hne
     clear hf0 hd htxl c0 ih
     go_enter Tryz.func42,Tryz.ntmps42
     go_wp2_with fail
     refine q1.mono ?_
     rintro e w1 ⟨rfl,hb1⟩
     obtain ⟨n0,n1,n2⟩:=n012.out w1 hb1
     have q3:=q2.out w1 hb1
     clear q1
     go_wp2_with fail
     refine q3.mono ?_
     rintro e w2 ⟨mk,hmask,v2,rfl,hE2,hb2⟩
     have hel64:=elsN_len f mk (2 ^ l.length)
     have hp64:=pow_le64 hl6
     rw [hels.out mk hmask,List.length_map] at hel64
     rw [hels.out mk hmask] at hE2
     obtain ⟨ba,cp,rfl⟩:∃ ba cp,v2 = .slice ba (n.el.map fun p=>(L.tabO l (L.sem s.nodes p.1),L.tabO l (L.sem s.nodes p.2))).length cp:=by obtain ⟨ba,cp,e,_⟩:=hE2;exact ⟨ba,cp,e⟩
     have hE2d:Hid (∀ j (hj:j < n.el.length),∃ g p q,ba = some ⟨g,0,none⟩∧(w2.cell? ⟨g,j * 2,none⟩ = some p∧w2.cell? ⟨g,j * 2+1,none⟩ = some q)∧SlB w2 p (L.tabO l (L.sem s.nodes n.el[j].1))∧SlB w2 q (L.tabO l (L.sem s.nodes n.el[j].2))):=Lib.hid fun j hj=>by
      obtain ⟨g,p,q,e,c,s1,s2⟩:=hE2.cell (j:=j) (by rw [List.length_map];exact hj)
      simp only [List.getElem_map] at s1 s2
      exact ⟨g,p,q,e,c,s1.slB,s2.slB⟩
     rw [List.length_map]
     have hlen20:n.el.length≤64:=by omega
     clear hE2 hel64 hp64
     obtain ⟨En,hEn⟩:∃ En,En = n.el.length:=⟨_,rfl⟩
     rw [←hEn] at hlen20 ⊢
     replace hEn:=Lib.hid hEn
     replace hmask:=Lib.hid hmask
     have b2:=Lib.hid (hb1.trans (hb2.mono hb1.size))
     have h0:Hid (Below w2.heap.size w2 w2∧strB [40] = strB (preT (L.tx s.nodes) n.el 0)):=Lib.hid ⟨Below.refl _ _,rfl⟩
     clear q3 n0 n1 n2 hb2
     go_wp2_with fail
     go_loopw [7,8] (fun sv iv wr=>∃ (j:Nat) (S:ByteArray),j≤En∧iv = .int .i64 (j:Nat)∧sv = .string S∧Hid (Below w2.heap.size w2 wr∧S = strB (preT (L.tx s.nodes) n.el j))) (fun _ iv _=>En - (intOf iv).toNat)
     case atStart=>exact ⟨0,strB [40],Nat.zero_le _,rfl,rfl,h0⟩
     case round =>
      clear h0
      obtain ⟨j,S,hj,rfl,rfl,hI⟩:=hrel
      by_cases hlt:j < En
      ·have dlt:decide ((j:Int) < (En:Int)) = true:=decide_eq_true (by omega)
       have hjl:j < n.el.length:=by have:=hEn.out;omega
       obtain ⟨g,vp,vq,rfl,⟨c1,c2⟩,s1,s2⟩:=hE2d.out j hjl
       obtain ⟨k1,k2⟩:=hkids.out _ (List.getElem_mem hjl)
       have hsuc:=hps.out j hjl
       have hle1:=hpl.out (j+1) (by omega)
       rw [hsuc] at hle1
       generalize hpq:n.el[j] = pq at *
       obtain ⟨p,q⟩:=pq
       simp only at s1 s2 k1 k2 hsuc hle1
       have hbw:=b2.out.trans (hI.out.1.mono b2.out.size)
       have hbd:=hI.out.1.trans ((Below.refl wr.heap.size wr).drew.mono hI.out.1.size)
       have hbwd:=b2.out.trans (hbd.mono b2.out.size)
       have d1:wr.drew.cell? ⟨g,j * 2,none⟩ = some vp:=(hbd.cell (World.block_lt_of_cell? w2 _ c1)).trans c1
       have d2:wr.drew.cell? ⟨g,j * 2+1,none⟩ = some vq:=(hbd.cell (World.block_lt_of_cell? w2 _ c2)).trans c2
       have qp:=ihx.out p k1 wr.drew hbwd vp (s1.below hbd)
       have i1:(0:Int)≤j:=by omega
       have i2:(j:Int) < En:=by omega
       have hS:=hI.out.2
       have hX:=strB_size (L.tx s.nodes p)
       have hY:=strB_size (L.tx s.nodes q)
       replace hpq:=Lib.hid hpq
       replace hbw:=Lib.hid hbw
       replace hbd:=Lib.hid hbd
       replace hbwd:=Lib.hid hbwd
       replace s1:=Lib.hid s1
       replace s2:=Lib.hid s2
       by_cases hj0:j = 0
       ·rw [if_pos hj0] at hsuc hle1
        have dj:decide ((j:Int) > 0) = false:=decide_eq_false (by omega)
        have dj2:decide (0 < j) = false:=decide_eq_false (by omega)
        have hszS:S.size = (preT (L.tx s.nodes) n.el j).length:=by rw [hS,strB_size]
        have hnew:Hid (S++strB (L.tx s.nodes p)++strB [32]++strB (L.tx s.nodes q) = strB (preT (L.tx s.nodes) n.el (j+1))):=Lib.hid (by rw [hsuc,hS,strB_app,strB_app,strB_app])
        replace hj0:=Lib.hid hj0
        have hall:S.size+(strB (L.tx s.nodes p)).size+1+(strB (L.tx s.nodes q)).size≤4000000:=by
         simp only [List.length_append,List.length_cons,List.length_nil] at hle1
         omega
        generalize hXe:strB (L.tx s.nodes p) = X at *
        generalize hYe:strB (L.tx s.nodes q) = Y at *
        replace hXe:=Lib.hid hXe
        replace hYe:=Lib.hid hYe
        replace hX:=Lib.hid hX
        replace hY:=Lib.hid hY
        replace hS:=Lib.hid hS
        replace hszS:=Lib.hid hszS
        replace hsuc:=Lib.hid hsuc
        replace hle1:=Lib.hid hle1
        clear c1 c2
        go_wp2_with fail
        (refine wp_region_held_drew (S:=(fun W=>W.cell? ⟨g,j * 2,none⟩ = some vp∧W.cell? ⟨g,j * 2+1,none⟩ = some vq)) (by kernel_rfl) ?_ (fun hHeld=>?_))
        ·exact ⟨d1,d2⟩
        (refine takeL (i:=0) (v:=?_) rfl (by kernel_rfl) (by kernel_rfl) (by kernel_rfl) (fun _ _ _ h=>h) (Or.inl ⟨by rfl,?_⟩) (by assumption) ?_)
        rotate_left
        ·(intro w hSw;(try dsimp only at hSw);go_simp;first | done | with_reducible rfl)
        (try simp only [Act.put,List.setIfInBounds_toArray,List.set_cons_zero,List.set_cons_succ])
        (refine takeL (i:=1) (v:=?_) rfl (by kernel_rfl) (by kernel_rfl) (by kernel_rfl) (fun _ _ _ h=>h) (Or.inl ⟨by rfl,?_⟩) (by assumption) ?_)
        rotate_left
        ·(intro w hSw;(try dsimp only at hSw);go_simp;first | done | with_reducible rfl)
        (try simp only [Act.put,List.setIfInBounds_toArray,List.set_cons_zero,List.set_cons_succ])
        (refine takeL (i:=2) (v:=?_) rfl (by kernel_rfl) (by kernel_rfl) (by kernel_rfl) (fun _ _ _ h=>h) (Or.inl ⟨by rfl,?_⟩) (by assumption) ?_)
        rotate_left
        ·(intro w hSw;(try dsimp only at hSw);go_simp;first | done | with_reducible rfl)
        (try simp only [Act.put,List.setIfInBounds_toArray,List.set_cons_zero,List.set_cons_succ])
        (refine takeL (i:=3) (v:=?_) rfl (by kernel_rfl) (by kernel_rfl) (by kernel_rfl) (fun _ _ _ h=>h) (Or.inl ⟨by rfl,?_⟩) (by assumption) ?_)
        rotate_left
        ·(intro w hSw;(try dsimp only at hSw);go_simp;first | done | with_reducible rfl)
        (try simp only [Act.put,List.setIfInBounds_toArray,List.set_cons_zero,List.set_cons_succ])
        (refine takeL (i:=4) (v:=?_) rfl (by kernel_rfl) (by kernel_rfl) (by kernel_rfl) (fun _ _ _ h=>h) (Or.inl ⟨by rfl,?_⟩) (by assumption) ?_)
        rotate_left
        ·(intro w hSw;(try dsimp only at hSw);go_simp;first | done | with_reducible rfl)
        (try simp only [Act.put,List.setIfInBounds_toArray,List.set_cons_zero,List.set_cons_succ])
        (refine takeL (i:=5) (v:=?_) rfl (by kernel_rfl) (by kernel_rfl) (by kernel_rfl) (fun _ _ _ h=>h) (Or.inl ⟨by rfl,?_⟩) (by assumption) ?_)
        rotate_left
        ·(intro w hSw;(try dsimp only at hSw);go_simp;first | done | with_reducible rfl)
        (try simp only [Act.put,List.setIfInBounds_toArray,List.set_cons_zero,List.set_cons_succ])
        (refine takeL (i:=6) (v:=?_) rfl (by kernel_rfl) (by kernel_rfl) (by kernel_rfl) (fun _ _ _ h=>h) (Or.inl ⟨by rfl,?_⟩) (by assumption) ?_)
        rotate_left
        ·(intro w hSw;(try dsimp only at hSw);go_simp;first | done | with_reducible rfl)
        (try simp only [Act.put,List.setIfInBounds_toArray,List.set_cons_zero,List.set_cons_succ])
        (refine takeL (i:=10) (v:=?_) rfl (by kernel_rfl) (by kernel_rfl) (by kernel_rfl) (fun _ _ _ h=>h) (Or.inl ⟨by rfl,?_⟩) (by assumption) ?_)
        rotate_left
        ·(intro w hSw;(try dsimp only at hSw);go_simp;first | done | with_reducible rfl)
        (try simp only [Act.put,List.setIfInBounds_toArray,List.set_cons_zero,List.set_cons_succ])
        (refine takeL (i:=11) (v:=?_) rfl (by kernel_rfl) (by kernel_rfl) (by kernel_rfl) (fun _ _ _ h=>h) (Or.inl ⟨by rfl,?_⟩) (by assumption) ?_)
        rotate_left
        ·(intro w hSw;(try dsimp only at hSw);go_simp;first | done | with_reducible rfl)
        (try simp only [Act.put,List.setIfInBounds_toArray,List.set_cons_zero,List.set_cons_succ])
        (refine takeL (i:=12) (v:=?_) rfl (by kernel_rfl) (by kernel_rfl) (by kernel_rfl) (fun _ _ _ h=>h) (Or.inl ⟨by rfl,?_⟩) (by assumption) ?_)
        rotate_left
        ·(intro w hSw;(try dsimp only at hSw);go_simp;first | done | with_reducible rfl)
        (try simp only [Act.put,List.setIfInBounds_toArray,List.set_cons_zero,List.set_cons_succ])
        (refine takeL (i:=13) (v:=?_) rfl (by kernel_rfl) (by kernel_rfl) (by kernel_rfl) (fun _ _ _ h=>h) (Or.inl ⟨by rfl,?_⟩) (by assumption) ?_)
        rotate_left
        ·(intro w hSw;(try dsimp only at hSw);go_simp;first | done | with_reducible rfl)
        (try simp only [Act.put,List.setIfInBounds_toArray,List.set_cons_zero,List.set_cons_succ])
        (refine takeL (i:=14) (v:=?_) rfl (by kernel_rfl) (by kernel_rfl) (by kernel_rfl) (fun _ _ _ h=>h) (Or.inl ⟨by rfl,?_⟩) (by assumption) ?_)
        rotate_left
        ·(intro w hSw;(try dsimp only at hSw);go_simp;first | done | with_reducible rfl)
        (try simp only [Act.put,List.setIfInBounds_toArray,List.set_cons_zero,List.set_cons_succ])
        (refine takeL (i:=15) (v:=?_) rfl (by kernel_rfl) (by kernel_rfl) (by kernel_rfl) (fun _ _ _ h=>h) (Or.inl ⟨by rfl,?_⟩) (by assumption) ?_)
        rotate_left
        ·(intro w hSw;(try dsimp only at hSw);go_simp;first | done | with_reducible rfl)
        (try simp only [Act.put,List.setIfInBounds_toArray,List.set_cons_zero,List.set_cons_succ])
        (refine wpAnyH_ready (rs:=[7]) (by kernel_rfl) (by simp) ?_)
        (refine consL rfl (fun K hK=>?_))
        ((rw [if_pos (by rfl)]);go_simp;(go_at_call 42);refine qp.mono ?_;rintro e w3 ⟨rfl,hb3⟩;refine hK.out _ _ ⟨(hb3.cell (World.block_lt_of_cell? _ _ d1)).trans d1,(hb3.cell (World.block_lt_of_cell? _ _ d2)).trans d2⟩ (fun hHeld=>?_))
        (clear hK K)
        (try simp only [Act.put,List.setIfInBounds_toArray,List.set_cons_zero,List.set_cons_succ])
        have hbd3:=hbd.out.trans (hb3.mono hbd.out.size)
        have hbw3:=b2.out.trans (hbd3.mono b2.out.size)
        have d13:w3.cell? ⟨g,j * 2,none⟩ = some vp:=(hb3.cell (World.block_lt_of_cell? _ _ d1)).trans d1
        have d23:w3.cell? ⟨g,j * 2+1,none⟩ = some vq:=(hb3.cell (World.block_lt_of_cell? _ _ d2)).trans d2
        have qq:=ihx.out q k2 w3 hbw3 vq (s2.out.below hbd3)
        rw [hYe.out] at qq
        clear qp d1 d2
        (refine takeL (i:=8) (v:=?_) rfl (by kernel_rfl) (by kernel_rfl) (by kernel_rfl) (fun _ _ _ h=>h) (Or.inl ⟨by rfl,?_⟩) (by assumption) ?_)
        rotate_left
        ·(intro w hSw;(try dsimp only at hSw);go_simp;first | done | with_reducible rfl | (rw [if_neg (by omega)]))
        (try simp only [Act.put,List.setIfInBounds_toArray,List.set_cons_zero,List.set_cons_succ])
        (refine takeL (i:=9) (v:=?_) rfl (by kernel_rfl) (by kernel_rfl) (by kernel_rfl) (fun _ _ _ h=>h) (Or.inl ⟨by rfl,?_⟩) (by assumption) ?_)
        rotate_left
        ·(intro w hSw;(try dsimp only at hSw);go_simp;first | done | with_reducible rfl | (rw [if_neg (by omega)]))
        (try simp only [Act.put,List.setIfInBounds_toArray,List.set_cons_zero,List.set_cons_succ])
        (refine wpAnyH_ready (rs:=[16]) (by kernel_rfl) (by simp) ?_)
        (refine consL rfl (fun K hK=>?_))
        ((rw [if_pos (by rfl)]);go_simp;(go_at_call 42);refine qq.mono ?_;rintro e w4 ⟨rfl,hb4⟩;refine hK.out _ _ ⟨(hb4.cell (World.block_lt_of_cell? _ _ d13)).trans d13,(hb4.cell (World.block_lt_of_cell? _ _ d23)).trans d23⟩ (fun hHeld=>?_))
        (clear hK K)
        (try simp only [Act.put,List.setIfInBounds_toArray,List.set_cons_zero,List.set_cons_succ])
        (refine takeL (i:=17) (v:=?_) rfl (by kernel_rfl) (by kernel_rfl) (by kernel_rfl) (fun _ _ _ h=>h) (Or.inl ⟨by rfl,?_⟩) (by assumption) ?_)
        rotate_left
        ·(intro w hSw;(try dsimp only at hSw);go_simp;first | done | with_reducible rfl | (rw [if_neg (by omega)]))
        (try simp only [Act.put,List.setIfInBounds_toArray,List.set_cons_zero,List.set_cons_succ])
        (refine takeL (i:=18) (v:=?_) rfl (by kernel_rfl) (by kernel_rfl) (by kernel_rfl) (fun _ _ _ h=>h) (Or.inl ⟨by rfl,?_⟩) (by assumption) ?_)
        rotate_left
        ·(intro w hSw;(try dsimp only at hSw);go_simp;first | done | with_reducible rfl)
        (try simp only [Act.put,List.setIfInBounds_toArray,List.set_cons_zero,List.set_cons_succ])
        (refine wpAnyH_done (by kernel_rfl) ?_ _)
        have hbd4:=hbd3.trans (hb4.mono hbd3.size)
        clear qq d13 d23
        go_wp2_with fail
        go_roundw
        case rel=>exact ⟨j+1,_,by omega,by go_num,rfl,Lib.hid ⟨hbd4,by rw [←hnew.out];rfl⟩⟩
        case measure=>simp [intOf];omega
       ·rw [if_neg hj0] at hsuc hle1
        have dj:decide ((j:Int) > 0) = true:=decide_eq_true (by omega)
        have dj2:decide (0 < j) = true:=decide_eq_true (by omega)
        have hszS:S.size = (preT (L.tx s.nodes) n.el j).length:=by rw [hS,strB_size]
        have hnew:Hid (S++strB [59,32]++strB (L.tx s.nodes p)++strB [32]++strB (L.tx s.nodes q) = strB (preT (L.tx s.nodes) n.el (j+1))):=Lib.hid (by rw [hsuc,hS,strB_app,strB_app,strB_app,strB_app])
        replace hj0:=Lib.hid hj0
        have hall:S.size+2+(strB (L.tx s.nodes p)).size+1+(strB (L.tx s.nodes q)).size≤4000000:=by
         simp only [List.length_append,List.length_cons,List.length_nil] at hle1
         omega
        generalize hXe:strB (L.tx s.nodes p) = X at *
        generalize hYe:strB (L.tx s.nodes q) = Y at *
        replace hXe:=Lib.hid hXe
        replace hYe:=Lib.hid hYe
        replace hX:=Lib.hid hX
        replace hY:=Lib.hid hY
        replace hS:=Lib.hid hS
        replace hszS:=Lib.hid hszS
        replace hsuc:=Lib.hid hsuc
        replace hle1:=Lib.hid hle1
        clear c1 c2
        go_wp2_with fail
        (refine wp_region_held_drew (S:=(fun W=>W.cell? ⟨g,j * 2,none⟩ = some vp∧W.cell? ⟨g,j * 2+1,none⟩ = some vq)) (by kernel_rfl) ?_ (fun hHeld=>?_))
        ·exact ⟨d1,d2⟩
        (refine takeL (i:=0) (v:=?_) rfl (by kernel_rfl) (by kernel_rfl) (by kernel_rfl) (fun _ _ _ h=>h) (Or.inl ⟨by rfl,?_⟩) (by assumption) ?_)
        rotate_left
        ·(intro w hSw;(try dsimp only at hSw);go_simp;first | done | with_reducible rfl)
        (try simp only [Act.put,List.setIfInBounds_toArray,List.set_cons_zero,List.set_cons_succ])
        (refine takeL (i:=1) (v:=?_) rfl (by kernel_rfl) (by kernel_rfl) (by kernel_rfl) (fun _ _ _ h=>h) (Or.inl ⟨by rfl,?_⟩) (by assumption) ?_)
        rotate_left
        ·(intro w hSw;(try dsimp only at hSw);go_simp;first | done | with_reducible rfl)
        (try simp only [Act.put,List.setIfInBounds_toArray,List.set_cons_zero,List.set_cons_succ])
        (refine takeL (i:=2) (v:=?_) rfl (by kernel_rfl) (by kernel_rfl) (by kernel_rfl) (fun _ _ _ h=>h) (Or.inl ⟨by rfl,?_⟩) (by assumption) ?_)
        rotate_left
        ·(intro w hSw;(try dsimp only at hSw);go_simp;first | done | with_reducible rfl)
        (try simp only [Act.put,List.setIfInBounds_toArray,List.set_cons_zero,List.set_cons_succ])
        (refine takeL (i:=3) (v:=?_) rfl (by kernel_rfl) (by kernel_rfl) (by kernel_rfl) (fun _ _ _ h=>h) (Or.inl ⟨by rfl,?_⟩) (by assumption) ?_)
        rotate_left
        ·(intro w hSw;(try dsimp only at hSw);go_simp;first | done | with_reducible rfl)
        (try simp only [Act.put,List.setIfInBounds_toArray,List.set_cons_zero,List.set_cons_succ])
        (refine takeL (i:=4) (v:=?_) rfl (by kernel_rfl) (by kernel_rfl) (by kernel_rfl) (fun _ _ _ h=>h) (Or.inl ⟨by rfl,?_⟩) (by assumption) ?_)
        rotate_left
        ·(intro w hSw;(try dsimp only at hSw);go_simp;first | done | with_reducible rfl)
        (try simp only [Act.put,List.setIfInBounds_toArray,List.set_cons_zero,List.set_cons_succ])
        (refine takeL (i:=5) (v:=?_) rfl (by kernel_rfl) (by kernel_rfl) (by kernel_rfl) (fun _ _ _ h=>h) (Or.inl ⟨by rfl,?_⟩) (by assumption) ?_)
        rotate_left
        ·(intro w hSw;(try dsimp only at hSw);go_simp;first | done | with_reducible rfl)
        (try simp only [Act.put,List.setIfInBounds_toArray,List.set_cons_zero,List.set_cons_succ])
        (refine takeL (i:=6) (v:=?_) rfl (by kernel_rfl) (by kernel_rfl) (by kernel_rfl) (fun _ _ _ h=>h) (Or.inl ⟨by rfl,?_⟩) (by assumption) ?_)
        rotate_left
        ·(intro w hSw;(try dsimp only at hSw);go_simp;first | done | with_reducible rfl)
        (try simp only [Act.put,List.setIfInBounds_toArray,List.set_cons_zero,List.set_cons_succ])
        (refine takeL (i:=10) (v:=?_) rfl (by kernel_rfl) (by kernel_rfl) (by kernel_rfl) (fun _ _ _ h=>h) (Or.inl ⟨by rfl,?_⟩) (by assumption) ?_)
        rotate_left
        ·(intro w hSw;(try dsimp only at hSw);go_simp;first | done | with_reducible rfl)
        (try simp only [Act.put,List.setIfInBounds_toArray,List.set_cons_zero,List.set_cons_succ])
        (refine takeL (i:=11) (v:=?_) rfl (by kernel_rfl) (by kernel_rfl) (by kernel_rfl) (fun _ _ _ h=>h) (Or.inl ⟨by rfl,?_⟩) (by assumption) ?_)
        rotate_left
        ·(intro w hSw;(try dsimp only at hSw);go_simp;first | done | with_reducible rfl)
        (try simp only [Act.put,List.setIfInBounds_toArray,List.set_cons_zero,List.set_cons_succ])
        (refine takeL (i:=12) (v:=?_) rfl (by kernel_rfl) (by kernel_rfl) (by kernel_rfl) (fun _ _ _ h=>h) (Or.inl ⟨by rfl,?_⟩) (by assumption) ?_)
        rotate_left
        ·(intro w hSw;(try dsimp only at hSw);go_simp;first | done | with_reducible rfl)
        (try simp only [Act.put,List.setIfInBounds_toArray,List.set_cons_zero,List.set_cons_succ])
        (refine takeL (i:=13) (v:=?_) rfl (by kernel_rfl) (by kernel_rfl) (by kernel_rfl) (fun _ _ _ h=>h) (Or.inl ⟨by rfl,?_⟩) (by assumption) ?_)
        rotate_left
        ·(intro w hSw;(try dsimp only at hSw);go_simp;first | done | with_reducible rfl)
        (try simp only [Act.put,List.setIfInBounds_toArray,List.set_cons_zero,List.set_cons_succ])
        (refine takeL (i:=14) (v:=?_) rfl (by kernel_rfl) (by kernel_rfl) (by kernel_rfl) (fun _ _ _ h=>h) (Or.inl ⟨by rfl,?_⟩) (by assumption) ?_)
        rotate_left
        ·(intro w hSw;(try dsimp only at hSw);go_simp;first | done | with_reducible rfl)
        (try simp only [Act.put,List.setIfInBounds_toArray,List.set_cons_zero,List.set_cons_succ])
        (refine takeL (i:=15) (v:=?_) rfl (by kernel_rfl) (by kernel_rfl) (by kernel_rfl) (fun _ _ _ h=>h) (Or.inl ⟨by rfl,?_⟩) (by assumption) ?_)
        rotate_left
        ·(intro w hSw;(try dsimp only at hSw);go_simp;first | done | with_reducible rfl)
        (try simp only [Act.put,List.setIfInBounds_toArray,List.set_cons_zero,List.set_cons_succ])
        (refine wpAnyH_ready (rs:=[7]) (by kernel_rfl) (by simp) ?_)
        (refine consL rfl (fun K hK=>?_))
        ((rw [if_pos (by rfl)]);go_simp;(go_at_call 42);refine qp.mono ?_;rintro e w3 ⟨rfl,hb3⟩;refine hK.out _ _ ⟨(hb3.cell (World.block_lt_of_cell? _ _ d1)).trans d1,(hb3.cell (World.block_lt_of_cell? _ _ d2)).trans d2⟩ (fun hHeld=>?_))
        (clear hK K)
        (try simp only [Act.put,List.setIfInBounds_toArray,List.set_cons_zero,List.set_cons_succ])
        have hbd3:=hbd.out.trans (hb3.mono hbd.out.size)
        have hbw3:=b2.out.trans (hbd3.mono b2.out.size)
        have d13:w3.cell? ⟨g,j * 2,none⟩ = some vp:=(hb3.cell (World.block_lt_of_cell? _ _ d1)).trans d1
        have d23:w3.cell? ⟨g,j * 2+1,none⟩ = some vq:=(hb3.cell (World.block_lt_of_cell? _ _ d2)).trans d2
        have qq:=ihx.out q k2 w3 hbw3 vq (s2.out.below hbd3)
        rw [hYe.out] at qq
        clear qp d1 d2
        (refine takeL (i:=8) (v:=?_) rfl (by kernel_rfl) (by kernel_rfl) (by kernel_rfl) (fun _ _ _ h=>h) (Or.inl ⟨by rfl,?_⟩) (by assumption) ?_)
        rotate_left
        ·(intro w hSw;(try dsimp only at hSw);go_simp;first | done | with_reducible rfl | (rw [if_neg (by omega)]))
        (try simp only [Act.put,List.setIfInBounds_toArray,List.set_cons_zero,List.set_cons_succ])
        (refine takeL (i:=9) (v:=?_) rfl (by kernel_rfl) (by kernel_rfl) (by kernel_rfl) (fun _ _ _ h=>h) (Or.inl ⟨by rfl,?_⟩) (by assumption) ?_)
        rotate_left
        ·(intro w hSw;(try dsimp only at hSw);go_simp;first | done | with_reducible rfl | (rw [if_neg (by omega)]))
        (try simp only [Act.put,List.setIfInBounds_toArray,List.set_cons_zero,List.set_cons_succ])
        (refine wpAnyH_ready (rs:=[16]) (by kernel_rfl) (by simp) ?_)
        (refine consL rfl (fun K hK=>?_))
        ((rw [if_pos (by rfl)]);go_simp;(go_at_call 42);refine qq.mono ?_;rintro e w4 ⟨rfl,hb4⟩;refine hK.out _ _ ⟨(hb4.cell (World.block_lt_of_cell? _ _ d13)).trans d13,(hb4.cell (World.block_lt_of_cell? _ _ d23)).trans d23⟩ (fun hHeld=>?_))
        (clear hK K)
        (try simp only [Act.put,List.setIfInBounds_toArray,List.set_cons_zero,List.set_cons_succ])
        (refine takeL (i:=17) (v:=?_) rfl (by kernel_rfl) (by kernel_rfl) (by kernel_rfl) (fun _ _ _ h=>h) (Or.inl ⟨by rfl,?_⟩) (by assumption) ?_)
        rotate_left
        ·(intro w hSw;(try dsimp only at hSw);go_simp;first | done | with_reducible rfl | (rw [if_neg (by omega)]))
        (try simp only [Act.put,List.setIfInBounds_toArray,List.set_cons_zero,List.set_cons_succ])
        (refine takeL (i:=18) (v:=?_) rfl (by kernel_rfl) (by kernel_rfl) (by kernel_rfl) (fun _ _ _ h=>h) (Or.inl ⟨by rfl,?_⟩) (by assumption) ?_)
        rotate_left
        ·(intro w hSw;(try dsimp only at hSw);go_simp;first | done | with_reducible rfl)
        (try simp only [Act.put,List.setIfInBounds_toArray,List.set_cons_zero,List.set_cons_succ])
        (refine wpAnyH_done (by kernel_rfl) ?_ _)
        have hbd4:=hbd3.trans (hb4.mono hbd3.size)
        clear qq d13 d23
        go_wp2_with fail
        go_roundw
        case rel=>exact ⟨j+1,_,by omega,by go_num,rfl,Lib.hid ⟨hbd4,by rw [←hnew.out];rfl⟩⟩
        case measure=>simp [intOf];omega
      ·have dlt:decide ((j:Int) < (En:Int)) = false:=decide_eq_false (by omega)
       obtain rfl:En = j:=by omega
       have hS:=hI.out.2
       have hle1:=hpl.out En (by have:=hEn.out;omega)
       have hszS:S.size≤4000000:=by rw [hS,strB_size];exact hle1
       have hfin:Hid (S++strB [41] = strB (preT (L.tx s.nodes) n.el n.el.length++[41])):=Lib.hid (by rw [hS,strB_app,hEn.out])
       have hbw:=b2.out.trans (hI.out.1.mono b2.out.size)
       replace hS:=Lib.hid hS
       replace hle1:=Lib.hid hle1
       go_wp2_with fail
       go_ret
       exact ⟨by rw [←hfin.out];rfl,hbw⟩
end Go.Proofs.YteikmmfjhabijaaGreatDoor
