import Derived.Test.YtemnmcfmabamcaaGreatDoorXVnon
import Derived.Laws.AppendOwnNone
set_option linter.unusedSimpArgs false
set_option linter.unusedVariables false
namespace Go.Proofs.YtemnmcfmabamcaaGreatDoor
open Go Go.RowKit Go.Shelf
theorem movesV_app:∀ a b:List (Nat × Nat),movesV (a++b) = movesV a++movesV b
 | [],_=>rfl
 | x :: r,b=>by simp only [movesV,List.cons_append,movesV_app r b]
theorem movesV_one:∀ (ms:List (Nat × Nat)),∀ u∈movesV ms,u.oneCell' = true
 | [],u,h=>by cases h
 | m :: r,u,h=>by
   simp only [movesV,List.mem_cons] at h
   rcases h with rfl | rfl | h
   ·rfl
   ·rfl
   ·exact movesV_one r u h
theorem grown_same (w:World) (row:Option Nat):w.grownBy w row:=⟨rfl,rfl,rfl,Nat.le_refl _,fun _ _ _=>rfl⟩
theorem wpList_append_rows {P:Program} {w:World} {ops:Array Oper} {rest:List Oper} {o:Oper} {a:Act} {Q:Exit→Act→World→Prop} (hgd:o.guard = none) (s x:Operand) (t:TypeId)
  (ho:o.op = .call { callee:=.builtin .append,args:=#[s,x],argTypes:=#[t,t] })
  (base:Nat) (e:TypeId) (i:TypeInfo) (z:Value) (size bytes:Nat) (ht:P.underlying t = some (.slice e)) (hi:P.info? e = some i) (hz:i.zero = some z)
  (hsize:i.size = size) (hby:i.bytes = bytes) (hzs:z.cells.size = size) (hsz:0 < size)
  (v:Value) (n:Nat) (xs:List Value) (hs:a.eval s = v) (hown:w.ownsRow base e size v n xs)
  (N2:Nat) (xv:Value) (m:Nat) (news:List Value) (hx:a.eval x = xv) (hxr:w.ownsRow N2 e size xv m news) (h1:∀ u∈news,u.oneCell' = true)
  (h63:n+m≤maxLen) (hbytes:(n+m) * bytes≤140737488355328) (hbase:base≤w.heap.size)
  (h:∀ v' w',w'.ownsRow base e size v' (n+m) (xs++news)→w.grownBy w' v.ownBlock→wpList P ops Q rest (a.put o.dst v') w'):wpList P ops Q (o :: rest) a w:=by
 have hl:=hxr.1
 rcases hxr.2 with ⟨rfl,h0⟩ | ⟨g,cap,cur,rfl,_⟩
 ·subst h0
  have hn:news = []:=List.eq_nil_of_length_eq_zero (by simpa using hl)
  subst hn
  exact wpList_append_own_none hgd s x t ho base e i size ht hi v n xs hs hown hx (h v w (by rw [List.append_nil];exact hown) (grown_same _ _))
 ·exact wpList_append_own w hgd s x t ho base e i z size bytes ht hi hz hsize hby hzs hsz v n xs hs hown ⟨g,0,none⟩ m cap news hx hl (hxr.cells rfl) h1 h63 hbytes hbase fun v' w' h2 h3 _=>h v' w' h2 h3
set_option maxRecDepth 100000 in
set_option maxHeartbeats 40000000 in
theorem vsmore_any {t:List VN} {bts more:Nat} {p:Int} (w:World) (ba:Option Addr) (cap:Nat) (hT:TzTab w) (hP:PowTab w) (h:t = []∨∃ b o,ba = some ⟨b,o,none⟩∧TreeAt w b o t) (hbt:bts < 65536) (hp:-9223372036854775808≤p∧p≤9223372036854775807) (hmore:more < 256) :
  Calls Tryz.prog 6 #[.agg #[.slice ba t.length cap,.int .u16 (bts:Nat),.int .i64 p],.int .u8 (more:Nat)] w fun e w'=>e = .returned (.bool true)∧Below w.heap.size w w':=by
 obtain ⟨q,hq⟩:∃ q,q = more % 4:=⟨_,rfl⟩
 have hq3:q≤3:=by omega
 have eq1:(more:Int).tmod 4 = (q:Int):=by rw [Int.tmod_eq_emod_of_nonneg (by omega)];omega
 replace hq:=Lib.hid hq
 have hw:∀ w',Below w.heap.size w w'→Calls Tryz.prog 12 #[] w' fun e w''=>e = .returned (.bool true)∧Below w'.heap.size w' w'':=fun w' hx=>works29_any w' (hT.same (hx.block _ hT.lt')) (hP.same (hx.block _ hP.lt))
 obtain ⟨w0,hw0,hx0,c0,c1,c2⟩:=ask_box w ba t.length cap bts p
 obtain ⟨xb,hxb⟩:∃ xb,w.heap.size = xb:=⟨_,rfl⟩
 rw [hxb] at c0 c1 c2
 have ql:=light_any (w:=w0) (ba:=ba) (cap:=cap) (bits:=bts) (p:=p) (h.imp id fun ⟨b,o,e,ht⟩=>⟨b,o,e,ht.ext hx0⟩)
 have hb0:=hx0.below
 replace hw:=Lib.hid hw
 cases hf:few7 t
 ·rw [hf] at ql
  go_enter Tryz.func6,Tryz.ntmps6
  go_wp2_with fail
  try simp only [hxb]
  rw [←hw0]
  refine ql.mono ?_
  rintro e w1 ⟨rfl,hx1⟩
  have b1:=hb0.trans (hx1.below.mono hb0.size)
  have q:=hw.out w1 b1
  clear ql
  go_wp2_with fail
  refine q.mono ?_
  rintro e w2 ⟨rfl,hb2⟩
  go_wp2_with fail
  go_ret
  exact ⟨rfl,b1.trans (hb2.mono b1.size)⟩
 ·rw [hf] at ql
  obtain ⟨T,l,tc,t7,hvr,hl6,hsb,hIT,hTok⟩:=few7_of hf
  obtain ⟨b,o,rfl,ht⟩:=tree_some tc h
  clear h hf
  go_enter Tryz.func6,Tryz.ntmps6
  go_wp2_with fail
  try simp only [hxb]
  rw [←hw0]
  refine ql.mono ?_
  rintro e w1 ⟨rfl,hx1⟩
  have b1:=hb0.trans (hx1.below.mono hb0.size)
  have z0:=hx1.cell c0
  have z1:=hx1.cell c1
  have z2:=hx1.cell c2
  have qs:=store_any (cap:=cap) (p:=p) (hT.same (b1.block _ hT.lt')) (hP.same (b1.block _ hP.lt)) (ht.below b1) tc t7 hbt hvr
  obtain ⟨φ,hφ⟩:∃ φ,φ = mdφ l bts (2 ^ l.length):=⟨_,rfl⟩
  rw [←hφ] at qs
  clear ql c0 c1 c2
  go_wp2_with fail
  refine qs.mono ?_
  rintro e w2 ⟨sb,r,rfl,hSt,hb2⟩
  have b2:=b1.trans (hb2.mono b1.size)
  have d0:=(hb2.cell (World.block_lt_of_cell? _ _ z0)).trans z0
  have d1:=(hb2.cell (World.block_lt_of_cell? _ _ z1)).trans z1
  have d2:=(hb2.cell (World.block_lt_of_cell? _ _ z2)).trans z2
  replace hφ:=Lib.hid hφ
  replace hw0:=Lib.hid hw0
  replace hxb:=Lib.hid hxb
  clear qs z0 z1 z2 hb2 hx1 b1 hb0 hx0
  obtain ⟨k,hk⟩:∃ k,k = (p % 18446744073709551616 % 7).toNat:=⟨_,rfl⟩
  have hk6:k≤6:=by rw [hk];exact pass_lt p
  have qp:=fun W=>passes_any (t:=t) (ba:=some ⟨b,o,none⟩) (cap:=cap) (bits:=bts) (p:=p) (w:=W) hp
  rw [←hk] at qp
  replace hk:=Lib.hid hk
  have qp2:=qp w2
  replace qp:=Lib.hid qp
  go_wp2_with fail
  refine qp2.mono ?_
  rintro e w3 ⟨rfl,hx3⟩
  have b3:=b2.trans (hx3.below.mono b2.size)
  have hSt3:=hSt.below hx3.below
  have e0:=hx3.cell d0
  have e1:=hx3.cell d1
  have e2:=hx3.cell d2
  have q4:=search_any (k:=k) hSt3 hIT hTok (hT.same (b3.block _ hT.lt')) (hP.same (b3.block _ hP.lt)) (by omega)
  unfold RetSearch at q4
  have hch:=L.searchT_chain l (L.tabO l φ) (T.post 0).length (T0:=T) k (T,[]) (.nil T)
  have hls:=L.searchT_least l (L.tabO l φ) (T.post 0).length k (T,[])
  have hcnt:(L.searchT l (L.tabO l φ) (T.post 0).length k (T,[])).2.length≤1000:=by
   have h1:=searchT_len l (L.tabO l φ) (T.post 0).length k (T,[])
   have h2:k * (T.post 0).length≤6 * 7:=Nat.mul_le_mul hk6 hTok.len
   simp only [List.length_nil] at h1
   omega
  obtain ⟨E,hE⟩:∃ E,E = L.searchT l (L.tabO l φ) (T.post 0).length k (T,[]):=⟨_,rfl⟩
  rw [←hE] at q4 hch hls hcnt
  have hlen:=hch.less
  have hperm:=hch.perm
  replace hch:=Lib.hid hch
  replace hls:=Lib.hid hls
  replace hlen:=Lib.hid hlen
  replace hperm:=Lib.hid hperm
  replace hE:=Lib.hid hE
  clear qp2 d0 d1 d2 hSt
  replace hSt3:=Lib.hid hSt3
  go_wp2_with fail
  refine q4.mono ?_
  rintro e w4 ⟨sb4,r4,v4,rfl,hSt4,hok4,ho4,hb4⟩
  have b4:=b3.trans (hb4.mono b3.size)
  have hM4:=own_moves ho4 rfl
  have f0:=(hb4.cell (World.block_lt_of_cell? _ _ e0)).trans e0
  have f1:=(hb4.cell (World.block_lt_of_cell? _ _ e1)).trans e1
  have f2:=(hb4.cell (World.block_lt_of_cell? _ _ e2)).trans e2
  have hSt4':=hSt3.out.below hb4
  obtain ⟨m4,hm4⟩:∃ m4,m4 = E.2.length:=⟨_,rfl⟩
  rw [←hm4] at hcnt
  obtain ⟨ba4,cp4,rfl,hM4'⟩:∃ ba4 cp4,v4 = .slice ba4 m4 cp4∧MvAt w4 (.slice ba4 m4 cp4) E.2:=by
   obtain ⟨a,c,e,h⟩:=hM4
   exact ⟨a,c,by rw [hm4];exact e,⟨a,c,by rw [hm4],h⟩⟩
  replace hm4:=Lib.hid hm4
  replace hSt4:=Lib.hid hSt4
  replace hSt4':=Lib.hid hSt4'
  replace hM4':=Lib.hid hM4'
  clear q4 hM4 e0 e1 e2 hSt3
  have q5:=search_any (k:=k+q) hSt4'.out hIT hTok (hT.same (b4.block _ hT.lt')) (hP.same (b4.block _ hP.lt)) (by omega)
  unfold RetSearch at q5
  rw [show (((k+q:Nat)):Int) = (k:Int)+(q:Int) by omega] at q5
  -- what more passes lead to
  have hq0:=hok4.root
  have hmo:=L.searchT_more l (L.tabO l φ) (T.post 0).length k q (T,[])
  rw [←hE.out] at hmo
  have hpre:=L.searchT_pre l (L.tabO l φ) (T.post 0).length q E.1 E.2 []
  rw [List.append_nil] at hpre
  have hnE:(T.post 0).length = (E.1.post 0).length:=by rw [L.Tr.post_len,L.Tr.post_len,hperm.out.2]
  obtain ⟨E3,hE3⟩:∃ E3,E3 = L.searchT l (L.tabO l φ) (E.1.post 0).length q (E.1,[]):=⟨_,rfl⟩
  have hEE:L.searchT l (L.tabO l φ) (T.post 0).length (k+q) (T,[]) = (E3.1,E.2++E3.2):=by
   rw [hmo]
   refine Eq.trans ?_ (hpre.trans ?_)
   ·rfl
   ·rw [hnE,←hE3]
  have hcnt3:E3.2.length≤1000:=by
   have h1:=searchT_len l (L.tabO l φ) (E.1.post 0).length q (E.1,[])
   have h2:q * (E.1.post 0).length≤3 * 7:=Nat.mul_le_mul hq3 hok4.len
   rw [←hE3] at h1
   simp only [List.length_nil] at h1
   omega
  rw [hEE] at q5
  obtain ⟨ms,hms⟩:∃ ms,ms = E.2++E3.2:=⟨_,rfl⟩
  obtain ⟨m5,hm5⟩:∃ m5,m5 = ms.length:=⟨_,rfl⟩
  obtain ⟨m6,hm6⟩:∃ m6,m6 = E3.2.length:=⟨_,rfl⟩
  have hm56:m5 = m4+m6:=by rw [hm5,hms,hm4.out,hm6,List.length_append]
  rw [←hms] at q5
  simp only [←hm5] at q5
  rw [←hm6] at hcnt3
  have ho4':=own_cast ho4 hm4.out.symm rfl
  replace hE3:=Lib.hid hE3
  replace hms:=Lib.hid hms
  replace hm5:=Lib.hid hm5
  replace hm6:=Lib.hid hm6
  clear hmo hpre hnE hEE ho4
  replace ho4':=Lib.hid ho4'
  replace hm56:=Lib.hid hm56
  go_wp2_with fail
  refine q5.mono ?_
  rintro e w5 ⟨sb5,r5,v5,rfl,hSt5,hok5,ho5,hb5⟩
  have b5:=b4.trans (hb5.mono b4.size)
  have hSt45:=hSt4.out.below hb5
  have q6:=search_any (k:=q) hSt45 hok4.root hok4 (hT.same (b5.block _ hT.lt')) (hP.same (b5.block _ hP.lt)) (by omega)
  unfold RetSearch at q6
  rw [←hE3.out,←hm6.out] at q6
  obtain ⟨ba5,cp5,rfl⟩:=row_slice ho5
  replace hSt5:=Lib.hid hSt5
  replace ho5:=Lib.hid ho5
  clear q5 hSt45
  go_wp2_with fail
  refine q6.mono ?_
  rintro e w6 ⟨sb6,r6,v6,rfl,hSt6,hok6,ho6,hb6⟩
  have b6:=b5.trans (hb6.mono b5.size)
  obtain ⟨ba6,cp6,rfl⟩:=row_slice ho6
  have b56:=hb6
  have b46:=hb5.trans (hb6.mono hb5.size)
  have hcmp:((m4:Int)+(m6:Int) != (m5:Int)) = false:=by rw [hm56.out];simp
  have hm5l:m5≤2000:=by have:=hm56.out;omega
  obtain ⟨iv,hiv,hzv,hsv,hbv⟩:=info_parts mv_info
  have b7:=(Below.refl w6.heap.size w6).alloc (Nat.le_refl _) (.cells #[] 45)
  have hr0:(w6.alloc (.cells #[] 45)).ownsRow w6.heap.size 45 2 (.slice (some ⟨w6.heap.size,0,none⟩) 0 0) 0 (#[]:Array Value).toList:=World.ownsRow_lit w6 #[] 0 (Nat.le_refl _) (by unfold maxLen;omega) rfl
  have hr4:(w6.alloc (.cells #[] 45)).ownsRow w3.heap.size 45 2 (.slice ba4 m4 cp4) m4 (movesV E.2):=(ownsRow_same ho4'.out fun kb hkb=>b46.block kb (own_lt ho4'.out hkb).1).alloc _
  have hN7:=b7.size
  have hSt6':=Lib.hid hSt6
  have hSt5':=Lib.hid (hSt5.out.below hb6)
  have ho5':=Lib.hid (ownsRow_same ho5.out fun kb hkb=>hb6.block kb (own_lt ho5.out hkb).1)
  replace b7:=Lib.hid b7
  replace ho6:=Lib.hid ho6
  clear q6 hSt4 hSt4' hSt5 hSt6 ho5 ho4' hM4' hb6 hb5 f0 f1 f2
  go_wp2_with (at_builtin;first
   | (refine wpList_append_rows rfl _ _ 34 rfl w6.heap.size 45 iv (.agg #[.int .i64 0,.int .i64 0]) 2 16 Tryz.underlying34 hiv hzv hsv hbv rfl (by decide) _ 0 _ rfl hr0 w3.heap.size _ m4 (movesV E.2) rfl hr4 (movesV_one _) (by unfold maxLen;omega) (by omega) hN7 ?_
      intro v8 w8 ho8 hg8
      have b8:=Below.grown b7.out hg8 hN7 (fun kb e=>own_ge hr0 e)
      have hr8:=own_cast ho8 (show 0+m4 = m4 by omega) (show _ = movesV E.2 by simp)
      have hr6:=ownsRow_same ho6.out fun kb hkb=>b8.block kb (own_lt ho6.out hkb).1
      have hN8:=b8.size
      replace b8:=Lib.hid b8
      clear hr0 hr4 ho8 hg8)
   | (refine wpList_append_rows rfl _ _ 34 rfl w6.heap.size 45 iv (.agg #[.int .i64 0,.int .i64 0]) 2 16 Tryz.underlying34 hiv hzv hsv hbv rfl (by decide) _ m4 _ rfl hr8 w5.heap.size _ m6 (movesV E3.2) rfl hr6 (movesV_one _) (by unfold maxLen;omega) (by omega) hN8 ?_
      intro v9 w9 ho9 hg9
      have b9:=Below.grown b8.out hg9 hN8 (fun kb e=>own_ge hr8 e)
      have hr9:=own_cast ho9 hm56.out.symm (show _ = movesV ms by rw [hms.out,movesV_app])
      obtain ⟨ba9,cp9,rfl⟩:=row_slice hr9
      have hM9:=Lib.hid (own_moves hr9 hm5.out)
      have hM5:=Lib.hid ((own_moves ho5'.out hm5.out).below b9)
      replace b9:=Lib.hid b9
      clear hr8 hr6 ho9 hg9 hr9))
  obtain ⟨w9',hw9'⟩:∃ w9',w9' = w9:=⟨_,rfl⟩
  have h0:Hid (Below w9.heap.size w9 w9):=Lib.hid (Below.refl _ _)
  go_loopw [92] (fun iv wr=>∃ j:Nat,j≤m5∧iv = .int .i64 (j:Nat)∧Hid (Below w9.heap.size w9 wr)) (fun iv _=>m5 - (intOf iv).toNat)
  case atStart=>exact ⟨0,by omega,rfl,h0⟩
  case round =>
   clear h0
   obtain ⟨j,hj,rfl,hI⟩:=hrel
   by_cases hlt:j < m5
   ·have dlt:decide ((j:Int) < (m5:Int)) = true:=decide_eq_true (by omega)
    have hjl:j < ms.length:=by have:=hm5.out;omega
    obtain ⟨g9,c9,e9,_,hc9⟩:=(hM9.out.below hI.out).some (by omega)
    obtain ⟨g5,c5,e5,hg5,hc5⟩:=(hM5.out.below hI.out).some (by omega)
    injection e9 with e91 e92 e93
    injection e5 with e51 e52 e53
    subst e91
    subst e51
    clear e92 e93 e52 e53
    obtain ⟨k0,k1⟩:=hc9 j hjl
    obtain ⟨l0,l1⟩:=hc5 j hjl
    generalize ms[j] = pr at *
    obtain ⟨x1,x2⟩:=pr
    simp only at k0 k1 l0 l1
    have j0:(0:Int)≤j:=by omega
    have j1:(j:Int) < m5:=by omega
    obtain ⟨w10,hw10⟩:∃ w10,w10 = wr.alloc (.cells #[.int .i64 (x1:Nat),.int .i64 (x2:Nat)] 45):=⟨_,rfl⟩
    have hb10:Below wr.heap.size wr w10:=by rw [hw10];exact (Below.refl _ _).alloc (Nat.le_refl _) _
    have hy10:w10.heap[wr.heap.size]? = some (.cells #[.int .i64 (x1:Nat),.int .i64 (x2:Nat)] 45 (0,0)):=by rw [hw10];exact heap_alloc_new _ _
    obtain ⟨y0,y1⟩:=box2' hy10
    have F1:=Lib.hid fun (W:World) (hW:Ext w10 W)=>And.intro (hW.cell ((hb10.cell (World.block_lt_of_cell? _ _ l0)).trans l0)) (And.intro (hW.cell ((hb10.cell (World.block_lt_of_cell? _ _ l1)).trans l1)) (And.intro (hW.cell y0) (hW.cell y1)))
    have heq:∀ W,(Op.equalIn 10000 45 (.agg #[.int .i64 (x1:Nat),.int .i64 (x2:Nat)]) (.agg #[.int .i64 (x1:Nat),.int .i64 (x2:Nat)])).run Tryz.prog W = .ok true W:=fun W=>by rw [mvEq];simp
    have hb9:=hI.out.trans (hb10.mono hI.out.size)
    clear hI hc9 hc5 hg5 l0 l1 y0 y1 hy10
    go_wp2_with fail
    rw [←hw10]
    clear k0 k1
    replace hw10:=Lib.hid hw10
    replace hb10:=Lib.hid hb10
    (refine wp_region_below (by kernel_rfl) (by kernel_rfl) ?_
     repeat (refine wpQuiet_step (fun K hK=>?_)
             go_simp
             first
              | (refine hK _ ?_;clear hK K)
              | (replace hK:=Lib.hid hK
                 apply Exists.intro
                 refine ⟨fun wq hq=>?_,hK.out _ ?_⟩
                 ·(obtain ⟨f1,f2,f3,f4⟩:=F1.out wq hq)
                  go_simp
                  first
                   | done
                   | rfl
                   | exact ⟨rfl,rfl⟩
                   | done
                 clear hK K))
     refine wpQuiet_nil ?_)
    intro w11 hw11
    have hnext:Hid (Below w9.heap.size w9 w11):=Lib.hid (hb9.trans (hw11.below.mono hb9.size))
    clear F1
    go_wp2_with fail
    go_roundw
    case rel=>exact ⟨j+1,by omega,by go_num,hnext⟩
    case measure=>simp [intOf];omega
   ·have dlt:decide ((j:Int) < (m5:Int)) = false:=decide_eq_false (by omega)
    have b69:=b9.out.trans (hI.out.mono b9.out.size)
    have bw:=b6.trans (b69.mono b6.size)
    have hS5:=hSt5'.out.below b69
    have qx:=shown_any hS5 hok5.root (hP.same (bw.block _ hP.lt)) hok5.pr
    have qy:=fun (W:World) (hb:Below wr.heap.size wr W)=>shown_any ((hSt6'.out.below b69).below hb) hok6.root (hP.same ((bw.trans (hb.mono bw.size)).block _ hP.lt)) hok6.pr
    obtain ⟨X,hX⟩:∃ X,X = shB E3.1 (E3.1.post 0) φ:=⟨_,rfl⟩
    rw [←hX] at qx qy
    have hXX:=strB_beq X
    replace hX:=Lib.hid hX
    replace qy:=Lib.hid qy
    clear hI hS5
    go_wp2_with fail
    refine qx.mono ?_
    rintro e w12 ⟨rfl,hb12⟩
    have qy':=qy.out w12 hb12
    have b12:=bw.trans (hb12.mono bw.size)
    clear qx
    go_wp2_with fail
    refine qy'.mono ?_
    rintro e w13 ⟨rfl,hb13⟩
    have b13:=b12.trans (hb13.mono b12.size)
    have q:=hw.out w13 b13
    clear qy'
    go_wp2_with fail
    refine q.mono ?_
    rintro e w14 ⟨rfl,hb14⟩
    go_wp2_with fail
    go_ret
    exact ⟨rfl,b13.trans (hb14.mono b13.size)⟩
end Go.Proofs.YtemnmcfmabamcaaGreatDoor
