import Derived.Test.YtemnmcfmabamcaaGreatDoorWVmvs
set_option linter.unusedSimpArgs false
set_option linter.unusedVariables false
namespace Go.Proofs.YtemnmcfmabamcaaGreatDoor
open Go Go.RowKit Go.Shelf
set_option maxRecDepth 100000 in
set_option maxHeartbeats 8000000 in
theorem vsleast_any {t:List VN} {bts:Nat} {p:Int} (w:World) (ba:Option Addr) (cap:Nat) (hT:TzTab w) (hP:PowTab w) (h:t = []∨∃ b o,ba = some ⟨b,o,none⟩∧TreeAt w b o t) (hbt:bts < 65536) (hp:-9223372036854775808≤p∧p≤9223372036854775807) :
  Calls Tryz.prog 5 #[.agg #[.slice ba t.length cap,.int .u16 (bts:Nat),.int .i64 p]] w fun e w'=>e = .returned (.bool true)∧Below w.heap.size w w':=by
 have hw:∀ w',Below w.heap.size w w'→Calls Tryz.prog 12 #[] w' fun e w''=>e = .returned (.bool true)∧Below w'.heap.size w' w'':=fun w' hx=>works29_any w' (hT.same (hx.block _ hT.lt')) (hP.same (hx.block _ hP.lt))
 obtain ⟨w0,hw0,hx0,c0,c1,c2⟩:=ask_box w ba t.length cap bts p
 obtain ⟨xb,hxb⟩:∃ xb,w.heap.size = xb:=⟨_,rfl⟩
 rw [hxb] at c0 c1 c2
 have ql:=light_any (w:=w0) (ba:=ba) (cap:=cap) (bits:=bts) (p:=p) (h.imp id fun ⟨b,o,e,ht⟩=>⟨b,o,e,ht.ext hx0⟩)
 have hb0:=hx0.below
 replace hw:=Lib.hid hw
 cases hf:few7 t
 ·rw [hf] at ql
  go_enter Tryz.func5,Tryz.ntmps5
  go_wp2_with fail
  try simp only [hxb]
  rw [←hw0]
  refine ql.mono ?_
  rintro e w1 ⟨rfl,hx1⟩
  have b1:=hb0.trans (hx1.below.mono hb0.size)
  have q:=hw.out w1 b1
  clear ql
  go_wp2_with fail
  refine q.mono ?_
  rintro e w2 ⟨rfl,hb2⟩
  go_wp2_with fail
  go_ret
  exact ⟨rfl,b1.trans (hb2.mono b1.size)⟩
 ·rw [hf] at ql
  obtain ⟨T,l,tc,t7,hvr,hl6,hsb,hIT,hTok⟩:=few7_of hf
  obtain ⟨b,o,rfl,ht⟩:=tree_some tc h
  clear h hf
  go_enter Tryz.func5,Tryz.ntmps5
  go_wp2_with fail
  try simp only [hxb]
  rw [←hw0]
  refine ql.mono ?_
  rintro e w1 ⟨rfl,hx1⟩
  have b1:=hb0.trans (hx1.below.mono hb0.size)
  have z0:=hx1.cell c0
  have z1:=hx1.cell c1
  have z2:=hx1.cell c2
  have qs:=store_any (cap:=cap) (p:=p) (hT.same (b1.block _ hT.lt')) (hP.same (b1.block _ hP.lt)) (ht.below b1) tc t7 hbt hvr
  obtain ⟨φ,hφ⟩:∃ φ,φ = mdφ l bts (2 ^ l.length):=⟨_,rfl⟩
  rw [←hφ] at qs
  clear ql c0 c1 c2
  go_wp2_with fail
  refine qs.mono ?_
  rintro e w2 ⟨sb,r,rfl,hSt,hb2⟩
  have b2:=b1.trans (hb2.mono b1.size)
  have d0:=(hb2.cell (World.block_lt_of_cell? _ _ z0)).trans z0
  have d1:=(hb2.cell (World.block_lt_of_cell? _ _ z1)).trans z1
  have d2:=(hb2.cell (World.block_lt_of_cell? _ _ z2)).trans z2
  replace hφ:=Lib.hid hφ
  replace hw0:=Lib.hid hw0
  replace hxb:=Lib.hid hxb
  clear qs z0 z1 z2 hb2 hx1 b1 hb0 hx0
  obtain ⟨k,hk⟩:∃ k,k = (p % 18446744073709551616 % 7).toNat:=⟨_,rfl⟩
  have hk6:k≤6:=by rw [hk];exact pass_lt p
  have qp:=fun W=>passes_any (t:=t) (ba:=some ⟨b,o,none⟩) (cap:=cap) (bits:=bts) (p:=p) (w:=W) hp
  rw [←hk] at qp
  replace hk:=Lib.hid hk
  have qp2:=qp w2
  replace qp:=Lib.hid qp
  go_wp2_with fail
  refine qp2.mono ?_
  rintro e w3 ⟨rfl,hx3⟩
  have b3:=b2.trans (hx3.below.mono b2.size)
  have hSt3:=hSt.below hx3.below
  have e0:=hx3.cell d0
  have e1:=hx3.cell d1
  have e2:=hx3.cell d2
  have q4:=search_any (k:=k) hSt3 hIT hTok (hT.same (b3.block _ hT.lt')) (hP.same (b3.block _ hP.lt)) (by omega)
  unfold RetSearch at q4
  have hch:=L.searchT_chain l (L.tabO l φ) (T.post 0).length (T0:=T) k (T,[]) (.nil T)
  have hls:=L.searchT_least l (L.tabO l φ) (T.post 0).length k (T,[])
  have hcnt:(L.searchT l (L.tabO l φ) (T.post 0).length k (T,[])).2.length≤1000:=by
   have h1:=searchT_len l (L.tabO l φ) (T.post 0).length k (T,[])
   have h2:k * (T.post 0).length≤6 * 7:=Nat.mul_le_mul hk6 hTok.len
   simp only [List.length_nil] at h1
   omega
  obtain ⟨E,hE⟩:∃ E,E = L.searchT l (L.tabO l φ) (T.post 0).length k (T,[]):=⟨_,rfl⟩
  rw [←hE] at q4 hch hls hcnt
  have hlen:=hch.less
  have hperm:=hch.perm
  replace hch:=Lib.hid hch
  replace hls:=Lib.hid hls
  replace hlen:=Lib.hid hlen
  replace hperm:=Lib.hid hperm
  clear qp2 d0 d1 d2 hE hSt
  replace hSt3:=Lib.hid hSt3
  go_wp2_with fail
  refine q4.mono ?_
  rintro e w4 ⟨sb4,r4,v4,rfl,hSt4,hok4,ho4,hb4⟩
  have b4:=b3.trans (hb4.mono b3.size)
  have hM4:=own_moves ho4 rfl
  have f0:=(hb4.cell (World.block_lt_of_cell? _ _ e0)).trans e0
  have f1:=(hb4.cell (World.block_lt_of_cell? _ _ e1)).trans e1
  have f2:=(hb4.cell (World.block_lt_of_cell? _ _ e2)).trans e2
  have hSt4':=hSt3.out.below hb4
  obtain ⟨m4,hm4⟩:∃ m4,m4 = E.2.length:=⟨_,rfl⟩
  rw [←hm4] at hcnt
  obtain ⟨ba4,cp4,rfl,hM4'⟩:∃ ba4 cp4,v4 = .slice ba4 m4 cp4∧MvAt w4 (.slice ba4 m4 cp4) E.2:=by
   obtain ⟨a,c,e,h⟩:=hM4
   exact ⟨a,c,by rw [hm4];exact e,⟨a,c,by rw [hm4],h⟩⟩
  replace hm4:=Lib.hid hm4
  replace hSt4:=Lib.hid hSt4
  replace hSt4':=Lib.hid hSt4'
  replace hM4':=Lib.hid hM4'
  clear q4 hM4 ho4 e0 e1 e2 hSt3
  have qp4:=qp.out w4
  go_wp2_with fail
  refine qp4.mono ?_
  rintro e w5 ⟨rfl,hx5⟩
  have b5:=b4.trans (hx5.below.mono b4.size)
  clear qp4 f0 f1 f2
  by_cases hge:k≤m4
  ·have dge:decide ((m4:Int)≥(k:Int)) = true:=decide_eq_true (by omega)
   have q:=hw.out w5 b5
   go_wp2_with fail
   refine q.mono ?_
   rintro e w6 ⟨rfl,hb6⟩
   go_wp2_with fail
   go_ret
   exact ⟨rfl,b5.trans (hb6.mono b5.size)⟩
  ·have dge:decide ((m4:Int)≥(k:Int)) = false:=decide_eq_false (by omega)
   have hleast:=hls.out (by rw [←hm4.out];simp;omega)
   have hSt5:=hSt4.out.below hx5.below
   have q6:=hSt5.tree
   have hnE:(T.post 0).length = (E.1.post 0).length:=by rw [L.Tr.post_len,L.Tr.post_len,hperm.out.2]
   rw [hnE] at hleast
   have n7:=hok4.len
   obtain ⟨n,hn⟩:∃ n,n = (E.1.post 0).length:=⟨_,rfl⟩
   rw [←hn] at q6 hleast n7
   have hl6':=hok4.sbl
   have hI6':=hok4.root
   replace hn:=Lib.hid hn
   replace hleast:=Lib.hid hleast
   clear hnE
   replace hSt5:=Lib.hid hSt5
   go_wp2_with fail
   refine q6.mono ?_
   rintro e w6 ⟨g6,c6,rfl,_,_,hb6⟩
   have b6:=b5.trans (hb6.mono b5.size)
   have h0:Hid (Below w6.heap.size w6 w6):=Lib.hid (Below.refl _ _)
   have hSt6:=Lib.hid (hSt5.out.below hb6)
   clear q6 hSt5
   go_wp2_with fail
   go_loopw [50] (fun iv wr=>∃ i:Nat,i≤n∧iv = .int .i64 (i:Nat)∧Hid (Below w6.heap.size w6 wr)) (fun iv _=>n - (intOf iv).toNat)
   case atStart=>exact ⟨0,by omega,rfl,h0⟩
   case round =>
    clear h0
    obtain ⟨i,hi,rfl,hI⟩:=hrel
    by_cases hli:i < n
    ·have dli:decide ((i:Int) < (n:Int)) = true:=decide_eq_true (by omega)
     have h0:Hid (Below w6.heap.size w6 wr):=hI
     clear hI
     go_wp2_with fail
     go_loopw [10] (fun kv wr=>∃ kd:Nat,1≤kd∧kd≤4∧kv = .int .i64 (kd:Nat)∧Hid (Below w6.heap.size w6 wr)) (fun kv _=>4 - (intOf kv).toNat)
     case atStart=>exact ⟨1,by omega,by omega,rfl,h0⟩
     case round =>
      clear h0
      obtain ⟨kd,hk1,hk4,rfl,hI⟩:=hrel
      by_cases hlk:kd≤3
      ·have dlk:decide ((kd:Int)≤3) = true:=decide_eq_true (by omega)
       have bw:=b6.trans (hI.out.mono b6.size)
       have qm:=lmoved_any (hSt6.out.below hI.out) hok4 (hT.same (bw.block _ hT.lt')) (hP.same (bw.block _ hP.lt)) i kd ⟨hk1,hlk⟩
       go_wp2_with fail
       refine qm.mono ?_
       rintro e w7 ⟨hb7,⟨hno,rfl⟩ | ⟨V,sbV,rV,hV,rfl,hStV⟩⟩
       ·have hnext:Hid (Below w6.heap.size w6 w7):=Lib.hid (hI.out.trans (hb7.mono hI.out.size))
        clear qm
        go_wp2_with fail
        go_roundw
        case rel=>exact ⟨kd+1,by omega,by omega,by go_num,hnext⟩
        case measure=>simp [intOf];omega
       ·have hokV:TrOK V l:=by
         obtain ⟨g1,g2⟩:=L.mvT_perm _ _ _ hV
         exact hok4.perm g1 g2
        have b67:Below w6.heap.size w6 w7:=hI.out.trans (hb7.mono hI.out.size)
        have qa:=lsize_any hStV hokV.sbl hokV.root
        have qb:=fun W (hb:Below w6.heap.size w6 W)=>lsize_any (hSt6.out.below hb) hl6' hI6'
        have hle:=hleast.out i hli kd hk1 hlk V hV
        generalize L.sizeTr V l (L.tabO l φ) = sV at *
        generalize L.sizeTr E.1 l (L.tabO l φ) = sE at *
        have dle:decide ((sV:Int) < (sE:Int)) = false:=decide_eq_false (by omega)
        replace qb:=Lib.hid qb
        replace hStV:=Lib.hid hStV
        clear qm
        go_wp2_with fail
        refine qa.mono ?_
        rintro e w8 ⟨rfl,hb8⟩
        have b68:=b67.trans (hb8.mono b67.size)
        have qb':=qb.out w8 b68
        clear qa
        go_wp2_with fail
        refine qb'.mono ?_
        rintro e w9 ⟨rfl,hb9⟩
        have hnext:Hid (Below w6.heap.size w6 w9):=Lib.hid (b68.trans (hb9.mono b68.size))
        clear qb'
        go_wp2_with fail
        go_roundw
        case rel=>exact ⟨kd+1,by omega,by omega,by go_num,hnext⟩
        case measure=>simp [intOf];omega
      ·have dlk:decide ((kd:Int)≤3) = false:=decide_eq_false (by omega)
       go_wp2_with fail
       go_roundw
       case rel=>exact ⟨i+1,by omega,by go_num,hI⟩
       case measure=>simp [intOf];omega
    ·have dli:decide ((i:Int) < (n:Int)) = false:=decide_eq_false (by omega)
     have bw:=b6.trans (hI.out.mono b6.size)
     have q:=hw.out wr bw
     go_wp2_with fail
     refine q.mono ?_
     rintro e w7 ⟨rfl,hb7⟩
     go_wp2_with fail
     go_ret
     exact ⟨rfl,bw.trans (hb7.mono bw.size)⟩
end Go.Proofs.YtemnmcfmabamcaaGreatDoor
