import Derived.Test.YtemnmcfmabamcaaGreatDoorXVnon
import Derived.Test.YtemnmcfmabamcaaGreatDoorXAskIn
set_option linter.unusedSimpArgs false
set_option linter.unusedVariables false
namespace Go.Proofs.YtemnmcfmabamcaaGreatDoor
open Go Go.RowKit Go.Shelf
theorem node_var {t:List VN} (hc:checkF t = 0) {i:Nat} (hi:i < t.length) (hv:t[i].var≠0):1≤t[i].var∧t[i].var≤128:=by
 obtain ⟨_,_,sc,hs,_⟩:=check_ok hc
 cases hl:leafB t[i]
 ·exact (hv (run_bounds t 0 _ sc hs i hi hl).1).elim
 ·simp only [leafB,Bool.and_eq_true,decide_eq_true_eq] at hl
  exact hl.2
structure SmI (w0:World) (v:Value) (m:Nat) (lst:List Int) (w:World):Prop where
 bel:Below w0.heap.size w0 w
 len:m = lst.length
 rng:∀ z∈lst,1≤z∧z≤128
 row:w.ownsRow w0.heap.size 3 1 v m (lst.map fun z=>Value.int .i64 z)
def SetBox (w0:World) (x:Nat) (w:World):Prop:=Below w0.heap.size w0 w∧w0.heap.size≤x∧∃ a b:Int,(0≤a∧a≤18446744073709551615)∧(0≤b∧b≤18446744073709551615)∧w.heap[x]? = some (.cells #[.int .u64 a,.int .u64 b] 82 (0,0))
theorem or_rng (a b:Int):0≤bits .or .u64 a b∧bits .or .u64 a b≤18446744073709551615:=by
 show 0≤IntKind.u64.wrap _∧IntKind.u64.wrap _≤_
 rw [IntKind.wrap_u64]
 omega
theorem StOn.small {T:L.Tr} {t:List VN} {φ:L.Asg→Bool} {sb r:Nat} {w:World} {l:List Int} (h:StOn t φ sb r w) (hl:L.SortedBel t (t.length - 1) l) (hT:L.IsT L.idc t (t.length - 1) T):L.sizeTr T l (L.tabO l φ)≤1099511627776:=by
 obtain ⟨B,k,s,rfl,hS,hv⟩:=h.st
 obtain ⟨B',hB,hR,_,_⟩:=hS.here
 have ht:=hS.tree
 have hf:=hS.few
 have h0:=hS.pos
 have hi:=hS.inv
 have hlen:=hS.room.len
 obtain ⟨O,e,g1,g2⟩:=L.sizeF_spec hi (by omega) hv.lt (v:=s.tree.length - 1) (by rw [ht];omega) (dep_root hi hv.lt) (f:=14) (by rw [ht];omega)
 have es:L.sem s.nodes r = φ:=funext hv.sem
 have h1:=L.sizeTr_law hi (l:=l) (by rw [ht];exact hl) (T:=T) (by rw [ht];exact hT) (by omega) hv.lt g1 g2
 rw [es] at h1
 have h2:=sumEl_le hR O
 have h3:=L.nodup_len O (List.range s.nodes.length) g1 (fun x hx=>List.mem_range.2 (by have:=((g2 x).1 hx).le hi.kids;have:=hv.lt;omega))
 rw [List.length_range] at h3
 have h4:O.length * 1048576≤1048576 * 1048576:=Nat.mul_le_mul_right _ (by omega)
 omega
theorem SetBox.set0 {w0 w:World} {x:Nat} {a b X:Int} (hb:Below w0.heap.size w0 w) (hx:w0.heap.size≤x) (h:w.heap[x]? = some (.cells #[.int .u64 a,.int .u64 b] 82 (0,0))) (hB:0≤b∧b≤18446744073709551615) (hX:0≤X∧X≤18446744073709551615):SetBox w0 x (w.setCell ⟨x,0,none⟩ (.int .u64 X)) :=
 ⟨hb.setCell hx _,hx,X,b,hX,hB,heap_set h 0 _⟩
theorem SetBox.set1 {w0 w:World} {x:Nat} {a b X:Int} (hb:Below w0.heap.size w0 w) (hx:w0.heap.size≤x) (h:w.heap[x]? = some (.cells #[.int .u64 a,.int .u64 b] 82 (0,0))) (hA:0≤a∧a≤18446744073709551615) (hX:0≤X∧X≤18446744073709551615):SetBox w0 x (w.setCell ⟨x,1,none⟩ (.int .u64 X)) :=
 ⟨hb.setCell hx _,hx,a,X,hA,hX,heap_set h 1 _⟩
set_option maxRecDepth 100000 in
set_option maxHeartbeats 40000000 in
theorem vssame_any {t:List VN} {bts:Nat} {p:Int} (w:World) (ba:Option Addr) (cap:Nat) (hT:TzTab w) (hP:PowTab w) (h:t = []∨∃ b o,ba = some ⟨b,o,none⟩∧TreeAt w b o t) (hbt:bts < 65536) (hp:-9223372036854775808≤p∧p≤9223372036854775807) :
  Calls Tryz.prog 10 #[.agg #[.slice ba t.length cap,.int .u16 (bts:Nat),.int .i64 p]] w fun e w'=>e = .returned (.bool true)∧Below w.heap.size w w':=by
 have hw:∀ w',Below w.heap.size w w'→Calls Tryz.prog 12 #[] w' fun e w''=>e = .returned (.bool true)∧Below w'.heap.size w' w'':=fun w' hx=>works29_any w' (hT.same (hx.block _ hT.lt')) (hP.same (hx.block _ hP.lt))
 obtain ⟨w0,hw0,hx0,c0,c1,c2⟩:=ask_box w ba t.length cap bts p
 obtain ⟨xb,hxb⟩:∃ xb,w.heap.size = xb:=⟨_,rfl⟩
 rw [hxb] at c0 c1 c2
 have ql:=light_any (w:=w0) (ba:=ba) (cap:=cap) (bits:=bts) (p:=p) (h.imp id fun ⟨b,o,e,ht⟩=>⟨b,o,e,ht.ext hx0⟩)
 have hb0:=hx0.below
 replace hw:=Lib.hid hw
 cases hf:few7 t
 ·rw [hf] at ql
  go_enter Tryz.func10,Tryz.ntmps10
  go_wp2_with fail
  try simp only [hxb]
  rw [←hw0]
  refine ql.mono ?_
  rintro e w1 ⟨rfl,hx1⟩
  have b1:=hb0.trans (hx1.below.mono hb0.size)
  have q:=hw.out w1 b1
  clear ql
  go_wp2_with fail
  refine q.mono ?_
  rintro e w2 ⟨rfl,hb2⟩
  go_wp2_with fail
  go_ret
  exact ⟨rfl,b1.trans (hb2.mono b1.size)⟩
 ·rw [hf] at ql
  obtain ⟨T,l,tc,t7,hvr,hl6,hsb,hIT,hTok⟩:=few7_of hf
  obtain ⟨b,o,rfl,ht⟩:=tree_some tc h
  clear h hf
  go_enter Tryz.func10,Tryz.ntmps10
  go_wp2_with fail
  try simp only [hxb]
  rw [←hw0]
  refine ql.mono ?_
  rintro e w1 ⟨rfl,hx1⟩
  have b1:=hb0.trans (hx1.below.mono hb0.size)
  have z0:=hx1.cell c0
  have z1:=hx1.cell c1
  have z2:=hx1.cell c2
  have qs:=store_any (cap:=cap) (p:=p) (hT.same (b1.block _ hT.lt')) (hP.same (b1.block _ hP.lt)) (ht.below b1) tc t7 hbt hvr
  obtain ⟨φ,hφ⟩:∃ φ,φ = mdφ l bts (2 ^ l.length):=⟨_,rfl⟩
  rw [←hφ] at qs
  clear ql c0 c1 c2
  go_wp2_with fail
  refine qs.mono ?_
  rintro e w2 ⟨sb,r,rfl,hSt,hb2⟩
  have b2:=b1.trans (hb2.mono b1.size)
  have d0:=(hb2.cell (World.block_lt_of_cell? _ _ z0)).trans z0
  have d1:=(hb2.cell (World.block_lt_of_cell? _ _ z1)).trans z1
  have d2:=(hb2.cell (World.block_lt_of_cell? _ _ z2)).trans z2
  replace hφ:=Lib.hid hφ
  replace hw0:=Lib.hid hw0
  replace hxb:=Lib.hid hxb
  clear qs z0 z1 z2 hb2 hx1 b1 hb0 hx0
  obtain ⟨k,hk⟩:∃ k,k = (p % 18446744073709551616 % 7).toNat:=⟨_,rfl⟩
  have hk6:k≤6:=by rw [hk];exact pass_lt p
  have qp:=fun W=>passes_any (t:=t) (ba:=some ⟨b,o,none⟩) (cap:=cap) (bits:=bts) (p:=p) (w:=W) hp
  rw [←hk] at qp
  replace hk:=Lib.hid hk
  have qp2:=qp w2
  replace qp:=Lib.hid qp
  go_wp2_with fail
  refine qp2.mono ?_
  rintro e w3 ⟨rfl,hx3⟩
  have b3:=b2.trans (hx3.below.mono b2.size)
  have hSt3:=hSt.below hx3.below
  have e0:=hx3.cell d0
  have e1:=hx3.cell d1
  have e2:=hx3.cell d2
  have q4:=search_any (k:=k) hSt3 hIT hTok (hT.same (b3.block _ hT.lt')) (hP.same (b3.block _ hP.lt)) (by omega)
  unfold RetSearch at q4
  have hch:=L.searchT_chain l (L.tabO l φ) (T.post 0).length (T0:=T) k (T,[]) (.nil T)
  have hls:=L.searchT_least l (L.tabO l φ) (T.post 0).length k (T,[])
  have hcnt:(L.searchT l (L.tabO l φ) (T.post 0).length k (T,[])).2.length≤1000:=by
   have h1:=searchT_len l (L.tabO l φ) (T.post 0).length k (T,[])
   have h2:k * (T.post 0).length≤6 * 7:=Nat.mul_le_mul hk6 hTok.len
   simp only [List.length_nil] at h1
   omega
  obtain ⟨E,hE⟩:∃ E,E = L.searchT l (L.tabO l φ) (T.post 0).length k (T,[]):=⟨_,rfl⟩
  rw [←hE] at q4 hch hls hcnt
  have hlen:=hch.less
  have hperm:=hch.perm
  replace hch:=Lib.hid hch
  replace hls:=Lib.hid hls
  replace hlen:=Lib.hid hlen
  replace hperm:=Lib.hid hperm
  replace hE:=Lib.hid hE
  clear qp2 d0 d1 d2 hSt
  replace hSt3:=Lib.hid hSt3
  go_wp2_with fail
  refine q4.mono ?_
  rintro e w4 ⟨sb4,r4,v4,rfl,hSt4,hok4,ho4,hb4⟩
  have b4:=b3.trans (hb4.mono b3.size)
  have hM4:=own_moves ho4 rfl
  have f0:=(hb4.cell (World.block_lt_of_cell? _ _ e0)).trans e0
  have f1:=(hb4.cell (World.block_lt_of_cell? _ _ e1)).trans e1
  have f2:=(hb4.cell (World.block_lt_of_cell? _ _ e2)).trans e2
  have hSt4':=hSt3.out.below hb4
  obtain ⟨m4,hm4⟩:∃ m4,m4 = E.2.length:=⟨_,rfl⟩
  rw [←hm4] at hcnt
  obtain ⟨ba4,cp4,rfl,hM4'⟩:∃ ba4 cp4,v4 = .slice ba4 m4 cp4∧MvAt w4 (.slice ba4 m4 cp4) E.2:=by
   obtain ⟨a,c,e,h⟩:=hM4
   exact ⟨a,c,by rw [hm4];exact e,⟨a,c,by rw [hm4],h⟩⟩
  replace hm4:=Lib.hid hm4
  replace hSt4:=Lib.hid hSt4
  replace hSt4':=Lib.hid hSt4'
  replace hM4':=Lib.hid hM4'
  clear q4 hM4 ho4 e0 e1 e2 hSt3
  have q5:=hSt4.out.tree
  obtain ⟨n,hn⟩:∃ n,n = (E.1.post 0).length:=⟨_,rfl⟩
  have hckE:=hok4.chk
  rw [←hn] at q5
  replace hn:=Lib.hid hn
  go_wp2_with fail
  refine q5.mono ?_
  rintro e w5 ⟨g5,c5,rfl,_,ht5,hb5⟩
  have b5:=b4.trans (hb5.mono b4.size)
  have q6:=check_any w5 (some ⟨g5,0,none⟩) c5 (.inr ⟨g5,0,rfl,ht5⟩)
  rw [hckE,←hn.out] at q6
  have e0:=(hb5.cell (World.block_lt_of_cell? _ _ f0)).trans f0
  clear q5 f0 f1 f2 ht5
  go_wp2_with fail
  refine q6.mono ?_
  rintro e w6 ⟨rfl,hx6⟩
  have b6:=b5.trans (hx6.below.mono b5.size)
  have b46:=hb5.trans (hx6.below.mono hb5.size)
  have d0:=hx6.cell e0
  have hStU:=Lib.hid (hSt4.out.below b46)
  have hStS:=Lib.hid (hSt4'.out.below b46)
  have htr:=Lib.hid (ht.below b6)
  have hx0:Hid (SmI w6 (.slice none 0 0) 0 [] w6):=Lib.hid ⟨Below.refl _ _,rfl,fun z hz=>(by cases hz),World.ownsRow_nil _ _ _ _⟩
  obtain ⟨i0,hi0,hz0,hz1,hz2⟩:=info_parts info_int
  clear q6 e0 hSt4 hSt4' hM4' hx6 hb5
  obtain ⟨tl,htl⟩:∃ tl,tl = t.length:=⟨_,rfl⟩
  go_wp2_with fail
  go_loopw [9,46] (fun lv iv wr=>∃ (i m:Nat) (la:Option Addr) (cp:Nat) (lst:List Int),i≤t.length∧iv = .int .i64 (i:Nat)∧lv = .slice la m cp∧m≤i∧Hid (SmI w6 (.slice la m cp) m lst wr)) (fun _ iv _=>t.length - (intOf iv).toNat)
  case atStart=>exact ⟨0,0,none,0,[],by omega,rfl,rfl,by omega,hx0⟩
  case round =>
   clear hx0
   obtain ⟨i,m,la,cp,lst,hi,rfl,rfl,hmi,hI⟩:=hrel
   by_cases hlt:i < t.length
   ·have dlt:decide ((i:Int) < (t.length:Int)) = true:=decide_eq_true (by omega)
    obtain ⟨n0,n1,n2⟩:=(htr.out.below hI.out.bel).node hlt
    have hnv:=node_var tc hlt
    generalize t[i] = y at *
    obtain ⟨yl,yr,yv⟩:=y
    simp only at n0 n1 n2 hnv
    have j0:(0:Int)≤i:=by omega
    have j1:(i:Int) < t.length:=by omega
    obtain ⟨w7,hw7⟩:∃ w7,w7 = wr.alloc (.cells #[.int .i64 yl,.int .i64 yr,.int .i64 yv] 78):=⟨_,rfl⟩
    have hx7:w7.heap[wr.heap.size]? = some (.cells #[.int .i64 yl,.int .i64 yr,.int .i64 yv] 78 (0,0)):=by rw [hw7];exact heap_alloc_new _ _
    have hI7:SmI w6 (.slice la m cp) m lst w7:=by
     rw [hw7]
     exact ⟨hI.out.bel.alloc hI.out.bel.size _,hI.out.len,hI.out.rng,hI.out.row.alloc _⟩
    obtain ⟨y0,y1,y2⟩:=box3 hx7
    rw [hw7] at y2
    by_cases hv0:yv = 0
    ·subst hv0
     have dv:((0:Int) != 0) = false:=rfl
     replace hI7:=Lib.hid hI7
     clear hnv y0 y1 hx7
     go_wp2_with fail
     rw [←hw7]
     go_roundw
     case rel=>exact ⟨i+1,m,la,cp,lst,by omega,by go_num,rfl,by omega,hI7⟩
     case measure=>simp [intOf];omega
    ·have dv:(yv != 0) = true:=by simp [hv0]
     obtain ⟨r1,r2⟩:=hnv hv0
     have hro:=hI7.row.alloc (.cells #[.int .i64 yv] 3)
     have hbl:=hI7.bel.alloc hI7.bel.size (.cells #[.int .i64 yv] 3)
     obtain ⟨yb,hyb⟩:∃ yb,wr.heap.size = yb:=⟨_,rfl⟩
     have hs7:w7.heap.size = yb+1:=by rw [hw7];simp [hyb]
     have hnews:=cell_one_at w7 (.int .i64 yv) 3 (yb+1) hs7.symm
     have hNs:=hbl.size
     rw [hw7] at hro hnews hNs hbl
     replace hI7:=Lib.hid hI7
     replace hbl:=Lib.hid hbl
     replace hs7:=Lib.hid hs7
     clear hnv y0 y1 hx7
     go_wp2_with (at_builtin;(refine wpList_append_own _ rfl _ _ 76 rfl w6.heap.size 3 i0 (.int .i64 0) 1 8 Tryz.underlying76 hi0 hz0 hz1 hz2 rfl (by decide) _ _ _ rfl hro ⟨yb+1,0,none⟩ 1 1 [.int .i64 yv] rfl rfl hnews (by simp [Value.oneCell']) (by unfold maxLen;omega) (by omega) hNs ?_);intro v8 w8 ho8 hg8 _;obtain ⟨la8,cp8,rfl⟩:=row_slice ho8;have hI8:Hid (SmI w6 (.slice la8 (m+1) cp8) (m+1) (lst++[yv]) w8):=Lib.hid ⟨Below.grown hbl.out hg8 hNs (fun k e=>own_ge hro e),(by rw [hI.out.len];simp),(fun z hz=>(List.mem_append.1 hz).elim (hI.out.rng z) (fun h=>by obtain rfl:=List.mem_singleton.1 h;exact ⟨r1,r2⟩)),own_cast ho8 rfl (by simp)⟩;clear ho8 hg8 hro hnews hNs)
     exact ⟨⟨i+1,m+1,la8,cp8,lst++[yv],by omega,rfl,rfl,by omega,hI8⟩,by simp [intOf];omega⟩
   ·have dlt:decide ((i:Int) < (t.length:Int)) = false:=decide_eq_false (by omega)
    obtain ⟨wo,rfl⟩:∃ wo,wo = wr:=⟨wr,rfl⟩
    have hm7:m≤7:=by omega
    have hI9:Hid (SmI w6 (.slice la m cp) m lst wo):=hI
    have hsh:IntKind.i64.wrap ((2:Int) ^ m) = ((2 ^ m:Nat):Int):=pow_wrap m (by omega)
    have hpm:2 ^ m≤128:=Nat.le_trans (Nat.pow_le_pow_right (by omega) hm7) (by decide)
    obtain ⟨N,hN⟩:∃ N,N = 2 ^ m:=⟨_,rfl⟩
    rw [←hN] at hsh hpm
    replace hN:=Lib.hid hN
    have h0:Hid (Below wo.heap.size wo wo):=Lib.hid (Below.refl _ _)
    clear hI
    go_wp2_with fail
    go_loopw [63] (fun iv wr=>∃ kk:Nat,kk≤N∧iv = .int .i64 (kk:Nat)∧Hid (Below wo.heap.size wo wr)) (fun iv _=>N - (intOf iv).toNat)
    case atStart=>exact ⟨0,by omega,rfl,h0⟩
    case round =>
     clear h0
     obtain ⟨kk,hkk,rfl,hI⟩:=hrel
     by_cases hkl:kk < N
     ·have dkl:decide ((kk:Int) < (N:Int)) = true:=decide_eq_true (by omega)
      obtain ⟨xs,hxs⟩:∃ xs,wr.heap.size = xs:=⟨_,rfl⟩
      have hSB:Hid (SetBox wo xs (wr.alloc (.cells #[.int .u64 0,.int .u64 0] 82))):=Lib.hid ⟨hI.out.alloc hI.out.size _,by rw [←hxs];exact hI.out.size,0,0,by omega,by omega,by rw [←hxs];exact heap_alloc_new _ _⟩
      clear hI
      go_wp2_with fail
      try simp only [hxs]
      replace hxs:=Lib.hid hxs
      obtain ⟨wp,hwp⟩:∃ wp,wp = wr.alloc (.cells #[.int .u64 0,.int .u64 0] 82):=⟨_,rfl⟩
      rw [←hwp] at hSB ⊢
      replace hwp:=Lib.hid hwp
      go_loopw [68] (fun iv wr=>∃ j:Nat,j≤m∧iv = .int .i64 (j:Nat)∧Hid (SetBox wo xs wr)) (fun iv _=>m - (intOf iv).toNat)
      case atStart=>exact ⟨0,by omega,rfl,hSB⟩
      case round =>
       clear hSB
       obtain ⟨j,hj,rfl,hI⟩:=hrel
       obtain ⟨hbel,hxo,A,Bz,hA,hBz,hbx⟩:=hI.out
       obtain ⟨k0,k1⟩:=box2' hbx
       by_cases hjl:j < m
       ·have djl:decide ((j:Int) < (m:Int)) = true:=decide_eq_true (by omega)
        have hjll:j < lst.length:=by have:=hI9.out.len;omega
        have hrow:=hI9.out.row
        obtain ⟨g,cpg,e1,hgN⟩:=own_at hrow (by omega)
        injection e1 with e1 e2 e3
        subst e1
        have hcell:=own_cellAt hrow (j:=j) (u:=.int .i64 lst[j]) (by simp [hjll])
        have hcell':=(hbel.cell (World.block_lt_of_cell? _ _ hcell)).trans hcell
        have hrng:=hI9.out.rng _ (List.getElem_mem hjll)
        generalize lst[j] = v at *
        clear e3 hrow hcell
        have j0:(0:Int)≤j:=by omega
        have j1:(j:Int) < m:=by omega
        have f0:wr.frozen? ⟨xs,0,none⟩ = false:=by simp [World.frozen?,hbx]
        have f1:wr.frozen? ⟨xs,1,none⟩ = false:=by simp [World.frozen?,hbx]
        have hnext1:Hid (SetBox wo xs wr):=hI
        have hset0:Hid (∀ X:Int,0≤X∧X≤18446744073709551615→SetBox wo xs (wr.setCell ⟨xs,0,none⟩ (.int .u64 X))):=Lib.hid fun X hX=>SetBox.set0 hbel hxo hbx hBz hX
        have hset1:Hid (∀ X:Int,0≤X∧X≤18446744073709551615→SetBox wo xs (wr.setCell ⟨xs,1,none⟩ (.int .u64 X))):=Lib.hid fun X hX=>SetBox.set1 hbel hxo hbx hA hX
        replace hbx:=Lib.hid hbx
        clear hI
        cases hcb:(bits BinOp.and IntKind.i64 (((kk:Nat):Int) / 2 ^ j) 1 == 1)
        ·go_wp2_with fail
         go_roundw
         case rel=>exact ⟨j+1,by omega,by go_num,hnext1⟩
         case measure=>simp [intOf];omega
        ·by_cases h64:v≤64
         ·have hq:(v - 1).tdiv 64 = 0:=by rw [Int.tdiv_eq_ediv_of_nonneg (by omega)];omega
          go_wp2_with fail
          exact ⟨⟨j+1,by omega,rfl,Lib.hid (hset0.out _ (or_rng _ _))⟩,by simp [intOf];omega⟩
         ·have hq:(v - 1).tdiv 64 = 1:=by rw [Int.tdiv_eq_ediv_of_nonneg (by omega)];omega
          go_wp2_with fail
          exact ⟨⟨j+1,by omega,rfl,Lib.hid (hset1.out _ (or_rng _ _))⟩,by simp [intOf];omega⟩
       ·have djl:decide ((j:Int) < (m:Int)) = false:=decide_eq_false (by omega)
        obtain ⟨z,ez0,ez1⟩:=vset_of hA hBz
        have bo6:Below w6.heap.size w6 wr:=hI9.out.bel.trans (hbel.mono hI9.out.bel.size)
        have F1:=Lib.hid fun (W:World) (hW:Ext wr W)=>And.intro (hW.cell k0) (hW.cell k1)
        have qe1:=fun (W:World) (hW:Ext wr W)=>((hStS.out.below bo6).below hW.below).eval z
        have qe2:=fun (W:World) (hW:Ext wr W)=>((hStU.out.below bo6).below hW.below).eval z
        rw [ez0,ez1] at qe1 qe2
        obtain ⟨bv,hbv⟩:∃ bv,bv = φ (L.asg z):=⟨_,rfl⟩
        rw [←hbv] at qe1 qe2
        have hbb:(bv != bv) = false:=by cases bv <;> rfl
        replace hbv:=Lib.hid hbv
        replace qe1:=Lib.hid qe1
        replace qe2:=Lib.hid qe2
        clear hI ez0 ez1
        replace hbx:=Lib.hid hbx
        go_wp2_with fail
        (refine wp_region_held_drew (S:=(fun W=>Ext wr W)) (by kernel_rfl) ?_ (fun hHeld=>?_))
        ·exact (Ext.refl wr).drew
        (refine takeL (i:=0) (v:=?_) rfl (by kernel_rfl) (by kernel_rfl) (by kernel_rfl) (fun _ _ _ h=>h) (Or.inl ⟨by rfl,?_⟩) (by assumption) ?_)
        rotate_left
        ·(intro w hSw;(try dsimp only at hSw);go_simp;first | done | with_reducible rfl)
        (try simp only [Act.put,List.setIfInBounds_toArray,List.set_cons_zero,List.set_cons_succ])
        (refine takeL (i:=1) (v:=?_) rfl (by kernel_rfl) (by kernel_rfl) (by kernel_rfl) (fun _ _ _ h=>h) (Or.inl ⟨by rfl,?_⟩) (by assumption) ?_)
        rotate_left
        ·(intro w hSw;(try dsimp only at hSw);go_simp;first | done | with_reducible rfl)
        (try simp only [Act.put,List.setIfInBounds_toArray,List.set_cons_zero,List.set_cons_succ])
        (refine takeL (i:=2) (v:=?_) rfl (by kernel_rfl) (by kernel_rfl) (by kernel_rfl) (fun _ _ _ h=>h) (Or.inl ⟨by rfl,?_⟩) (by assumption) ?_)
        rotate_left
        ·(intro w hSw;(try dsimp only at hSw);(obtain ⟨f1,f2⟩:=F1.out w hSw);go_simp;first | done | with_reducible rfl)
        (try simp only [Act.put,List.setIfInBounds_toArray,List.set_cons_zero,List.set_cons_succ])
        (refine takeL (i:=4) (v:=?_) rfl (by kernel_rfl) (by kernel_rfl) (by kernel_rfl) (fun _ _ _ h=>h) (Or.inl ⟨by rfl,?_⟩) (by assumption) ?_)
        rotate_left
        ·(intro w hSw;(try dsimp only at hSw);go_simp;first | done | with_reducible rfl)
        (try simp only [Act.put,List.setIfInBounds_toArray,List.set_cons_zero,List.set_cons_succ])
        (refine takeL (i:=5) (v:=?_) rfl (by kernel_rfl) (by kernel_rfl) (by kernel_rfl) (fun _ _ _ h=>h) (Or.inl ⟨by rfl,?_⟩) (by assumption) ?_)
        rotate_left
        ·(intro w hSw;(try dsimp only at hSw);go_simp;first | done | with_reducible rfl)
        (try simp only [Act.put,List.setIfInBounds_toArray,List.set_cons_zero,List.set_cons_succ])
        (refine takeL (i:=6) (v:=?_) rfl (by kernel_rfl) (by kernel_rfl) (by kernel_rfl) (fun _ _ _ h=>h) (Or.inl ⟨by rfl,?_⟩) (by assumption) ?_)
        rotate_left
        ·(intro w hSw;(try dsimp only at hSw);(obtain ⟨f1,f2⟩:=F1.out w hSw);go_simp;first | done | with_reducible rfl)
        (try simp only [Act.put,List.setIfInBounds_toArray,List.set_cons_zero,List.set_cons_succ])
        (refine wpAnyH_ready (rs:=[3]) (by kernel_rfl) (by simp) ?_)
        (refine consL rfl (fun K hK=>?_))
        ((rw [if_pos (by rfl)]);go_simp;(go_at_call 34);refine (qe1.out _ hHeld).mono ?_;rintro e w3 ⟨rfl,hx3⟩;refine hK.out _ _ (hHeld.trans hx3) (fun hHeld=>?_))
        (clear hK K)
        (try simp only [Act.put,List.setIfInBounds_toArray,List.set_cons_zero,List.set_cons_succ])
        (refine wpAnyH_ready (rs:=[7]) (by kernel_rfl) (by simp) ?_)
        (refine consL rfl (fun K hK=>?_))
        ((rw [if_pos (by rfl)]);go_simp;(go_at_call 34);refine (qe2.out _ hHeld).mono ?_;rintro e w7 ⟨rfl,hx7⟩;refine hK.out _ _ (hHeld.trans hx7) (fun hHeld=>?_))
        (clear hK K)
        (try simp only [Act.put,List.setIfInBounds_toArray,List.set_cons_zero,List.set_cons_succ])
        (refine takeL (i:=8) (v:=?_) rfl (by kernel_rfl) (by kernel_rfl) (by kernel_rfl) (fun _ _ _ h=>h) (Or.inl ⟨by rfl,?_⟩) (by assumption) ?_)
        rotate_left
        ·(intro w hSw;(try dsimp only at hSw);go_simp;first | done | with_reducible rfl)
        (try simp only [Act.put,List.setIfInBounds_toArray,List.set_cons_zero,List.set_cons_succ])
        (refine wpAnyH_done (by kernel_rfl) ?_ _)
        have hnext:Hid (Below wo.heap.size wo w7):=Lib.hid (hbel.trans (hHeld.below.mono hbel.size))
        clear F1 qe1 qe2
        go_wp2_with fail
        exact ⟨⟨kk+1,by omega,rfl,hnext⟩,by simp [intOf];omega⟩
     ·have dkl:decide ((kk:Int) < (N:Int)) = false:=decide_eq_false (by omega)
      have bo6:Below w6.heap.size w6 wr:=hI9.out.bel.trans (hI.out.mono hI9.out.bel.size)
      have bwr:=b6.trans (bo6.mono b6.size)
      have qa:=lsize_any (hStU.out.below bo6) hok4.sbl hok4.root
      have qb:=fun W (hb:Below wr.heap.size wr W)=>lsize_any ((hStS.out.below bo6).below hb) hsb hIT
      have hle:=hlen.out
      rw [←hm4.out] at hle
      have hsm:=StOn.small (hStS.out.below bo6) hsb hIT
      generalize L.sizeTr E.1 l (L.tabO l φ) = sE at *
      generalize L.sizeTr T l (L.tabO l φ) = sT at *
      have hle':(sE:Int)≤(sT:Int) - (m4:Int):=by omega
      have dle:decide ((sE:Int)≤(sT:Int) - (m4:Int)) = true:=decide_eq_true (by omega)
      replace qb:=Lib.hid qb
      go_wp2_with fail
      refine qa.mono ?_
      rintro e w7 ⟨rfl,hb7⟩
      have qb':=qb.out w7 hb7
      have b7:=bwr.trans (hb7.mono bwr.size)
      clear qa
      go_wp2_with fail
      refine qb'.mono ?_
      rintro e w8 ⟨rfl,hb8⟩
      have b8:=b7.trans (hb8.mono b7.size)
      have q:=hw.out w8 b8
      clear qb'
      go_wp2_with fail
      refine q.mono ?_
      rintro e w9 ⟨rfl,hb9⟩
      go_wp2_with fail
      go_ret
      exact ⟨rfl,b8.trans (hb9.mono b8.size)⟩
end Go.Proofs.YtemnmcfmabamcaaGreatDoor
