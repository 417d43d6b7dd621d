import Derived.Test.YtmnjakejhbpkoaaGreatDoorWNew
set_option linter.unusedSimpArgs false
set_option linter.unusedVariables false
namespace Go.Proofs.YtmnjakejhbpkoaaGreatDoor
open Go Go.RowKit Go.Shelf
def incF (f:Nat→Nat) (i:Nat):Nat→Nat:=fun j=>if j = i then f j+1 else f j
def badR (i:Nat) (x:VN):Bool:=decide (x.var≠0) || decide (x.left < 0) || decide ((i:Int)≤x.left) || decide (x.right < 0) || decide ((i:Int)≤x.right) || decide (x.left = x.right)
def stepR (i:Nat) (x:VN) (c:(Nat→Nat) × (Nat→Bool)):Option ((Nat→Nat) × (Nat→Bool)) :=
 if leafB x = true then (if c.2 x.var.toNat = true then none else some (c.1,setB c.2 x.var.toNat))
 else if badR i x = true then none else some (incF (incF c.1 x.left.toNat) x.right.toNat,c.2)
def runR:List VN→Nat→((Nat→Nat) × (Nat→Bool))→Option ((Nat→Nat) × (Nat→Bool))
 | [],_,c=>some c
 | x :: r,i,c=>match stepR i x c with
   | none=>none
   | some c'=>runR r (i+1) c'
def endR (n:Nat):Option ((Nat→Nat) × (Nat→Bool))→Int
 | none=>1
 | some c=>if (List.range (n - 1)).all (fun j=>decide (c.1 j = 1)) = true then 0 else 1
def refF (t:List VN):Int:=if t.length = 0 then 1 else endR t.length (runR t 0 (fun _=>0,fun _=>false))
def CntAt (w:World) (b:Nat) (n:Nat) (f:Nat→Nat):Prop:=∃ c,w.heap[b]? = some (.cells c 3 (0,0))∧c.size = n∧∀ j,j < n→c[j]? = some (.int .i64 (f j:Nat))
theorem CntAt.cell {w:World} {b n:Nat} {f:Nat→Nat} (h:CntAt w b n f) {j:Nat} (hj:j < n):w.cell? ⟨b,j,none⟩ = some (.int .i64 (f j:Nat))∧w.frozen? ⟨b,j,none⟩ = false:=by
 obtain ⟨c,h1,h2,h3⟩:=h
 simp [World.cell?,World.frozen?,h1,h3 j hj]
theorem CntAt.same {w w':World} {b n:Nat} {f:Nat→Nat} (h:CntAt w b n f) (hs:w'.heap[b]? = w.heap[b]?):CntAt w' b n f:=by
 obtain ⟨c,h1,h2,h3⟩:=h
 exact ⟨c,hs.trans h1,h2,h3⟩
theorem CntAt.lt {w:World} {b n:Nat} {f:Nat→Nat} (h:CntAt w b n f):b < w.heap.size:=by
 obtain ⟨c,h1,h2,h3⟩:=h
 exact (Array.getElem?_eq_some_iff.1 h1).1
theorem CntAt.ext {w w':World} {b n:Nat} {f:Nat→Nat} (h:CntAt w b n f) (hs:Ext w w'):CntAt w' b n f:=h.same (hs.below.block b h.lt)
theorem CntAt.inc {w:World} {b n:Nat} {f:Nat→Nat} (h:CntAt w b n f) (i:Nat) (z:Int) (hz:z = (f i+1:Nat)):CntAt (w.setCell ⟨b,i,none⟩ (.int .i64 z)) b n (incF f i):=by
 obtain ⟨c,h1,h2,h3⟩:=h
 subst hz
 refine ⟨_,heap_set h1 i _,by simpa using h2,fun j hj=>?_⟩
 rw [Array.getElem?_setIfInBounds]
 by_cases hij:i = j
 ·subst hij
  rw [if_pos rfl,if_pos (by omega)]
  simp [incF]
 ·rw [if_neg hij,h3 j hj]
  simp [incF,Ne.symm hij]
theorem CntAt.other {w:World} {b n:Nat} {f:Nat→Nat} (h:CntAt w b n f) {b':Nat} (hb:b≠b') (i:Nat) (v:Value):CntAt (w.setCell ⟨b',i,none⟩ v) b n f :=
 h.same (Below.heap_setCell _ _ _ b hb)
theorem cntNew (w:World) (n:Nat) (ad:Nat) (ha:ad = w.heap.size):CntAt (w.alloc (.cells (madeCells #[.int .i64 0] n) 3)) ad n (fun _=>0):=by
 refine ⟨_,heap_new_at w _ ad ha,by simp [madeCells],fun j hj=>?_⟩
 simp [madeCells,hj,Nat.mod_one]
set_option maxRecDepth 100000 in
set_option maxHeartbeats 1000000 in
theorem refLeaf_any (x:VN) (w:World):Calls Tryz.prog 147 #[.agg #[.int .i64 x.left,.int .i64 x.right,.int .i64 x.var]] w fun e w'=>e = .returned (.bool (leafB x))∧Ext w w':=by
 obtain ⟨l,r,v⟩:=x
 show Calls Tryz.prog 147 #[.agg #[.int .i64 l,.int .i64 r,.int .i64 v]] w fun e w'=>e = .returned (.bool (leafB ⟨l,r,v⟩))∧Ext w w'
 have hbox:=heap_alloc_new w (.cells #[.int .i64 l,.int .i64 r,.int .i64 v] 106)
 have hx0:Ext w (w.alloc (.cells #[.int .i64 l,.int .i64 r,.int .i64 v] 106)):=(Ext.refl w).alloc _
 obtain ⟨b0,b1,b2⟩:=box3 hbox
 have hl:leafB ⟨l,r,v⟩ = (decide (l = -1) && decide (r = -1) && (decide (1≤v) && decide (v≤128))):=rfl
 by_cases h1:l = -1
 ·by_cases h2:r = -1
  ·by_cases h3:1≤v
   ·by_cases h4:v≤128
    ·have hf:Hid (leafB ⟨l,r,v⟩ = true):=Lib.hid (by rw [hl];simp [h1,h2,h3,h4])
     have d1:((l:Int) == -1) = true:=by simp [h1]
     have d2:((r:Int) == -1) = true:=by simp [h2]
     have d3:decide (v≥1) = true:=decide_eq_true h3
     have d4:decide (v≤128) = true:=decide_eq_true h4
     clear hl h1 h2 hbox
     go_enter Tryz.func147,Tryz.ntmps147
     go_wp2_with fail
     go_ret
     exact ⟨by rw [hf.out] <;> rfl,hx0⟩
    ·have hf:Hid (leafB ⟨l,r,v⟩ = false):=Lib.hid (by rw [hl];simp [h4])
     have d1:((l:Int) == -1) = true:=by simp [h1]
     have d2:((r:Int) == -1) = true:=by simp [h2]
     have d3:decide (v≥1) = true:=decide_eq_true h3
     have d4:decide (v≤128) = false:=decide_eq_false h4
     clear hl h1 h2 hbox
     go_enter Tryz.func147,Tryz.ntmps147
     go_wp2_with fail
     go_ret
     exact ⟨by rw [hf.out] <;> rfl,hx0⟩
   ·have hf:Hid (leafB ⟨l,r,v⟩ = false):=Lib.hid (by rw [hl];simp [h3])
    have d1:((l:Int) == -1) = true:=by simp [h1]
    have d2:((r:Int) == -1) = true:=by simp [h2]
    have d3:decide (v≥1) = false:=decide_eq_false h3
    clear hl h1 h2 hbox
    go_enter Tryz.func147,Tryz.ntmps147
    go_wp2_with fail
    go_ret
    exact ⟨by rw [hf.out] <;> rfl,hx0⟩
  ·have hf:Hid (leafB ⟨l,r,v⟩ = false):=Lib.hid (by rw [hl];simp [h2])
   have d1:((l:Int) == -1) = true:=by simp [h1]
   have d2:((r:Int) == -1) = false:=by simp [h2]
   clear hl h1 hbox
   go_enter Tryz.func147,Tryz.ntmps147
   go_wp2_with fail
   go_ret
   exact ⟨by rw [hf.out] <;> rfl,hx0⟩
 ·have hf:Hid (leafB ⟨l,r,v⟩ = false):=Lib.hid (by rw [hl];simp [h1])
  have d1:((l:Int) == -1) = false:=by simp [h1]
  clear hl hbox
  go_enter Tryz.func147,Tryz.ntmps147
  go_wp2_with fail
  go_ret
  exact ⟨by rw [hf.out] <;> rfl,hx0⟩
def RefLoop (w:World) (bp bs:Nat) (t:List VN) (R:Option ((Nat→Nat) × (Nat→Bool))) (k:Nat) (wr:World):Prop :=
 ∃ c:(Nat→Nat) × (Nat→Bool),Ext w wr∧CntAt wr bp t.length c.1∧BoolsAt wr bs 195 129 c.2∧runR (t.drop k) k c = R∧∀ j,c.1 j≤2 * k
end Go.Proofs.YtmnjakejhbpkoaaGreatDoor
namespace Go.Proofs.YtmnjakejhbpkoaaGreatDoor
open Go Go.RowKit Go.Shelf
theorem run_badR {i:Nat} {x:VN} {r:List VN} {c:(Nat→Nat) × (Nat→Bool)} (hl:leafB x = false) (hb:badR i x = true):runR (x :: r) i c = none:=by
 unfold runR stepR
 simp [hl,hb]
theorem run_innerR {i:Nat} {x:VN} {r:List VN} {c:(Nat→Nat) × (Nat→Bool)} (hl:leafB x = false) (hb:badR i x = false):runR (x :: r) i c = runR r (i+1) (incF (incF c.1 x.left.toNat) x.right.toNat,c.2):=by
 rw [runR,stepR]
 simp [hl,hb]
theorem run_leafR {i:Nat} {x:VN} {r:List VN} {c:(Nat→Nat) × (Nat→Bool)} (hl:leafB x = true) (hs:c.2 x.var.toNat = false):runR (x :: r) i c = runR r (i+1) (c.1,setB c.2 x.var.toNat):=by
 rw [runR,stepR]
 simp [hl,hs]
theorem run_seenR {i:Nat} {x:VN} {r:List VN} {c:(Nat→Nat) × (Nat→Bool)} (hl:leafB x = true) (hs:c.2 x.var.toNat = true):runR (x :: r) i c = none:=by
 unfold runR stepR
 simp [hl,hs]
set_option maxRecDepth 100000 in
theorem refchk_nil (w:World) (ba:Option Addr) (cap:Nat):Calls Tryz.prog 77 #[.slice ba 0 cap] w fun e w'=>e = .returned (.int .i64 1)∧Ext w w':=by
 go_enter Tryz.func77,Tryz.ntmps77
 go_wp2_with fail
 go_ret
 exact ⟨rfl,Ext.refl w⟩
set_option maxRecDepth 100000 in
set_option maxHeartbeats 8000000 in
theorem refchk_run {t:List VN} (w:World) (b o cap:Nat) (h:TreeAt w b o t) (hl0:0 < t.length) (hl1:t.length≤5864062014805) :
  Calls Tryz.prog 77 #[.slice (some ⟨b,o,none⟩) t.length cap] w fun e w'=>e = .returned (.int .i64 (refF t))∧Ext w w':=by
 have hmk:∀ w:World,(Instr.makeSlice 45 (.int .i64 t.length) (.int .i64 t.length)).run Tryz.prog w = .ok (.slice (some ⟨w.heap.size,0,none⟩) t.length t.length) (w.alloc (.cells (madeCells #[.int .i64 0] t.length) 3)) :=
  fun w=>run_make_row' (P:=Tryz.prog) 45 3 (.int .i64 0) 8 Tryz.underlying45 info_int rfl .i64 .i64 t.length (by omega) (by omega) w
 have h1:((t.length:Int) == 0) = false:=by simp;intro e;simp [e] at hl0
 obtain ⟨R,hR⟩:∃ R,runR t 0 (fun _=>0,fun _=>false) = R:=⟨_,rfl⟩
 have hck:Hid (refF t = endR t.length R):=Lib.hid (by
   unfold refF
   rw [if_neg (by omega),hR])
 go_enter Tryz.func77,Tryz.ntmps77
 go_wp2_with fail
 have hc0:=(cntNew w t.length w.heap.size rfl).ext ((Ext.refl _).alloc (.cells Tryz.zeroCells195 195))
 have hs0:=boolsNew (w.alloc (.cells (madeCells #[.int .i64 0] t.length) 3)) _ 195 129 zeros129 (w.heap.size+1) (by simp)
 have hx0:Ext w ((w.alloc (.cells (madeCells #[.int .i64 0] t.length) 3)).alloc (.cells Tryz.zeroCells195 195)):=((Ext.refl w).alloc _).alloc _
 have hloop0:Hid (RefLoop w w.heap.size (w.heap.size+1) t R 0 ((w.alloc (.cells (madeCells #[.int .i64 0] t.length) 3)).alloc (.cells Tryz.zeroCells195 195))):=Lib.hid ⟨_,hx0,hc0,hs0,hR,fun _=>Nat.le_refl _⟩
 clear hs0 hc0 hR
 generalize (w.alloc (.cells (madeCells #[.int .i64 0] t.length) 3)).alloc (.cells Tryz.zeroCells195 195) = w0 at *
 go_loopw [5] (fun i wr=>∃ k:Nat,k≤t.length∧i = .int .i64 k∧Hid (RefLoop w w.heap.size (w.heap.size+1) t R k wr))
  (fun i _=>t.length - (intOf i).toNat)
 case atStart=>exact ⟨0,Nat.zero_le _,rfl,hloop0⟩
 case round =>
  clear hloop0
  obtain ⟨k,hk,rfl,hI⟩:=hrel
  obtain ⟨c,hX,hC,hS,hrun,hcb⟩:=hI.out
  clear hI
  by_cases hlt:k < t.length
  ·obtain ⟨n0,n1,n2⟩:=(h.ext hX).node hlt
   rw [List.drop_eq_getElem_cons hlt] at hrun
   generalize t[k] = x at *
   obtain ⟨xl,xr,xv⟩:=x
   simp only at n0 n1 n2
   have hbox:=heap_alloc_new wr (.cells #[.int .i64 xl,.int .i64 xr,.int .i64 xv] 106)
   have hx1:Ext wr (wr.alloc (.cells #[.int .i64 xl,.int .i64 xr,.int .i64 xv] 106)):=(Ext.refl wr).alloc _
   have hwl:=hX.size
   have hwb:=hS.lt
   replace hrun:=Lib.hid hrun
   replace hS:=Lib.hid hS
   replace hC:=Lib.hid hC
   replace hbox:=Lib.hid hbox
   replace hx1:=Lib.hid hx1
   replace hcb:=Lib.hid hcb
   go_wp2_with fail
   generalize wr.alloc (.cells #[.int .i64 xl,.int .i64 xr,.int .i64 xv] 106) = w1 at *
   obtain ⟨b0,b1,b2⟩:=box3 hbox.out
   try go_wp2_with fail
   refine (refLeaf_any ⟨xl,xr,xv⟩ w1).mono ?_
   rintro e w2 ⟨rfl,hx2⟩
   have hx12:=hx1.out.trans hx2
   have c0:=hx2.cell b0
   have c1:=hx2.cell b1
   have c2:=hx2.cell b2
   have hS2:=Lib.hid (hS.out.ext hx12)
   have hC2:=Lib.hid (hC.out.ext hx12)
   have hX2:=Lib.hid (hX.trans hx12)
   have hbx2:=(hx2.below.block _ (Array.getElem?_eq_some_iff.1 hbox.out).1).trans hbox.out
   replace hbx2:=Lib.hid hbx2
   clear b0 b1 b2 n0 n1 n2 hS hC hX
   cases hlf:leafB ⟨xl,xr,xv⟩
   ·cases hbad:badR k ⟨xl,xr,xv⟩
    ·have hb:=hbad
     simp only [badR,Bool.or_eq_false_iff,decide_eq_false_iff_not] at hb
     obtain ⟨⟨⟨⟨⟨hv,hb1⟩,hb2⟩,hb3⟩,hb4⟩,hb5⟩:=hb
     have hrun2:Hid (runR (t.drop (k+1)) (k+1) (incF (incF c.1 xl.toNat) xr.toNat,c.2) = R):=Lib.hid (by rw [←hrun.out,run_innerR hlf hbad])
     obtain ⟨ln,rfl⟩:∃ n:Nat,xl = n:=⟨xl.toNat,by omega⟩
     obtain ⟨rn,rfl⟩:∃ n:Nat,xr = n:=⟨xr.toNat,by omega⟩
     have d0:((xv:Int) != 0) = false:=by simpa using hv
     have d1:decide ((ln:Int) < 0) = false:=decide_eq_false hb1
     have d2:decide ((ln:Int)≥k) = false:=decide_eq_false (by omega)
     have d3:decide ((rn:Int) < 0) = false:=decide_eq_false hb3
     have d4:decide ((rn:Int)≥k) = false:=decide_eq_false (by omega)
     have d5:((ln:Int) == rn) = false:=by simpa using hb5
     have hlr:ln≠rn:=fun e=>hb5 (by rw [e])
     have d6:decide (k≤ln) = false:=decide_eq_false (by omega)
     have d7:decide (k≤rn) = false:=decide_eq_false (by omega)
     have d8:(ln == rn) = false:=by simpa using hlr
     have g1:(0:Int)≤ln:=by omega
     have g2:(ln:Int) < t.length:=by omega
     have g3:(0:Int)≤rn:=by omega
     have g4:(rn:Int) < t.length:=by omega
     obtain ⟨s1,s2⟩:=hC2.out.cell (j:=ln) (by omega)
     have q1:=hcb.out ln
     have q2:=hcb.out rn
     have hCa:=hC2.out.inc ln ((c.1 ln:Nat)+1) (by omega)
     obtain ⟨s3,s4⟩:=hCa.cell (j:=rn) (by omega)
     have hinc:incF c.1 ln rn = c.1 rn:=by simp [incF,Ne.symm hlr]
     rw [hinc] at s3
     have hCb:=hCa.inc rn ((c.1 rn:Nat)+1) (by rw [hinc];omega)
     have hne:wr.heap.size≠w.heap.size:=by omega
     have hbx3:=(Below.heap_setCell w2 ⟨w.heap.size,ln,none⟩ (.int .i64 ((c.1 ln:Nat)+1)) wr.heap.size hne).trans hbx2.out
     obtain ⟨e0,e1,e2⟩:=box3 hbx3
     have hX3:=(hX2.out.setCell (Nat.le_refl _) (p:=⟨w.heap.size,ln,none⟩) (.int .i64 ((c.1 ln:Nat)+1))).setCell (Nat.le_refl _) (p:=⟨w.heap.size,rn,none⟩) (.int .i64 ((c.1 rn:Nat)+1))
     have hS3:=(hS2.out.other (b':=w.heap.size) (by omega) ln (.int .i64 ((c.1 ln:Nat)+1))).other (b':=w.heap.size) (by omega) rn (.int .i64 ((c.1 rn:Nat)+1))
     have hcb3:∀ j,(incF (incF c.1 ln) rn) j≤2 * (k+1):=fun j=>by
      have:=hcb.out j
      simp only [incF]
      split <;> split <;> omega
     have hnext:Hid (RefLoop w w.heap.size (w.heap.size+1) t R (k+1) ((w2.setCell ⟨w.heap.size,ln,none⟩ (.int .i64 ((c.1 ln:Nat)+1))).setCell ⟨w.heap.size,rn,none⟩ (.int .i64 ((c.1 rn:Nat)+1)))):=Lib.hid
      ⟨(incF (incF c.1 ln) rn,c.2),hX3,hCb,hS3,hrun2.out,hcb3⟩
     clear hX3 hS3 hcb3 hCa hCb hbx3 hinc hrun hbad hb1 hb2 hb3 hb4 hb5 hv
     generalize c.1 ln = cl at *
     generalize c.1 rn = cr at *
     go_wp2_with fail
     go_roundw
     case rel=>exact ⟨k+1,by omega,by go_num,hnext⟩
     case measure=>simp [intOf];omega
    ·have hRn:Hid (R = none):=Lib.hid (by rw [←hrun.out,run_badR hlf hbad])
     have fin:Hid (∀ w':World,Ext w w'→(Ending.returned (.int .i64 1) = Ending.returned (.int .i64 (refF t))∧Ext w w')):=Lib.hid (fun w' hx=>⟨by rw [hck.out,hRn.out];rfl,hx⟩)
     have hb:xv≠0∨xl < 0∨(k:Int)≤xl∨xr < 0∨(k:Int)≤xr∨xl = xr:=by
      simp only [badR,Bool.or_eq_true,decide_eq_true_eq] at hbad
      omega
     clear hbad hrun
     by_cases hv:xv = 0
     ·have d0:((xv:Int) != 0) = false:=by simp [hv]
      replace hv:=Lib.hid hv
      by_cases h1':xl < 0
      ·have d1:decide (xl < 0) = true:=decide_eq_true h1'
       go_wp2_with fail
       go_ret
       exact fin.out _ hX2.out
      ·obtain ⟨ln,rfl⟩:∃ n:Nat,xl = n:=⟨xl.toNat,by omega⟩
       have d1:decide ((ln:Int) < 0) = false:=decide_eq_false h1'
       by_cases h2':(k:Int)≤ln
       ·have d2:decide ((ln:Int)≥k) = true:=decide_eq_true h2'
        have d6:decide (k≤ln) = true:=decide_eq_true (by omega)
        go_wp2_with fail
        go_ret
        exact fin.out _ hX2.out
       ·have d2:decide ((ln:Int)≥k) = false:=decide_eq_false (by omega)
        have d6:decide (k≤ln) = false:=decide_eq_false (by omega)
        by_cases h3':xr < 0
        ·have d3:decide (xr < 0) = true:=decide_eq_true h3'
         go_wp2_with fail
         go_ret
         exact fin.out _ hX2.out
        ·obtain ⟨rn,rfl⟩:∃ n:Nat,xr = n:=⟨xr.toNat,by omega⟩
         have d3:decide ((rn:Int) < 0) = false:=decide_eq_false h3'
         by_cases h4':(k:Int)≤rn
         ·have d4:decide ((rn:Int)≥k) = true:=decide_eq_true h4'
          have d7:decide (k≤rn) = true:=decide_eq_true (by omega)
          go_wp2_with fail
          go_ret
          exact fin.out _ hX2.out
         ·have d4:decide ((rn:Int)≥k) = false:=decide_eq_false (by omega)
          have d7:decide (k≤rn) = false:=decide_eq_false (by omega)
          have hlr:ln = rn:=by have:=hv.out;omega
          have d5:((ln:Int) == rn) = true:=by simp [hlr]
          have d8:(ln == rn) = true:=by simp [hlr]
          replace hlr:=Lib.hid hlr
          go_wp2_with fail
          go_ret
          exact fin.out _ hX2.out
     ·have d0:((xv:Int) != 0) = true:=by simpa using hv
      go_wp2_with fail
      go_ret
      exact fin.out _ hX2.out
   ·have hv:=hlf
    simp only [leafB,Bool.and_eq_true,decide_eq_true_eq] at hv
    obtain ⟨_,hv1,hv2⟩:=hv
    obtain ⟨vn,rfl⟩:∃ n:Nat,xv = n:=⟨xv.toNat,by omega⟩
    obtain ⟨s1,s2⟩:=hS2.out.cell (j:=vn) (by omega)
    have g1:(0:Int)≤vn:=by omega
    have g2:(vn:Int) < 129:=by omega
    cases hsv:c.2 vn
    ·rw [hsv] at s1
     have hrun2:Hid (runR (t.drop (k+1)) (k+1) (c.1,setB c.2 vn) = R):=Lib.hid (by rw [←hrun.out,run_leafR hlf (by simpa using hsv)];simp)
     go_wp2_with fail
     go_roundw
     case rel=>exact ⟨k+1,by omega,by go_num,Lib.hid ⟨(c.1,setB c.2 vn),hX2.out.setCell (by simp) _,hC2.out.other (by simp) _ _,hS2.out.set vn,hrun2.out,fun j=>by have:=hcb.out j;show c.1 j≤2 * (k+1);omega⟩⟩
     case measure=>simp [intOf];omega
    ·rw [hsv] at s1
     have hRn:Hid (R = none):=Lib.hid (by rw [←hrun.out,run_seenR hlf (by simpa using hsv)])
     go_wp2_with fail
     go_ret
     exact ⟨by rw [hck.out,hRn.out];rfl,hX2.out⟩
  ·obtain rfl:k = t.length:=by omega
   have hRs:R = some c:=by rw [←hrun,List.drop_length];rfl
   obtain ⟨n',hn'⟩:∃ n',t.length = n'+1:=⟨t.length - 1,by omega⟩
   have hsub:IntKind.i64.wrap ((t.length:Int) - 1) = (n':Int):=by rw [hn'];rw [IntWalk.i64_in _ (by omega)];omega
   have hsub2:((t.length:Int) - 1) = (n':Int):=by rw [hn'];omega
   replace hS:=Lib.hid hS
   replace hC:=Lib.hid hC
   replace hcb:=Lib.hid hcb
   replace hRs:=Lib.hid hRs
   have hend:Hid (refF t = if (List.range n').all (fun j=>decide (c.1 j = 1)) = true then 0 else 1):=Lib.hid (by rw [hck.out,hRs.out];simp only [endR];rw [hn'];rfl)
   clear hrun
   replace hn':=Lib.hid hn'
   replace hsub2:=Lib.hid hsub2
   replace hsub:=Lib.hid hsub
   go_wp2_with fail
   go_loopw [7] (fun i wi=>∃ k:Nat,k≤t.length∧i = .int .i64 k∧wi = wr∧Hid (∀ j,j < k→j < n'→c.1 j = 1))
    (fun i _=>t.length - (intOf i).toNat)
   case atStart=>exact ⟨0,Nat.zero_le _,rfl,rfl,Lib.hid (fun j hj=>absurd hj (Nat.not_lt_zero _))⟩
   case round =>
    obtain ⟨k,hk,rfl,rfl,hall⟩:=hrel
    by_cases hlt:k < t.length
    ·obtain ⟨s1,s2⟩:=hC.out.cell (j:=k) hlt
     have q1:(0:Int)≤k:=by omega
     have q2:(k:Int) < t.length:=by omega
     by_cases hkn:k < n'
     ·have dk:decide ((k:Int) < (t.length:Int) - 1) = true:=decide_eq_true (by have:=hn'.out;omega)
      by_cases hc1:c.1 k = 1
      ·have dc:(((c.1 k:Nat):Int) != 1) = false:=by simp [hc1]
       have hnext:Hid (∀ j,j < k+1→j < n'→c.1 j = 1):=Lib.hid (fun j hj hjn=>by
        by_cases hjk:j = k
        ·rw [hjk];exact hc1
        ·exact hall.out j (by omega) hjn)
       clear hc1
       generalize c.1 k = ck at *
       go_wp2_with fail
       go_roundw
       case rel=>exact ⟨k+1,by omega,by go_num,by first | rfl | trivial,hnext⟩
       case measure=>simp [intOf];omega
      ·have dc:(((c.1 k:Nat):Int) != 1) = true:=by simp;omega
       have hf:Hid (refF t = 1):=Lib.hid (by
        rw [hend.out,if_neg (by
         intro hcc
         have:=List.all_eq_true.1 hcc k (List.mem_range.2 hkn)
         simp at this
         exact hc1 this)])
       clear hc1
       generalize c.1 k = ck at *
       go_wp2_with fail
       go_ret
       exact ⟨by rw [hf.out] <;> rfl,hX⟩
     ·have dk:decide ((k:Int) < (t.length:Int) - 1) = false:=decide_eq_false (by have:=hn'.out;omega)
      have hnext:Hid (∀ j,j < k+1→j < n'→c.1 j = 1):=Lib.hid (fun j hj hjn=>hall.out j (by omega) hjn)
      generalize c.1 k = ck at *
      go_wp2_with fail
      go_roundw
      case rel=>exact ⟨k+1,by omega,by go_num,by first | rfl | trivial,hnext⟩
      case measure=>simp [intOf];omega
    ·obtain rfl:k = t.length:=by omega
     have hf:Hid (refF t = 0):=Lib.hid (by
      rw [hend.out,if_pos (List.all_eq_true.2 fun j hj=>by
       have:=hall.out j (by have:=List.mem_range.1 hj;have:=hn'.out;omega) (List.mem_range.1 hj)
       simpa using this)])
     go_wp2_with fail
     go_ret
     exact ⟨by rw [hf.out] <;> rfl,hX⟩
end Go.Proofs.YtmnjakejhbpkoaaGreatDoor
namespace Go.Proofs.YtmnjakejhbpkoaaGreatDoor
open Go Go.RowKit Go.Shelf
theorem runR_cons {x:VN} {r:List VN} {i:Nat} {c c':(Nat→Nat) × (Nat→Bool)} (h:runR (x :: r) i c = some c'):∃ c1,stepR i x c = some c1∧runR r (i+1) c1 = some c':=by
 unfold runR at h
 split at h
 ·cases h
 ·rename_i c1 h1
  exact ⟨c1,h1,h⟩
theorem stepR_some {i:Nat} {x:VN} {c c1:(Nat→Nat) × (Nat→Bool)} (h:stepR i x c = some c1) :
  (leafB x = true∧c.2 x.var.toNat = false∧c1 = (c.1,setB c.2 x.var.toNat))∨(leafB x = false∧x.var = 0∧0≤x.left∧x.left < i∧0≤x.right∧x.right < i∧x.left≠x.right∧c1 = (incF (incF c.1 x.left.toNat) x.right.toNat,c.2)):=by
 unfold stepR at h
 split at h
 ·rename_i hl
  split at h
  ·cases h
  ·rename_i hs
   exact .inl ⟨hl,by simpa using hs,by simpa using h.symm⟩
 ·rename_i hl
  split at h
  ·cases h
  ·rename_i hb
   have hb:badR i x = false:=by simpa using hb
   simp only [badR,Bool.or_eq_false_iff,decide_eq_false_iff_not] at hb
   obtain ⟨⟨⟨⟨⟨h1,h2⟩,h3⟩,h4⟩,h5⟩,h6⟩:=hb
   exact .inr ⟨by simpa using hl,by omega,by omega,by omega,by omega,by omega,h6,by simpa using h.symm⟩
theorem incF_le (f:Nat→Nat) (i j:Nat):f j≤incF f i j:=by
 unfold incF;split <;> omega
theorem runR_mono:∀ (l:List VN) (i:Nat) (c c':(Nat→Nat) × (Nat→Bool)),runR l i c = some c'→∀ j,c.1 j≤c'.1 j
 | [],_,c,c',h,j=>by simp only [runR,Option.some.injEq] at h;rw [h];exact Nat.le_refl _
 | x :: r,i,c,c',h,j=>by
   obtain ⟨c1,h1,h2⟩:=runR_cons h
   refine Nat.le_trans ?_ (runR_mono r (i+1) c1 c' h2 j)
   rcases stepR_some h1 with ⟨_,_,rfl⟩ | ⟨_,_,_,_,_,_,_,rfl⟩
   ·exact Nat.le_refl _
   ·exact Nat.le_trans (incF_le _ _ _) (incF_le _ _ _)
def Agree (c:Nat→Nat) (ch:Nat→Bool):Prop:=∀ j,c j = if ch j then 1 else 0
theorem sim_none:∀ (l:List VN) (i:Nat) (c:(Nat→Nat) × (Nat→Bool)) (ch:Nat→Bool),Agree c.1 ch→runR l i c = none→runF l i (c.2,ch) = none
 | [],_,_,_,_,h=>by cases h
 | x :: r,i,c,ch,ha,h=>by
   unfold runF
   cases hs:stepF i x (c.2,ch) with
   | none=>rfl
   | some sc1 =>
     simp only
     unfold stepF at hs
     by_cases hl:leafB x = true
     ·rw [if_pos hl] at hs
      by_cases hse:c.2 x.var.toNat = true
      ·simp [hse] at hs
      ·have hse:c.2 x.var.toNat = false:=by simpa using hse
       rw [run_leafR hl hse] at h
       simp only [hse,Bool.false_eq_true,if_false,Option.some.injEq] at hs
       rw [←hs]
       exact sim_none r (i+1) (c.1,setB c.2 x.var.toNat) ch ha h
     ·rw [if_neg hl] at hs
      have hlf:leafB x = false:=by simpa using hl
      by_cases hv:x.var = 0
      ·simp only [hv,ne_eq,not_true_eq_false,if_false] at hs
       split at hs
       ·cases hs
       ·rename_i c1 hc1
        split at hs
        ·cases hs
        ·rename_i c2 hc2
         obtain ⟨a1,a2,a3,rfl⟩:=kidF_some hc1
         obtain ⟨b1,b2,b3,rfl⟩:=kidF_some hc2
         have hne:x.left≠x.right:=fun e=>by rw [e] at b3;simp [setB] at b3
         have hbad:badR i x = false:=by
          simp only [badR,Bool.or_eq_false_iff,decide_eq_false_iff_not]
          exact ⟨⟨⟨⟨⟨by simpa using hv,by omega⟩,by omega⟩,by omega⟩,by omega⟩,hne⟩
         rw [run_innerR hlf hbad] at h
         simp only [Option.some.injEq] at hs
         rw [←hs]
         refine sim_none r (i+1) (incF (incF c.1 x.left.toNat) x.right.toNat,c.2) _ (fun j=>?_) h
         have hlr:x.left.toNat≠x.right.toNat:=by omega
         have hb3:ch x.right.toNat = false:=by simpa [setB,Ne.symm hlr] using b3
         have h1:=ha j
         simp only [incF,setB]
         by_cases e1:j = x.right.toNat
         ·have e2:j≠x.left.toNat:=by omega
          rw [e1,hb3] at h1
          simp [e1,Ne.symm hlr,h1]
         ·by_cases e2:j = x.left.toNat
          ·rw [e2,a3] at h1
           simp [e2,hlr,h1]
          ·simp [e1,e2,h1]
      ·simp [hv] at hs
theorem sim_some:∀ (l:List VN) (i:Nat) (c c':(Nat→Nat) × (Nat→Bool)) (ch:Nat→Bool),Agree c.1 ch→runR l i c = some c' →
  (∃ ch',runF l i (c.2,ch) = some (c'.2,ch')∧Agree c'.1 ch')∨(runF l i (c.2,ch) = none∧∃ j,j+1 < i+l.length∧2≤c'.1 j)
 | [],_,c,c',ch,ha,h=>by
   simp only [runR,Option.some.injEq] at h
   exact .inl ⟨ch,by rw [←h];rfl,by rw [←h];exact ha⟩
 | x :: r,i,c,c',ch,ha,h=>by
   obtain ⟨c1,h1,h2⟩:=runR_cons h
   rcases stepR_some h1 with ⟨hl,hs,rfl⟩ | ⟨hl,hv,a1,a2,b1,b2,hne,rfl⟩
   ·have e:runF (x :: r) i (c.2,ch) = runF r (i+1) (setB c.2 x.var.toNat,ch):=by
     rw [runF,stepF]
     simp [hl,hs]
    rw [e]
    rcases sim_some r (i+1) (c.1,setB c.2 x.var.toNat) c' ch ha h2 with h3 | ⟨h3,j,h4,h5⟩
    ·exact .inl h3
    ·exact .inr ⟨h3,j,by simp;omega,h5⟩
   ·have hlr:x.left.toNat≠x.right.toNat:=by omega
    have hfn:¬ leafB x = true:=by rw [hl];exact Bool.false_ne_true
    by_cases d1:ch x.left.toNat = true
    ·refine .inr ⟨?_,x.left.toNat,by simp;omega,?_⟩
     ·rw [runF,stepF,if_neg hfn]
      simp [hv,kidF,d1]
     ·have:=runR_mono r (i+1) _ c' h2 x.left.toNat
      have hc:=ha x.left.toNat
      rw [d1] at hc
      simp [incF,hlr] at this hc
      omega
    ·have d1:ch x.left.toNat = false:=by simpa using d1
     by_cases d2:ch x.right.toNat = true
     ·refine .inr ⟨?_,x.right.toNat,by simp;omega,?_⟩
      ·rw [runF,stepF,if_neg hfn]
       simp only [hv,ne_eq,not_true_eq_false,if_false]
       have k1:kidF i x.left ch = some (setB ch x.left.toNat):=by unfold kidF;rw [if_neg (by rw [d1];simp;omega)]
       rw [k1]
       have k2:kidF i x.right (setB ch x.left.toNat) = none:=by unfold kidF;rw [if_pos (.inr (.inr (by simp [setB,Ne.symm hlr,d2])))]
       simp [k2]
      ·have:=runR_mono r (i+1) _ c' h2 x.right.toNat
       have hc:=ha x.right.toNat
       rw [d2] at hc
       simp [incF,Ne.symm hlr] at this hc
       omega
     ·have d2:ch x.right.toNat = false:=by simpa using d2
      have e:runF (x :: r) i (c.2,ch) = runF r (i+1) (c.2,setB (setB ch x.left.toNat) x.right.toNat):=by
       rw [runF,stepF,if_neg hfn]
       simp only [hv,ne_eq,not_true_eq_false,if_false]
       have k1:kidF i x.left ch = some (setB ch x.left.toNat):=by unfold kidF;rw [if_neg (by rw [d1];simp;omega)]
       have k2:kidF i x.right (setB ch x.left.toNat) = some (setB (setB ch x.left.toNat) x.right.toNat):=by unfold kidF;rw [if_neg (by simp [setB,Ne.symm hlr,d2];omega)]
       simp [k1,k2]
      rw [e]
      have ha2:Agree (incF (incF c.1 x.left.toNat) x.right.toNat) (setB (setB ch x.left.toNat) x.right.toNat):=fun j=>by
       have h1:=ha j
       simp only [incF,setB]
       by_cases e1:j = x.right.toNat
       ·rw [e1,d2] at h1
        simp [e1,Ne.symm hlr,h1]
       ·by_cases e2:j = x.left.toNat
        ·rw [e2,d1] at h1
         simp [e2,hlr,h1]
        ·simp [e1,e2,h1]
      rcases sim_some r (i+1) (incF (incF c.1 x.left.toNat) x.right.toNat,c.2) c' _ ha2 h2 with h3 | ⟨h3,j,h4,h5⟩
      ·exact .inl h3
      ·exact .inr ⟨h3,j,by simp;omega,h5⟩
def sumR (f:Nat→Nat):Nat→Nat
 | 0=>0
 | m+1=>sumR f m+f m
def cntR (s:Nat→Bool):Nat→Nat
 | 0=>0
 | m+1=>cntR s m+(if s (m+1) then 1 else 0)
theorem sumR_inc (f:Nat→Nat) (k:Nat):∀ m,sumR (incF f k) m = sumR f m+if k < m then 1 else 0
 | 0=>by simp [sumR]
 | m+1=>by
   simp only [sumR,sumR_inc f k m,incF]
   by_cases h1:k < m
   ·have:¬ m = k:=by omega
    simp [h1,this,show k < m+1 from by omega];omega
   ·by_cases h2:m = k
    ·simp [h2];omega
    ·simp [h1,h2,show ¬ k < m+1 from by omega]
theorem cntR_set (s:Nat→Bool) (v:Nat) (hv:s v = false):∀ m,cntR (setB s v) m = cntR s m+if 1≤v∧v≤m then 1 else 0
 | 0=>by
   have:¬ (1≤v∧v≤0):=by omega
   rw [if_neg this];rfl
 | m+1=>by
   simp only [cntR,cntR_set s v hv m,setB]
   by_cases h1:m+1 = v
   ·subst h1
    simp [hv]
   ·by_cases h2:1≤v∧v≤m
    ·have:1≤v∧v≤m+1:=by omega
     simp [h1,h2,this];omega
    ·have:¬ (1≤v∧v≤m+1):=by omega
     simp [h1,h2,this]
theorem cntR_le (s:Nat→Bool):∀ m,cntR s m≤m
 | 0=>Nat.le_refl _
 | m+1=>by have:=cntR_le s m;simp only [cntR];split <;> omega
theorem sumR_one (f:Nat→Nat):∀ m,(∀ j,j < m→f j = 1)→sumR f m = m
 | 0,_=>rfl
 | m+1,h=>by simp only [sumR,sumR_one f m (fun j hj=>h j (by omega)),h m (by omega)]
theorem runR_count:∀ (l:List VN) (i:Nat) (c c':(Nat→Nat) × (Nat→Bool)) (M:Nat),runR l i c = some c'→i+l.length≤M+1 →
  sumR c'.1 M+2 * cntR c'.2 128 = sumR c.1 M+2 * cntR c.2 128+2 * l.length
 | [],_,c,c',M,h,_=>by simp only [runR,Option.some.injEq] at h;rw [h];rfl
 | x :: r,i,c,c',M,h,hM=>by
   obtain ⟨c1,h1,h2⟩:=runR_cons h
   have hM2:i+1+r.length≤M+1:=by simp at hM;omega
   have ih:=runR_count r (i+1) c1 c' M h2 hM2
   rw [ih]
   rcases stepR_some h1 with ⟨hl,hs,rfl⟩ | ⟨hl,hv,a1,a2,b1,b2,hne,rfl⟩
   ·simp only [leafB,Bool.and_eq_true,decide_eq_true_eq] at hl
    rw [cntR_set _ _ hs,if_pos (by omega)]
    simp;omega
   ·simp only
    rw [sumR_inc,sumR_inc,if_pos (by simp at hM;omega),if_pos (by simp at hM;omega)]
    simp;omega
theorem ref_eq (t:List VN):refF t = checkF t:=by
 unfold refF checkF
 by_cases h0:t.length = 0
 ·rw [if_pos h0,if_pos (.inl h0)]
 ·rw [if_neg h0]
  have ha:Agree (fun _=>0) (fun _=>false):=fun j=>rfl
  by_cases h1:255 < t.length
  ·rw [if_pos (.inr h1)]
   cases hr:runR t 0 (fun _=>0,fun _=>false) with
   | none=>rfl
   | some c' =>
     simp only [endR]
     rw [if_neg]
     intro hall
     have hc:=runR_count t 0 _ c' (t.length - 1) hr (by omega)
     have hs:=sumR_one c'.1 (t.length - 1) (fun j hj=>by
      have:=List.all_eq_true.1 hall j (List.mem_range.2 hj)
      simpa using this)
     have hz:sumR (fun _=>0) (t.length - 1) = 0:=by
      generalize t.length - 1 = m
      induction m with
      | zero=>rfl
      | succ m ih=>simp [sumR,ih]
     have hz2:cntR (fun _=>false) 128 = 0:=by
      generalize (128:Nat) = m
      induction m with
      | zero=>rfl
      | succ m ih=>simp [cntR,ih]
     have hle:=cntR_le c'.2 128
     simp only [hs,hz,hz2] at hc
     omega
  ·rw [if_neg (by omega)]
   cases hr:runR t 0 (fun _=>0,fun _=>false) with
   | none=>rw [sim_none t 0 (fun _=>0,fun _=>false) (fun _=>false) ha hr];rfl
   | some c' =>
     rcases sim_some t 0 (fun _=>0,fun _=>false) c' (fun _=>false) ha hr with ⟨ch',h3,h4⟩ | ⟨h3,j,h4,h5⟩
     ·rw [h3]
      simp only [endR,endF]
      have:(List.range (t.length - 1)).all (fun j=>decide (c'.1 j = 1)) = (List.range (t.length - 1)).all ch':=by
       congr 1
       funext j
       rw [h4 j]
       cases ch' j <;> rfl
      rw [this]
     ·rw [h3]
      simp only [endR,endF]
      rw [if_neg]
      intro hall
      have:=List.all_eq_true.1 hall j (List.mem_range.2 (by omega))
      simp at this
      omega
theorem refchk_any {t:List VN} (w:World) (ba:Option Addr) (cap:Nat) (h:t = []∨∃ b o,ba = some ⟨b,o,none⟩∧TreeAt w b o t) (hl:t.length≤5864062014805) :
  Calls Tryz.prog 77 #[.slice ba t.length cap] w fun e w'=>e = .returned (.int .i64 (checkF t))∧Ext w w':=by
 rw [←ref_eq]
 by_cases h0:t = []
 ·subst h0
  exact refchk_nil w ba cap
 ·rcases h with h | ⟨b,o,rfl,ht⟩
  ·exact absurd h h0
  ·exact refchk_run w b o cap ht (List.length_pos_iff.2 h0) hl
end Go.Proofs.YtmnjakejhbpkoaaGreatDoor
