import Derived.Test.YtemnmcfmabamcaaGreatDoorXVnon
import Derived.Test.YtemnmcfmabamcaaGreatDoorXVb
import Derived.Laws.IdiomStrings
set_option linter.unusedSimpArgs false
set_option linter.unusedVariables false
namespace Go.Proofs.YtemnmcfmabamcaaGreatDoor
open Go Go.RowKit Go.Shelf
theorem chn_tr:∀ m,m < 4→TrOK (L.chnT m) (L.chnL m):=fun m hm=>by
 obtain rfl | rfl | rfl | rfl:m = 0∨m = 1∨m = 2∨m = 3:=by omega
 all_goals exact ⟨by decide,by decide,by decide,by decide,fun v=>by simp [L.chnT,L.chnL,L.Tr.vars,List.range_succ]⟩
theorem chn_tab:∀ m,m < 4→L.tabO (L.chnL m) (begφ (m+1)) = L.chnF m:=fun m hm=>by
 obtain rfl | rfl | rfl | rfl:m = 0∨m = 1∨m = 2∨m = 3:=by omega
 all_goals kernel_rfl
theorem chn_mem:∀ m,m < 4→∀ i,i < m+1→((i+1:Nat):Int)∈(L.chnT m).vars:=fun m hm i hi=>by
 obtain rfl | rfl | rfl | rfl:m = 0∨m = 1∨m = 2∨m = 3:=by omega
 all_goals
  simp only [L.chnT,L.Tr.vars,List.mem_append,List.mem_singleton]
  omega
def chS (m:Nat):ByteArray:=strB (L.prT (L.chnT m))
theorem chS0:chS 0 = ⟨#[49]⟩:=rfl
theorem chS1:chS 1 = ⟨#[40,49,32,50,41]⟩:=rfl
theorem chS2:chS 2 = ⟨#[40,40,49,32,50,41,32,51,41]⟩:=rfl
theorem chS3:chS 3 = ⟨#[40,40,40,49,32,50,41,32,51,41,32,52,41]⟩:=rfl
theorem one_byte (w:World) (x:UInt8):(convert 72 9 (.slice (some ⟨w.heap.size,0,none⟩) 1 1)).run Tryz.prog (w.alloc (.cells #[.int .u8 (x.toNat:Int)] 5)) = .ok (.string ⟨#[x]⟩) (w.alloc (.cells #[.int .u8 (x.toNat:Int)] 5)) :=
 run_convert_bytes_back (w.alloc (.cells #[.int .u8 (x.toNat:Int)] 5)) 72 9 5 ⟨w.heap.size,0,none⟩ 1 [x] Tryz.underlying72 Tryz.underlying5 Tryz.underlying9 (fun j hj=>by
  obtain rfl:j = 0:=by simpa using hj
  exact cell_one_at w _ _ _ rfl 0 _ rfl)
set_option maxRecDepth 100000 in
set_option maxHeartbeats 8000000 in
theorem vschain_any {n p:Nat} (w:World) (hT:TzTab w) (hP:PowTab w) (hn:n < 256) (hp:p < 256):Calls Tryz.prog 8 #[.int .u8 (n:Nat),.int .u8 (p:Nat)] w fun e w'=>e = .returned (.bool true)∧Below w.heap.size w w':=by
 have hw:∀ w',Below w.heap.size w w'→Calls Tryz.prog 12 #[] w' fun e w''=>e = .returned (.bool true)∧Below w'.heap.size w' w'':=fun w' hx=>works29_any w' (hT.same (hx.block _ hT.lt')) (hP.same (hx.block _ hP.lt))
 obtain ⟨m,hm⟩:∃ m,m = n % 4:=⟨_,rfl⟩
 obtain ⟨k,hk⟩:∃ k,k = p % 101:=⟨_,rfl⟩
 have hm4:m < 4:=by omega
 have hk101:k≤100:=by omega
 have em:(n:Int).tmod 4 = (m:Int):=by rw [Int.tmod_eq_emod_of_nonneg (by omega)];omega
 have ek:(p:Int).tmod 101 = (k:Int):=by rw [Int.tmod_eq_emod_of_nonneg (by omega)];omega
 have q1:=fun W (hb:Below w.heap.size w W)=>begun_any (n:=m+1) (w:=W) (chn_tr m hm4) (hT.same (hb.block _ hT.lt')) (hP.same (hb.block _ hP.lt)) (by omega) (chn_mem m hm4)
 replace hw:=Lib.hid hw
 replace q1:=Lib.hid q1
 replace hm:=Lib.hid hm
 replace hk:=Lib.hid hk
 have h0:Hid (Below w.heap.size w w):=Lib.hid (Below.refl _ _)
 go_enter Tryz.func8,Tryz.ntmps8
 go_wp2_with fail
 go_loopw [5,7] (fun tv iv wr=>∃ j:Nat,j≤m∧iv = .int .i64 ((j+2:Nat):Int)∧tv = .string (chS j)∧Hid (Below w.heap.size w wr)) (fun _ iv _=>m+2 - (intOf iv).toNat)
 case atStart=>exact ⟨0,by omega,rfl,rfl,h0⟩
 case round =>
  clear h0
  obtain ⟨j,hj,rfl,rfl,hI⟩:=hrel
  by_cases hlt:j < m
  ·have dlt:decide ((j:Int)+2≤1+(m:Int)) = true:=decide_eq_true (by omega)
   have dlt':(j:Int)+2≤1+(m:Int):=by omega
   obtain rfl | rfl | rfl:j = 0∨j = 1∨j = 2:=by omega
   ·rw [chS0]
    have hcv:(convert 72 9 (.slice (some ⟨wr.heap.size,0,none⟩) 1 1)).run Tryz.prog (wr.alloc (.cells #[.int .u8 50] 5)) = .ok (.string ⟨#[50]⟩) (wr.alloc (.cells #[.int .u8 50] 5)):=one_byte wr 50
    have hnext:Hid (Below w.heap.size w (wr.alloc (.cells #[.int .u8 50] 5))):=Lib.hid (hI.out.alloc hI.out.size _)
    go_wp2_with fail
    exact ⟨⟨1,by omega,rfl,by rw [chS1];rfl,hnext⟩,by simp [intOf];omega⟩
   ·rw [chS1]
    have hcv:(convert 72 9 (.slice (some ⟨wr.heap.size,0,none⟩) 1 1)).run Tryz.prog (wr.alloc (.cells #[.int .u8 51] 5)) = .ok (.string ⟨#[51]⟩) (wr.alloc (.cells #[.int .u8 51] 5)):=one_byte wr 51
    have hnext:Hid (Below w.heap.size w (wr.alloc (.cells #[.int .u8 51] 5))):=Lib.hid (hI.out.alloc hI.out.size _)
    go_wp2_with fail
    exact ⟨⟨2,by omega,rfl,by rw [chS2];rfl,hnext⟩,by simp [intOf];omega⟩
   ·rw [chS2]
    have hcv:(convert 72 9 (.slice (some ⟨wr.heap.size,0,none⟩) 1 1)).run Tryz.prog (wr.alloc (.cells #[.int .u8 52] 5)) = .ok (.string ⟨#[52]⟩) (wr.alloc (.cells #[.int .u8 52] 5)):=one_byte wr 52
    have hnext:Hid (Below w.heap.size w (wr.alloc (.cells #[.int .u8 52] 5))):=Lib.hid (hI.out.alloc hI.out.size _)
    go_wp2_with fail
    exact ⟨⟨3,by omega,rfl,by rw [chS3];rfl,hnext⟩,by simp [intOf];omega⟩
  ·have dlt:decide ((j:Int)+2≤1+(m:Int)) = false:=decide_eq_false (by omega)
   obtain rfl:m = j:=by omega
   have q1':=q1.out wr hI.out
   rw [show strB (L.prT (L.chnT m)) = chS m from rfl,show (((m+1:Nat)):Int) = 1+(m:Int) by omega] at q1'
   go_wp2_with fail
   refine q1'.mono ?_
   rintro e w1 ⟨sb1,r1,rfl,h1,hb1⟩
   have b1:=hI.out.trans (hb1.mono hI.out.size)
   have q2:=search_any (k:=k) h1 (chn_tr m hm4).root (chn_tr m hm4) (hT.same (b1.block _ hT.lt')) (hP.same (b1.block _ hP.lt)) (by omega)
   unfold RetSearch at q2
   rw [chn_tab m hm4,L.Tr.post_len] at q2
   have hE:L.searchT (L.chnL m) (L.chnF m) (L.chnT m).size k (L.chnT m,[]) = L.chnE m k:=rfl
   rw [hE] at q2
   obtain ⟨hle,heq⟩:=L.chn_ok m k hm4
   obtain ⟨E,hEE⟩:∃ E,E = L.chnE m k:=⟨_,rfl⟩
   rw [←hEE] at q2 hle heq
   obtain ⟨S,hS⟩:∃ S,S = L.sizeTr E.1 (L.chnL m) (L.chnF m):=⟨_,rfl⟩
   rw [←hS] at hle heq
   have hS1:Hid (S = L.sizeTr E.1 (L.chnL m) (L.chnF m)):=Lib.hid hS
   replace hEE:=Lib.hid hEE
   clear q1' hE hS h1
   go_wp2_with fail
   refine q2.mono ?_
   rintro e w2 ⟨sb2,r2,v2,rfl,h2,hok2,ho2,hb2⟩
   have b2:=b1.trans (hb2.mono b1.size)
   have q3:=fun W (hb:Below w2.heap.size w2 W)=>lsize_any (h2.below hb) hok2.sbl hok2.root
   rw [chn_tab m hm4,←hS1.out] at q3
   have q3':=q3 w2 (Below.refl _ _)
   replace q3:=Lib.hid q3
   clear q2 ho2
   go_wp2_with fail
   refine q3'.mono ?_
   rintro e w3 ⟨rfl,hb3⟩
   have b3:=b2.trans (hb3.mono b2.size)
   have q4:=q3.out w3 hb3
   have q5:=hw.out w3 b3
   clear q3'
   have e1:(1:Int)+(m:Int) - 1 = (m:Int):=by omega
   have dS:decide ((S:Int) < 2 * (m:Int)) = false:=decide_eq_false (by omega)
   by_cases h5:k < 5
   ·have d5:decide ((k:Int) < 5) = true:=decide_eq_true (by omega)
    go_wp2_with fail
    refine q5.mono ?_
    rintro e w4 ⟨rfl,hb4⟩
    go_wp2_with fail
    go_ret
    exact ⟨rfl,b3.trans (hb4.mono b3.size)⟩
   ·have d5:decide ((k:Int) < 5) = false:=decide_eq_false (by omega)
    have hSm:=heq (by omega)
    have dE:((S:Int) == 2 * (m:Int)) = true:=by rw [beq_iff_eq];omega
    replace hSm:=Lib.hid hSm
    clear q5 heq
    go_wp2_with fail
    refine q4.mono ?_
    rintro e w4 ⟨rfl,hb4⟩
    have b4:=b3.trans (hb4.mono b3.size)
    have q6:=hw.out w4 b4
    clear q4
    go_wp2_with fail
    refine q6.mono ?_
    rintro e w5 ⟨rfl,hb5⟩
    go_wp2_with fail
    go_ret
    exact ⟨rfl,b4.trans (hb5.mono b4.size)⟩
end Go.Proofs.YtemnmcfmabamcaaGreatDoor
