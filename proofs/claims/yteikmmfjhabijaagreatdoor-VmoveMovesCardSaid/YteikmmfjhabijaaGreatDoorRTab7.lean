import Derived.Test.YteikmmfjhabijaaGreatDoorRTab6
set_option linter.unusedSimpArgs false
set_option linter.unusedVariables false
namespace Go.Proofs.YteikmmfjhabijaaGreatDoor
open Go Go.RowKit Go.Shelf
theorem ba_app (a b:List UInt8):(⟨a.toArray⟩:ByteArray)++⟨b.toArray⟩ = ⟨(a++b).toArray⟩:=by
 apply ByteArray.ext
 simp [ByteArray.data_append]
theorem ba_size (l:List UInt8):(⟨l.toArray⟩:ByteArray).size = l.length:=by simp [ByteArray.size]
def digL (n:Nat):List UInt8:=[UInt8.ofNat (48+n)]
set_option maxRecDepth 100000 in
set_option maxHeartbeats 4000000 in
theorem dec1_any (n:Nat) (h:n≤9) (w:World):Calls Tryz.prog 91 #[.int .i64 (n:Int)] w fun e w'=>e = .returned (.string ⟨(digL n).toArray⟩)∧w = w':=by
 have hn:n = 0∨n = 1∨n = 2∨n = 3∨n = 4∨n = 5∨n = 6∨n = 7∨n = 8∨n = 9:=by omega
 rcases hn with rfl | rfl | rfl | rfl | rfl | rfl | rfl | rfl | rfl | rfl
 all_goals
  go_enter Tryz.func91,Tryz.ntmps91
  go_wp2_with fail
  go_ret
  exact ⟨rfl,rfl⟩
set_option maxRecDepth 100000 in
set_option maxHeartbeats 4000000 in
theorem dec2_any (n:Nat) (h0:10≤n) (h:n≤99) (w:World):Calls Tryz.prog 91 #[.int .i64 (n:Int)] w fun e w'=>e = .returned (.string ⟨(digL (n / 10)++digL (n % 10)).toArray⟩)∧w = w':=by
 have d0:decide ((n:Int) < 0) = false:=decide_eq_false (by omega)
 have d1:decide ((n:Int) > 9) = true:=decide_eq_true (by omega)
 have q1:=fun W=>dec1_any (n / 10) (by omega) W
 have q2:=fun W=>dec1_any (n % 10) (by omega) W
 have e1:((n:Int).tdiv 10) = ((n / 10:Nat):Int):=by rw [Int.tdiv_eq_ediv_of_nonneg (by omega)];rfl
 have e2:((n:Int).tmod 10) = ((n % 10:Nat):Int):=by rw [Int.tmod_eq_emod_of_nonneg (by omega)];rfl
 have ha:n / 10≤9:=by omega
 have hb:n % 10≤9:=by omega
 have hcat:=ba_app (digL (n / 10)) (digL (n % 10))
 have hA:(⟨(digL (n / 10)).toArray⟩:ByteArray).size≤1:=by rw [ba_size];exact Nat.le_refl _
 have hB:(⟨(digL (n % 10)).toArray⟩:ByteArray).size≤1:=by rw [ba_size];exact Nat.le_refl _
 generalize n / 10 = a at *
 generalize n % 10 = b at *
 generalize (⟨(digL a).toArray⟩:ByteArray) = A at *
 generalize (⟨(digL b).toArray⟩:ByteArray) = B at *
 generalize (⟨(digL a++digL b).toArray⟩:ByteArray) = C at *
 replace hcat:=Lib.hid hcat
 go_enter Tryz.func91,Tryz.ntmps91
 go_wp2_with fail
 refine (q1 _).mono ?_
 rintro e w1 ⟨rfl,rfl⟩
 go_wp2_with fail
 refine (q2 _).mono ?_
 rintro e w1 ⟨rfl,rfl⟩
 go_wp2_with fail
 go_ret
 exact ⟨by rw [←hcat.out];rfl,rfl⟩
set_option maxRecDepth 100000 in
set_option maxHeartbeats 4000000 in
theorem dec3_any (n:Nat) (h0:100≤n) (h:n≤999) (w:World):Calls Tryz.prog 91 #[.int .i64 (n:Int)] w fun e w'=>e = .returned (.string ⟨(digL (n / 10 / 10)++digL (n / 10 % 10)++digL (n % 10)).toArray⟩)∧w = w':=by
 have d0:decide ((n:Int) < 0) = false:=decide_eq_false (by omega)
 have d1:decide ((n:Int) > 9) = true:=decide_eq_true (by omega)
 have q1:=fun W=>dec2_any (n / 10) (by omega) (by omega) W
 have q2:=fun W=>dec1_any (n % 10) (by omega) W
 have e1:((n:Int).tdiv 10) = ((n / 10:Nat):Int):=by rw [Int.tdiv_eq_ediv_of_nonneg (by omega)];rfl
 have e2:((n:Int).tmod 10) = ((n % 10:Nat):Int):=by rw [Int.tmod_eq_emod_of_nonneg (by omega)];rfl
 have ha:n / 10≤99:=by omega
 have hb:n % 10≤9:=by omega
 have hcat:=ba_app (digL (n / 10 / 10)++digL (n / 10 % 10)) (digL (n % 10))
 have hA:(⟨(digL (n / 10 / 10)++digL (n / 10 % 10)).toArray⟩:ByteArray).size≤2:=by rw [ba_size];exact Nat.le_refl _
 have hB:(⟨(digL (n % 10)).toArray⟩:ByteArray).size≤1:=by rw [ba_size];exact Nat.le_refl _
 generalize digL (n / 10 / 10)++digL (n / 10 % 10) = D at *
 generalize n / 10 = a at *
 generalize n % 10 = b at *
 generalize (⟨D.toArray⟩:ByteArray) = A at *
 generalize (⟨(D++digL b).toArray⟩:ByteArray) = C at *
 generalize (⟨(digL b).toArray⟩:ByteArray) = B at *
 replace hcat:=Lib.hid hcat
 go_enter Tryz.func91,Tryz.ntmps91
 go_wp2_with fail
 refine (q1 _).mono ?_
 rintro e w1 ⟨rfl,rfl⟩
 go_wp2_with fail
 refine (q2 _).mono ?_
 rintro e w1 ⟨rfl,rfl⟩
 go_wp2_with fail
 go_ret
 exact ⟨by rw [←hcat.out];rfl,rfl⟩
def decN (n:Nat):List UInt8:=if n≤9 then digL n else if n≤99 then digL (n / 10)++digL (n % 10) else digL (n / 10 / 10)++digL (n / 10 % 10)++digL (n % 10)
def decZ (z:Int):List UInt8:=if z < 0 then [45]++decN z.natAbs else decN z.natAbs
theorem decZ_all:((List.range 257).all fun k=>decZ ((k:Int) - 128) == Lib.itoa ((k:Int) - 128)) = true:=by kernel_rfl
theorem decZ_itoa (v:Int) (h:-128≤v∧v≤128):decZ v = Lib.itoa v:=by
 have:=List.all_eq_true.1 decZ_all (v+128).toNat (List.mem_range.2 (by omega))
 rw [show (((v+128).toNat:Int) - 128) = v by omega] at this
 simpa using this
theorem decN_any (n:Nat) (h:n≤999) (w:World):Calls Tryz.prog 91 #[.int .i64 (n:Int)] w fun e w'=>e = .returned (.string ⟨(decN n).toArray⟩)∧w = w':=by
 unfold decN
 split
 ·exact dec1_any n (by assumption) w
 ·split
  ·exact dec2_any n (by omega) (by assumption) w
  ·exact dec3_any n (by omega) h w
set_option maxRecDepth 100000 in
set_option maxHeartbeats 4000000 in
theorem decimal_any (z:Int) (h:-128≤z∧z≤128) (w:World):Calls Tryz.prog 91 #[.int .i64 z] w fun e w'=>e = .returned (.string ⟨(Lib.itoa z).toArray⟩)∧w = w':=by
 rw [←decZ_itoa z h]
 unfold decZ
 by_cases hz:z < 0
 ·obtain ⟨n,rfl⟩:∃ n:Nat,z = -(n:Int):=⟨z.natAbs,by omega⟩
  have hna:(-(n:Int)).natAbs = n:=by omega
  rw [if_pos hz,hna]
  have d0:decide (-(n:Int) < 0) = true:=decide_eq_true hz
  have q1:=fun W=>decN_any n (by omega) W
  have hn:n≤128:=by omega
  have hcat:=ba_app [45] (decN n)
  have hB:(⟨(decN n).toArray⟩:ByteArray).size≤3:=by
   rw [ba_size];unfold decN
   split
   ·simp [digL]
   ·split <;> simp [digL]
  generalize (⟨([45]++decN n).toArray⟩:ByteArray) = C at *
  generalize (⟨(decN n).toArray⟩:ByteArray) = B at *
  replace hcat:=Lib.hid hcat
  clear hna h
  go_enter Tryz.func91,Tryz.ntmps91
  go_wp2_with fail
  refine (q1 _).mono ?_
  rintro e w1 ⟨rfl,rfl⟩
  go_wp2_with fail
  go_ret
  exact ⟨by rw [←hcat.out];rfl,rfl⟩
 ·obtain ⟨n,rfl⟩:∃ n:Nat,z = (n:Int):=⟨z.natAbs,by omega⟩
  rw [if_neg hz]
  exact decN_any n (by omega) w
end Go.Proofs.YteikmmfjhabijaaGreatDoor
