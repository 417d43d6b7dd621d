import Derived.Test.YtmnjakejhbpkoaaGreatDoorWVars
import Derived.Test.YtmnjakejhbpkoaaGreatDoorWReg
import Derived.Test.YtmnjakejhbpkoaaGreatDoorWLaw12
import Derived.Test.YtmnjakejhbpkoaaGreatDoorWTab2
import Derived.Test.YtmnjakejhbpkoaaGreatDoorWVvars
section
set_option linter.unusedSimpArgs false
set_option linter.unusedVariables false
namespace Go.Proofs.YtmnjakejhbpkoaaGreatDoor
open Go Go.RowKit Go.Shelf
def RowF (w:World) (b:Nat) (ty:TypeId) (n:Nat) (f:Nat→Value):Prop:=∃ c,w.heap[b]? = some (.cells c ty (0,0))∧c.size = n∧∀ j,j < n→c[j]? = some (f j)
def putF (f:Nat→Value) (i:Nat) (v:Value):Nat→Value:=fun j=>if j = i then v else f j
section
variable {w w':World} {b n:Nat} {ty:TypeId} {f:Nat→Value}
theorem RowF.cell (h:RowF w b ty n f) {j:Nat} (hj:j < n):w.cell? ⟨b,j,none⟩ = some (f j)∧w.frozen? ⟨b,j,none⟩ = false:=by
 obtain ⟨c,h1,h2,h3⟩:=h
 have h4:=h3 j hj
 simp [World.cell?,World.frozen?,h1,h4]
theorem RowF.same (h:RowF w b ty n f) (hs:w'.heap[b]? = w.heap[b]?):RowF w' b ty n f:=by
 obtain ⟨c,h1,h2⟩:=h
 exact ⟨c,hs.trans h1,h2⟩
theorem RowF.lt (h:RowF w b ty n f):b < w.heap.size:=by
 obtain ⟨c,h1,_⟩:=h
 exact (Array.getElem?_eq_some_iff.1 h1).1
theorem RowF.ext (h:RowF w b ty n f) (hs:Ext w w'):RowF w' b ty n f:=h.same (hs.below.block b h.lt)
theorem RowF.below (h:RowF w b ty n f) (hs:Below w.heap.size w w'):RowF w' b ty n f:=h.same (hs.block b h.lt)
theorem RowF.set (h:RowF w b ty n f) (i:Nat) (v:Value):RowF (w.setCell ⟨b,i,none⟩ v) b ty n (putF f i v):=by
 obtain ⟨c,h1,h2,h3⟩:=h
 refine ⟨_,heap_set h1 _ _,by simpa using h2,fun j hj=>?_⟩
 have h4:=h3 j hj
 unfold putF
 by_cases hij:j = i
 ·subst hij
  rw [if_pos rfl,Array.getElem?_setIfInBounds,if_pos rfl,if_pos (by omega)]
 ·rw [if_neg hij,Array.getElem?_setIfInBounds,if_neg (by omega)];exact h4
theorem RowF.congr {g:Nat→Value} (h:RowF w b ty n f) (hg:∀ j,j < n→f j = g j):RowF w b ty n g:=by
 obtain ⟨c,h1,h2,h3⟩:=h
 exact ⟨c,h1,h2,fun j hj=>by rw [h3 j hj,hg j hj]⟩
end
theorem rowNew (w:World) (n:Nat) (z:Value) (ty:TypeId) (ad:Nat) (ha:ad = w.heap.size):RowF (w.alloc (.cells (madeCells #[z] n) ty)) ad ty n (fun _=>z):=by
 refine ⟨_,(by subst ha;exact heap_alloc_new w _),by simp [madeCells],fun j hj=>?_⟩
 simp [madeCells,hj,Nat.mod_one]
theorem rowLit (w:World) (c:Array Value) (ty:TypeId) (ad:Nat) (ha:ad = w.heap.size):RowF (w.alloc (.cells c ty)) ad ty c.size (fun j=>c.getD j (.int .i64 0)):=by
 refine ⟨_,(by subst ha;exact heap_alloc_new w _),rfl,fun j hj=>?_⟩
 show _ = some (c.getD j _)
 rw [Array.getElem?_eq_getElem hj,Array.getD_eq_getD_getElem?,Array.getElem?_eq_getElem hj];rfl
theorem make_row {sl el:TypeId} {z:Value} {by_:Nat} (h1:Tryz.prog.underlying sl = some (.slice el)) (h2:(Tryz.prog.info? el).map (fun i=>(i.zero,i.size,i.bytes)) = some (some z,1,by_)) (hz:z.cells = #[z]) (n:Nat) (hn:n≤1048576) (hb:by_≤64) (w:World) :
  (Instr.makeSlice sl (.int .i64 n) (.int .i64 n)).run Tryz.prog w = .ok (.slice (some ⟨w.heap.size,0,none⟩) n n) (w.alloc (.cells (madeCells #[z] n) el)):=by
 obtain ⟨i,hi,hz1,hs,hb1⟩:=info_parts h2
 have hr:=run_make (P:=Tryz.prog) w sl el i _ h1 hi hz1 .i64 .i64 n n (by omega) (Int.le_refl _) (by rw [hb1];have h1:by_ * n≤64 * 1048576:=Nat.mul_le_mul hb hn;have h2:n * by_ = by_ * n:=Nat.mul_comm _ _;omega) (by omega)
 rw [hs,hz,Nat.mul_one] at hr
 exact hr
end Go.Proofs.YtmnjakejhbpkoaaGreatDoor
end
section
set_option linter.unusedSimpArgs false
set_option linter.unusedVariables false
namespace Go.Proofs.YtmnjakejhbpkoaaGreatDoor
open Go Go.RowKit Go.Shelf
theorem and64 (a m:Nat) (ha:a < 18446744073709551616) (hm:m < 18446744073709551616):bits BinOp.and IntKind.u64 (a:Int) (m:Int) = ((a &&& m:Nat):Int):=bits_and_u64_nat a m ha hm
theorem wrapN {a:Nat} (ha:a < 18446744073709551616):IntKind.u64.wrap (a:Int) = a:=by simp [IntKind.wrap,IntKind.bits,IntKind.signed];omega
theorem and127 {z:Nat} (hz:z < 9223372036854775808):bits BinOp.and IntKind.i64 (z:Int) 127 = ((z % 128:Nat):Int):=by
 have e:bits BinOp.and IntKind.i64 (z:Int) 127 = IntKind.i64.wrap ((BitVec.ofInt 64 (z:Int) &&& BitVec.ofInt 64 127).toNat:Int):=rfl
 rw [e,BitVec.toNat_and,BitVec.ofInt_natCast,show BitVec.ofInt 64 127 = BitVec.ofNat 64 127 from rfl,BitVec.toNat_ofNat,BitVec.toNat_ofNat,Nat.mod_eq_of_lt (show z < 2 ^ 64 by omega),show 127 % 2 ^ 64 = 2 ^ 7 - 1 from rfl,Nat.and_two_pow_sub_one_eq_mod]
 have:z % 2 ^ 7 < 128:=Nat.mod_lt _ (by omega)
 rw [IntWalk.i64_in _ (by omega)]
theorem reps:L.rep 0x55 8 = 6148914691236517205∧L.rep 0x33 8 = 3689348814741910323∧L.rep 0x0f 8 = 1085102592571150095:=⟨by kernel_rfl,by kernel_rfl,by kernel_rfl⟩
set_option maxRecDepth 100000 in
set_option maxHeartbeats 4000000 in
theorem ones_any {w:World} {x:Nat} (hx:x < 18446744073709551616):Calls Tryz.prog 227 #[.int .u64 (x:Nat)] w fun e w'=>e = .returned (.int .i64 (L.popW x:Nat))∧w = w':=by
 obtain ⟨e1,e2,e3⟩:=reps
 obtain ⟨y1,hy1⟩:∃ y,y = L.g1 6148914691236517205 x:=⟨_,rfl⟩
 obtain ⟨y2,hy2⟩:∃ y,y = L.g2 3689348814741910323 y1:=⟨_,rfl⟩
 obtain ⟨y3,hy3⟩:∃ y,y = L.g3 1085102592571150095 y2:=⟨_,rfl⟩
 have p3:y3 = L.pops 8 x:=by
  have:=L.g_pops 8 x (by omega)
  rw [e1,e2,e3] at this
  rw [hy3,hy2,hy1];exact this
 have b1:y1≤12297829382473034410:=by rw [hy1];unfold L.g1;have:=Nat.and_le_right (n:=x / 2) (m:=6148914691236517205);have:=Nat.and_le_right (n:=x) (m:=6148914691236517205);omega
 have b2:y2≤7378697629483820646:=by rw [hy2];unfold L.g2;have:=Nat.and_le_right (n:=y1 / 4) (m:=3689348814741910323);have:=Nat.and_le_right (n:=y1) (m:=3689348814741910323);omega
 have b3:y3≤1085102592571150095:=by rw [hy3];unfold L.g3;exact Nat.and_le_right
 have hA:IntKind.u64.wrap (bits BinOp.and IntKind.u64 ((x:Int) / 2) 6148914691236517205+bits BinOp.and IntKind.u64 (x:Int) 6148914691236517205) = (y1:Int):=by
  have h1:=and64 (x / 2) 6148914691236517205 (by omega) (by omega)
  have h2:=and64 x 6148914691236517205 (by omega) (by omega)
  rw [show (((x / 2:Nat)):Int) = (x:Int) / 2 by push_cast;rfl,show ((6148914691236517205:Nat):Int) = 6148914691236517205 from rfl] at h1
  rw [show ((6148914691236517205:Nat):Int) = 6148914691236517205 from rfl] at h2
  rw [h1,h2,←Int.natCast_add,wrapN (show (x / 2 &&& 6148914691236517205)+(x &&& 6148914691236517205) < _ by rw [hy1] at b1;unfold L.g1 at b1;omega),hy1];rfl
 have hB:IntKind.u64.wrap (bits BinOp.and IntKind.u64 ((y1:Int) / 4) 3689348814741910323+bits BinOp.and IntKind.u64 (y1:Int) 3689348814741910323) = (y2:Int):=by
  have h1:=and64 (y1 / 4) 3689348814741910323 (by omega) (by omega)
  have h2:=and64 y1 3689348814741910323 (by omega) (by omega)
  rw [show (((y1 / 4:Nat)):Int) = (y1:Int) / 4 by push_cast;rfl,show ((3689348814741910323:Nat):Int) = 3689348814741910323 from rfl] at h1
  rw [show ((3689348814741910323:Nat):Int) = 3689348814741910323 from rfl] at h2
  rw [h1,h2,←Int.natCast_add,wrapN (show (y1 / 4 &&& 3689348814741910323)+(y1 &&& 3689348814741910323) < _ by rw [hy2] at b2;unfold L.g2 at b2;omega),hy2];rfl
 have hC:bits BinOp.and IntKind.u64 ((y2:Int) / 16+(y2:Int)) 1085102592571150095 = (y3:Int):=by
  have h1:=and64 (y2 / 16+y2) 1085102592571150095 (by omega) (by omega)
  rw [show ((1085102592571150095:Nat):Int) = 1085102592571150095 from rfl,show ((y2 / 16+y2:Nat):Int) = (y2:Int) / 16+(y2:Int) by push_cast;rfl] at h1
  rw [h1,hy3];rfl
 obtain ⟨z1,hz1⟩:∃ z,z = y3+y3 / 256:=⟨_,rfl⟩
 obtain ⟨z2,hz2⟩:∃ z,z = z1+z1 / 65536:=⟨_,rfl⟩
 obtain ⟨z3,hz3⟩:∃ z,z = z2+z2 / 4294967296:=⟨_,rfl⟩
 have l1:z1≤1200000000000000000:=by clear hA hB hC hz2 hz3 p3;omega
 have l2:z2≤1300000000000000000:=by clear hA hB hC hz1 hz3 p3;omega
 have l3:z3≤1400000000000000000:=by clear hA hB hC hz1 hz2 p3;omega
 have hfin:z3 % 128 = L.popW x:=by
  rw [L.popW_split]
  refine L.fold_pops z1 z2 z3 (by rw [←p3,←hz1];exact (Nat.mod_eq_of_lt (by omega)).symm) ?_ ?_
  ·rw [←hz2];exact (Nat.mod_eq_of_lt (by omega)).symm
  ·rw [←hz3];exact (Nat.mod_eq_of_lt (by omega)).symm
 have hG:=and127 (z:=z3) (by omega)
 have hE:(z3:Int) = (y3:Int)+(y3:Int) / 256+((y3:Int)+(y3:Int) / 256) / 65536+((y3:Int)+(y3:Int) / 256+((y3:Int)+(y3:Int) / 256) / 65536) / 4294967296:=by
  have q1:(z1:Int) = (y3:Int)+(y3:Int) / 256:=by clear hA hB hC hz2 hz3 p3 hG;omega
  have q2:(z2:Int) = (z1:Int)+(z1:Int) / 65536:=by clear hA hB hC hz1 hz3 p3 hG;omega
  have q3:(z3:Int) = (z2:Int)+(z2:Int) / 4294967296:=by clear hA hB hC hz1 hz2 p3 hG;omega
  rw [q3,q2,q1]
 rw [hfin,hE] at hG
 clear hE l1 l2 l3 hz1 hz2 hz3 hfin p3
 clear hy1 hy2 hy3 e1 e2 e3
 go_enter Tryz.func227,Tryz.ntmps227
 go_wp2_with fail
 go_ret
 exact ⟨rfl,rfl⟩
end Go.Proofs.YtmnjakejhbpkoaaGreatDoor
end
section
set_option linter.unusedSimpArgs false
set_option linter.unusedVariables false
namespace Go.Proofs.YtmnjakejhbpkoaaGreatDoor
open Go Go.RowKit Go.Shelf
def lenS (s:VSet):Nat:=L.popW (s.setWidth 64).toNat+L.popW ((s >>> 64).setWidth 64).toNat
set_option maxRecDepth 100000 in
set_option maxHeartbeats 2000000 in
theorem len_any (s:VSet) (w:World):Calls Tryz.prog 198 #[.agg #[.int .u64 (lo s),.int .u64 (hi s)]] w fun e w'=>e = .returned (.int .i64 (lenS s:Nat))∧Ext w w':=by
 have q1:=fun W=>ones_any (w:=W) (x:=(s.setWidth 64).toNat) (s.setWidth 64).isLt
 have q2:=fun W=>ones_any (w:=W) (x:=((s >>> 64).setWidth 64).toNat) ((s >>> 64).setWidth 64).isLt
 have hp1:L.popW (s.setWidth 64).toNat≤64:=by unfold L.popW;have:=List.length_filter_le (fun i=>(s.setWidth 64).toNat.testBit i) (List.range 64);simpa using this
 have hp2:L.popW ((s >>> 64).setWidth 64).toNat≤64:=by unfold L.popW;have:=List.length_filter_le (fun i=>((s >>> 64).setWidth 64).toNat.testBit i) (List.range 64);simpa using this
 unfold lo hi lenS
 generalize (s.setWidth 64).toNat = a at *
 generalize ((s >>> 64).setWidth 64).toNat = b at *
 generalize L.popW a = p at *
 generalize L.popW b = q at *
 have hwr:IntKind.i64.wrap ((p:Int)+(q:Int)) = ((p+q:Nat):Int):=by rw [IntWalk.i64_in _ (by omega)];push_cast;rfl
 replace q1:=Lib.hid q1
 replace q2:=Lib.hid q2
 have hx1:=heap_alloc_new w (.cells #[.int .u64 (a:Nat),.int .u64 (b:Nat)] 41)
 have hbe:Ext w (w.alloc (.cells #[.int .u64 (a:Nat),.int .u64 (b:Nat)] 41)):=(Ext.refl w).alloc _
 go_enter Tryz.func198,Tryz.ntmps198
 go_wp2_with fail
 generalize w.alloc (.cells #[.int .u64 (a:Nat),.int .u64 (b:Nat)] 41) = w1 at *
 have c0:w1.cell? ⟨w.heap.size,0,none⟩ = some (.int .u64 (a:Nat)):=by simp [World.cell?,hx1]
 have c1:w1.cell? ⟨w.heap.size,1,none⟩ = some (.int .u64 (b:Nat)):=by simp [World.cell?,hx1]
 have F1:=Lib.hid fun (W:World) (hW:Ext w1 W)=>And.intro (hW.cell c0) (hW.cell c1)
 clear hx1
 (refine wp_region_below (by kernel_rfl) (by kernel_rfl) ?_
  repeat (refine wpQuiet_step (fun K hK=>?_)
          go_simp
          first
           | (refine hK _ ?_;clear hK K)
           | (replace hK:=Lib.hid hK
              apply Exists.intro
              refine ⟨fun wq hq=>?_,hK.out _ ?_⟩
              ·(obtain ⟨f1,f2⟩:=F1.out wq hq)
               go_simp
               first
                | done
                | with_reducible (refine (q1.out _).mono ?_;rintro e w' ⟨rfl,rfl⟩;exact ⟨rfl,hq⟩)
                | with_reducible (refine (q2.out _).mono ?_;rintro e w' ⟨rfl,rfl⟩;exact ⟨rfl,hq⟩)
                | rfl
                | exact ⟨rfl,rfl⟩
              clear hK K))
  refine wpQuiet_nil ?_)
 intro w6 hw6
 have hx6:=hbe.trans hw6
 go_wp2_with fail
 go_ret
 exact ⟨rfl,hx6⟩
def cntB (s:VSet) (k:Nat):Nat:=((List.range k).filter fun i=>s.getLsbD i).length
theorem listVK_count (s:VSet):∀ k,k≤128→(listVK s k).length = cntB s k
 | 0,_=>rfl
 | k+1,h=>by
   have ih:=listVK_count s k (by omega)
   have hb:hasS s ((k:Int)+1) = s.getLsbD k:=L.hasS_bit s k (by omega)
   unfold listVK cntB
   rw [List.range_succ,List.filter_append,List.length_append,hb]
   unfold cntB at ih
   cases hk:s.getLsbD k
   ·simp [hk,ih]
   ·simp [hk,ih]
theorem lenS_list (s:VSet):lenS s = (listV s).length:=by
 unfold listV
 rw [listVK_count s 128 (Nat.le_refl _)]
 unfold lenS cntB L.popW
 rw [show List.range 128 = List.range 64++(List.range 64).map (64+·) from List.range_add (n:=64) (m:=64),List.filter_append,List.length_append,List.filter_map,List.length_map]
 congr 1
 ·congr 1
  refine List.filter_congr fun i hi=>?_
  have:=List.mem_range.1 hi
  show (s.setWidth 64).getLsbD i = _
  rw [BitVec.getLsbD_setWidth,decide_eq_true this,Bool.true_and]
 ·congr 1
  refine List.filter_congr fun i hi=>?_
  have:=List.mem_range.1 hi
  show ((s >>> 64).setWidth 64).getLsbD i = s.getLsbD (64+i)
  rw [BitVec.getLsbD_setWidth,decide_eq_true this,Bool.true_and,BitVec.getLsbD_ushiftRight]
theorem isBel_len {t:List VN} (hc:checkF t = 0) {j:Nat} (hj:j < t.length) {m:VSet} (h:IsBel t j m):lenS m = L.nv t j:=by
 rw [lenS_list]
 have hsb:L.SortedBel t j (listV m):=⟨L.listVK_sorted m 128,fun x=>by
  rw [L.listV_mem]
  constructor
  ·intro hx
   have hr:=L.hasS_range hx
   have h2:=(h (x - 1).toNat (by omega)).1 (by
    rw [←L.hasS_bit m (x - 1).toNat (by omega),show (((x - 1).toNat:Nat):Int)+1 = x by omega];exact hx)
   rwa [show (((x - 1).toNat:Nat):Int)+1 = x by omega] at h2
  ·intro hx
   have hr:=hx.range
   have h2:=(h (x - 1).toNat (by omega)).2 (by rw [show (((x - 1).toNat:Nat):Int)+1 = x by omega];exact hx)
   rwa [←L.hasS_bit m (x - 1).toNat (by omega),show (((x - 1).toNat:Nat):Int)+1 = x by omega] at h2⟩
 exact hsb.len hc hj
end Go.Proofs.YtmnjakejhbpkoaaGreatDoor
end
