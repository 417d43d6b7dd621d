import Derived.Test.YtmnjakejhbpkoaaGreatDoorWEv5
import Derived.Test.YtmnjakejhbpkoaaGreatDoorWTab2
import Derived.Test.YtmnjakejhbpkoaaGreatDoorWLaw12
section
set_option linter.unusedSimpArgs false
set_option linter.unusedVariables false
namespace Go.Proofs.YtmnjakejhbpkoaaGreatDoor
open Go Go.RowKit Go.Shelf
def withR (s:VSet) (v:Int):VSet:=ofS (listV s++[v])
theorem withR_eq (s:VSet) (v:Int) (h:1≤v∧v≤128):withR s v = withS s v:=by
 refine L.set_ext fun i hi=>?_
 rw [←L.hasS_bit _ _ hi,←L.hasS_bit _ _ hi,Bool.eq_iff_iff]
 unfold withR
 rw [L.hasS_ofS,L.hasS_with,Bool.or_eq_true,List.mem_append,L.listV_mem,List.mem_singleton]
 simp only [Bool.and_eq_true,decide_eq_true_eq]
 constructor
 ·rintro ⟨_,h1 | h1⟩
  ·exact .inl h1
  ·exact .inr ⟨⟨h1.symm,by omega⟩,by omega⟩
 ·rintro (h1 | h1)
  ·exact ⟨L.hasS_range h1,.inl h1⟩
  ·exact ⟨by omega,.inr h1.1.1.symm⟩
set_option maxRecDepth 100000 in
set_option maxHeartbeats 2000000 in
theorem refWith_any (s:VSet) (v:Int) (w:World):Calls Tryz.prog 160 #[encS s,.int .i64 v] w fun e w'=>e = .returned (encS (withR s v))∧Below w.heap.size w w':=by
 obtain ⟨i0,hi0,hz0,hz1,hz2⟩:=info_parts int_info
 have hq:=fun w=>refList_any s w
 have hlen:=listVK_len s 128
 have hll:(listV s).length≤128:=hlen
 unfold withR
 unfold encS at hq ⊢
 have hb1:=(Below.refl w.heap.size w).alloc (Nat.le_refl _) (.cells #[.int .u64 (lo s),.int .u64 (hi s)] 41)
 have hs1:(w.alloc (.cells #[.int .u64 (lo s),.int .u64 (hi s)] 41)).heap.size = w.heap.size+1:=by simp
 go_enter Tryz.func160,Tryz.ntmps160
 go_wp2_with fail
 generalize w.alloc (.cells #[.int .u64 (lo s),.int .u64 (hi s)] 41) = w1 at *
 have hbox:=heap_alloc_new w1 (.cells #[.int .u64 0,.int .u64 0] 41)
 have hb2:=hb1.alloc hb1.size (.cells #[.int .u64 0,.int .u64 0] 41)
 have hs2:(w1.alloc (.cells #[.int .u64 0,.int .u64 0] 41)).heap.size = w1.heap.size+1:=by simp
 generalize w1.alloc (.cells #[.int .u64 0,.int .u64 0] 41) = w2 at *
 replace hs1:=Lib.hid hs1
 replace hs2:=Lib.hid hs2
 refine (hq w2).mono ?_
 rintro e w3 ⟨vl,rfl,ho3,hb3⟩
 have hB3:=hb2.trans (hb3.mono hb2.size)
 have hz3:=(hb3.block w1.heap.size (by have:=hs2.out;omega)).trans hbox
 have hs3:=hb3.size
 clear hq hbox hb1 hb2
 go_wp2_with (at_builtin;refine wpList_append_own _ rfl _ _ 45 rfl w2.heap.size 3 i0 (.int .i64 0) 1 8 Tryz.underlying45 hi0 hz0 hz1 hz2 rfl (by decide) _ _ _ rfl (ho3.alloc _) ⟨w3.heap.size,0,none⟩ 1 1 [.int .i64 v] rfl rfl (cell_one_at _ _ _ _ rfl) (by simp [Value.oneCell']) (by unfold maxLen;omega) (by omega) (by simp;omega) ?_;intro v4 w4 ho4 hg4 _)
 have hB4:=Below.grown (Below.alloc hB3 hB3.size (.cells #[.int .i64 v] 3)) hg4 (by simp;have:=hB3.size;omega) (fun k e=>Nat.le_trans (by have:=hs1.out;have:=hs2.out;omega) (own_ge ho3 e))
 have hz4:w4.heap[w1.heap.size]? = _:=(hg4.block _ (by have:=hs2.out;simp;omega) (fun e=>by have:=own_ge ho3 e.symm;have:=hs2.out;omega)).trans ((Below.heap_alloc _ _ _ (by have:=hs2.out;omega)).trans hz3)
 have hlen4:(listV s++[v]).length = (listV s).length+1:=by simp
 have hsl:SlI w4 v4 (listV s++[v]):=owns_slI (base:=w2.heap.size) (own_cast ho4 (by simp) (by simp [encZ]))
 have hof:=refOf_any (listV s++[v]) _ w4 hsl (by rw [hlen4];omega)
 unfold encS at hof
 clear hsl ho4 hg4 hz3 hB3 ho3
 refine hof.mono ?_
 rintro e w5 ⟨rfl,hb5⟩
 have hB5:=hB4.trans (hb5.mono hB4.size)
 have hz5:=(hb5.block w1.heap.size ((Array.getElem?_eq_some_iff.1 hz4).1)).trans hz4
 generalize hR:ofS (listV s++[v]) = R at *
 have hBo:Below w.heap.size w ((w5.setCell ⟨w1.heap.size,0,none⟩ (.int .u64 (lo R))).setCell ⟨w1.heap.size,1,none⟩ (.int .u64 (hi R))):=(hB5.setCell (by show _≤w1.heap.size;have:=hs1.out;omega) _).setCell (by show _≤w1.heap.size;have:=hs1.out;omega) _
 obtain ⟨z0,z1⟩:=pbox_cells hz5
 have y0:w5.frozen? ⟨w1.heap.size,0,none⟩ = false:=by simp [World.frozen?,hz5]
 have y1:w5.frozen? ⟨w1.heap.size,1,none⟩ = false:=by simp [World.frozen?,hz5]
 have r0:((w5.setCell ⟨w1.heap.size,0,none⟩ (.int .u64 (lo R))).setCell ⟨w1.heap.size,1,none⟩ (.int .u64 (hi R))).cell? ⟨w1.heap.size,0,none⟩ = some (.int .u64 (lo R)):=by
  rw [World.cell?,heap_set2 hz5];rfl
 have r1:((w5.setCell ⟨w1.heap.size,0,none⟩ (.int .u64 (lo R))).setCell ⟨w1.heap.size,1,none⟩ (.int .u64 (hi R))).cell? ⟨w1.heap.size,1,none⟩ = some (.int .u64 (hi R)):=by
  rw [World.cell?,heap_set2 hz5];rfl
 clear hz5 hof hz4
 rw [hs1.out] at z0 z1 y0 y1 r0 r1 hBo
 generalize hx0:lo R = x0 at *
 generalize hx1:hi R = x1 at *
 go_wp2_with fail
 exact bodyPost_ret (v:=.agg #[.int .u64 x0,.int .u64 x1]) (by simp [results,Tryz.results160,go_sem,r0,r1]) rfl ⟨by rw [hR,hx0,hx1],hBo⟩
theorem BoolsAt.put {w:World} {b:Nat} {t:TypeId} {n:Nat} {f:Nat→Bool} (h:BoolsAt w b t n f) (i:Nat) (v:Bool):BoolsAt (w.setCell ⟨b,i,none⟩ (.bool v)) b t n (fun j=>if j = i then v else f j):=by
 obtain ⟨c,h1,h2,h3⟩:=h
 refine ⟨_,heap_set h1 i _,by simpa using h2,fun j hj=>?_⟩
 rw [Array.getElem?_setIfInBounds]
 by_cases e:i = j
 ·subst e
  rw [if_pos rfl,if_pos (by omega)]
  simp
 ·rw [if_neg e,h3 j hj]
  simp [Ne.symm e]
theorem BoolsAt.congr {w:World} {b:Nat} {t:TypeId} {n:Nat} {f g:Nat→Bool} (h:BoolsAt w b t n f) (e:∀ j,j < n→f j = g j):BoolsAt w b t n g:=by
 obtain ⟨c,h1,h2,h3⟩:=h
 exact ⟨c,h1,h2,fun j hj=>by rw [←e j hj];exact h3 j hj⟩
def FlLoop (f:Nat→Bool) (w:World) (g k:Nat) (wr:World):Prop :=
 Below w.heap.size w wr∧w.heap.size≤g∧BoolsAt wr g 4 129 (fun v=>decide (1≤v) && decide (v≤k) && f v)
theorem FlLoop.next {f:Nat→Bool} {w:World} {g k:Nat} {wr w':World} (h:FlLoop f w g k wr) (hb:Below wr.heap.size wr w'):FlLoop f w g k w' :=
 ⟨h.1.trans (hb.mono h.1.size),h.2.1,h.2.2.same (hb.block _ h.2.2.lt)⟩
theorem FlLoop.put {f:Nat→Bool} {w:World} {g k:Nat} {wr:World} (h:FlLoop f w g k wr) {b:Bool} (hb:b = f (k+1)):FlLoop f w g (k+1) (wr.setCell ⟨g,k+1,none⟩ (.bool b)):=by
 refine ⟨h.1.setCell h.2.1 _,h.2.1,(h.2.2.put (k+1) b).congr fun j hj=>?_⟩
 by_cases e:j = k+1
 ·subst e
  rw [if_pos rfl,hb]
  simp
 ·rw [if_neg e]
  have:decide (j≤k) = decide (j≤k+1):=decide_eq_decide.2 (by omega)
  rw [this]
theorem fl_set (f:Nat→Bool) (s:VSet) (h:∀ i,i < 128→s.getLsbD i = f (i+1)):setVB (fun v=>decide (1≤v) && decide (v≤128) && f v) 129 = s:=by
 refine L.set_ext fun i hi=>?_
 rw [bit_setV _ _ _ hi,h i hi]
 have h1:i+1 < 129:=by omega
 have h2:i+1≤128:=by omega
 simp [h1,h2]
set_option maxRecDepth 100000 in
set_option maxHeartbeats 4000000 in
theorem refCut_any (a b:VSet) (w:World):Calls Tryz.prog 91 #[.agg #[.int .u64 (lo a),.int .u64 (hi a)],.agg #[.int .u64 (lo b),.int .u64 (hi b)]] w fun e w'=>e = .returned (.agg #[.int .u64 (lo (a &&& b)),.int .u64 (hi (a &&& b))])∧Below w.heap.size w w':=by
 have qa:=fun v W=>refHas_any a v W
 have qb:=fun v W=>refHas_any b v W
 unfold encS at qa qb
 obtain ⟨e0,e1,e2⟩:=alloc3h w (.cells #[.int .u64 (lo a),.int .u64 (hi a)] 41) (.cells #[.int .u64 (lo b),.int .u64 (hi b)] 41) (.cells #[.int .u64 0,.int .u64 0] 41)
 have hb1:Below w.heap.size w (((w.alloc (.cells #[.int .u64 (lo a),.int .u64 (hi a)] 41)).alloc (.cells #[.int .u64 (lo b),.int .u64 (hi b)] 41)).alloc (.cells #[.int .u64 0,.int .u64 0] 41)):=((((Ext.refl w).alloc _).alloc _).alloc _).below
 have hs1:(((w.alloc (.cells #[.int .u64 (lo a),.int .u64 (hi a)] 41)).alloc (.cells #[.int .u64 (lo b),.int .u64 (hi b)] 41)).alloc (.cells #[.int .u64 0,.int .u64 0] 41)).heap.size = w.heap.size+3:=by simp
 obtain ⟨w1,hw1⟩:∃ w1,w1 = ((w.alloc (.cells #[.int .u64 (lo a),.int .u64 (hi a)] 41)).alloc (.cells #[.int .u64 (lo b),.int .u64 (hi b)] 41)).alloc (.cells #[.int .u64 0,.int .u64 0] 41):=⟨_,rfl⟩
 rw [←hw1] at e0 e1 e2 hb1 hs1
 have hres:=fl_set (fun v=>hasS a v && hasS b v) (a &&& b) (fun i hi=>by
  rw [BitVec.getLsbD_and,←L.hasS_bit a i hi,←L.hasS_bit b i hi]
  simp)
 have hFl:FlLoop (fun v=>hasS a v && hasS b v) w1 w1.heap.size 0 (w1.alloc (.cells (madeCells #[.bool false] 129) 4)):=⟨(Below.refl _ _).alloc (Nat.le_refl _) _,Nat.le_refl _,(boolsNew w1 _ _ 129 (madeRep 129) _ rfl).congr fun j _=>by
  rw [Bool.eq_iff_iff];simp;omega⟩
 replace qa:=Lib.hid qa
 replace qb:=Lib.hid qb
 replace e0:=Lib.hid e0
 replace e1:=Lib.hid e1
 replace e2:=Lib.hid e2
 replace hs1:=Lib.hid hs1
 replace hres:=Lib.hid hres
 replace hFl:=Lib.hid hFl
 go_enter Tryz.func91,Tryz.ntmps91
 go_wp2_with fail
 rw [←hw1]
 replace hw1:=Lib.hid hw1
 refine (refNone_any w1).mono ?_
 rintro e w2 ⟨rfl,rfl⟩
 go_wp2_with fail
 go_loopw [6] (fun i wr=>∃ k:Nat,k≤128∧i = .int .i64 ((k:Int)+1)∧Hid (FlLoop (fun v=>hasS a v && hasS b v) w1 w1.heap.size k wr)) (fun i _=>129 - (intOf i).toNat)
 case atStart=>exact ⟨0,by omega,rfl,hFl⟩
 case round =>
  clear hFl
  obtain ⟨k,hk,rfl,hI⟩:=hrel
  have hbr:=hI.out.1
  have f0:=(hbr.block _ (Array.getElem?_eq_some_iff.1 e0.out).1).trans e0.out
  have f1:=(hbr.block _ (Array.getElem?_eq_some_iff.1 e1.out).1).trans e1.out
  have f2:=(hbr.block _ (Array.getElem?_eq_some_iff.1 e2.out).1).trans e2.out
  obtain ⟨c0,c1⟩:=pbox_cells f0
  obtain ⟨c2,c3⟩:=pbox_cells f1
  by_cases hlt:k < 128
  ·have d0:decide ((k:Int)+1≤128) = true:=decide_eq_true (by omega)
   have q1:=qa.out ((k:Int)+1) wr
   have hz1:Hid (hasS a ((k:Int)+1) = hasS a ((k+1:Nat):Int)):=Lib.hid rfl
   have hz2:Hid (hasS b ((k:Int)+1) = hasS b ((k+1:Nat):Int)):=Lib.hid rfl
   have g0:(0:Int)≤(k:Int)+1:=by omega
   have g1:(k:Int)+1 < 129:=by omega
   have hput:Hid (∀ W (c:Bool),Below wr.heap.size wr W→c = (hasS a ((k:Int)+1) && hasS b ((k:Int)+1))→FlLoop (fun v=>hasS a v && hasS b v) w1 w1.heap.size (k+1) (W.setCell ⟨w1.heap.size,k+1,none⟩ (.bool c))):=Lib.hid fun W c hW hc=>(hI.out.next hW).put hc
   have hcl:Hid (∀ W,Below wr.heap.size wr W→∃ v,W.cell? ⟨w1.heap.size,k+1,none⟩ = some (.bool v)∧W.frozen? ⟨w1.heap.size,k+1,none⟩ = false):=Lib.hid fun W hW=>⟨_,(hI.out.next hW).2.2.cell (by omega)⟩
   generalize hza:hasS a ((k:Int)+1) = za at *
   have q2:=qb.out ((k:Int)+1)
   generalize hzb:hasS b ((k:Int)+1) = zb at *
   replace q2:=Lib.hid q2
   replace f0:=Lib.hid f0
   replace f1:=Lib.hid f1
   replace f2:=Lib.hid f2
   replace hza:=Lib.hid hza
   replace hzb:=Lib.hid hzb
   cases za
   ·obtain ⟨_,s1,s2⟩:=hcl.out wr (Below.refl _ _)
    go_wp2_with fail
    refine q1.mono ?_
    rintro e w3 ⟨rfl,hx3⟩
    obtain ⟨_,s3,s4⟩:=hcl.out w3 hx3.below
    have hend:=Lib.hid (hput.out w3 false hx3.below rfl)
    go_wp2_with fail
    go_roundw
    case rel=>exact ⟨k+1,by omega,by go_num,hend⟩
    case measure=>simp [intOf];omega
   ·go_wp2_with fail
    refine q1.mono ?_
    rintro e w3 ⟨rfl,hx3⟩
    have q3:=q2.out w3
    have d2:=hx3.cell c2
    have d3:=hx3.cell c3
    clear q1
    go_wp2_with fail
    refine q3.mono ?_
    rintro e w4 ⟨rfl,hx4⟩
    obtain ⟨_,s3,s4⟩:=hcl.out w4 (hx3.trans hx4).below
    have hend:=Lib.hid (hput.out w4 zb (hx3.trans hx4).below (by simp))
    go_wp2_with fail
    go_roundw
    case rel=>exact ⟨k+1,by omega,by go_num,hend⟩
    case measure=>simp [intOf];omega
  ·obtain rfl:k = 128:=by omega
   have d0:decide (((128:Nat):Int)+1≤128) = false:=by decide
   have q:=refSet_any _ wr w1.heap.size 129 hI.out.2.2
   rw [hres.out] at q
   unfold encS at q
   replace f0:=Lib.hid f0
   replace f1:=Lib.hid f1
   replace f2:=Lib.hid f2
   go_wp2_with fail
   refine q.mono ?_
   rintro e w3 ⟨rfl,hb3⟩
   generalize hR:a &&& b = R at *
   replace hR:=Lib.hid hR
   have hz5:=(hb3.block _ (Array.getElem?_eq_some_iff.1 f2.out).1).trans f2.out
   obtain ⟨z0,z1⟩:=pbox_cells hz5
   have y0:w3.frozen? ⟨w.heap.size+1+1,0,none⟩ = false:=by simp [World.frozen?,hz5]
   have y1:w3.frozen? ⟨w.heap.size+1+1,1,none⟩ = false:=by simp [World.frozen?,hz5]
   have hbo:=hb1.trans ((hbr.trans (hb3.mono hbr.size)).mono hb1.size)
   have hbe:=(hbo.setCell (p:=⟨w.heap.size+1+1,0,none⟩) (by simp;omega) (.int .u64 (lo R))).setCell (p:=⟨w.heap.size+1+1,1,none⟩) (by simp;omega) (.int .u64 (hi R))
   obtain ⟨r0,r1⟩:=pbox_cells (heap_set2 hz5 (.int .u64 (lo R)) (.int .u64 (hi R)))
   replace hz5:=Lib.hid hz5
   replace hbe:=Lib.hid hbe
   clear q hb3 hbo hbr
   go_wp2_with fail
   exact bodyPost_ret (v:=.agg #[.int .u64 (lo R),.int .u64 (hi R)]) (by simp [results,Tryz.results91,go_sem,r0,r1]) rfl ⟨by rw [hR.out],hbe.out⟩
set_option maxRecDepth 100000 in
set_option maxHeartbeats 4000000 in
theorem refAll_any (n:Nat) (hn:n≤128) (w:World):Calls Tryz.prog 93 #[.int .i64 (n:Nat)] w fun e w'=>e = .returned (.agg #[.int .u64 (lo (allK n)),.int .u64 (hi (allK n))])∧Below w.heap.size w w':=by
 have e2:=heap_alloc_new w (.cells #[.int .u64 0,.int .u64 0] 41)
 have hb1:Below w.heap.size w (w.alloc (.cells #[.int .u64 0,.int .u64 0] 41)):=((Ext.refl w).alloc _).below
 have hs1:(w.alloc (.cells #[.int .u64 0,.int .u64 0] 41)).heap.size = w.heap.size+1:=by simp
 obtain ⟨w1,hw1⟩:∃ w1,w1 = w.alloc (.cells #[.int .u64 0,.int .u64 0] 41):=⟨_,rfl⟩
 rw [←hw1] at e2 hb1 hs1
 have hfl:FlLoop (fun v=>decide (v≤n)) w1 w1.heap.size 0 (w1.alloc (.cells (madeCells #[.bool false] 129) 4)):=⟨(Below.refl _ _).alloc (Nat.le_refl _) _,Nat.le_refl _,(boolsNew w1 _ _ 129 (madeRep 129) _ rfl).congr fun j _=>by
  rw [Bool.eq_iff_iff];simp;omega⟩
 have hset:∀ g W,BoolsAt W g 4 129 (fun v=>decide (1≤v) && decide (v≤n) && decide (v≤n))→Calls Tryz.prog 157 #[.slice (some ⟨g,0,none⟩) 129 129] W fun e w'=>e = .returned (encS (allK n))∧Below W.heap.size W w':=fun g W h=>by
  have e:setVB (fun v=>decide (1≤v) && decide (v≤n) && decide (v≤n)) 129 = allK n:=by
   refine L.set_ext fun i hi=>?_
   rw [bit_setV _ _ _ hi,←L.hasS_bit _ _ hi,Bool.eq_iff_iff,hasS_allK _ n hn]
   simp only [Bool.and_eq_true,decide_eq_true_eq]
   omega
  have q:=refSet_any _ W g 129 h
  rw [e] at q
  exact q
 replace e2:=Lib.hid e2
 replace hs1:=Lib.hid hs1
 replace hfl:=Lib.hid hfl
 replace hset:=Lib.hid hset
 go_enter Tryz.func93,Tryz.ntmps93
 go_wp2_with fail
 rw [←hw1]
 replace hw1:=Lib.hid hw1
 refine (refNone_any w1).mono ?_
 rintro e w2 ⟨rfl,rfl⟩
 go_wp2_with fail
 go_loopw [4] (fun i wr=>∃ k:Nat,k≤n∧i = .int .i64 ((k:Int)+1)∧Hid (FlLoop (fun v=>decide (v≤n)) w1 w1.heap.size k wr)) (fun i _=>n+1 - (intOf i).toNat)
 case atStart=>exact ⟨0,by omega,rfl,hfl⟩
 case round =>
  clear hfl
  obtain ⟨k,hk,rfl,hI⟩:=hrel
  have hbr:=hI.out.1
  have f2:=(hbr.block _ (Array.getElem?_eq_some_iff.1 e2.out).1).trans e2.out
  by_cases hlt:k < n
  ·have d0:decide ((k:Int)+1≤128) = true:=decide_eq_true (by omega)
   have d1:decide ((k:Int)+1≤n) = true:=decide_eq_true (by omega)
   have g0:(0:Int)≤(k:Int)+1:=by omega
   have g1:(k:Int)+1 < 129:=by omega
   obtain ⟨s1,s2⟩:=hI.out.2.2.cell (j:=k+1) (by omega)
   have hend:=Lib.hid (hI.out.put (b:=true) (by simp;omega))
   replace f2:=Lib.hid f2
   replace hbr:=Lib.hid hbr
   go_wp2_with fail
   go_roundw
   case rel=>exact ⟨k+1,by omega,by go_num,hend⟩
   case measure=>simp [intOf];omega
  ·obtain rfl:k = n:=by omega
   have q:=hset.out _ wr hI.out.2.2
   unfold encS at q
   have d1:decide ((k:Int)+1≤k) = false:=decide_eq_false (by omega)
   replace f2:=Lib.hid f2
   generalize hR:allK k = R at *
   replace hR:=Lib.hid hR
   by_cases h128:(k:Int)+1≤128
   ·have d0:decide ((k:Int)+1≤128) = true:=decide_eq_true h128
    go_wp2_with fail
    refine q.mono ?_
    rintro e w3 ⟨rfl,hb3⟩
    have hz5:=(hb3.block _ (Array.getElem?_eq_some_iff.1 f2.out).1).trans f2.out
    obtain ⟨z0,z1⟩:=pbox_cells hz5
    have y0:w3.frozen? ⟨w.heap.size,0,none⟩ = false:=by simp [World.frozen?,hz5]
    have y1:w3.frozen? ⟨w.heap.size,1,none⟩ = false:=by simp [World.frozen?,hz5]
    have hbo:=hb1.trans ((hbr.trans (hb3.mono hbr.size)).mono hb1.size)
    have hbe:=(hbo.setCell (p:=⟨w.heap.size,0,none⟩) (by simp) (.int .u64 (lo R))).setCell (p:=⟨w.heap.size,1,none⟩) (by simp) (.int .u64 (hi R))
    obtain ⟨r0,r1⟩:=pbox_cells (heap_set2 hz5 (.int .u64 (lo R)) (.int .u64 (hi R)))
    replace hz5:=Lib.hid hz5
    replace hbe:=Lib.hid hbe
    clear q hb3 hbo hbr
    go_wp2_with fail
    exact bodyPost_ret (v:=.agg #[.int .u64 (lo R),.int .u64 (hi R)]) (by simp [results,Tryz.results93,go_sem,r0,r1]) rfl ⟨by rw [hR.out],hbe.out⟩
   ·have d0:decide ((k:Int)+1≤128) = false:=decide_eq_false h128
    go_wp2_with fail
    refine q.mono ?_
    rintro e w3 ⟨rfl,hb3⟩
    have hz5:=(hb3.block _ (Array.getElem?_eq_some_iff.1 f2.out).1).trans f2.out
    obtain ⟨z0,z1⟩:=pbox_cells hz5
    have y0:w3.frozen? ⟨w.heap.size,0,none⟩ = false:=by simp [World.frozen?,hz5]
    have y1:w3.frozen? ⟨w.heap.size,1,none⟩ = false:=by simp [World.frozen?,hz5]
    have hbo:=hb1.trans ((hbr.trans (hb3.mono hbr.size)).mono hb1.size)
    have hbe:=(hbo.setCell (p:=⟨w.heap.size,0,none⟩) (by simp) (.int .u64 (lo R))).setCell (p:=⟨w.heap.size,1,none⟩) (by simp) (.int .u64 (hi R))
    obtain ⟨r0,r1⟩:=pbox_cells (heap_set2 hz5 (.int .u64 (lo R)) (.int .u64 (hi R)))
    replace hz5:=Lib.hid hz5
    replace hbe:=Lib.hid hbe
    clear q hb3 hbo hbr
    go_wp2_with fail
    exact bodyPost_ret (v:=.agg #[.int .u64 (lo R),.int .u64 (hi R)]) (by simp [results,Tryz.results93,go_sem,r0,r1]) rfl ⟨by rw [hR.out],hbe.out⟩
end Go.Proofs.YtmnjakejhbpkoaaGreatDoor
end
section
set_option linter.unusedSimpArgs false
set_option linter.unusedVariables false
namespace Go.Proofs.YtmnjakejhbpkoaaGreatDoor
open Go Go.RowKit Go.Shelf
theorem Rep.grownT {B:Blks} {s:St} {w w':World} {blk:Nat} {c0:Array Value} {t:TypeId} {f0:Nat × Nat} (h:Rep B s w) (hk:w.heap[blk]? = some (.cells c0 t f0)) (h1:t≠tPair) (h2:t≠tNode) (h3:t≠tStore) (h4:t≠106) (hg:blk≠gPow∧blk≠gTz)
  (hs:∀ (k:Nat) (o:Obj),k≠blk→w.heap[k]? = some o→w'.heap[k]? = some o):Rep B s w':=by
 obtain ⟨nv,vs,hst,hn,he⟩:=h.store
 obtain ⟨c',hc⟩:=hn.nbk
 have n1:B.sb≠blk:=fun e=>by rw [e,hk] at hst;simp at hst;exact h3 hst.2.1
 have n2:B.nb≠blk:=fun e=>by rw [e,hk] at hc;simp at hc;exact h2 hc.2.1
 have nm:∀ {α β:Type} [DecidableEq α] {enc:α→Value} {encV:β→Value} {b:Nat} {m:α→Option β},MapAt enc encV w b m→MapAt enc encV w' b m:=fun {α β _ enc encV b m} hm=>by
  obtain ⟨L,cl,hb,hm2⟩:=hm
  refine ⟨L,cl,hs b _ (fun e=>?_) hb,hm2⟩
  rw [e,hk] at hb;simp at hb
 have same:∀ k,k≠blk→k < w.heap.size→w'.heap[k]? = w.heap[k]?:=fun k h1 h2=>by
  rw [Array.getElem?_eq_getElem h2];exact hs k _ h1 (Array.getElem?_eq_getElem h2)
 exact {
  tz:=h.tz.same (same _ (Ne.symm hg.2) h.tz.lt')
  pow:=h.pow.same (same _ (Ne.symm hg.1) h.pow.lt)
  glob:=h.glob
  store:=by
   refine ⟨nv,vs,hs _ _ n1 hst,⟨hn.len,ownsRow_same hn.own ?_,hn.blk,fun i hi hv=>?_⟩,he⟩
   ·intro k hk2
    rw [hn.blk] at hk2
    cases hk2
    rw [hs _ _ n2 hc,hc]
   ·obtain ⟨ba,c,hve,hrow⟩:=hn.els i hi hv
    refine ⟨ba,c,hve,hrow.imp id ?_⟩
    rintro ⟨b,o,rfl,cs,fz,hb,hcs⟩
    exact ⟨b,o,rfl,cs,fz,hs b _ (fun e=>by rw [e,hk] at hb;simp at hb;exact h1 hb.2.1) hb,hcs⟩
  tree:=by
   obtain ⟨c,fz,hb,hcs⟩:=h.tree
   refine ⟨c,fz,hs _ _ (fun e=>?_) hb,hcs⟩
   rw [e,hk] at hb;simp at hb;exact h4 hb.2.1
  leaf:=nm h.leaf
  uniq:=nm h.uniq
  ands:=nm h.ands
  nots:=nm h.nots
  apart:=h.apart
  small:=h.small }
end Go.Proofs.YtmnjakejhbpkoaaGreatDoor
end
section
set_option linter.unusedSimpArgs false
set_option linter.unusedVariables false
namespace Go.Proofs.YtmnjakejhbpkoaaGreatDoor
open Go Go.RowKit Go.Shelf
theorem FrV.trans {M:List Nat} {a b c:World} (h:Fr M a b) (k:Fr M b c):Fr M a c :=
 ⟨k.os.trans h.os,k.tape.trans h.tape,k.output.trans h.output,Nat.le_trans h.size k.size,fun j hj hM=>(k.block j (Nat.lt_of_lt_of_le hj h.size) hM).trans (h.block j hj hM)⟩
theorem SL.fr {t:List VN} {sb k:Nat} {X:List Nat} {s:St} {w0 w w':World} (h:SL t sb k X s w0 w) {p:Nat} {es:Array MapEntry} {cl:Nat} (hp:p∈X) (h0:w0.heap.size≤p) (hm:w.heap[p]? = some (.map es cl)) (hg:p≠gPow∧p≠gTz) (hF:Fr [p] w w'):SL t sb k X s w0 w':=by
 obtain ⟨B,h1,hR,h2,h3⟩:=h.on
 have hpl:=(Array.getElem?_eq_some_iff.1 hm).1
 have hpl':p < w'.heap.size:=Nat.lt_of_lt_of_le hpl hF.size
 obtain ⟨w2,hw2⟩:∃ w2:World,w2 = { w' with heap:=w'.heap.setIfInBounds p (.map es cl) }:=⟨_,rfl⟩
 have e1:w2.heap[p]? = some (.map es cl):=by rw [hw2];simp [hpl']
 have e2:∀ j,j≠p→w'.heap[j]? = w2.heap[j]?:=fun j hj=>by rw [hw2];simp [Array.getElem?_setIfInBounds,Ne.symm hj]
 have hR1:Rep B s w2:=hR.same fun j o hj=>by
  by_cases e:j = p
  ·subst e;rw [e1,hm]
  ·rw [←e2 j e]
   exact hF.block j (Array.getElem?_eq_some_iff.1 hj).1 (by simpa using e)
 have hR2:Rep B s w':=hR1.offMap e1 (h3 p hp).1 hg e2
 refine ⟨⟨B,h1,hR2,h2,fun x hx=>⟨(h3 x hx).1,Nat.lt_of_lt_of_le (h3 x hx).2 hF.size⟩⟩,h.room,h.tree,?_⟩
 exact ⟨hF.os.trans h.bel.os,hF.tape.trans h.bel.tape,hF.output.trans h.bel.output,Nat.le_trans h.bel.size hF.size,fun j hj=>(hF.block j (Nat.lt_of_lt_of_le hj h.bel.size) (by simp;omega)).trans (h.bel.block j hj)⟩
theorem fr_put (w:World) (K:TypeId) (p:Nat) (k v:Value):Fr [p] w (putMap K Tryz.prog w p k v):=by
 obtain ⟨p1,p2,p3,_⟩:=putMap_rest (P:=Tryz.prog) K w p k v
 exact ⟨p1,p2,p3,by rw [putMap_size];exact Nat.le_refl _,fun j _ hj=>putMap_other _ _ _ _ _ j (by simpa using hj)⟩
theorem fr_below {w w':World} (p:Nat) (hb:Below w.heap.size w w'):Fr [p] w w':=Fr.of_below hb
set_option maxRecDepth 100000 in
set_option maxHeartbeats 1000000 in
theorem vsize_any {t:List VN} {sb xv gt ct gb pc pn:Nat} {f:Nat→VSet} {w:World} (h:VwAt t sb xv gt ct gb pc pn f w) (hc:checkF t = 0) {j:Nat} (hj:j < t.length) :
  Calls Tryz.prog 161 #[.pointer (some ⟨xv,0,none⟩),.int .i64 (j:Nat)] w fun e w'=>e = .returned (.int .i64 (L.nv t j:Nat))∧Ext w w':=by
 have q:=len_any (f j) w
 rw [isBel_len hc hj (h.bel j hj)] at q
 generalize L.nv t j = N at *
 obtain ⟨⟨s1,s2⟩,_⟩:=h.sets.cell hj
 have c2:w.cell? ⟨xv,2,none⟩ = some (.slice (some ⟨gb,0,none⟩) t.length t.length):=by simp [World.cell?,h.box]
 have g0:(0:Int)≤j:=by omega
 have g1:(j:Int) < t.length:=by omega
 clear h
 go_enter Tryz.func161,Tryz.ntmps161
 go_wp2_with fail
 refine q.mono ?_
 rintro e w1 ⟨rfl,hx1⟩
 clear q
 go_wp2_with fail
 go_ret
 exact ⟨rfl,hx1⟩
end Go.Proofs.YtmnjakejhbpkoaaGreatDoor
end
section
set_option linter.unusedSimpArgs false
set_option linter.unusedVariables false
namespace Go.Proofs.YtmnjakejhbpkoaaGreatDoor
open Go Go.RowKit Go.Shelf
def CtM (t:List VN) (s:St) (m:List (Nat × Nat)):Prop:=∀ i c,asc m i = some c→∃ (nd:SNode) (P:Nat),s.nodes[i]? = some nd∧nd.pl = (P:Nat)∧P < t.length∧c = L.cnt (L.vl t P) (L.sem s.nodes i)
structure MI0 (t:List VN) (sb k:Nat) (X:List Nat) (s:St) (w0:World) (xv gt ct gb pc pn:Nat) (f:Nat→VSet) (wb:World):Prop where
 sl:SL t sb k X s w0 wb
 vw:VwAt t sb xv gt ct gb pc pn f wb
 px:pc∈X∧w0.heap.size≤pc∧pc≠gPow∧pc≠gTz
 ne:xv≠pc∧gt≠pc∧gb≠pc
 mb:∃ es cl,wb.heap[pc]? = some (.map es cl)
structure FI (t:List VN) (s:St) (pc:Nat) (wb:World) (m:List (Nat × Nat)) (W:World):Prop where
 fr:Fr [pc] wb W
 mp:MapAt encNat encC W pc (asc m)
 ct:CtM t s m
section
variable {t:List VN} {sb k:Nat} {X:List Nat} {s:St} {w0:World} {xv gt ct gb pc pn:Nat} {f:Nat→VSet} {wb W W':World} {m:List (Nat × Nat)}
theorem MI0.slAt (h:MI0 t sb k X s w0 xv gt ct gb pc pn f wb) (hF:Fr [pc] wb W):SL t sb k X s w0 W:=by
 obtain ⟨es,cl,hm⟩:=h.mb
 exact h.sl.fr h.px.1 h.px.2.1 hm h.px.2.2 hF
theorem MI0.vwAt (h:MI0 t sb k X s w0 xv gt ct gb pc pn f wb) (hF:Fr [pc] wb W):VwAt t sb xv gt ct gb pc pn f W:=by
 refine h.vw.same (hF.block _ (Array.getElem?_eq_some_iff.1 h.vw.box).1 (by simpa using h.ne.1)) (hF.block _ ?_ (by simpa using h.ne.2.1)) (hF.block _ h.vw.sets.lt (by simpa using h.ne.2.2))
 have h0:=(check_ok h.sl.chk).1
 exact World.block_lt_of_cell? _ _ ((h.vw.tree.node (k:=0) h0).1)
theorem FI.below (h:FI t s pc wb m W) (hb:Below W.heap.size W W'):FI t s pc wb m W' :=
 ⟨FrV.trans h.fr (fr_below pc hb),h.mp.same (hb.block _ h.mp.lt),h.ct⟩
theorem FI.fresh (h:FI t s pc wb m W) {r o:Nat} {v:Value} (hr:wb.heap.size≤r) (hne:r≠pc):FI t s pc wb m (W.setCell ⟨r,o,none⟩ v) :=
 ⟨⟨h.fr.os,h.fr.tape,h.fr.output,by have:=h.fr.size;simpa using this,fun j hj hM=>(heap_setN o v (by omega)).trans (h.fr.block j hj hM)⟩,h.mp.same (heap_setN o v (Ne.symm hne)),h.ct⟩
theorem zeroNat:∀ w,(zeroValue 52).run Tryz.prog w = .ok (natV 0) w:=fun w=>by kernel_rfl
theorem FI.look (h:FI t s pc wb m W) (a:Nat):(Instr.lookup 141 (.map (some pc)) (.int .i64 a) true).run Tryz.prog W = .ok (.tuple #[((asc m a).map encC).getD (natV 0),.bool (asc m a).isSome]) W :=
 h.mp.look natLaw (T:=141) Tryz.underlying141 _ zeroNat a
theorem FI.put (h:FI t s pc wb m W) (a c:Nat) (hc:∃ (nd:SNode) (P:Nat),s.nodes[a]? = some nd∧nd.pl = (P:Nat)∧P < t.length∧c = L.cnt (L.vl t P) (L.sem s.nodes a)) :
  (Instr.mapUpdate 141 (.map (some pc)) (.int .i64 a) (natV c)).run Tryz.prog W = .ok () (putMap 3 Tryz.prog W pc (encNat a) (encC c))∧FI t s pc wb ((a,c) :: m) (putMap 3 Tryz.prog W pc (encNat a) (encC c))∧Fr [pc] W (putMap 3 Tryz.prog W pc (encNat a) (encC c)):=by
 obtain ⟨h1,h2⟩:=h.mp.put natLaw (T:=141) Tryz.underlying141 a c
 refine ⟨h1,⟨FrV.trans h.fr (fr_put W _ pc _ _),by rw [asc_cons];exact h2,fun i d hd=>?_⟩,fr_put W _ pc _ _⟩
 have hd':(if i = a then some c else asc m i) = some d:=hd
 split at hd'
 ·rename_i e
  cases hd';subst e;exact hc
 ·exact h.ct i d hd'
end
theorem NewP.cells {n:Nat} {w:World} {ba:Option Addr} {l:List (Nat × Nat)} (h:NewP n w ba l) (hl:l≠[]):∃ g cs,ba = some ⟨g,0,none⟩∧n≤g∧w.heap[g]? = some (.cells cs tPair (0,0))∧∀ j (hj:j < l.length),cs[j * 2]? = some (.int .i64 (l[j].1:Nat))∧cs[j * 2+1]? = some (.int .i64 (l[j].2:Nat)):=by
 obtain h | ⟨g,cs,h1,h2,h3,h4⟩:=h
 ·exact absurd h hl
 ·refine ⟨g,cs,h1,h2,h3,fun j hj=>?_⟩
  have hR:RowAt w g 0 tPair (flatP l):=⟨cs,(0,0),h3,h4⟩
  have:=hR.off0 j hj
  simpa [World.cell?,h3] using this
end Go.Proofs.YtmnjakejhbpkoaaGreatDoor
end
section
set_option linter.unusedSimpArgs false
set_option linter.unusedVariables false
namespace Go.Proofs.YtmnjakejhbpkoaaGreatDoor
open Go Go.RowKit Go.Shelf
def RetM (t:List VN) (s:St) (pc:Nat) (wb W:World) (n:Nat) (e:Ending) (W':World):Prop:=∃ m',e = .returned (natV n)∧FI t s pc wb m' W'∧Fr [pc] W W'
section
variable {t:List VN} {sb k:Nat} {X:List Nat} {s:St} {w0:World} {xv gt ct gb pc pn:Nat} {f:Nat→VSet} {wb W:World} {m:List (Nat × Nat)}
set_option maxRecDepth 100000 in
set_option maxHeartbeats 2000000 in
theorem models_zero (h0:MI0 t sb k X s w0 xv gt ct gb pc pn f wb) (hF:FI t s pc wb m W) (at_:Nat) :
  Calls Tryz.prog 97 #[.pointer (some ⟨xv,0,none⟩),.int .i64 0,.int .i64 (at_:Nat)] W (RetM t s pc wb W 0):=by
 have hb1:=(Below.refl W.heap.size W).alloc (Nat.le_refl _) (.cells #[.string ⟨#[]⟩] 52)
 have hx1:=heap_alloc_new W (.cells #[.string ⟨#[]⟩] 52)
 have hF1:=hF.below hb1
 go_enter Tryz.func97,Tryz.ntmps97
 go_wp2_with fail
 have hc:(W.alloc (.cells #[.string ⟨#[]⟩] 52)).cell? ⟨W.heap.size,0,none⟩ = some (.string ⟨#[]⟩):=by rw [World.cell?,hx1];rfl
 exact bodyPost_ret (v:=.agg #[.string ⟨#[]⟩]) (by simp [results,Tryz.results97,go_sem,hc]) rfl ⟨m,rfl,hF1,fr_below pc hb1⟩
set_option maxRecDepth 100000 in
set_option maxHeartbeats 2000000 in
theorem models_one (h0:MI0 t sb k X s w0 xv gt ct gb pc pn f wb) (hF:FI t s pc wb m W) {at_:Nat} (hat:at_ < t.length) :
  Calls Tryz.prog 97 #[.pointer (some ⟨xv,0,none⟩),.int .i64 1,.int .i64 (at_:Nat)] W (RetM t s pc wb W (2 ^ L.nv t at_)):=by
 have hc:=h0.sl.chk
 have hn6:L.nv t at_ < 8:=by have:=L.nv_le hc hat;have:=h0.sl.few;omega
 have hb1:=(Below.refl W.heap.size W).alloc (Nat.le_refl _) (.cells #[.string ⟨#[]⟩] 52)
 have hx1:=heap_alloc_new W (.cells #[.string ⟨#[]⟩] 52)
 have hF1:=hF.below hb1
 have q1:=vsize_any (h0.vwAt hF1.fr) hc hat
 have q2:=fun W=>pow2_any (w:=W) hn6
 generalize L.nv t at_ = N at *
 replace q2:=Lib.hid q2
 go_enter Tryz.func97,Tryz.ntmps97
 go_wp2_with fail
 generalize W.alloc (.cells #[.string ⟨#[]⟩] 52) = w1 at *
 refine q1.mono ?_
 rintro e w2 ⟨rfl,hx2⟩
 have q2':=q2.out w2
 clear q1
 go_wp2_with fail
 refine q2'.mono ?_
 rintro e w3 ⟨rfl,hb3⟩
 have hb3':=hx2.below.trans (hb3.mono hx2.size)
 have hr3:=(hb3'.block _ (Array.getElem?_eq_some_iff.1 hx1).1).trans hx1
 have hF3:=hF1.below hb3'
 have hfr3:Fr [pc] W w3:=fr_below pc (hb1.trans (hb3'.mono hb1.size))
 have fz:w3.frozen? ⟨W.heap.size,0,none⟩ = false:=by simp [World.frozen?,hr3]
 have hcc:w3.cell? ⟨W.heap.size,0,none⟩ = some (.string ⟨#[]⟩):=by simp [World.cell?,hr3]
 unfold natV
 generalize hT:(⟨(natL (2 ^ N)).toArray⟩:ByteArray) = T at *
 have hfin:((w3.setCell ⟨W.heap.size,0,none⟩ (.string T)).cell? ⟨W.heap.size,0,none⟩ = some (.string T)):=by simp [World.cell?,heap_set hr3 0 _]
 replace hfin:=Lib.hid hfin
 have hF4:=Lib.hid (hF3.fresh (r:=W.heap.size) (o:=0) (v:=.string T) hF.fr.size (by have:=hF.mp.lt;omega))
 have hfr4:Hid (Fr [pc] W (w3.setCell ⟨W.heap.size,0,none⟩ (.string T))):=Lib.hid ⟨hfr3.os,hfr3.tape,hfr3.output,by have:=hfr3.size;simpa using this,fun j hj hM=>(heap_setN 0 _ (by omega)).trans (hfr3.block j hj hM)⟩
 replace hr3:=Lib.hid hr3
 clear q2' hb3 hb3' hx2 hx1 hb1 hF3 hfr3
 go_wp2_with fail
 exact bodyPost_ret (v:=.agg #[.string T]) (by simp [results,Tryz.results97,go_sem,hfin.out]) rfl ⟨m,by rw [←hT] <;> rfl,hF4.out,hfr4.out⟩
end
end Go.Proofs.YtmnjakejhbpkoaaGreatDoor
end
