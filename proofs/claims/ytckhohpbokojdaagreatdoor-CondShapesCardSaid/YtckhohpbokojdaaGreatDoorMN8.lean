import Derived.Shelf.SlGeneric
import Derived.Shelf.SortM.Plain
import Derived.Test.YtckhohpbokojdaaGreatDoorProg
import Derived.Test.YtckhohpbokojdaaGreatDoorMN7
import Derived.Sort.OwnSortedInts
import Derived.Shelf.SortM.SortNone
section
namespace Go.Proofs
open Go.Shelf
def Tryz.sortInt_ren:Go.Shelf.Ren:=⟨fun | 5=>114 | 8=>97 | 7=>124 | 19=>110 | 20=>111 | 10=>128 | 11=>129 | 12=>130 | 13=>131 | 14=>132 | 15=>133 | 16=>134 | 17=>135 | 18=>136 | 30=>139 | 31=>116 | 32=>117 | 33=>140 | 34=>141 | 35=>142 | 40=>147 | n=>n,fun | 23=>25 | 25=>3 | 3=>3 | 32=>52 | 22=>25 | 0=>0 | 44=>123 | 46=>35 | 4=>4 | 36=>116 | 35=>115 | 41=>120 | 5=>5 | 9=>9 | 53=>128 | 57=>132 | 63=>145 | 64=>146 | n=>n,fun | n=>n⟩
theorem Tryz.sortInt:Go.Proofs.SlLaysM.n5 Tryz.prog Tryz.sortInt_ren:={
 mixed:=by kernel_rfl
 f5:=⟨Tryz.f114.name,by decide,Tryz.func114.trans (congrArg some (by kernel_rfl))⟩
 f7:=⟨Tryz.f124.name,by decide,Tryz.func124.trans (congrArg some (by kernel_rfl))⟩
 f8:=Tryz.func97.trans (congrArg some (by kernel_rfl))
 f10:=⟨Tryz.f128.name,by decide,Tryz.func128.trans (congrArg some (by kernel_rfl))⟩
 f11:=⟨Tryz.f129.name,by decide,Tryz.func129.trans (congrArg some (by kernel_rfl))⟩
 f12:=⟨Tryz.f130.name,by decide,Tryz.func130.trans (congrArg some (by kernel_rfl))⟩
 f13:=⟨Tryz.f131.name,by decide,Tryz.func131.trans (congrArg some (by kernel_rfl))⟩
 f14:=⟨Tryz.f132.name,by decide,Tryz.func132.trans (congrArg some (by kernel_rfl))⟩
 f15:=⟨Tryz.f133.name,by decide,Tryz.func133.trans (congrArg some (by kernel_rfl))⟩
 f16:=⟨Tryz.f134.name,by decide,Tryz.func134.trans (congrArg some (by kernel_rfl))⟩
 f17:=⟨Tryz.f135.name,by decide,Tryz.func135.trans (congrArg some (by kernel_rfl))⟩
 f18:=⟨Tryz.f136.name,by decide,Tryz.func136.trans (congrArg some (by kernel_rfl))⟩
 f19:=Tryz.func110.trans (congrArg some (by kernel_rfl))
 f20:=Tryz.func111.trans (congrArg some (by kernel_rfl))
 f30:=⟨Tryz.f139.name,by decide,Tryz.func139.trans (congrArg some (by kernel_rfl))⟩
 f31:=Tryz.func116.trans (congrArg some (by kernel_rfl))
 f32:=Tryz.func117.trans (congrArg some (by kernel_rfl))
 f33:=⟨Tryz.f140.name,by decide,Tryz.func140.trans (congrArg some (by kernel_rfl))⟩
 f34:=⟨Tryz.f141.name,by decide,Tryz.func141.trans (congrArg some (by kernel_rfl))⟩
 f35:=⟨Tryz.f142.name,by decide,Tryz.func142.trans (congrArg some (by kernel_rfl))⟩
 f40:=⟨Tryz.f147.name,by decide,Tryz.func147.trans (congrArg some (by kernel_rfl))⟩
 t0:=Tryz.underlying0
 a0:=Tryz.isAgg0
 z0:=Tryz.sizeOf0
 v0:=Tryz.zeroValue0
 t3:=Tryz.underlying3
 a3:=Tryz.isAgg3
 z3:=Tryz.sizeOf3
 v3:=Tryz.zeroValue3
 t4:=Tryz.underlying4
 a4:=Tryz.isAgg4
 z4:=Tryz.sizeOf4
 v4:=Tryz.zeroValue4
 t5:=Tryz.underlying5
 a5:=Tryz.isAgg5
 z5:=Tryz.sizeOf5
 v5:=Tryz.zeroValue5
 t9:=Tryz.underlying9
 a9:=Tryz.isAgg9
 z9:=Tryz.sizeOf9
 v9:=Tryz.zeroValue9
 t22:=Tryz.underlying25
 a22:=Tryz.isAgg25
 z22:=Tryz.sizeOf25
 v22:=Tryz.zeroValue25
 t23:=Tryz.underlying25
 a23:=Tryz.isAgg25
 z23:=Tryz.sizeOf25
 v23:=Tryz.zeroValue25
 t25:=Tryz.underlying3
 a25:=Tryz.isAgg3
 z25:=Tryz.sizeOf3
 v25:=Tryz.zeroValue3
 t32:=Tryz.underlying52
 a32:=Tryz.isAgg52
 z32:=Tryz.sizeOf52
 v32:=Tryz.zeroValue52
 t35:=Tryz.underlying115
 a35:=Tryz.isAgg115
 z35:=Tryz.sizeOf115
 v35:=Tryz.zeroValue115
 t36:=Tryz.underlying116
 a36:=Tryz.isAgg116
 z36:=Tryz.sizeOf116
 v36:=Tryz.zeroValue116
 t41:=Tryz.underlying120
 a41:=Tryz.isAgg120
 z41:=Tryz.sizeOf120
 v41:=Tryz.zeroValue120
 t44:=Tryz.underlying123
 a44:=Tryz.isAgg123
 z44:=Tryz.sizeOf123
 v44:=Tryz.zeroValue123
 t46:=Tryz.underlying35
 a46:=Tryz.isAgg35
 z46:=Tryz.sizeOf35
 v46:=Tryz.zeroValue35
 t53:=Tryz.underlying128
 a53:=Tryz.isAgg128
 z53:=Tryz.sizeOf128
 v53:=Tryz.zeroValue128
 t57:=Tryz.underlying132
 a57:=Tryz.isAgg132
 z57:=Tryz.sizeOf132
 v57:=Tryz.zeroValue132
 t63:=Tryz.underlying145
 a63:=Tryz.isAgg145
 z63:=Tryz.sizeOf145
 v63:=Tryz.zeroValue145
 t64:=Tryz.underlying146
 a64:=Tryz.isAgg146
 z64:=Tryz.sizeOf146
 v64:=Tryz.zeroValue146 }
end Go.Proofs
end
section
set_option linter.unusedSimpArgs false
set_option linter.unusedVariables false
namespace Go.Proofs.YtckhohpbokojdaaGreatDoor
open Go Go.RowKit Go.Shelf
theorem sort_ownN {w:World} {base:Nat} {v:Value} {l:List Nat} (ho:w.ownsRow base 3 1 v l.length (l.map encI)) (hne:l≠[]) (hl:l.length≤1048576) :
  Calls Tryz.prog 114 #[v] w fun e w'=>e = .returned (.tuple #[])∧∃ b:List Nat,b.Perm l∧b.Pairwise (·≤·)∧w'.ownsRow base 3 1 v b.length (b.map encI)∧w.grownBy w' v.ownBlock:=by
 rcases ho.2 with ⟨rfl,e⟩ | ⟨g,cap,cur,rfl,hbase,hb,h1,h2,h3,h4⟩
 ·exact absurd (List.length_eq_zero_iff.1 e) hne
 ·have em:l.map encI = (l.map fun n:Nat=>(n:Int)).map (Value.int .i64):=by rw [List.map_map];rfl
  rw [em,show l.length = (l.map fun n:Nat=>(n:Int)).length by simp] at h4
  have hcall:=AnyM.slices_Sort_int Tryz.sortInt g 0 cap (l.map fun n:Nat=>(n:Int)) w (holds_of_blockI hb (by simpa using h4)) (Array.getElem?_eq_some_iff.1 hb).1 (by simp;omega)
  have hperm:=List.mergeSort_perm (l.map fun n:Nat=>(n:Int)) (fun x y=>decide (x≤y))
  have hpw:=List.pairwise_mergeSort (le:=fun x y:Int=>decide (x≤y)) (by intro a b c h1 h2;simp only [decide_eq_true_eq] at *;omega) (by intro a b;simp only [Bool.or_eq_true,decide_eq_true_eq];omega) (l.map fun n:Nat=>(n:Int))
  generalize hz:(l.map fun n:Nat=>(n:Int)).mergeSort (fun x y=>decide (x≤y)) = zs at *
  obtain ⟨b,hbz⟩:∃ b:List Nat,zs = b.map fun n:Nat=>(n:Int):=by
   refine ⟨zs.map Int.toNat,?_⟩
   rw [List.map_map]
   have:∀ z∈zs,((fun n:Nat=>(n:Int)) ∘ Int.toNat) z = z:=fun z hz'=>by
    obtain ⟨n,_,rfl⟩:=List.mem_map.1 (hperm.mem_iff.1 hz')
    simp
   exact (List.map_congr_left this).trans (List.map_id zs) |>.symm
  subst hbz
  have hinj:∀ {a c:List Nat},(a.map fun n:Nat=>(n:Int)).Perm (c.map fun n:Nat=>(n:Int))→a.Perm c:=fun {a c} h=>by
   have:=h.map Int.toNat
   simpa [List.map_map,Function.comp_def] using this
  rw [List.length_map] at hcall
  refine hcall.mono ?_
  rintro e w' ⟨rfl,n,os,rfl⟩
  have hbl:b.length = l.length:=(hinj hperm).length_eq
  refine ⟨rfl,b,hinj hperm,?_,?_,grownBy_sortedI _⟩
  ·rw [List.pairwise_map] at hpw
   exact hpw.imp fun h=>by simpa using h
  ·have:=ownsRow_sortedI (n:=n) (os:=os) (ss:=l.map fun n:Nat=>(n:Int)) (ts:=b.map fun n:Nat=>(n:Int)) (by simp [hbl]) hbase hb (by simpa using h1) h2 h3
   have e2:b.map encI = (b.map fun n:Nat=>(n:Int)).map (Value.int .i64):=by rw [List.map_map];rfl
   rw [e2,hbl]
   simpa using this
theorem sort_anyN {w:World} {base:Nat} {v:Value} {l:List Nat} (ho:w.ownsRow base 3 1 v l.length ((castL l).map encZ)) (hl:l.length≤1048576) :
  Calls Tryz.prog 114 #[v] w fun e w'=>e = .returned (.tuple #[])∧w'.ownsRow base 3 1 v l.length ((castL (L.sortN l)).map encZ)∧w.grownBy w' v.ownBlock:=by
 by_cases hne:l = []
 ·subst hne
  obtain ⟨ba,cp,e,_⟩:=owns_slI (l:=castL []) ho
  have e2:v = .slice ba 0 cp:=e
  subst e2
  refine (AnyM.slices_Sort_int_none Tryz.sortInt ba cp w).mono ?_
  rintro e w' ⟨rfl,rfl⟩
  exact ⟨rfl,ho,rfl,rfl,rfl,Nat.le_refl _,fun _ _ _=>rfl⟩
 ·have em:(castL l).map encZ = l.map encI:=by unfold castL;rw [List.map_map];rfl
  rw [em] at ho
  refine (sort_ownN ho hne hl).mono ?_
  rintro e w' ⟨rfl,b,hp,hs,hb,hg⟩
  have eb:=L.sortN_eq hs hp
  refine ⟨rfl,?_,hg⟩
  have em2:(castL (L.sortN l)).map encZ = b.map encI:=by rw [←eb];unfold castL;rw [List.map_map];rfl
  rw [em2,←hp.length_eq]
  exact hb
theorem inRun_out (bl:List L.ND) (drop fin:Int):∀ m:List Nat,(L.inRun bl drop fin m).out.Nodup∧∀ i∈(L.inRun bl drop fin m).out,i∈m:=by
 refine L.snoc_ind ⟨List.nodup_nil,fun i hi=>by cases hi⟩ fun m k ih=>?_
 rw [L.inRun_snoc]
 have h:(L.inStep bl drop fin (L.inRun bl drop fin m) k).out = (L.inRun bl drop fin m).out∨(L.inStep bl drop fin (L.inRun bl drop fin m) k).out = (L.inRun bl drop fin m).out++[k]∧k∉(L.inRun bl drop fin m).out:=by
  unfold L.inStep
  dsimp only
  split <;> split <;> first | exact .inl rfl | skip
  all_goals
   split
   ·rename_i h;exact .inr ⟨rfl,h.2⟩
   ·exact .inl rfl
 rcases h with h | ⟨h,hn⟩
 ·rw [h];exact ⟨ih.1,fun i hi=>List.mem_append_left _ (ih.2 i hi)⟩
 ·rw [h]
  refine ⟨?_,fun i hi=>?_⟩
  ·rw [List.nodup_append]
   exact ⟨ih.1,by simp,fun a ha b hb e=>hn (by rw [←List.mem_singleton.1 hb,←e];exact ha)⟩
  ·rcases List.mem_append.1 hi with hi | hi
   ·exact List.mem_append_left _ (ih.2 i hi)
   ·exact List.mem_append_right _ hi
theorem bok_lit {n:Int} {bl:List L.ND} (h:L.BOK n bl) (hn:0≤n∧n≤128) {i:Nat} (hi:i < bl.length):-128≤(L.ndAt bl i).lit∧(L.ndAt bl i).lit≤128:=by
 rw [L.ndAt_lt hi]
 rcases h.form _ (List.getElem_mem hi) with ⟨_,e,_⟩ | ⟨_,e,_⟩ | ⟨_,e,_⟩ <;> omega
theorem bok_inp {n:Int} {bl:List L.ND} (h:L.BOK n bl) {i:Nat} (hi:i < bl.length):(L.ndAt bl i).inp.length≤bl.length∧∀ k∈(L.ndAt bl i).inp,k < bl.length:=by
 rw [L.ndAt_lt hi]
 have hk:∀ k∈bl[i].inp,k < bl.length:=fun k hk=>Nat.lt_trans (h.kids i hi k hk) hi
 refine ⟨?_,hk⟩
 rcases h.form _ (List.getElem_mem hi) with ⟨_,_,e⟩ | ⟨_,_,e⟩ | ⟨_,_,e,_⟩
 ·rw [e];exact Nat.zero_le _
 ·rw [e];exact Nat.zero_le _
 ·exact L.nodup_lt _ _ (e.imp fun h=>Nat.ne_of_lt h) hk
theorem flat_take (bl:List L.ND) (kd:Int) (l:List Nat) {k:Nat} (hk:k < l.length):L.flatND bl kd (l.take (k+1)) = L.flatND bl kd (l.take k)++if (L.ndAt bl l[k]).kind = kd then (L.ndAt bl l[k]).inp else [l[k]]:=by
 unfold L.flatND
 rw [List.take_succ_eq_append_getElem hk,List.flatMap_append]
 simp
theorem seven_all (w:World) (a b c d e f g:Obj):let W:=((((((w.alloc a).alloc b).alloc c).alloc d).alloc e).alloc f).alloc g;W.heap[w.heap.size]? = some a∧W.heap[w.heap.size+1]? = some b∧W.heap[w.heap.size+1+1]? = some c∧W.heap[w.heap.size+1+1+1]? = some d∧W.heap[w.heap.size+1+1+1+1]? = some e∧W.heap[w.heap.size+1+1+1+1+1]? = some f∧W.heap[w.heap.size+1+1+1+1+1+1]? = some g:=by
 obtain ⟨h0,h1,h2⟩:=alloc3h w a b c
 have k:∀ (V:World) (o:Obj) (j:Nat) (x:Obj),V.heap[j]? = some x→(V.alloc o).heap[j]? = some x:=fun V o j x h=>(Below.heap_alloc _ _ _ (Array.getElem?_eq_some_iff.1 h).1).trans h
 refine ⟨k _ _ _ _ (k _ _ _ _ (k _ _ _ _ (k _ _ _ _ h0))),k _ _ _ _ (k _ _ _ _ (k _ _ _ _ (k _ _ _ _ h1))),k _ _ _ _ (k _ _ _ _ (k _ _ _ _ (k _ _ _ _ h2))),k _ _ _ _ (k _ _ _ _ (k _ _ _ _ (heap_new_at _ _ _ (by simp)))),k _ _ _ _ (k _ _ _ _ (heap_new_at _ _ _ (by simp))),k _ _ _ _ (heap_new_at _ _ _ (by simp)),heap_new_at _ _ _ (by simp)⟩
def InII (bx:Nat) (drop fin:Int) (bl:List L.ND) (w:World) (m:List Nat) (W:World):Prop :=
 Below w.heap.size w W∧InAt (⟨w.heap.size,w.heap.size+1,w.heap.size+1+1,w.heap.size+1+1+1,w.heap.size+1+1+1+1,w.heap.size+1+1+1+1+1,w.heap.size+1+1+1+1+1+1⟩:InB) w.heap.size (w.heap.size+7) bx drop fin (L.inRun bl drop fin m) W
end Go.Proofs.YtckhohpbokojdaaGreatDoor
end
