import Derived.Shelf.SlGeneric
import Derived.Shelf.SortM.Plain
import Derived.Test.YtckhohpbokojdaaGreatDoorProg
import Derived.Test.YtckhohpbokojdaaGreatDoorLN7
import Derived.Sort.OwnSortedInts
import Derived.Shelf.SortM.SortNone
import Derived.BigQuiet
section
namespace Go.Proofs
open Go.Shelf
def Tryz.sortInt_ren:Go.Shelf.Ren:=⟨fun | 5=>114 | 8=>97 | 7=>124 | 19=>110 | 20=>111 | 10=>128 | 11=>129 | 12=>130 | 13=>131 | 14=>132 | 15=>133 | 16=>134 | 17=>135 | 18=>136 | 30=>139 | 31=>116 | 32=>117 | 33=>140 | 34=>141 | 35=>142 | 40=>147 | n=>n,fun | 23=>25 | 25=>3 | 3=>3 | 32=>52 | 22=>25 | 0=>0 | 44=>123 | 46=>35 | 4=>4 | 36=>116 | 35=>115 | 41=>120 | 5=>5 | 9=>9 | 53=>128 | 57=>132 | 63=>145 | 64=>146 | n=>n,fun | n=>n⟩
theorem Tryz.sortInt:Go.Proofs.SlLaysM.n5 Tryz.prog Tryz.sortInt_ren:={
 mixed:=by kernel_rfl
 f5:=⟨Tryz.f114.name,by decide,Tryz.func114.trans (congrArg some (by kernel_rfl))⟩
 f7:=⟨Tryz.f124.name,by decide,Tryz.func124.trans (congrArg some (by kernel_rfl))⟩
 f8:=Tryz.func97.trans (congrArg some (by kernel_rfl))
 f10:=⟨Tryz.f128.name,by decide,Tryz.func128.trans (congrArg some (by kernel_rfl))⟩
 f11:=⟨Tryz.f129.name,by decide,Tryz.func129.trans (congrArg some (by kernel_rfl))⟩
 f12:=⟨Tryz.f130.name,by decide,Tryz.func130.trans (congrArg some (by kernel_rfl))⟩
 f13:=⟨Tryz.f131.name,by decide,Tryz.func131.trans (congrArg some (by kernel_rfl))⟩
 f14:=⟨Tryz.f132.name,by decide,Tryz.func132.trans (congrArg some (by kernel_rfl))⟩
 f15:=⟨Tryz.f133.name,by decide,Tryz.func133.trans (congrArg some (by kernel_rfl))⟩
 f16:=⟨Tryz.f134.name,by decide,Tryz.func134.trans (congrArg some (by kernel_rfl))⟩
 f17:=⟨Tryz.f135.name,by decide,Tryz.func135.trans (congrArg some (by kernel_rfl))⟩
 f18:=⟨Tryz.f136.name,by decide,Tryz.func136.trans (congrArg some (by kernel_rfl))⟩
 f19:=Tryz.func110.trans (congrArg some (by kernel_rfl))
 f20:=Tryz.func111.trans (congrArg some (by kernel_rfl))
 f30:=⟨Tryz.f139.name,by decide,Tryz.func139.trans (congrArg some (by kernel_rfl))⟩
 f31:=Tryz.func116.trans (congrArg some (by kernel_rfl))
 f32:=Tryz.func117.trans (congrArg some (by kernel_rfl))
 f33:=⟨Tryz.f140.name,by decide,Tryz.func140.trans (congrArg some (by kernel_rfl))⟩
 f34:=⟨Tryz.f141.name,by decide,Tryz.func141.trans (congrArg some (by kernel_rfl))⟩
 f35:=⟨Tryz.f142.name,by decide,Tryz.func142.trans (congrArg some (by kernel_rfl))⟩
 f40:=⟨Tryz.f147.name,by decide,Tryz.func147.trans (congrArg some (by kernel_rfl))⟩
 t0:=Tryz.underlying0
 a0:=Tryz.isAgg0
 z0:=Tryz.sizeOf0
 v0:=Tryz.zeroValue0
 t3:=Tryz.underlying3
 a3:=Tryz.isAgg3
 z3:=Tryz.sizeOf3
 v3:=Tryz.zeroValue3
 t4:=Tryz.underlying4
 a4:=Tryz.isAgg4
 z4:=Tryz.sizeOf4
 v4:=Tryz.zeroValue4
 t5:=Tryz.underlying5
 a5:=Tryz.isAgg5
 z5:=Tryz.sizeOf5
 v5:=Tryz.zeroValue5
 t9:=Tryz.underlying9
 a9:=Tryz.isAgg9
 z9:=Tryz.sizeOf9
 v9:=Tryz.zeroValue9
 t22:=Tryz.underlying25
 a22:=Tryz.isAgg25
 z22:=Tryz.sizeOf25
 v22:=Tryz.zeroValue25
 t23:=Tryz.underlying25
 a23:=Tryz.isAgg25
 z23:=Tryz.sizeOf25
 v23:=Tryz.zeroValue25
 t25:=Tryz.underlying3
 a25:=Tryz.isAgg3
 z25:=Tryz.sizeOf3
 v25:=Tryz.zeroValue3
 t32:=Tryz.underlying52
 a32:=Tryz.isAgg52
 z32:=Tryz.sizeOf52
 v32:=Tryz.zeroValue52
 t35:=Tryz.underlying115
 a35:=Tryz.isAgg115
 z35:=Tryz.sizeOf115
 v35:=Tryz.zeroValue115
 t36:=Tryz.underlying116
 a36:=Tryz.isAgg116
 z36:=Tryz.sizeOf116
 v36:=Tryz.zeroValue116
 t41:=Tryz.underlying120
 a41:=Tryz.isAgg120
 z41:=Tryz.sizeOf120
 v41:=Tryz.zeroValue120
 t44:=Tryz.underlying123
 a44:=Tryz.isAgg123
 z44:=Tryz.sizeOf123
 v44:=Tryz.zeroValue123
 t46:=Tryz.underlying35
 a46:=Tryz.isAgg35
 z46:=Tryz.sizeOf35
 v46:=Tryz.zeroValue35
 t53:=Tryz.underlying128
 a53:=Tryz.isAgg128
 z53:=Tryz.sizeOf128
 v53:=Tryz.zeroValue128
 t57:=Tryz.underlying132
 a57:=Tryz.isAgg132
 z57:=Tryz.sizeOf132
 v57:=Tryz.zeroValue132
 t63:=Tryz.underlying145
 a63:=Tryz.isAgg145
 z63:=Tryz.sizeOf145
 v63:=Tryz.zeroValue145
 t64:=Tryz.underlying146
 a64:=Tryz.isAgg146
 z64:=Tryz.sizeOf146
 v64:=Tryz.zeroValue146 }
end Go.Proofs
end
section
set_option linter.unusedSimpArgs false
set_option linter.unusedVariables false
namespace Go.Proofs.YtckhohpbokojdaaGreatDoor
open Go Go.RowKit Go.Shelf
theorem sort_ownN {w:World} {base:Nat} {v:Value} {l:List Nat} (ho:w.ownsRow base 3 1 v l.length (l.map encI)) (hne:l≠[]) (hl:l.length≤1048576) :
  Calls Tryz.prog 114 #[v] w fun e w'=>e = .returned (.tuple #[])∧∃ b:List Nat,b.Perm l∧b.Pairwise (·≤·)∧w'.ownsRow base 3 1 v b.length (b.map encI)∧w.grownBy w' v.ownBlock:=by
 rcases ho.2 with ⟨rfl,e⟩ | ⟨g,cap,cur,rfl,hbase,hb,h1,h2,h3,h4⟩
 ·exact absurd (List.length_eq_zero_iff.1 e) hne
 ·have em:l.map encI = (l.map fun n:Nat=>(n:Int)).map (Value.int .i64):=by rw [List.map_map];rfl
  rw [em,show l.length = (l.map fun n:Nat=>(n:Int)).length by simp] at h4
  have hcall:=AnyM.slices_Sort_int Tryz.sortInt g 0 cap (l.map fun n:Nat=>(n:Int)) w (holds_of_blockI hb (by simpa using h4)) (Array.getElem?_eq_some_iff.1 hb).1 (by simp;omega)
  have hperm:=List.mergeSort_perm (l.map fun n:Nat=>(n:Int)) (fun x y=>decide (x≤y))
  have hpw:=List.pairwise_mergeSort (le:=fun x y:Int=>decide (x≤y)) (by intro a b c h1 h2;simp only [decide_eq_true_eq] at *;omega) (by intro a b;simp only [Bool.or_eq_true,decide_eq_true_eq];omega) (l.map fun n:Nat=>(n:Int))
  generalize hz:(l.map fun n:Nat=>(n:Int)).mergeSort (fun x y=>decide (x≤y)) = zs at *
  obtain ⟨b,hbz⟩:∃ b:List Nat,zs = b.map fun n:Nat=>(n:Int):=by
   refine ⟨zs.map Int.toNat,?_⟩
   rw [List.map_map]
   have:∀ z∈zs,((fun n:Nat=>(n:Int)) ∘ Int.toNat) z = z:=fun z hz'=>by
    obtain ⟨n,_,rfl⟩:=List.mem_map.1 (hperm.mem_iff.1 hz')
    simp
   exact (List.map_congr_left this).trans (List.map_id zs) |>.symm
  subst hbz
  have hinj:∀ {a c:List Nat},(a.map fun n:Nat=>(n:Int)).Perm (c.map fun n:Nat=>(n:Int))→a.Perm c:=fun {a c} h=>by
   have:=h.map Int.toNat
   simpa [List.map_map,Function.comp_def] using this
  rw [List.length_map] at hcall
  refine hcall.mono ?_
  rintro e w' ⟨rfl,n,os,rfl⟩
  have hbl:b.length = l.length:=(hinj hperm).length_eq
  refine ⟨rfl,b,hinj hperm,?_,?_,grownBy_sortedI _⟩
  ·rw [List.pairwise_map] at hpw
   exact hpw.imp fun h=>by simpa using h
  ·have:=ownsRow_sortedI (n:=n) (os:=os) (ss:=l.map fun n:Nat=>(n:Int)) (ts:=b.map fun n:Nat=>(n:Int)) (by simp [hbl]) hbase hb (by simpa using h1) h2 h3
   have e2:b.map encI = (b.map fun n:Nat=>(n:Int)).map (Value.int .i64):=by rw [List.map_map];rfl
   rw [e2,hbl]
   simpa using this
theorem sort_anyN {w:World} {base:Nat} {v:Value} {l:List Nat} (ho:w.ownsRow base 3 1 v l.length ((castL l).map encZ)) (hl:l.length≤1048576) :
  Calls Tryz.prog 114 #[v] w fun e w'=>e = .returned (.tuple #[])∧w'.ownsRow base 3 1 v l.length ((castL (L.sortN l)).map encZ)∧w.grownBy w' v.ownBlock:=by
 by_cases hne:l = []
 ·subst hne
  obtain ⟨ba,cp,e,_⟩:=owns_slI (l:=castL []) ho
  have e2:v = .slice ba 0 cp:=e
  subst e2
  refine (AnyM.slices_Sort_int_none Tryz.sortInt ba cp w).mono ?_
  rintro e w' ⟨rfl,rfl⟩
  exact ⟨rfl,ho,rfl,rfl,rfl,Nat.le_refl _,fun _ _ _=>rfl⟩
 ·have em:(castL l).map encZ = l.map encI:=by unfold castL;rw [List.map_map];rfl
  rw [em] at ho
  refine (sort_ownN ho hne hl).mono ?_
  rintro e w' ⟨rfl,b,hp,hs,hb,hg⟩
  have eb:=L.sortN_eq hs hp
  refine ⟨rfl,?_,hg⟩
  have em2:(castL (L.sortN l)).map encZ = b.map encI:=by rw [←eb];unfold castL;rw [List.map_map];rfl
  rw [em2,←hp.length_eq]
  exact hb
theorem inRun_out (bl:List L.ND) (drop fin:Int):∀ m:List Nat,(L.inRun bl drop fin m).out.Nodup∧∀ i∈(L.inRun bl drop fin m).out,i∈m:=by
 refine L.snoc_ind ⟨List.nodup_nil,fun i hi=>by cases hi⟩ fun m k ih=>?_
 rw [L.inRun_snoc]
 have h:(L.inStep bl drop fin (L.inRun bl drop fin m) k).out = (L.inRun bl drop fin m).out∨(L.inStep bl drop fin (L.inRun bl drop fin m) k).out = (L.inRun bl drop fin m).out++[k]∧k∉(L.inRun bl drop fin m).out:=by
  unfold L.inStep
  dsimp only
  split <;> split <;> first | exact .inl rfl | skip
  all_goals
   split
   ·rename_i h;exact .inr ⟨rfl,h.2⟩
   ·exact .inl rfl
 rcases h with h | ⟨h,hn⟩
 ·rw [h];exact ⟨ih.1,fun i hi=>List.mem_append_left _ (ih.2 i hi)⟩
 ·rw [h]
  refine ⟨?_,fun i hi=>?_⟩
  ·rw [List.nodup_append]
   exact ⟨ih.1,by simp,fun a ha b hb e=>hn (by rw [←List.mem_singleton.1 hb,←e];exact ha)⟩
  ·rcases List.mem_append.1 hi with hi | hi
   ·exact List.mem_append_left _ (ih.2 i hi)
   ·exact List.mem_append_right _ hi
theorem bok_lit {n:Int} {bl:List L.ND} (h:L.BOK n bl) (hn:0≤n∧n≤128) {i:Nat} (hi:i < bl.length):-128≤(L.ndAt bl i).lit∧(L.ndAt bl i).lit≤128:=by
 rw [L.ndAt_lt hi]
 rcases h.form _ (List.getElem_mem hi) with ⟨_,e,_⟩ | ⟨_,e,_⟩ | ⟨_,e,_⟩ <;> omega
theorem bok_inp {n:Int} {bl:List L.ND} (h:L.BOK n bl) {i:Nat} (hi:i < bl.length):(L.ndAt bl i).inp.length≤bl.length∧∀ k∈(L.ndAt bl i).inp,k < bl.length:=by
 rw [L.ndAt_lt hi]
 have hk:∀ k∈bl[i].inp,k < bl.length:=fun k hk=>Nat.lt_trans (h.kids i hi k hk) hi
 refine ⟨?_,hk⟩
 rcases h.form _ (List.getElem_mem hi) with ⟨_,_,e⟩ | ⟨_,_,e⟩ | ⟨_,_,e,_⟩
 ·rw [e];exact Nat.zero_le _
 ·rw [e];exact Nat.zero_le _
 ·exact L.nodup_lt _ _ (e.imp fun h=>Nat.ne_of_lt h) hk
theorem flat_take (bl:List L.ND) (kd:Int) (l:List Nat) {k:Nat} (hk:k < l.length):L.flatND bl kd (l.take (k+1)) = L.flatND bl kd (l.take k)++if (L.ndAt bl l[k]).kind = kd then (L.ndAt bl l[k]).inp else [l[k]]:=by
 unfold L.flatND
 rw [List.take_succ_eq_append_getElem hk,List.flatMap_append]
 simp
theorem seven_all (w:World) (a b c d e f g:Obj):let W:=((((((w.alloc a).alloc b).alloc c).alloc d).alloc e).alloc f).alloc g;W.heap[w.heap.size]? = some a∧W.heap[w.heap.size+1]? = some b∧W.heap[w.heap.size+1+1]? = some c∧W.heap[w.heap.size+1+1+1]? = some d∧W.heap[w.heap.size+1+1+1+1]? = some e∧W.heap[w.heap.size+1+1+1+1+1]? = some f∧W.heap[w.heap.size+1+1+1+1+1+1]? = some g:=by
 obtain ⟨h0,h1,h2⟩:=alloc3h w a b c
 have k:∀ (V:World) (o:Obj) (j:Nat) (x:Obj),V.heap[j]? = some x→(V.alloc o).heap[j]? = some x:=fun V o j x h=>(Below.heap_alloc _ _ _ (Array.getElem?_eq_some_iff.1 h).1).trans h
 refine ⟨k _ _ _ _ (k _ _ _ _ (k _ _ _ _ (k _ _ _ _ h0))),k _ _ _ _ (k _ _ _ _ (k _ _ _ _ (k _ _ _ _ h1))),k _ _ _ _ (k _ _ _ _ (k _ _ _ _ (k _ _ _ _ h2))),k _ _ _ _ (k _ _ _ _ (k _ _ _ _ (heap_new_at _ _ _ (by simp)))),k _ _ _ _ (k _ _ _ _ (heap_new_at _ _ _ (by simp))),k _ _ _ _ (heap_new_at _ _ _ (by simp)),heap_new_at _ _ _ (by simp)⟩
def InII (bx:Nat) (drop fin:Int) (bl:List L.ND) (w:World) (m:List Nat) (W:World):Prop :=
 Below w.heap.size w W∧InAt (⟨w.heap.size,w.heap.size+1,w.heap.size+1+1,w.heap.size+1+1+1,w.heap.size+1+1+1+1,w.heap.size+1+1+1+1+1,w.heap.size+1+1+1+1+1+1⟩:InB) w.heap.size (w.heap.size+7) bx drop fin (L.inRun bl drop fin m) W
end Go.Proofs.YtckhohpbokojdaaGreatDoor
end
section
set_option linter.unusedSimpArgs false
set_option linter.unusedVariables false
namespace Go.Proofs.YtckhohpbokojdaaGreatDoor
open Go Go.RowKit Go.Shelf
theorem InII.cells {bx:Nat} {drop fin:Int} {bl:List L.ND} {w:World} {m:List Nat} {W:World} (h:InII bx drop fin bl w m W):∃ vo,W.cell? ⟨w.heap.size,0,none⟩ = some (.pointer (some ⟨bx,0,none⟩))∧W.cell? ⟨w.heap.size+1+1+1,0,none⟩ = some vo∧W.cell? ⟨w.heap.size+1+1+1+1+1+1,0,none⟩ = some (.bool (L.inRun bl drop fin m).opn)∧W.ownsRow (w.heap.size+7) 3 1 vo (L.inRun bl drop fin m).out.length ((castL (L.inRun bl drop fin m).out).map encZ):=by
 obtain ⟨vo,h5,h8,h9,h13,h14,h12,ho⟩:=h.2.cells
 exact ⟨vo,h5,h12,h14,ho⟩
set_option maxRecDepth 100000 in
set_option maxHeartbeats 8000000 in
theorem binputs_any {lo base bx cp:Nat} {ba:Option Addr} {n kd drop fin:Int} {bl:List L.ND} {l:List Nat} {w:World} (hN:NB lo base bx n bl w) (hB:L.BOK n bl) (hn:0≤n∧n≤128) (hbl:bl.length≤60000) (hl:SlI w (.slice ba l.length cp) (castL l)) (hll:l.length≤100000) (hk:∀ k∈l,k < bl.length) (hf2:fin≠2) (hd2:drop≠2) :
  Calls Tryz.prog 99 #[.pointer (some ⟨bx,0,none⟩),.slice ba l.length cp,.int .i64 kd,.int .i64 drop,.int .i64 fin] w fun e w'=>∃ v,e = .returned (.tuple #[v,.bool (L.inRun bl drop fin (L.flatND bl kd l)).opn])∧Below w.heap.size w w'∧w'.ownsRow w.heap.size 3 1 v (L.inRun bl drop fin (L.flatND bl kd l)).out.length ((castL (L.sortN (L.inRun bl drop fin (L.flatND bl kd l)).out)).map encZ):=by
 obtain ⟨pm,vL,us,hN⟩:=hN
 have hmf:∀ (fn:Fn) (first cap:Array Value) (w:World),(Instr.makeFunc fn first cap).run Tryz.prog w = .ok (.func fn first cap) w:=fun _ _ _ _=>rfl
 have hmm:∀ w,(Instr.makeMap 125 none).run Tryz.prog w = .ok (.map (some w.heap.size)) (w.alloc (.map #[] 0)):=fun w=>rfl
 have hK1:∀ (c:Array Value) (w:World),(callFunc 113 c).run Tryz.prog w = .ok (.enter 113 c) w:=fun c w=>by simp [go_sem,Tryz.func113]
 have hcs:∀ j (hj:j < l.length),∃ b o,ba = some ⟨b,o,none⟩∧w.cell? ⟨b,o+j,none⟩ = some (.int .i64 ((l[j]:Nat):Int)):=fun j hj=>by
  obtain ⟨ba',cp',e,h⟩:=hl
  rw [castL_len] at e
  cases e
  rcases h with ⟨_,h,_⟩ | ⟨b,o,h1,h2⟩
  ·have:=congrArg List.length h
   rw [castL_len] at this
   simp at this;rw [this] at hj;simp at hj
  ·have:=h2 j (by rw [castL_len];exact hj)
   unfold castL at this
   rw [List.getElem_map] at this
   exact ⟨b,o,h1,this⟩
 have hflt:∀ k,k≤l.length→∀ x∈L.flatND bl kd (l.take k),x < bl.length:=fun k _=>hB.flat_lt fun x hx=>hk x (List.mem_of_mem_take hx)
 have hout:∀ m:List Nat,(∀ x∈m,x < bl.length)→(L.inRun bl drop fin m).out.length < 100000:=fun m hm=>by
  have:=L.nodup_lt _ bl.length (inRun_out bl drop fin m).1 fun x hx=>hm x ((inRun_out bl drop fin m).2 x hx)
  omega
 have hone:∀ (m:List Nat) (i:Nat) (W:World),InII bx drop fin bl w m W→(∀ x∈m,x < bl.length)→i < bl.length→Calls Tryz.prog 113 #[.int .i64 (i:Nat),.pointer (some ⟨w.heap.size,0,none⟩),.pointer (some ⟨w.heap.size+1+1,0,none⟩),.pointer (some ⟨w.heap.size+1+1+1+1+1,0,none⟩),.pointer (some ⟨w.heap.size+1+1+1+1+1+1,0,none⟩),.pointer (some ⟨w.heap.size+1,0,none⟩),.pointer (some ⟨w.heap.size+1+1+1,0,none⟩)] W fun e W'=>e = .returned (.tuple #[])∧InII bx drop fin bl w (m++[i]) W':=fun m i W hI hm hi=>by
  have hlt:=bok_lit hB hn hi
  refine (one_any hN hI.1 hI.2 hi hf2 hd2 (hout m hm) (by omega) (by omega)).mono ?_
  rintro e W' ⟨rfl,h1,h2⟩
  exact ⟨rfl,h1,by rw [L.inRun_snoc];exact h2⟩
 have hcell:∀ (m:List Nat) (W:World),InII bx drop fin bl w m W→W.cell? ⟨bx,1,none⟩ = some vL:=fun m W hI=>(hN.next hI.1).cells.2.1
 have hinit:Hid (InII bx drop fin bl w (L.flatND bl kd (l.take 0)) (((((((w.alloc (.cells #[.pointer (some ⟨bx,0,none⟩)] 102)).alloc (.cells #[.int .i64 drop] 3)).alloc (.cells #[.int .i64 fin] 3)).alloc (.cells #[.slice none 0 0] 25)).alloc (.map #[] 0)).alloc (.cells #[.map (some (w.heap.size+1+1+1+1))] 125)).alloc (.cells #[.bool true] 4))):=Lib.hid (by
  obtain ⟨h0,h1,h2,h3,h4,h5,h6⟩:=seven_all w (.cells #[.pointer (some ⟨bx,0,none⟩)] 102) (.cells #[.int .i64 drop] 3) (.cells #[.int .i64 fin] 3) (.cells #[.slice none 0 0] 25) (.map #[] 0) (.cells #[.map (some (w.heap.size+1+1+1+1))] 125) (.cells #[.bool true] 4)
  refine ⟨(((((((Ext.refl w).alloc _).alloc _).alloc _).alloc _).alloc _).alloc _).alloc _ |>.below,⟨h0,h1,h2,h5,h6⟩,?_,⟨_,h3,⟨rfl,.inl ⟨rfl,rfl⟩⟩⟩,⟨by dsimp only;omega,by dsimp only;omega,by dsimp only;omega,by omega,by simp⟩,by dsimp only;omega,by dsimp only;omega,by dsimp only;omega,by dsimp only;omega,by dsimp only;omega,by dsimp only;omega,by dsimp only;omega⟩
  exact mapEmpty _ _ h4)
 have hft:=fun k (hk:k < l.length)=>flat_take bl kd l hk
 replace hcs:=Lib.hid hcs
 replace hflt:=Lib.hid hflt
 replace hone:=Lib.hid hone
 replace hcell:=Lib.hid hcell
 replace hft:=Lib.hid hft
 replace hout:=Lib.hid hout
 replace hk:=Lib.hid hk
 replace hN:=Lib.hid hN
 replace hB:=Lib.hid hB
 clear hl hf2 hd2
 go_enter Tryz.func99,Tryz.ntmps99
 go_wp2_with fail
 generalize (((((((w.alloc (.cells #[.pointer (some ⟨bx,0,none⟩)] 102)).alloc (.cells #[.int .i64 drop] 3)).alloc (.cells #[.int .i64 fin] 3)).alloc (.cells #[.slice none 0 0] 25)).alloc (.map #[] 0)).alloc (.cells #[.map (some (w.heap.size+1+1+1+1))] 125)).alloc (.cells #[.bool true] 4)) = W7 at *
 go_loopw [24] (fun i wr=>∃ k:Nat,k≤l.length∧i = .int .i64 (k:Nat)∧Hid (InII bx drop fin bl w (L.flatND bl kd (l.take k)) wr)) (fun i _=>l.length - (intOf i).toNat)
 case atStart=>exact ⟨0,Nat.zero_le _,rfl,hinit⟩
 case round =>
  clear hinit
  obtain ⟨k,hk',rfl,hI⟩:=hrel
  obtain ⟨vo,d0,d1,d2,hro⟩:=hI.out.cells
  by_cases hlt:k < l.length
  ·clear d1 d2 hro
   have d3:=hcell.out _ _ hI.out
   have hil:=hk.out _ (List.getElem_mem hlt)
   have hfl:=hflt.out k hk'
   have hnx:=hft.out k hlt
   obtain ⟨b,o,rfl,e0⟩:=hcs.out k hlt
   have e1:=(hI.out.1.cell (World.block_lt_of_cell? w _ e0)).trans e0
   clear e0
   generalize l[k] = i at *
   generalize L.flatND bl kd (l.take k) = m at *
   obtain ⟨g,o1,cp1,bb,cc,rfl,n0,-,n2,hrow⟩:=hN.out.node hil
   have m0:=(hI.out.1.cell (World.block_lt_of_cell? w _ n0)).trans n0
   have m2:=(hI.out.1.cell (World.block_lt_of_cell? w _ n2)).trans n2
   obtain ⟨hil1,hil2⟩:=bok_inp hB.out hil
   have g0:(0:Int)≤(i:Int):=by omega
   have g1:(i:Int) < (bl.length:Int):=by omega
   have g2:(0:Int)≤(k:Int):=by omega
   have g3:(k:Int) < (l.length:Int):=by omega
   have hcx:∀ j (hj:j < (L.ndAt bl i).inp.length),∃ b o,bb = some ⟨b,o,none⟩∧w.cell? ⟨b,o+j,none⟩ = some (.int .i64 (((L.ndAt bl i).inp[j]:Nat):Int)):=fun j hj=>by
    obtain ⟨g4,cp4,e,h⟩:=ownsRow_cellN hrow (k:=j) (by rw [List.length_map,castL_len];exact hj)
    cases e
    have:=h j (by rw [List.length_map,castL_len];exact hj)
    unfold castL at this
    rw [List.getElem_map,List.getElem_map] at this
    exact ⟨g4,0,rfl,this⟩
   clear n0 n2 hrow
   by_cases hkk:(L.ndAt bl i).kind = kd
   ·rw [if_pos hkk] at hnx
    rw [hkk] at m0
    generalize (L.ndAt bl i).inp = ip at *
    clear hkk
    have hI0:Hid (InII bx drop fin bl w (m++ip.take 0) wr):=by rw [List.take_zero,List.append_nil];exact hI
    replace hnx:=Lib.hid hnx
    replace hcx:=Lib.hid hcx
    replace hfl:=Lib.hid hfl
    replace hil2:=Lib.hid hil2
    go_wp2_with fail
    go_loopw [50] (fun i wr=>∃ j:Nat,j≤ip.length∧i = .int .i64 (j:Nat)∧Hid (InII bx drop fin bl w (m++ip.take j) wr)) (fun i _=>ip.length - (intOf i).toNat)
    case atStart=>exact ⟨0,Nat.zero_le _,rfl,hI0⟩
    case round =>
     clear hI hI0 d0 d3 e1 m0 m2
     obtain ⟨j,hj',rfl,hI⟩:=hrel
     by_cases hlt2:j < ip.length
     ·have g4:(0:Int)≤(j:Int):=by omega
      have g5:(j:Int) < (ip.length:Int):=by omega
      obtain ⟨b2,o2,rfl,e2⟩:=hcx.out j hlt2
      have e3:=(hI.out.1.cell (World.block_lt_of_cell? w _ e2)).trans e2
      have htk:ip.take (j+1) = ip.take j++[ip[j]]:=List.take_succ_eq_append_getElem hlt2
      have q:=hone.out _ ip[j] _ hI.out (fun x hx=>(List.mem_append.1 hx).elim (hfl.out x) fun h=>hil2.out x (List.mem_of_mem_take h)) (hil2.out _ (List.getElem_mem hlt2))
      rw [List.append_assoc,←htk] at q
      clear e2 htk
      generalize ip[j] = y at *
      go_wp2_with fail
      refine q.mono ?_
      rintro e w6 ⟨rfl,hI6⟩
      replace hI6:=Lib.hid hI6
      clear q e3
      go_wp2_with fail
      go_roundw
      case rel=>exact ⟨j+1,by omega,by go_num,hI6⟩
      case measure=>simp [intOf];omega
     ·obtain rfl:j = ip.length:=by omega
      rw [List.take_length,←hnx.out] at hI
      go_wp2_with fail
      go_roundw
      case rel=>exact ⟨k+1,by omega,by go_num,hI⟩
      case measure=>simp [intOf];omega
   ·rw [if_neg hkk] at hnx
    have q1:((L.ndAt bl i).kind == kd) = false:=beq_eq_false_iff_ne.2 hkk
    have q:=hone.out m i wr hI.out hfl hil
    rw [←hnx] at q
    generalize (L.ndAt bl i).kind = kx at *
    generalize (L.ndAt bl i).inp = ip at *
    replace hnx:=Lib.hid hnx
    replace hkk:=Lib.hid hkk
    replace hcx:=Lib.hid hcx
    replace hfl:=Lib.hid hfl
    replace hil2:=Lib.hid hil2
    go_wp2_with fail
    refine q.mono ?_
    rintro e w6 ⟨rfl,hI6⟩
    replace hI6:=Lib.hid hI6
    clear q e1 m0 m2 d0 d3
    go_wp2_with fail
    go_roundw
    case rel=>exact ⟨k+1,by omega,by go_num,hI6⟩
    case measure=>simp [intOf];omega
  ·obtain rfl:k = l.length:=by omega
   rw [List.take_length] at hI d2 hro
   have hol:=hout.out _ (by have:=hflt.out l.length (Nat.le_refl _);rwa [List.take_length] at this)
   have q:=sort_anyN hro (by omega)
   generalize hop:(L.inRun bl drop fin (L.flatND bl kd l)).opn = op at *
   replace hop:=Lib.hid hop
   have hend:∀ W,W.ownsRow (w.heap.size+7) 3 1 vo (L.inRun bl drop fin (L.flatND bl kd l)).out.length ((castL (L.sortN (L.inRun bl drop fin (L.flatND bl kd l)).out)).map encZ)→wr.grownBy W vo.ownBlock→W.cell? ⟨w.heap.size+1+1+1,0,none⟩ = some vo∧W.cell? ⟨w.heap.size+1+1+1+1+1+1,0,none⟩ = some (.bool op)∧Below w.heap.size w W∧W.ownsRow w.heap.size 3 1 vo (L.inRun bl drop fin (L.flatND bl kd l)).out.length ((castL (L.sortN (L.inRun bl drop fin (L.flatND bl kd l)).out)).map encZ):=fun W h1 hg=>by
    have hsz:=hI.out.2.2.2.2.1.2.2.2.2
    have hlow:∀ j,j < w.heap.size+7→W.heap[j]? = wr.heap[j]?:=fun j hj=>hg.block j (by omega) fun e=>by
     have:=own_ge hro e.symm
     omega
    refine ⟨(World.cell?_of_block (a:=⟨w.heap.size+1+1+1,0,none⟩) (hlow _ (by show w.heap.size+1+1+1 < _;omega))).trans d1,(World.cell?_of_block (a:=⟨w.heap.size+1+1+1+1+1+1,0,none⟩) (hlow _ (by show w.heap.size+1+1+1+1+1+1 < _;omega))).trans d2,Below.grown hI.out.1 hg (by omega) (fun k e=>by have:=own_ge hro e;omega),h1.1,?_⟩
    obtain ⟨_,⟨e1,e2⟩ | ⟨g,cap,cur,e1,hgb,hr⟩⟩:=h1
    ·exact .inl ⟨e1,e2⟩
    ·exact .inr ⟨g,cap,cur,e1,by omega,hr⟩
   replace hend:=Lib.hid hend
   replace hro:=Lib.hid hro
   obtain ⟨ba2,cp2,hvo,_⟩:=owns_slI (l:=castL (L.inRun bl drop fin (L.flatND bl kd l)).out) (by rw [castL_len];exact hro.out)
   replace hvo:=Lib.hid hvo
   go_wp2_with fail
   refine q.mono ?_
   rintro e w6 ⟨rfl,h1,hg⟩
   obtain ⟨f1,f2,f3,f4⟩:=hend.out w6 h1 hg
   have fd1:w6.drew.cell? ⟨w.heap.size+1+1+1,0,none⟩ = some vo:=f1
   have fd2:w6.drew.cell? ⟨w.heap.size+1+1+1+1+1+1,0,none⟩ = some (.bool op):=f2
   replace f3:=Lib.hid f3
   replace f4:=Lib.hid f4
   clear q h1 hg d0 d1 d2
   go_wp2_with fail
   go_quiet (fail)
   all_goals
    go_wp2_with fail
    go_ret2
    refine ⟨vo,?_,⟨f3.out.os,f3.out.tape,f3.out.output,f3.out.size,f3.out.block⟩,f4.out⟩
    first | rfl | (simp [hop.out];done)
end Go.Proofs.YtckhohpbokojdaaGreatDoor
end
