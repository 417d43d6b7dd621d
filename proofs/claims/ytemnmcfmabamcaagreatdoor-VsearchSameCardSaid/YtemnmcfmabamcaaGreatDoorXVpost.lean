import Derived.Test.YtemnmcfmabamcaaGreatDoorXKeep4
import Derived.Shelf.Strconv.Atoi
import Derived.Test.YtemnmcfmabamcaaGreatDoorProg
import Derived.Test.YtemnmcfmabamcaaGreatDoorXLawP
import Derived.Test.YtemnmcfmabamcaaGreatDoorXTab2
import Derived.Deep.AppendLies
section
set_option linter.unusedSimpArgs false
set_option linter.unusedVariables false
namespace Go.Proofs.YtemnmcfmabamcaaGreatDoor
open Go Go.RowKit Go.Shelf
theorem Val.keep {s:St} {b:List Nat} {a:Nat} {φ:L.Asg→Bool} (h:Val s a φ) (hi:L.Inv s) (hc:L.Closed s.nodes b) (ha:a∈b):Val (L.keepS s b) (L.rankN b a) φ :=
 ⟨by show _ < (L.keepNodes s.nodes b).length;rw [L.keep_len];exact L.rank_lt ha,fun x=>(L.sem_keep hc hi.kids x a ha).trans (h.sem x)⟩
def RetKeepV (t:List VN) (B0:Blks) (w0:World) (k:Nat) (s:St) (l:List Nat) (n:Nat) (e:Ending) (w':World):Prop :=
 ∃ (b:List Nat) (v:Value),e = .returned (.tuple #[v,.int .i64 0])∧L.Closed s.nodes b∧(∀ a∈l,a∈b)∧(∀ x∈b,∃ a∈0 :: 1 :: l,x≤a)∧w'.ownsRow n 3 1 v l.length ((l.map (L.rankN b)).map encI)∧SS t B0 w0 k (L.keepS s b) w'
theorem keep_v {t:List VN} {B0:Blks} {w0 w:World} {k:Nat} {s:St} {v:Value} {l:List Nat} (h:SS t B0 w0 k s w) (hv:SlI w v (l.map fun n:Nat=>(n:Int))) (hl:l.length≤1000000) (hla:∀ a∈l,a < s.nodes.length) :
  Calls Tryz.prog 93 #[.pointer (some ⟨B0.sb,0,none⟩),v] w (RetKeepV t B0 w0 k s l w.heap.size):=by
 obtain ⟨B,hR,hS⟩:=h.held
 rw [←hS.sb]
 refine (keep_any hR h.ne h.inv hv hl hla).mono ?_
 rintro e w' ⟨b,v',B',rfl,hc,hm,hmx,ho,hR',hS'⟩
 have hbig:=L.keep_big hc
 exact ⟨b,v',rfl,hc,hm,hmx,ho,⟨B',hR',hS.then hS'⟩,⟨L.keep_inv h.inv hc,h.room.few,by have:=h.room.room;omega⟩,h.tree⟩
end Go.Proofs.YtemnmcfmabamcaaGreatDoor
end
section
namespace Go.Proofs
open Go.Shelf
def Tryz.laysAtoi_ren:Go.Shelf.Ren:=⟨fun | 172=>92 | 244=>119 | 245=>120 | 247=>136 | 279=>137 | 280=>138 | 281=>139 | 282=>140 | 287=>153 | 316=>154 | 171=>56 | 205=>155 | 321=>172 | 322=>173 | 243=>87 | 246=>115 | 283=>132 | 284=>133 | 285=>134 | 286=>135 | 129=>149 | 317=>148 | 318=>150 | 319=>151 | 320=>152 | 337=>170 | 338=>171 | n=>n,fun | 9=>9 | 3=>3 | 75=>115 | 76=>116 | 4=>4 | 5=>5 | 167=>186 | 37=>72 | 0=>0 | 85=>187 | 2=>2 | 168=>189 | 53=>80 | 175=>201 | 46=>79 | 210=>205 | 127=>146 | 145=>222 | 143=>220 | 21=>21 | 171=>181 | 173=>184 | 212=>197 | 51=>198 | 20=>20 | 213=>199 | 232=>237 | 233=>238 | 80=>119 | n=>n,fun | 15=>1 | 16=>2 | 17=>0 | 18=>3 | 19=>4 | n=>n⟩
theorem Tryz.laysAtoi:Go.Proofs.Lays.n172 Tryz.prog Tryz.laysAtoi_ren:={
 mixed:=by kernel_rfl
 f129:=Tryz.func149.trans (congrArg some (by kernel_rfl))
 f171:=Tryz.func56.trans (congrArg some (by kernel_rfl))
 f172:=Tryz.func92.trans (congrArg some (by kernel_rfl))
 f205:=Tryz.func155.trans (congrArg some (by kernel_rfl))
 f243:=Tryz.func87.trans (congrArg some (by kernel_rfl))
 f244:=Tryz.func119.trans (congrArg some (by kernel_rfl))
 f245:=Tryz.func120.trans (congrArg some (by kernel_rfl))
 f246:=Tryz.func115.trans (congrArg some (by kernel_rfl))
 f247:=Tryz.func136.trans (congrArg some (by kernel_rfl))
 f279:=Tryz.func137.trans (congrArg some (by kernel_rfl))
 f280:=Tryz.func138.trans (congrArg some (by kernel_rfl))
 f281:=Tryz.func139.trans (congrArg some (by kernel_rfl))
 f282:=Tryz.func140.trans (congrArg some (by kernel_rfl))
 f283:=Tryz.func132.trans (congrArg some (by kernel_rfl))
 f284:=Tryz.func133.trans (congrArg some (by kernel_rfl))
 f285:=Tryz.func134.trans (congrArg some (by kernel_rfl))
 f286:=Tryz.func135.trans (congrArg some (by kernel_rfl))
 f287:=Tryz.func153.trans (congrArg some (by kernel_rfl))
 f316:=Tryz.func154.trans (congrArg some (by kernel_rfl))
 f317:=Tryz.func148.trans (congrArg some (by kernel_rfl))
 f318:=Tryz.func150.trans (congrArg some (by kernel_rfl))
 f319:=Tryz.func151.trans (congrArg some (by kernel_rfl))
 f320:=Tryz.func152.trans (congrArg some (by kernel_rfl))
 f321:=Tryz.func172.trans (congrArg some (by kernel_rfl))
 f322:=Tryz.func173.trans (congrArg some (by kernel_rfl))
 f337:=Tryz.func170.trans (congrArg some (by kernel_rfl))
 f338:=Tryz.func171.trans (congrArg some (by kernel_rfl))
 t0:=Tryz.underlying0
 a0:=Tryz.isAgg0
 z0:=Tryz.sizeOf0
 v0:=Tryz.zeroValue0
 t2:=Tryz.underlying2
 a2:=Tryz.isAgg2
 z2:=Tryz.sizeOf2
 v2:=Tryz.zeroValue2
 t3:=Tryz.underlying3
 a3:=Tryz.isAgg3
 z3:=Tryz.sizeOf3
 v3:=Tryz.zeroValue3
 t4:=Tryz.underlying4
 a4:=Tryz.isAgg4
 z4:=Tryz.sizeOf4
 v4:=Tryz.zeroValue4
 t5:=Tryz.underlying5
 a5:=Tryz.isAgg5
 z5:=Tryz.sizeOf5
 v5:=Tryz.zeroValue5
 t9:=Tryz.underlying9
 a9:=Tryz.isAgg9
 z9:=Tryz.sizeOf9
 v9:=Tryz.zeroValue9
 t20:=Tryz.underlying20
 a20:=Tryz.isAgg20
 z20:=Tryz.sizeOf20
 v20:=Tryz.zeroValue20
 t21:=Tryz.underlying21
 a21:=Tryz.isAgg21
 z21:=Tryz.sizeOf21
 v21:=Tryz.zeroValue21
 t37:=Tryz.underlying72
 a37:=Tryz.isAgg72
 z37:=Tryz.sizeOf72
 v37:=Tryz.zeroValue72
 t46:=Tryz.underlying79
 a46:=Tryz.isAgg79
 z46:=Tryz.sizeOf79
 v46:=Tryz.zeroValue79
 t51:=Tryz.underlying198
 a51:=Tryz.isAgg198
 z51:=Tryz.sizeOf198
 v51:=Tryz.zeroValue198
 t53:=Tryz.underlying80
 a53:=Tryz.isAgg80
 z53:=Tryz.sizeOf80
 v53:=Tryz.zeroValue80
 t75:=Tryz.underlying115
 a75:=Tryz.isAgg115
 z75:=Tryz.sizeOf115
 v75:=Tryz.zeroValue115
 t76:=Tryz.underlying116
 a76:=Tryz.isAgg116
 z76:=Tryz.sizeOf116
 v76:=Tryz.zeroValue116
 t85:=Tryz.underlying187
 a85:=Tryz.isAgg187
 z85:=Tryz.sizeOf187
 v85:=Tryz.zeroValue187
 t127:=Tryz.underlying146
 a127:=Tryz.isAgg146
 z127:=Tryz.sizeOf146
 v127:=Tryz.zeroValue146
 t143:=Tryz.underlying220
 a143:=Tryz.isAgg220
 z143:=Tryz.sizeOf220
 v143:=Tryz.zeroValue220
 t145:=Tryz.underlying222
 a145:=Tryz.isAgg222
 z145:=Tryz.sizeOf222
 v145:=Tryz.zeroValue222
 t167:=Tryz.underlying186
 a167:=Tryz.isAgg186
 z167:=Tryz.sizeOf186
 v167:=Tryz.zeroValue186
 t168:=Tryz.underlying189
 a168:=Tryz.isAgg189
 z168:=Tryz.sizeOf189
 v168:=Tryz.zeroValue189
 t171:=Tryz.underlying181
 a171:=Tryz.isAgg181
 z171:=Tryz.sizeOf181
 v171:=Tryz.zeroValue181
 t173:=Tryz.underlying184
 a173:=Tryz.isAgg184
 z173:=Tryz.sizeOf184
 v173:=Tryz.zeroValue184
 t175:=Tryz.underlying201
 a175:=Tryz.isAgg201
 z175:=Tryz.sizeOf201
 v175:=Tryz.zeroValue201
 t210:=Tryz.underlying205
 a210:=Tryz.isAgg205
 z210:=Tryz.sizeOf205
 v210:=Tryz.zeroValue205
 t212:=Tryz.underlying197
 a212:=Tryz.isAgg197
 z212:=Tryz.sizeOf197
 v212:=Tryz.zeroValue197
 t213:=Tryz.underlying199
 a213:=Tryz.isAgg199
 z213:=Tryz.sizeOf199
 t232:=Tryz.underlying237
 a232:=Tryz.isAgg237
 z232:=Tryz.sizeOf237
 v232:=Tryz.zeroValue237
 t233:=Tryz.underlying238
 a233:=Tryz.isAgg238
 z233:=Tryz.sizeOf238
 v233:=Tryz.zeroValue238
 g15:=by kernel_rfl
 g16:=by kernel_rfl
 g17:=by kernel_rfl
 g18:=by kernel_rfl
 g19:=by kernel_rfl }
end Go.Proofs
end
section
set_option linter.unusedSimpArgs false
set_option linter.unusedVariables false
namespace Go.Proofs.YtemnmcfmabamcaaGreatDoor
open Go Go.RowKit Go.Shelf
theorem heap_far {w:World} {b k:Nat} (o:Nat) (v:Value) (h:k≠b):(w.setCell ⟨b,o,none⟩ v).heap[k]? = w.heap[k]?:=by
 simp only [World.setCell,Array.getElem?_modify]
 rw [if_neg (fun e=>h e.symm)]
theorem treeCells_snoc (t:List VN) (x:VN):treeCells (t++[x]) = treeCells t++[.int .i64 x.left,.int .i64 x.right,.int .i64 x.var]:=by simp [treeCells]
theorem vn_info:(Tryz.prog.info? 78).map (fun i=>(i.zero,i.size,i.bytes)) = some (some (.agg #[.int .i64 0,.int .i64 0,.int .i64 0]),3,24):=by kernel_rfl
structure PoC (w0:World) (t:List VN) (b o cap:Nat) (chv:Value) (out:List VN) (v:Value) (wr:World):Prop where
 below:Below w0.heap.size w0 wr
 bt:wr.heap[w0.heap.size]? = some (.cells #[.slice (some ⟨b,o,none⟩) t.length cap] 23 (0,0))
 bc:wr.heap[w0.heap.size+1]? = some (.cells #[chv] 178 (0,0))
 bo:wr.heap[w0.heap.size+2]? = some (.cells #[v] 23 (0,0))
 bv:wr.heap[w0.heap.size+3]? = some (.cells #[.func (.func 143) #[] #[.pointer (some ⟨w0.heap.size,0,none⟩),.pointer (some ⟨w0.heap.size+1,0,none⟩),.pointer (some ⟨w0.heap.size+3,0,none⟩),.pointer (some ⟨w0.heap.size+2,0,none⟩)]] 124 (0,0))
 row:wr.ownsRow (w0.heap.size+4) 78 3 v out.length (treeCells out)
structure PoStay (w0 w:World) (v:Value) (w':World) (v':Value):Prop where
 size:w.heap.size≤w'.heap.size
 block:∀ k,k < w.heap.size→k≠w0.heap.size+2→v.ownBlock≠some k→w'.heap[k]? = w.heap[k]?
 row:∀ g,v'.ownBlock = some g→v.ownBlock = some g∨w.heap.size≤g
theorem PoStay.trans {w0 w w1 w2:World} {v v1 v2:Value} (h:PoStay w0 w v w1 v1) (k:PoStay w0 w1 v1 w2 v2):PoStay w0 w v w2 v2 where
 size:=Nat.le_trans h.size k.size
 block:=fun i hi hn hv=>(k.block i (Nat.lt_of_lt_of_le hi h.size) hn (fun e=>by rcases h.row i e with e' | e';exact hv e';omega)).trans (h.block i hi hn hv)
 row:=fun g e=>by
  rcases k.row g e with e' | e'
  ·exact h.row g e'
  ·exact .inr (Nat.le_trans h.size e')
theorem PoStay.below {w0 w w':World} (v:Value) (h:Below w.heap.size w w'):PoStay w0 w v w' v:=⟨h.size,fun k hk _ _=>h.block k hk,fun _ e=>.inl e⟩
theorem PoStay.set {w0 w w':World} {v v':Value} (h:PoStay w0 w v w' v') {p o:Nat} (hp:w.heap.size≤p) (u:Value):PoStay w0 w v (w'.setCell ⟨p,o,none⟩ u) v' :=
 ⟨by simp [World.setCell];exact h.size,fun k hk h1 h2=>(heap_far _ _ (by omega)).trans (h.block k hk h1 h2),h.row⟩
section
variable {w0:World} {t:List VN} {b o cap:Nat} {chv:Value} {out:List VN} {v:Value} {wr:World}
theorem PoC.next {w':World} (h:PoC w0 t b o cap chv out v wr) (hb:Below wr.heap.size wr w'):PoC w0 t b o cap chv out v w' where
 below:=h.below.trans (hb.mono h.below.size)
 bt:=(hb.block _ (Array.getElem?_eq_some_iff.1 h.bt).1).trans h.bt
 bc:=(hb.block _ (Array.getElem?_eq_some_iff.1 h.bc).1).trans h.bc
 bo:=(hb.block _ (Array.getElem?_eq_some_iff.1 h.bo).1).trans h.bo
 bv:=(hb.block _ (Array.getElem?_eq_some_iff.1 h.bv).1).trans h.bv
 row:=ownsRow_same h.row (fun _ hg=>hb.block _ (own_lt h.row hg).1)
theorem PoC.set (h:PoC w0 t b o cap chv out v wr) {p:Nat} (hp:w0.heap.size+4≤p) (hv:v.ownBlock≠some p) (j:Nat) (u:Value):PoC w0 t b o cap chv out v (wr.setCell ⟨p,j,none⟩ u) where
 below:=h.below.setCell (show w0.heap.size≤p by omega) _
 bt:=(heap_far _ _ (by omega)).trans h.bt
 bc:=(heap_far _ _ (by omega)).trans h.bc
 bo:=(heap_far _ _ (by omega)).trans h.bo
 bv:=(heap_far _ _ (by omega)).trans h.bv
 row:=ownsRow_same h.row (fun k hg=>heap_far _ _ (fun e=>hv (by rw [←e];exact hg)))
theorem PoC.cells (h:PoC w0 t b o cap chv out v wr):wr.cell? ⟨w0.heap.size,0,none⟩ = some (.slice (some ⟨b,o,none⟩) t.length cap)∧wr.cell? ⟨w0.heap.size+1,0,none⟩ = some chv∧wr.cell? ⟨w0.heap.size+2,0,none⟩ = some v ∧
  wr.cell? ⟨w0.heap.size+3,0,none⟩ = some (.func (.func 143) #[] #[.pointer (some ⟨w0.heap.size,0,none⟩),.pointer (some ⟨w0.heap.size+1,0,none⟩),.pointer (some ⟨w0.heap.size+3,0,none⟩),.pointer (some ⟨w0.heap.size+2,0,none⟩)]):=by
 refine ⟨?_,?_,?_,?_⟩
 ·simp [World.cell?,h.bt]
 ·simp [World.cell?,h.bc]
 ·simp [World.cell?,h.bo]
 ·simp [World.cell?,h.bv]
theorem PoC.lt (h:PoC w0 t b o cap chv out v wr):w0.heap.size+4≤wr.heap.size:=by have:=(Array.getElem?_eq_some_iff.1 h.bv).1;omega
theorem PoC.push {w2:World} {g cp:Nat} {x:VN} (h:PoC w0 t b o cap chv out v wr) (ho:w2.ownsRow (w0.heap.size+4) 78 3 (.slice (some ⟨g,0,none⟩) (out.length+1) cp) (out.length+1) (treeCells out++[.int .i64 x.left,.int .i64 x.right,.int .i64 x.var]))
  (hg:wr.grownBy w2 v.ownBlock) (hgg:v.ownBlock = some g∨g = wr.heap.size) :
  PoC w0 t b o cap chv (out++[x]) (.slice (some ⟨g,0,none⟩) (out.length+1) cp) (w2.setCell ⟨w0.heap.size+2,0,none⟩ (.slice (some ⟨g,0,none⟩) (out.length+1) cp)) ∧
  PoStay w0 wr v (w2.setCell ⟨w0.heap.size+2,0,none⟩ (.slice (some ⟨g,0,none⟩) (out.length+1) cp)) (.slice (some ⟨g,0,none⟩) (out.length+1) cp):=by
 have hge:∀ k,v.ownBlock = some k→w0.heap.size+4≤k:=fun k hk=>own_ge h.row hk
 have hl:=h.lt
 have hne:∀ k,k < w0.heap.size+4→some k≠v.ownBlock:=fun k hk e=>by have:=hge k e.symm;omega
 have hset:∀ k,k≠w0.heap.size+2→(w2.setCell ⟨w0.heap.size+2,0,none⟩ (.slice (some ⟨g,0,none⟩) (out.length+1) cp)).heap[k]? = w2.heap[k]?:=fun k hk=>Below.heap_setCell _ _ _ _ hk
 have hkk:∀ k,k < wr.heap.size→k≠w0.heap.size+2→some k≠v.ownBlock→(w2.setCell ⟨w0.heap.size+2,0,none⟩ (.slice (some ⟨g,0,none⟩) (out.length+1) cp)).heap[k]? = wr.heap[k]?:=fun k h1 h2 h3=>(hset k h2).trans (hg.block k h1 h3)
 refine ⟨{ below:=?_,bt:=?_,bc:=?_,bo:=?_,bv:=?_,row:=?_ },⟨by simp [World.setCell];exact hg.size,fun k h1 h2 h3=>hkk k h1 h2 (fun e=>h3 e.symm),fun k hk=>?_⟩⟩
 ·exact ⟨hg.os.trans h.below.os,hg.tape.trans h.below.tape,hg.output.trans h.below.output,by simp [World.setCell];exact Nat.le_trans h.below.size hg.size,fun k hk=>(hkk k (by have:=h.below.size;omega) (by omega) (hne k (by omega))).trans (h.below.block k hk)⟩
 ·exact (hkk _ (by omega) (by omega) (hne _ (by omega))).trans h.bt
 ·exact (hkk _ (by omega) (by omega) (hne _ (by omega))).trans h.bc
 ·exact heap_set ((hg.block _ (by omega) (hne _ (by omega))).trans h.bo) 0 _
 ·exact (hkk _ (by omega) (by omega) (hne _ (by omega))).trans h.bv
 ·refine ownsRow_same (own_cast ho (by simp) (by rw [treeCells_snoc])) (fun k hk2=>hset k ?_)
  have:=own_ge ho hk2
  omega
 ·have:k = g:=(Option.some.inj hk).symm
  subst this
  exact hgg.imp id (fun e=>by omega)
end
structure ChgLaw (w0:World) (t:List VN) (fc:Nat) (caps:Array Value) (chg:Nat→VN→VN):Prop where
 enters:∀ (c:Array Value) (w:World),(callFunc fc c).run Tryz.prog w = .ok (.enter fc c) w
 says:∀ (i:Nat) (y:VN),t[i]? = some y→leafB y = false→∀ W,Below w0.heap.size w0 W→Calls Tryz.prog fc (#[.int .i64 (i:Int),encVN y]++caps) W fun e w'=>e = .returned (encVN (chg i y))∧Below W.heap.size W w'
def PoLaw (w0:World) (t:List VN) (b o cap:Nat) (chv:Value) (chg:Nat→VN→VN) (U:L.Tr):Prop:=∀ (i:Nat) (out:List VN) (v:Value) (wr:World),L.IsT chg t i U→PoC w0 t b o cap chv out v wr→out.length+U.size≤255 →
 Calls Tryz.prog 143 #[.int .i64 (i:Int),.pointer (some ⟨w0.heap.size,0,none⟩),.pointer (some ⟨w0.heap.size+1,0,none⟩),.pointer (some ⟨w0.heap.size+3,0,none⟩),.pointer (some ⟨w0.heap.size+2,0,none⟩)] wr
  fun e w'=>∃ v',e = .returned (.int .i64 ((out.length+U.size - 1:Nat):Int))∧PoC w0 t b o cap chv (out++U.post out.length) v' w'∧PoStay w0 wr v w' v'
set_option maxRecDepth 100000 in
set_option maxHeartbeats 4000000 in
theorem po_law {w0:World} {t:List VN} {b o cap fc:Nat} {caps:Array Value} {chg:Nat→VN→VN} (ht:TreeAt w0 b o t) (hch:ChgLaw w0 t fc caps chg):∀ U,PoLaw w0 t b o cap (.func (.func fc) #[] caps) chg U
 | .leaf lv=>by
   intro i out v wr hT hC hsz
   cases hT with
   | @leaf _ y h1 h2 =>
     obtain ⟨hi,hy⟩:=List.getElem?_eq_some_iff.1 h1
     obtain ⟨n0,n1,n2⟩:=(ht.below hC.below).node hi
     rw [hy] at n0 n1 n2
     obtain ⟨iv,hiv,hzv,hsv,hbv⟩:=info_parts vn_info
     generalize hx:w0.heap.size = x0 at *
     generalize hp:wr.heap.size = p at *
     obtain ⟨yl,yr,yv⟩:=y
     simp only at n0 n1 n2
     have hleq:yl = -1∧yr = -1:=by simp only [leafB,Bool.and_eq_true,decide_eq_true_eq] at h2;exact h2.1
     obtain ⟨rfl,rfl⟩:=hleq
     have hb1:=(Below.refl wr.heap.size wr).alloc (Nat.le_refl _) (.cells #[.int .i64 (-1),.int .i64 (-1),.int .i64 yv] 78)
     have hbox:=heap_alloc_new wr (.cells #[.int .i64 (-1),.int .i64 (-1),.int .i64 yv] 78)
     rw [hp] at hbox
     have hC1:=hC.next hb1
     have hi1:(0:Int)≤i:=by omega
     have hi2:(i:Int) < t.length:=by omega
     obtain ⟨c0,_,_,_⟩:=hC.cells
     rw [hx] at c0
     have hlf:=fun W=>isLeaf_any ⟨-1,-1,yv⟩ W
     rw [h2] at hlf
     replace hC:=Lib.hid hC
     replace hC1:=Lib.hid hC1
     replace hbox:=Lib.hid hbox
     go_enter Tryz.func143,Tryz.ntmps143
     go_wp2_with fail
     refine (hlf _).mono ?_
     rintro e W6 ⟨rfl,hx6⟩
     clear hlf
     obtain ⟨yl,hyl⟩:∃ z:Int,z = -1:=⟨_,rfl⟩
     obtain ⟨yr,hyr⟩:∃ z:Int,z = -1:=⟨_,rfl⟩
     have hC6:=Lib.hid (hC1.out.next hx6.below)
     have hbox6:Hid (W6.heap[p]? = some (.cells #[.int .i64 yl,.int .i64 yr,.int .i64 yv] 78 (0,0))):=Lib.hid (by
      rw [hyl,hyr]
      exact (hx6.below.block p (Array.getElem?_eq_some_iff.1 hbox.out).1).trans hbox.out)
     have hSt6:=Lib.hid ((PoStay.below (w0:=w0) v hb1).trans (PoStay.below v hx6.below))
     obtain ⟨out6,hout6⟩:∃ out6,out6 = out:=⟨_,rfl⟩
     obtain ⟨v6,hv6⟩:∃ v6,v6 = v:=⟨_,rfl⟩
     rw [←hout6,←hv6] at hC6
     rw [←hv6] at hSt6
     have hl6:out6.length+1≤255:=by rw [hout6];exact hsz
     replace hout6:=Lib.hid hout6
     replace hv6:=Lib.hid hv6
     replace hyl:=Lib.hid hyl
     replace hyr:=Lib.hid hyr
     clear n0 n1 n2 c0 hb1 hbox hC1 hx6
     have hlt6:=hC6.out.lt
     have hb6a:=(Below.refl W6.heap.size W6).alloc (Nat.le_refl _) (.cells #[.int .i64 yl,.int .i64 yr,.int .i64 yv] 78)
     have hCa:=hC6.out.next hb6a
     have hSa:=hSt6.out.trans (PoStay.below v6 hb6a)
     have hge6:∀ k,v6.ownBlock = some k→w0.heap.size+4≤k:=fun k hk=>own_ge hC6.out.row hk
     have hone:∀ u∈[Value.int .i64 yl,.int .i64 yr,.int .i64 yv],u.oneCell' = true:=by simp [Value.oneCell']
     have hroA:=hC6.out.row.alloc (.cells #[.int .i64 yl,.int .i64 yr,.int .i64 yv] 78)
     have hnews:=World.news_of_block (cs:=#[.int .i64 yl,.int .i64 yr,.int .i64 yv]) (t:=78) (fr:=(0,0)) (heap_alloc_new W6 (.cells #[.int .i64 yl,.int .i64 yr,.int .i64 yv] 78))
     try rw [hsz6] at hnews
     obtain ⟨_,_,c2,_⟩:=hC6.out.cells
     rw [hx] at c2
     obtain ⟨e0,e1,e2⟩:=box3 hbox6.out
     replace hCa:=Lib.hid hCa
     replace hSa:=Lib.hid hSa
     clear hb6a
     go_wp2_with (at_builtin;(refine wpList_append_lies _ rfl _ _ 23 rfl (w0.heap.size+4) 78 iv _ 3 24 Tryz.underlying23 hiv hzv hsv hbv rfl (by decide) _ out6.length (treeCells out6) rfl hroA ⟨W6.heap.size,0,none⟩ 1 1 [.int .i64 yl,.int .i64 yr,.int .i64 yv] rfl rfl hnews hone (by omega) (by unfold maxLen;omega) (by omega) (by simp <;> omega) _ rfl ?_;intro g7 cap7 w7 ho7 hg7 hgg7 _;have hP:=hCa.out.push (x:=⟨yl,yr,yv⟩) ho7 hg7 hgg7;have hbo7:=(hg7.block (w0.heap.size+2) (by simp <;> omega) (fun e=>by have:=hge6 _ e.symm;omega)).trans hCa.out.bo;rw [hx] at hbo7;have c7:w7.cell? ⟨x0+2,0,none⟩ = some v6:=(by simp [World.cell?,hbo7]);have f7:w7.frozen? ⟨x0+2,0,none⟩ = false:=(by simp [World.frozen?,hbo7]);replace hP:=Lib.hid hP;replace hbo7:=Lib.hid hbo7))
     go_ret
     refine ⟨.slice (some ⟨g7,0,none⟩) (out6.length+1) cap7,?_,?_,?_⟩
     ·rw [hout6.out];simp [L.Tr.size]
     ·have:=hP.out.1
      rw [hx,hyl.out,hyr.out] at this
      rw [hout6.out] at this ⊢
      exact this
     ·have:=hSa.out.trans hP.out.2
      rw [hx,hv6.out] at this
      exact this
 | .node l r=>by
   intro i out v wr hT hC hsz
   have ihl:=po_law (cap:=cap) ht hch l
   have ihr:=po_law (cap:=cap) ht hch r
   cases hT with
   | @node _ a b' y _ _ h1 h2 h3 h4 g1 g2 =>
     obtain ⟨hi,hy⟩:=List.getElem?_eq_some_iff.1 h1
     obtain ⟨n0,n1,n2⟩:=(ht.below hC.below).node hi
     rw [hy] at n0 n1 n2
     obtain ⟨iv,hiv,hzv,hsv,hbv⟩:=info_parts vn_info
     have hlp:=l.pos
     have hrp:=r.pos
     have hsz':out.length+(l.size+r.size+1)≤255:=hsz
     have hK2:∀ (c:Array Value) (w:World),(callFunc 143 c).run Tryz.prog w = .ok (.enter 143 c) w:=fun c w=>by simp [go_sem,Tryz.func143]
     have hK:=hch.enters
     generalize hx:w0.heap.size = x0 at *
     generalize hp:wr.heap.size = p at *
     have hb1:=(Below.refl wr.heap.size wr).alloc (Nat.le_refl _) (.cells #[.int .i64 y.left,.int .i64 y.right,.int .i64 y.var] 78)
     have hbox:=heap_alloc_new wr (.cells #[.int .i64 y.left,.int .i64 y.right,.int .i64 y.var] 78)
     rw [hp] at hbox
     have hC1:=hC.next hb1
     have hplt:x0+4≤p:=by have:=hC.lt;omega
     have hvp:v.ownBlock≠some p:=fun e=>by have:=(own_lt hC.row e).1;omega
     have hi1:(0:Int)≤i:=by omega
     have hi2:(i:Int) < t.length:=by omega
     obtain ⟨c0,_,_,_⟩:=hC.cells
     rw [hx] at c0
     have hlf:=fun W=>isLeaf_any y W
     rw [h2] at hlf
     have hsay:=hch.says i y h1 h2
     unfold encVN at hsay
     replace hC:=Lib.hid hC
     replace hC1:=Lib.hid hC1
     replace hbox:=Lib.hid hbox
     replace hsay:=Lib.hid hsay
     go_enter Tryz.func143,Tryz.ntmps143
     go_wp2_with fail
     refine (hlf _).mono ?_
     rintro e Wa ⟨rfl,hxa⟩
     have hCa:=hC1.out.next hxa.below
     have hbxa:=(hxa.below.block p (Array.getElem?_eq_some_iff.1 hbox.out).1).trans hbox.out
     have hSa:=(PoStay.below (w0:=w0) v hb1).trans (PoStay.below v hxa.below)
     obtain ⟨_,d1,_,_⟩:=hCa.cells
     rw [hx] at d1
     obtain ⟨e0,e1,e2⟩:=box3 hbxa
     have qs:=hsay.out Wa (by rw [hx];exact hx ▸ hCa.below)
     replace hCa:=Lib.hid hCa
     replace hbxa:=Lib.hid hbxa
     replace hSa:=Lib.hid hSa
     clear hlf n0 n1 n2 c0 hb1 hbox hC1 hxa
     go_wp2_with fail
     refine qs.mono ?_
     rintro e Wb ⟨rfl,hxb⟩
     have hCb:=hCa.out.next hxb
     have hbxb:=(hxb.block p (Array.getElem?_eq_some_iff.1 hbxa.out).1).trans hbxa.out
     have hSb:=hSa.out.trans (PoStay.below v hxb)
     generalize chg i y = z at *
     obtain ⟨zl,zr,zv⟩:=z
     simp only at h3 h4
     subst h3 h4
     have hCc:=((hCb.set (by omega) hvp 0 (.int .i64 (a:Nat))).set (by omega) hvp 1 (.int .i64 (b':Nat))).set (by omega) hvp 2 (.int .i64 zv)
     have hbxc:(((Wb.setCell ⟨p,0,none⟩ (.int .i64 (a:Nat))).setCell ⟨p,1,none⟩ (.int .i64 (b':Nat))).setCell ⟨p,2,none⟩ (.int .i64 zv)).heap[p]? = some (.cells #[.int .i64 (a:Nat),.int .i64 (b':Nat),.int .i64 zv] 78 (0,0)):=heap_set (heap_set (heap_set hbxb 0 _) 1 _) 2 _
     have hSc:=Lib.hid (((hSb.set (p:=p) (o:=0) (by omega) (.int .i64 (a:Nat))).set (p:=p) (o:=1) (by omega) (.int .i64 (b':Nat))).set (p:=p) (o:=2) (by omega) (.int .i64 zv))
     obtain ⟨e0,e1,e2⟩:=box3 hbxb
     obtain ⟨r0,r1,r2⟩:=box3 hbxc
     obtain ⟨_,_,_,d3⟩:=hCc.cells
     rw [hx] at d3
     have f0:Wb.frozen? ⟨p,0,none⟩ = false:=by simp [World.frozen?,hbxb]
     have f1:Wb.frozen? ⟨p,1,none⟩ = false:=by simp [World.frozen?,hbxb]
     have f2:Wb.frozen? ⟨p,2,none⟩ = false:=by simp [World.frozen?,hbxb]
     have hne3:¬ (x0+3 = p):=by omega
     have ql:=ihl a out v _ g1 hCc (by omega)
     rw [hx] at ql
     replace hCc:=Lib.hid hCc
     replace hbxc:=Lib.hid hbxc
     clear qs hCb hbxb hSb hCa hbxa hSa d1
     go_wp2_with fail
     generalize hWc:((Wb.setCell ⟨p,0,none⟩ (.int .i64 (a:Nat))).setCell ⟨p,1,none⟩ (.int .i64 (b':Nat))).setCell ⟨p,2,none⟩ (.int .i64 zv) = Wc at *
     clear hWc e0 e1 e2 f0 f1 f2
     have hpc:=(Array.getElem?_eq_some_iff.1 hbxc.out).1
     refine ql.mono ?_
     rintro e Wd ⟨vd,rfl,hCd,hSd⟩
     have hbxd:=(hSd.block p hpc (by omega) hvp).trans hbxc.out
     have hvd:vd.ownBlock≠some p:=fun e=>by
      rcases hSd.row p e with e' | e'
      ·exact hvp e'
      ·omega
     obtain ⟨q0,q1,q2⟩:=box3 hbxd
     obtain ⟨_,_,_,d3'⟩:=hCd.cells
     rw [hx] at d3'
     have hld:(out++l.post out.length).length = out.length+l.size:=by rw [List.length_append,L.Tr.post_len]
     have qr:=ihr b' (out++l.post out.length) vd _ g2 hCd (by rw [hld];omega)
     rw [hx,hld] at qr
     have hpd:=(Array.getElem?_eq_some_iff.1 hbxd).1
     replace hCd:=Lib.hid hCd
     replace hbxd:=Lib.hid hbxd
     replace hSd:=Lib.hid hSd
     replace hld:=Lib.hid hld
     clear ql d3 r0 r1 r2
     go_wp2_with fail
     refine qr.mono ?_
     rintro e We ⟨v6,rfl,hCe,hSe⟩
     have hbxe:=(hSe.block p hpd (by omega) hvd).trans hbxd.out
     have hve:v6.ownBlock≠some p:=fun e=>by
      rcases hSe.row p e with e' | e'
      ·exact hvd e'
      ·omega
     obtain ⟨m0,m1,m2⟩:=box3 hbxe
     have f0:We.frozen? ⟨p,0,none⟩ = false:=by simp [World.frozen?,hbxe]
     have f1:We.frozen? ⟨p,1,none⟩ = false:=by simp [World.frozen?,hbxe]
     have f2:We.frozen? ⟨p,2,none⟩ = false:=by simp [World.frozen?,hbxe]
     obtain ⟨yl,hyl⟩:∃ z:Int,z = ((out.length+l.size - 1:Nat):Int):=⟨_,rfl⟩
     obtain ⟨yr,hyr⟩:∃ z:Int,z = ((out.length+l.size+r.size - 1:Nat):Int):=⟨_,rfl⟩
     obtain ⟨out6,hout6⟩:∃ o6,o6 = out++l.post out.length++r.post (out.length+l.size):=⟨_,rfl⟩
     have hl6:out6.length+1≤255:=by rw [hout6,List.length_append,hld.out,L.Tr.post_len];omega
     rw [←hout6] at hCe
     have hSt:=(hSc.out.trans hSd.out).trans hSe
     rw [←hyl,←hyr]
     have hC6:=Lib.hid (((hCe.set (by omega) hve 0 (.int .i64 yl)).set (by omega) hve 1 (.int .i64 yr)).set (by omega) hve 2 (.int .i64 0))
     have hbox6:Hid ((((We.setCell ⟨p,0,none⟩ (.int .i64 yl)).setCell ⟨p,1,none⟩ (.int .i64 yr)).setCell ⟨p,2,none⟩ (.int .i64 0)).heap[p]? = some (.cells #[.int .i64 yl,.int .i64 yr,.int .i64 0] 78 (0,0))):=Lib.hid (heap_set (heap_set (heap_set hbxe 0 _) 1 _) 2 _)
     have hSt6:=Lib.hid (((hSt.set (p:=p) (o:=0) (by omega) (.int .i64 yl)).set (p:=p) (o:=1) (by omega) (.int .i64 yr)).set (p:=p) (o:=2) (by omega) (.int .i64 0))
     replace hyl:=Lib.hid hyl
     replace hyr:=Lib.hid hyr
     replace hout6:=Lib.hid hout6
     obtain ⟨_,_,d2e,_⟩:=hCe.cells
     rw [hx] at d2e
     have hne2:¬ (x0+2 = p):=by omega
     clear qr hCe hSt hbxe hSe hCd hbxd hSd hSc hCc hbxc d3' q0 q1 q2
     have hsz6:(((We.setCell ⟨p,0,none⟩ (.int .i64 yl)).setCell ⟨p,1,none⟩ (.int .i64 yr)).setCell ⟨p,2,none⟩ (.int .i64 0)).heap.size = We.heap.size:=by simp [World.setCell]
     have hlt6:=hC6.out.lt
     have hb6a:=(Below.refl (((We.setCell ⟨p,0,none⟩ (.int .i64 yl)).setCell ⟨p,1,none⟩ (.int .i64 yr)).setCell ⟨p,2,none⟩ (.int .i64 0)).heap.size (((We.setCell ⟨p,0,none⟩ (.int .i64 yl)).setCell ⟨p,1,none⟩ (.int .i64 yr)).setCell ⟨p,2,none⟩ (.int .i64 0))).alloc (Nat.le_refl _) (.cells #[.int .i64 yl,.int .i64 yr,.int .i64 0] 78)
     have hCa:=hC6.out.next hb6a
     have hSa:=hSt6.out.trans (PoStay.below v6 hb6a)
     have hge6:∀ k,v6.ownBlock = some k→w0.heap.size+4≤k:=fun k hk=>own_ge hC6.out.row hk
     have hone:∀ u∈[Value.int .i64 yl,.int .i64 yr,.int .i64 0],u.oneCell' = true:=by simp [Value.oneCell']
     have hroA:=hC6.out.row.alloc (.cells #[.int .i64 yl,.int .i64 yr,.int .i64 0] 78)
     have hnews:=World.news_of_block (cs:=#[.int .i64 yl,.int .i64 yr,.int .i64 0]) (t:=78) (fr:=(0,0)) (heap_alloc_new (((We.setCell ⟨p,0,none⟩ (.int .i64 yl)).setCell ⟨p,1,none⟩ (.int .i64 yr)).setCell ⟨p,2,none⟩ (.int .i64 0)) (.cells #[.int .i64 yl,.int .i64 yr,.int .i64 0] 78))
     try rw [hsz6] at hnews
     obtain ⟨_,_,c2,_⟩:=hC6.out.cells
     rw [hx] at c2
     obtain ⟨e0,e1,e2⟩:=box3 hbox6.out
     replace hCa:=Lib.hid hCa
     replace hSa:=Lib.hid hSa
     clear hb6a
     go_wp2_with (at_builtin;(refine wpList_append_lies _ rfl _ _ 23 rfl (w0.heap.size+4) 78 iv _ 3 24 Tryz.underlying23 hiv hzv hsv hbv rfl (by decide) _ out6.length (treeCells out6) rfl hroA ⟨We.heap.size,0,none⟩ 1 1 [.int .i64 yl,.int .i64 yr,.int .i64 0] rfl rfl hnews hone (by omega) (by unfold maxLen;omega) (by omega) (by simp <;> omega) _ rfl ?_;intro g7 cap7 w7 ho7 hg7 hgg7 _;have hP:=hCa.out.push (x:=⟨yl,yr,0⟩) ho7 hg7 hgg7;have hbo7:=(hg7.block (w0.heap.size+2) (by simp <;> omega) (fun e=>by have:=hge6 _ e.symm;omega)).trans hCa.out.bo;rw [hx] at hbo7;have c7:w7.cell? ⟨x0+2,0,none⟩ = some v6:=(by simp [World.cell?,hbo7]);have f7:w7.frozen? ⟨x0+2,0,none⟩ = false:=(by simp [World.frozen?,hbo7]);replace hP:=Lib.hid hP;replace hbo7:=Lib.hid hbo7))
     go_ret
     refine ⟨.slice (some ⟨g7,0,none⟩) (out6.length+1) cap7,?_,?_,?_⟩
     ·have:out6.length = out.length+(l.node r).size - 1:=by rw [hout6.out];simp only [List.length_append,L.Tr.post_len,L.Tr.size];omega
      rw [this];rfl
     ·have:=hP.out.1
      rw [hx] at this
      have e:out++(l.node r).post out.length = out6++[⟨yl,yr,0⟩]:=by
       rw [hout6.out,hyl.out,hyr.out];simp [L.Tr.post]
      rw [e]
      exact this
     ·have:=hSa.out.trans hP.out.2
      rw [hx] at this
      exact this
end Go.Proofs.YtemnmcfmabamcaaGreatDoor
end
