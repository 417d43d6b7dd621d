import Derived.Test.YteikmmfjhabijaaGreatDoorRKeep4
import Derived.Shelf.Strconv.Atoi
import Derived.Test.YteikmmfjhabijaaGreatDoorProg
section
set_option linter.unusedSimpArgs false
set_option linter.unusedVariables false
namespace Go.Proofs.YteikmmfjhabijaaGreatDoor
open Go Go.RowKit Go.Shelf
theorem Val.keep {s:St} {b:List Nat} {a:Nat} {φ:L.Asg→Bool} (h:Val s a φ) (hi:L.Inv s) (hc:L.Closed s.nodes b) (ha:a∈b):Val (L.keepS s b) (L.rankN b a) φ :=
 ⟨by show _ < (L.keepNodes s.nodes b).length;rw [L.keep_len];exact L.rank_lt ha,fun x=>(L.sem_keep hc hi.kids x a ha).trans (h.sem x)⟩
def RetKeepV (t:List VN) (B0:Blks) (w0:World) (k:Nat) (s:St) (l:List Nat) (n:Nat) (e:Ending) (w':World):Prop :=
 ∃ (b:List Nat) (v:Value),e = .returned (.tuple #[v,.int .i64 0])∧L.Closed s.nodes b∧(∀ a∈l,a∈b)∧(∀ x∈b,∃ a∈0 :: 1 :: l,x≤a)∧w'.ownsRow n 3 1 v l.length ((l.map (L.rankN b)).map encI)∧SS t B0 w0 k (L.keepS s b) w'
theorem keep_v {t:List VN} {B0:Blks} {w0 w:World} {k:Nat} {s:St} {v:Value} {l:List Nat} (h:SS t B0 w0 k s w) (hv:SlI w v (l.map fun n:Nat=>(n:Int))) (hl:l.length≤1000000) (hla:∀ a∈l,a < s.nodes.length) :
  Calls Tryz.prog 27 #[.pointer (some ⟨B0.sb,0,none⟩),v] w (RetKeepV t B0 w0 k s l w.heap.size):=by
 obtain ⟨B,hR,hS⟩:=h.held
 rw [←hS.sb]
 refine (keep_any hR h.ne h.inv hv hl hla).mono ?_
 rintro e w' ⟨b,v',B',rfl,hc,hm,hmx,ho,hR',hS'⟩
 have hbig:=L.keep_big hc
 exact ⟨b,v',rfl,hc,hm,hmx,ho,⟨B',hR',hS.then hS'⟩,⟨L.keep_inv h.inv hc,h.room.few,by have:=h.room.room;omega⟩,h.tree⟩
end Go.Proofs.YteikmmfjhabijaaGreatDoor
end
section
namespace Go.Proofs
open Go.Shelf
def Tryz.laysAtoi_ren:Go.Shelf.Ren:=⟨fun | 172=>124 | 244=>152 | 245=>153 | 247=>166 | 279=>167 | 280=>168 | 281=>169 | 282=>170 | 287=>186 | 316=>187 | 171=>109 | 205=>188 | 321=>198 | 322=>199 | 243=>134 | 246=>156 | 283=>172 | 284=>173 | 285=>174 | 286=>175 | 129=>145 | 317=>189 | 318=>190 | 319=>191 | 320=>192 | 337=>200 | 338=>197 | n=>n,fun | 9=>9 | 3=>3 | 75=>165 | 76=>166 | 4=>4 | 5=>5 | 167=>198 | 37=>150 | 0=>0 | 85=>199 | 2=>2 | 168=>201 | 53=>27 | 175=>220 | 46=>130 | 210=>224 | 127=>233 | 145=>236 | 143=>234 | 21=>21 | 171=>205 | 173=>207 | 212=>227 | 51=>182 | 20=>20 | 213=>228 | 232=>239 | 233=>238 | 80=>142 | n=>n,fun | 15=>0 | 16=>1 | 17=>2 | 18=>4 | 19=>3 | n=>n⟩
theorem Tryz.laysAtoi:Go.Proofs.Lays.n172 Tryz.prog Tryz.laysAtoi_ren:={
 mixed:=by kernel_rfl
 f129:=Tryz.func145.trans (congrArg some (by kernel_rfl))
 f171:=Tryz.func109.trans (congrArg some (by kernel_rfl))
 f172:=Tryz.func124.trans (congrArg some (by kernel_rfl))
 f205:=Tryz.func188.trans (congrArg some (by kernel_rfl))
 f243:=Tryz.func134.trans (congrArg some (by kernel_rfl))
 f244:=Tryz.func152.trans (congrArg some (by kernel_rfl))
 f245:=Tryz.func153.trans (congrArg some (by kernel_rfl))
 f246:=Tryz.func156.trans (congrArg some (by kernel_rfl))
 f247:=Tryz.func166.trans (congrArg some (by kernel_rfl))
 f279:=Tryz.func167.trans (congrArg some (by kernel_rfl))
 f280:=Tryz.func168.trans (congrArg some (by kernel_rfl))
 f281:=Tryz.func169.trans (congrArg some (by kernel_rfl))
 f282:=Tryz.func170.trans (congrArg some (by kernel_rfl))
 f283:=Tryz.func172.trans (congrArg some (by kernel_rfl))
 f284:=Tryz.func173.trans (congrArg some (by kernel_rfl))
 f285:=Tryz.func174.trans (congrArg some (by kernel_rfl))
 f286:=Tryz.func175.trans (congrArg some (by kernel_rfl))
 f287:=Tryz.func186.trans (congrArg some (by kernel_rfl))
 f316:=Tryz.func187.trans (congrArg some (by kernel_rfl))
 f317:=Tryz.func189.trans (congrArg some (by kernel_rfl))
 f318:=Tryz.func190.trans (congrArg some (by kernel_rfl))
 f319:=Tryz.func191.trans (congrArg some (by kernel_rfl))
 f320:=Tryz.func192.trans (congrArg some (by kernel_rfl))
 f321:=Tryz.func198.trans (congrArg some (by kernel_rfl))
 f322:=Tryz.func199.trans (congrArg some (by kernel_rfl))
 f337:=Tryz.func200.trans (congrArg some (by kernel_rfl))
 f338:=Tryz.func197.trans (congrArg some (by kernel_rfl))
 t0:=Tryz.underlying0
 a0:=Tryz.isAgg0
 z0:=Tryz.sizeOf0
 v0:=Tryz.zeroValue0
 t2:=Tryz.underlying2
 a2:=Tryz.isAgg2
 z2:=Tryz.sizeOf2
 v2:=Tryz.zeroValue2
 t3:=Tryz.underlying3
 a3:=Tryz.isAgg3
 z3:=Tryz.sizeOf3
 v3:=Tryz.zeroValue3
 t4:=Tryz.underlying4
 a4:=Tryz.isAgg4
 z4:=Tryz.sizeOf4
 v4:=Tryz.zeroValue4
 t5:=Tryz.underlying5
 a5:=Tryz.isAgg5
 z5:=Tryz.sizeOf5
 v5:=Tryz.zeroValue5
 t9:=Tryz.underlying9
 a9:=Tryz.isAgg9
 z9:=Tryz.sizeOf9
 v9:=Tryz.zeroValue9
 t20:=Tryz.underlying20
 a20:=Tryz.isAgg20
 z20:=Tryz.sizeOf20
 v20:=Tryz.zeroValue20
 t21:=Tryz.underlying21
 a21:=Tryz.isAgg21
 z21:=Tryz.sizeOf21
 v21:=Tryz.zeroValue21
 t37:=Tryz.underlying150
 a37:=Tryz.isAgg150
 z37:=Tryz.sizeOf150
 v37:=Tryz.zeroValue150
 t46:=Tryz.underlying130
 a46:=Tryz.isAgg130
 z46:=Tryz.sizeOf130
 v46:=Tryz.zeroValue130
 t51:=Tryz.underlying182
 a51:=Tryz.isAgg182
 z51:=Tryz.sizeOf182
 v51:=Tryz.zeroValue182
 t53:=Tryz.underlying27
 a53:=Tryz.isAgg27
 z53:=Tryz.sizeOf27
 v53:=Tryz.zeroValue27
 t75:=Tryz.underlying165
 a75:=Tryz.isAgg165
 z75:=Tryz.sizeOf165
 v75:=Tryz.zeroValue165
 t76:=Tryz.underlying166
 a76:=Tryz.isAgg166
 z76:=Tryz.sizeOf166
 v76:=Tryz.zeroValue166
 t85:=Tryz.underlying199
 a85:=Tryz.isAgg199
 z85:=Tryz.sizeOf199
 v85:=Tryz.zeroValue199
 t127:=Tryz.underlying233
 a127:=Tryz.isAgg233
 z127:=Tryz.sizeOf233
 v127:=Tryz.zeroValue233
 t143:=Tryz.underlying234
 a143:=Tryz.isAgg234
 z143:=Tryz.sizeOf234
 v143:=Tryz.zeroValue234
 t145:=Tryz.underlying236
 a145:=Tryz.isAgg236
 z145:=Tryz.sizeOf236
 v145:=Tryz.zeroValue236
 t167:=Tryz.underlying198
 a167:=Tryz.isAgg198
 z167:=Tryz.sizeOf198
 v167:=Tryz.zeroValue198
 t168:=Tryz.underlying201
 a168:=Tryz.isAgg201
 z168:=Tryz.sizeOf201
 v168:=Tryz.zeroValue201
 t171:=Tryz.underlying205
 a171:=Tryz.isAgg205
 z171:=Tryz.sizeOf205
 v171:=Tryz.zeroValue205
 t173:=Tryz.underlying207
 a173:=Tryz.isAgg207
 z173:=Tryz.sizeOf207
 v173:=Tryz.zeroValue207
 t175:=Tryz.underlying220
 a175:=Tryz.isAgg220
 z175:=Tryz.sizeOf220
 v175:=Tryz.zeroValue220
 t210:=Tryz.underlying224
 a210:=Tryz.isAgg224
 z210:=Tryz.sizeOf224
 v210:=Tryz.zeroValue224
 t212:=Tryz.underlying227
 a212:=Tryz.isAgg227
 z212:=Tryz.sizeOf227
 v212:=Tryz.zeroValue227
 t213:=Tryz.underlying228
 a213:=Tryz.isAgg228
 z213:=Tryz.sizeOf228
 t232:=Tryz.underlying239
 a232:=Tryz.isAgg239
 z232:=Tryz.sizeOf239
 v232:=Tryz.zeroValue239
 t233:=Tryz.underlying238
 a233:=Tryz.isAgg238
 z233:=Tryz.sizeOf238
 v233:=Tryz.zeroValue238
 g15:=by kernel_rfl
 g16:=by kernel_rfl
 g17:=by kernel_rfl
 g18:=by kernel_rfl
 g19:=by kernel_rfl }
end Go.Proofs
end
