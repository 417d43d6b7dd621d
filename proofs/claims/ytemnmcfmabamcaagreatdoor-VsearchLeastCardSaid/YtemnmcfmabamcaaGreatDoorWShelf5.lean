import Derived.Test.YtemnmcfmabamcaaGreatDoorWKeep4
import Derived.Shelf.Strconv.Atoi
import Derived.Test.YtemnmcfmabamcaaGreatDoorProg
section
set_option linter.unusedSimpArgs false
set_option linter.unusedVariables false
namespace Go.Proofs.YtemnmcfmabamcaaGreatDoor
open Go Go.RowKit Go.Shelf
theorem Val.keep {s:St} {b:List Nat} {a:Nat} {φ:L.Asg→Bool} (h:Val s a φ) (hi:L.Inv s) (hc:L.Closed s.nodes b) (ha:a∈b):Val (L.keepS s b) (L.rankN b a) φ :=
 ⟨by show _ < (L.keepNodes s.nodes b).length;rw [L.keep_len];exact L.rank_lt ha,fun x=>(L.sem_keep hc hi.kids x a ha).trans (h.sem x)⟩
def RetKeepV (t:List VN) (B0:Blks) (w0:World) (k:Nat) (s:St) (l:List Nat) (n:Nat) (e:Ending) (w':World):Prop :=
 ∃ (b:List Nat) (v:Value),e = .returned (.tuple #[v,.int .i64 0])∧L.Closed s.nodes b∧(∀ a∈l,a∈b)∧(∀ x∈b,∃ a∈0 :: 1 :: l,x≤a)∧w'.ownsRow n 3 1 v l.length ((l.map (L.rankN b)).map encI)∧SS t B0 w0 k (L.keepS s b) w'
theorem keep_v {t:List VN} {B0:Blks} {w0 w:World} {k:Nat} {s:St} {v:Value} {l:List Nat} (h:SS t B0 w0 k s w) (hv:SlI w v (l.map fun n:Nat=>(n:Int))) (hl:l.length≤1000000) (hla:∀ a∈l,a < s.nodes.length) :
  Calls Tryz.prog 93 #[.pointer (some ⟨B0.sb,0,none⟩),v] w (RetKeepV t B0 w0 k s l w.heap.size):=by
 obtain ⟨B,hR,hS⟩:=h.held
 rw [←hS.sb]
 refine (keep_any hR h.ne h.inv hv hl hla).mono ?_
 rintro e w' ⟨b,v',B',rfl,hc,hm,hmx,ho,hR',hS'⟩
 have hbig:=L.keep_big hc
 exact ⟨b,v',rfl,hc,hm,hmx,ho,⟨B',hR',hS.then hS'⟩,⟨L.keep_inv h.inv hc,h.room.few,by have:=h.room.room;omega⟩,h.tree⟩
end Go.Proofs.YtemnmcfmabamcaaGreatDoor
end
section
namespace Go.Proofs
open Go.Shelf
def Tryz.laysAtoi_ren:Go.Shelf.Ren:=⟨fun | 172=>92 | 244=>119 | 245=>120 | 247=>136 | 279=>137 | 280=>138 | 281=>139 | 282=>140 | 287=>153 | 316=>154 | 171=>56 | 205=>155 | 321=>172 | 322=>173 | 243=>87 | 246=>115 | 283=>132 | 284=>133 | 285=>134 | 286=>135 | 129=>149 | 317=>148 | 318=>150 | 319=>151 | 320=>152 | 337=>170 | 338=>171 | n=>n,fun | 9=>9 | 3=>3 | 75=>115 | 76=>116 | 4=>4 | 5=>5 | 167=>186 | 37=>72 | 0=>0 | 85=>187 | 2=>2 | 168=>189 | 53=>80 | 175=>201 | 46=>79 | 210=>205 | 127=>146 | 145=>222 | 143=>220 | 21=>21 | 171=>181 | 173=>184 | 212=>197 | 51=>198 | 20=>20 | 213=>199 | 232=>237 | 233=>238 | 80=>119 | n=>n,fun | 15=>1 | 16=>2 | 17=>0 | 18=>3 | 19=>4 | n=>n⟩
theorem Tryz.laysAtoi:Go.Proofs.Lays.n172 Tryz.prog Tryz.laysAtoi_ren:={
 mixed:=by kernel_rfl
 f129:=Tryz.func149.trans (congrArg some (by kernel_rfl))
 f171:=Tryz.func56.trans (congrArg some (by kernel_rfl))
 f172:=Tryz.func92.trans (congrArg some (by kernel_rfl))
 f205:=Tryz.func155.trans (congrArg some (by kernel_rfl))
 f243:=Tryz.func87.trans (congrArg some (by kernel_rfl))
 f244:=Tryz.func119.trans (congrArg some (by kernel_rfl))
 f245:=Tryz.func120.trans (congrArg some (by kernel_rfl))
 f246:=Tryz.func115.trans (congrArg some (by kernel_rfl))
 f247:=Tryz.func136.trans (congrArg some (by kernel_rfl))
 f279:=Tryz.func137.trans (congrArg some (by kernel_rfl))
 f280:=Tryz.func138.trans (congrArg some (by kernel_rfl))
 f281:=Tryz.func139.trans (congrArg some (by kernel_rfl))
 f282:=Tryz.func140.trans (congrArg some (by kernel_rfl))
 f283:=Tryz.func132.trans (congrArg some (by kernel_rfl))
 f284:=Tryz.func133.trans (congrArg some (by kernel_rfl))
 f285:=Tryz.func134.trans (congrArg some (by kernel_rfl))
 f286:=Tryz.func135.trans (congrArg some (by kernel_rfl))
 f287:=Tryz.func153.trans (congrArg some (by kernel_rfl))
 f316:=Tryz.func154.trans (congrArg some (by kernel_rfl))
 f317:=Tryz.func148.trans (congrArg some (by kernel_rfl))
 f318:=Tryz.func150.trans (congrArg some (by kernel_rfl))
 f319:=Tryz.func151.trans (congrArg some (by kernel_rfl))
 f320:=Tryz.func152.trans (congrArg some (by kernel_rfl))
 f321:=Tryz.func172.trans (congrArg some (by kernel_rfl))
 f322:=Tryz.func173.trans (congrArg some (by kernel_rfl))
 f337:=Tryz.func170.trans (congrArg some (by kernel_rfl))
 f338:=Tryz.func171.trans (congrArg some (by kernel_rfl))
 t0:=Tryz.underlying0
 a0:=Tryz.isAgg0
 z0:=Tryz.sizeOf0
 v0:=Tryz.zeroValue0
 t2:=Tryz.underlying2
 a2:=Tryz.isAgg2
 z2:=Tryz.sizeOf2
 v2:=Tryz.zeroValue2
 t3:=Tryz.underlying3
 a3:=Tryz.isAgg3
 z3:=Tryz.sizeOf3
 v3:=Tryz.zeroValue3
 t4:=Tryz.underlying4
 a4:=Tryz.isAgg4
 z4:=Tryz.sizeOf4
 v4:=Tryz.zeroValue4
 t5:=Tryz.underlying5
 a5:=Tryz.isAgg5
 z5:=Tryz.sizeOf5
 v5:=Tryz.zeroValue5
 t9:=Tryz.underlying9
 a9:=Tryz.isAgg9
 z9:=Tryz.sizeOf9
 v9:=Tryz.zeroValue9
 t20:=Tryz.underlying20
 a20:=Tryz.isAgg20
 z20:=Tryz.sizeOf20
 v20:=Tryz.zeroValue20
 t21:=Tryz.underlying21
 a21:=Tryz.isAgg21
 z21:=Tryz.sizeOf21
 v21:=Tryz.zeroValue21
 t37:=Tryz.underlying72
 a37:=Tryz.isAgg72
 z37:=Tryz.sizeOf72
 v37:=Tryz.zeroValue72
 t46:=Tryz.underlying79
 a46:=Tryz.isAgg79
 z46:=Tryz.sizeOf79
 v46:=Tryz.zeroValue79
 t51:=Tryz.underlying198
 a51:=Tryz.isAgg198
 z51:=Tryz.sizeOf198
 v51:=Tryz.zeroValue198
 t53:=Tryz.underlying80
 a53:=Tryz.isAgg80
 z53:=Tryz.sizeOf80
 v53:=Tryz.zeroValue80
 t75:=Tryz.underlying115
 a75:=Tryz.isAgg115
 z75:=Tryz.sizeOf115
 v75:=Tryz.zeroValue115
 t76:=Tryz.underlying116
 a76:=Tryz.isAgg116
 z76:=Tryz.sizeOf116
 v76:=Tryz.zeroValue116
 t85:=Tryz.underlying187
 a85:=Tryz.isAgg187
 z85:=Tryz.sizeOf187
 v85:=Tryz.zeroValue187
 t127:=Tryz.underlying146
 a127:=Tryz.isAgg146
 z127:=Tryz.sizeOf146
 v127:=Tryz.zeroValue146
 t143:=Tryz.underlying220
 a143:=Tryz.isAgg220
 z143:=Tryz.sizeOf220
 v143:=Tryz.zeroValue220
 t145:=Tryz.underlying222
 a145:=Tryz.isAgg222
 z145:=Tryz.sizeOf222
 v145:=Tryz.zeroValue222
 t167:=Tryz.underlying186
 a167:=Tryz.isAgg186
 z167:=Tryz.sizeOf186
 v167:=Tryz.zeroValue186
 t168:=Tryz.underlying189
 a168:=Tryz.isAgg189
 z168:=Tryz.sizeOf189
 v168:=Tryz.zeroValue189
 t171:=Tryz.underlying181
 a171:=Tryz.isAgg181
 z171:=Tryz.sizeOf181
 v171:=Tryz.zeroValue181
 t173:=Tryz.underlying184
 a173:=Tryz.isAgg184
 z173:=Tryz.sizeOf184
 v173:=Tryz.zeroValue184
 t175:=Tryz.underlying201
 a175:=Tryz.isAgg201
 z175:=Tryz.sizeOf201
 v175:=Tryz.zeroValue201
 t210:=Tryz.underlying205
 a210:=Tryz.isAgg205
 z210:=Tryz.sizeOf205
 v210:=Tryz.zeroValue205
 t212:=Tryz.underlying197
 a212:=Tryz.isAgg197
 z212:=Tryz.sizeOf197
 v212:=Tryz.zeroValue197
 t213:=Tryz.underlying199
 a213:=Tryz.isAgg199
 z213:=Tryz.sizeOf199
 t232:=Tryz.underlying237
 a232:=Tryz.isAgg237
 z232:=Tryz.sizeOf237
 v232:=Tryz.zeroValue237
 t233:=Tryz.underlying238
 a233:=Tryz.isAgg238
 z233:=Tryz.sizeOf238
 v233:=Tryz.zeroValue238
 g15:=by kernel_rfl
 g16:=by kernel_rfl
 g17:=by kernel_rfl
 g18:=by kernel_rfl
 g19:=by kernel_rfl }
end Go.Proofs
end
