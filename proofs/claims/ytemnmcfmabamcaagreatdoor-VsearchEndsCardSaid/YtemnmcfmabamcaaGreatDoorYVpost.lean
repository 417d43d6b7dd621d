import Derived.Test.YtemnmcfmabamcaaGreatDoorYKeep4
import Derived.Shelf.Strconv.Atoi
set_option linter.unusedSimpArgs false
set_option linter.unusedVariables false
set_option maxRecDepth 100000
set_option maxHeartbeats 4000000
section
namespace Go.Proofs.YtemnmcfmabamcaaGreatDoor
open Go Go.RowKit Go.Shelf
theorem Val.keep{s:St}{b:List Nat}{a:Nat}{φ:L.Asg→Bool}(h:Val s a φ)(hi:L.Inv s)(hc:L.Closed s.nodes b)(ha:a∈b):Val (L.keepS s b) (L.rankN b a) φ :=
 ⟨by show _<(L.keepNodes s.nodes b).length;rw[L.keep_len];exact L.rank_lt ha,fun x=>(L.sem_keep hc hi.kids x a ha).trans (h.sem x)⟩
def Zny (t:List VN)(B0:Zar)(w0:World)(k:Nat)(s:St)(l:List Nat)(n:Nat)(e:Ending)(w':World):Prop :=
 ∃(b:List Nat) (v:Value),e= .returned (.tuple #[v,.int .i64 0])∧L.Closed s.nodes b∧(∀a∈l,a∈b)∧(∀x∈b,∃a∈0 :: 1 :: l,x≤a)∧w'.ownsRow n 3 1 v l.length ((l.map (L.rankN b)).map ZbP)∧SS t B0 w0 k (L.keepS s b) w'
theorem ZqB{t:List VN}{B0:Zar}{w0 w:World}{k:Nat}{s:St}{v:Value}{l:List Nat}(h:SS t B0 w0 k s w)(hv:SlI w v (l.map fun n:Nat=>(n:Int)))(hl:l.length≤1000000)(wR:∀a∈l,a<s.nodes.length) :
  Calls Tryz.prog 93 #[.pointer (some ⟨B0.sb,0,none⟩),v] w (Zny t B0 w0 k s l w.heap.size):=by
 obtain⟨B,hR,hS⟩:=h.held;rw[←hS.sb];refine(Zn2 hR h.ne h.inv hv hl wR).mono ?_;rintro e w' ⟨b,v',B',rfl,hc,hm,si,ho,tm,hS'⟩;have qZ:=L.keep_big hc;exact⟨b,v',rfl,hc,hm,si,ho,⟨B',tm,hS.then hS'⟩,⟨L.keep_inv h.inv hc,h.room.few,by have:=h.room.room;omega⟩,h.tree⟩
end Go.Proofs.YtemnmcfmabamcaaGreatDoor
end
section
namespace Go.Proofs
open Go.Shelf
def Tryz.laysAtoi_ren:Go.Shelf.Ren:=⟨fun|172=>92|244=>119|245=>120|247=>136|279=>137|280=>138|281=>139|282=>140|287=>153|316=>154|171=>56|205=>155|321=>172|322=>173|243=>87|246=>115|283=>132|284=>133|285=>134|286=>135|129=>149|317=>148|318=>150|319=>151|320=>152|337=>170|338=>171|n=>n,fun|9=>9|3=>3|75=>115|76=>116|4=>4|5=>5|167=>186|37=>72|0=>0|85=>187|2=>2|168=>189|53=>80|175=>201|46=>79|210=>205|127=>146|145=>222|143=>220|21=>21|171=>181|173=>184|212=>197|51=>198|20=>20|213=>199|232=>237|233=>238|80=>119|n=>n,fun|15=>1|16=>2|17=>0|18=>3|19=>4|n=>n⟩
theorem Tryz.laysAtoi:Go.Proofs.Lays.n172 Tryz.prog Tryz.laysAtoi_ren:={
 mixed:=by kernel_rfl
 f129:=Tryz.func149.trans (congrArg some (by kernel_rfl))
 f171:=Tryz.func56.trans (congrArg some (by kernel_rfl))
 f172:=Tryz.func92.trans (congrArg some (by kernel_rfl))
 f205:=Tryz.func155.trans (congrArg some (by kernel_rfl))
 f243:=Tryz.func87.trans (congrArg some (by kernel_rfl))
 f244:=Tryz.func119.trans (congrArg some (by kernel_rfl))
 f245:=Tryz.func120.trans (congrArg some (by kernel_rfl))
 f246:=Tryz.func115.trans (congrArg some (by kernel_rfl))
 f247:=Tryz.func136.trans (congrArg some (by kernel_rfl))
 f279:=Tryz.func137.trans (congrArg some (by kernel_rfl))
 f280:=Tryz.func138.trans (congrArg some (by kernel_rfl))
 f281:=Tryz.func139.trans (congrArg some (by kernel_rfl))
 f282:=Tryz.func140.trans (congrArg some (by kernel_rfl))
 f283:=Tryz.func132.trans (congrArg some (by kernel_rfl))
 f284:=Tryz.func133.trans (congrArg some (by kernel_rfl))
 f285:=Tryz.func134.trans (congrArg some (by kernel_rfl))
 f286:=Tryz.func135.trans (congrArg some (by kernel_rfl))
 f287:=Tryz.func153.trans (congrArg some (by kernel_rfl))
 f316:=Tryz.func154.trans (congrArg some (by kernel_rfl))
 f317:=Tryz.func148.trans (congrArg some (by kernel_rfl))
 f318:=Tryz.func150.trans (congrArg some (by kernel_rfl))
 f319:=Tryz.func151.trans (congrArg some (by kernel_rfl))
 f320:=Tryz.func152.trans (congrArg some (by kernel_rfl))
 f321:=Tryz.func172.trans (congrArg some (by kernel_rfl))
 f322:=Tryz.func173.trans (congrArg some (by kernel_rfl))
 f337:=Tryz.func170.trans (congrArg some (by kernel_rfl))
 f338:=Tryz.func171.trans (congrArg some (by kernel_rfl))
 t0:=Tryz.underlying0
 a0:=Tryz.isAgg0
 z0:=Tryz.sizeOf0
 v0:=Tryz.zeroValue0
 t2:=Tryz.underlying2
 a2:=Tryz.isAgg2
 z2:=Tryz.sizeOf2
 v2:=Tryz.zeroValue2
 t3:=Tryz.underlying3
 a3:=Tryz.isAgg3
 z3:=Tryz.sizeOf3
 v3:=Tryz.zeroValue3
 t4:=Tryz.underlying4
 a4:=Tryz.isAgg4
 z4:=Tryz.sizeOf4
 v4:=Tryz.zeroValue4
 t5:=Tryz.underlying5
 a5:=Tryz.isAgg5
 z5:=Tryz.sizeOf5
 v5:=Tryz.zeroValue5
 t9:=Tryz.underlying9
 a9:=Tryz.isAgg9
 z9:=Tryz.sizeOf9
 v9:=Tryz.zeroValue9
 t20:=Tryz.underlying20
 a20:=Tryz.isAgg20
 z20:=Tryz.sizeOf20
 v20:=Tryz.zeroValue20
 t21:=Tryz.underlying21
 a21:=Tryz.isAgg21
 z21:=Tryz.sizeOf21
 v21:=Tryz.zeroValue21
 t37:=Tryz.underlying72
 a37:=Tryz.isAgg72
 z37:=Tryz.sizeOf72
 v37:=Tryz.zeroValue72
 t46:=Tryz.underlying79
 a46:=Tryz.isAgg79
 z46:=Tryz.sizeOf79
 v46:=Tryz.zeroValue79
 t51:=Tryz.underlying198
 a51:=Tryz.isAgg198
 z51:=Tryz.sizeOf198
 v51:=Tryz.zeroValue198
 t53:=Tryz.underlying80
 a53:=Tryz.isAgg80
 z53:=Tryz.sizeOf80
 v53:=Tryz.zeroValue80
 t75:=Tryz.underlying115
 a75:=Tryz.isAgg115
 z75:=Tryz.sizeOf115
 v75:=Tryz.zeroValue115
 t76:=Tryz.underlying116
 a76:=Tryz.isAgg116
 z76:=Tryz.sizeOf116
 v76:=Tryz.zeroValue116
 t85:=Tryz.underlying187
 a85:=Tryz.isAgg187
 z85:=Tryz.sizeOf187
 v85:=Tryz.zeroValue187
 t127:=Tryz.underlying146
 a127:=Tryz.isAgg146
 z127:=Tryz.sizeOf146
 v127:=Tryz.zeroValue146
 t143:=Tryz.underlying220
 a143:=Tryz.isAgg220
 z143:=Tryz.sizeOf220
 v143:=Tryz.zeroValue220
 t145:=Tryz.underlying222
 a145:=Tryz.isAgg222
 z145:=Tryz.sizeOf222
 v145:=Tryz.zeroValue222
 t167:=Tryz.underlying186
 a167:=Tryz.isAgg186
 z167:=Tryz.sizeOf186
 v167:=Tryz.zeroValue186
 t168:=Tryz.underlying189
 a168:=Tryz.isAgg189
 z168:=Tryz.sizeOf189
 v168:=Tryz.zeroValue189
 t171:=Tryz.underlying181
 a171:=Tryz.isAgg181
 z171:=Tryz.sizeOf181
 v171:=Tryz.zeroValue181
 t173:=Tryz.underlying184
 a173:=Tryz.isAgg184
 z173:=Tryz.sizeOf184
 v173:=Tryz.zeroValue184
 t175:=Tryz.underlying201
 a175:=Tryz.isAgg201
 z175:=Tryz.sizeOf201
 v175:=Tryz.zeroValue201
 t210:=Tryz.underlying205
 a210:=Tryz.isAgg205
 z210:=Tryz.sizeOf205
 v210:=Tryz.zeroValue205
 t212:=Tryz.underlying197
 a212:=Tryz.isAgg197
 z212:=Tryz.sizeOf197
 v212:=Tryz.zeroValue197
 t213:=Tryz.underlying199
 a213:=Tryz.isAgg199
 z213:=Tryz.sizeOf199
 t232:=Tryz.underlying237
 a232:=Tryz.isAgg237
 z232:=Tryz.sizeOf237
 v232:=Tryz.zeroValue237
 t233:=Tryz.underlying238
 a233:=Tryz.isAgg238
 z233:=Tryz.sizeOf238
 v233:=Tryz.zeroValue238
 g15:=by kernel_rfl
 g16:=by kernel_rfl
 g17:=by kernel_rfl
 g18:=by kernel_rfl
 g19:=by kernel_rfl }
end Go.Proofs
end
section
namespace Go.Proofs.YtemnmcfmabamcaaGreatDoor
open Go Go.RowKit Go.Shelf
theorem Zbh{w:World}{b k:Nat}(o:Nat)(v:Value)(h:k≠b):(w.setCell ⟨b,o,none⟩ v).heap[k]? =w.heap[k]?:=by
 simp only[World.setCell,Array.getElem?_modify];rw[if_neg (fun e=>h e.symm)]
theorem Zat(t:List VN)(x:VN):Zal (t++[x])=Zal t++[.int .i64 x.left,.int .i64 x.right,.int .i64 x.var]:=by simp[Zal]
theorem Zcn:(Tryz.prog.info? 78).map (fun i=>(i.zero,i.size,i.bytes))=some (some (.agg #[.int .i64 0,.int .i64 0,.int .i64 0]),3,24):=by kernel_rfl
structure PoC (w0:World) (t:List VN) (b o cap:Nat) (chv:Value) (out:List VN) (v:Value) (wr:World):Prop where
 below:Below w0.heap.size w0 wr
 bt:wr.heap[w0.heap.size]? =some (.cells #[.slice (some ⟨b,o,none⟩) t.length cap] 23 (0,0))
 bc:wr.heap[w0.heap.size+1]? =some (.cells #[chv] 178 (0,0))
 bo:wr.heap[w0.heap.size+2]? =some (.cells #[v] 23 (0,0))
 bv:wr.heap[w0.heap.size+3]? =some (.cells #[.func (.func 143) #[] #[.pointer (some ⟨w0.heap.size,0,none⟩),.pointer (some ⟨w0.heap.size+1,0,none⟩),.pointer (some ⟨w0.heap.size+3,0,none⟩),.pointer (some ⟨w0.heap.size+2,0,none⟩)]] 124 (0,0))
 row:wr.ownsRow (w0.heap.size+4) 78 3 v out.length (Zal out)
structure Zby (w0 w:World) (v:Value) (w':World) (v':Value):Prop where
 size:w.heap.size≤w'.heap.size
 block:∀k,k<w.heap.size→k≠w0.heap.size+2→v.ownBlock≠some k→w'.heap[k]? =w.heap[k]?
 row:∀g,v'.ownBlock=some g→v.ownBlock=some g∨w.heap.size≤g
theorem Zby.trans{w0 w w1 w2:World}{v v1 v2:Value}(h:Zby w0 w v w1 v1)(k:Zby w0 w1 v1 w2 v2):Zby w0 w v w2 v2 where
 size:=ZrC h.size k.size
 block:=fun i hi hn hv=>(k.block i (ZrD hi h.size) hn (fun e=>by rcases h.row i e with e'|e';exact hv e';omega)).trans (h.block i hi hn hv)
 row:=fun g e=>by
  rcases k.row g e with e'|e'
  ·exact h.row g e'
  ·exact .inr (ZrC h.size e')
theorem Zby.below{w0 w w':World}(v:Value)(h:Below w.heap.size w w'):Zby w0 w v w' v:=⟨h.size,fun k hk _ _=>h.block k hk,fun _ e=>.inl e⟩
theorem Zby.set{w0 w w':World}{v v':Value}(h:Zby w0 w v w' v'){p o:Nat}(hp:w.heap.size≤p)(u:Value):Zby w0 w v (w'.setCell ⟨p,o,none⟩ u) v' :=
 ⟨by simp[World.setCell];exact h.size,fun k hk h1 h2=>(Zbh _ _ (by omega)).trans (h.block k hk h1 h2),h.row⟩
section
variable {w0:World}{t:List VN}{b o cap:Nat}{chv:Value}{out:List VN}{v:Value}{wr:World}
theorem PoC.next{w':World}(h:PoC w0 t b o cap chv out v wr)(hb:Below wr.heap.size wr w'):PoC w0 t b o cap chv out v w' where
 below:=h.below.trans (hb.mono h.below.size)
 bt:=(hb.block _ (Zrv h.bt).1).trans h.bt
 bc:=(hb.block _ (Zrv h.bc).1).trans h.bc
 bo:=(hb.block _ (Zrv h.bo).1).trans h.bo
 bv:=(hb.block _ (Zrv h.bv).1).trans h.bv
 row:=Zaa h.row (fun _ hg=>hb.block _ (Zap h.row hg).1)
theorem PoC.set(h:PoC w0 t b o cap chv out v wr){p:Nat}(hp:w0.heap.size+4≤p)(hv:v.ownBlock≠some p)(j:Nat)(u:Value):PoC w0 t b o cap chv out v (wr.setCell ⟨p,j,none⟩ u) where
 below:=h.below.setCell (show w0.heap.size≤p by omega) _
 bt:=(Zbh _ _ (by omega)).trans h.bt
 bc:=(Zbh _ _ (by omega)).trans h.bc
 bo:=(Zbh _ _ (by omega)).trans h.bo
 bv:=(Zbh _ _ (by omega)).trans h.bv
 row:=Zaa h.row (fun k hg=>Zbh _ _ (fun e=>hv (by rw[←e];exact hg)))
theorem PoC.cells(h:PoC w0 t b o cap chv out v wr):wr.cell? ⟨w0.heap.size,0,none⟩=some (.slice (some ⟨b,o,none⟩) t.length cap)∧wr.cell? ⟨w0.heap.size+1,0,none⟩=some chv∧wr.cell? ⟨w0.heap.size+2,0,none⟩=some v ∧
  wr.cell? ⟨w0.heap.size+3,0,none⟩=some (.func (.func 143) #[] #[.pointer (some ⟨w0.heap.size,0,none⟩),.pointer (some ⟨w0.heap.size+1,0,none⟩),.pointer (some ⟨w0.heap.size+3,0,none⟩),.pointer (some ⟨w0.heap.size+2,0,none⟩)]):=by
 refine⟨?_,?_,?_,?_⟩
 ·simp[World.cell?,h.bt]
 ·simp[World.cell?,h.bc]
 ·simp[World.cell?,h.bo]
 ·simp[World.cell?,h.bv]
theorem PoC.lt(h:PoC w0 t b o cap chv out v wr):w0.heap.size+4≤wr.heap.size:=by have:=(Zrv h.bv).1;omega
theorem PoC.push{w2:World}{g cp:Nat}{x:VN}(h:PoC w0 t b o cap chv out v wr)(ho:w2.ownsRow (w0.heap.size+4) 78 3 (.slice (some ⟨g,0,none⟩) (out.length+1) cp) (out.length+1) (Zal out++[.int .i64 x.left,.int .i64 x.right,.int .i64 x.var]))
  (hg:wr.grownBy w2 v.ownBlock) (hgg:v.ownBlock=some g∨g=wr.heap.size) :
  PoC w0 t b o cap chv (out++[x]) (.slice (some ⟨g,0,none⟩) (out.length+1) cp) (w2.setCell ⟨w0.heap.size+2,0,none⟩ (.slice (some ⟨g,0,none⟩) (out.length+1) cp)) ∧
  Zby w0 wr v (w2.setCell ⟨w0.heap.size+2,0,none⟩ (.slice (some ⟨g,0,none⟩) (out.length+1) cp)) (.slice (some ⟨g,0,none⟩) (out.length+1) cp):=by
 have eE:∀k,v.ownBlock=some k→w0.heap.size+4≤k:=fun k hk=>Zay h.row hk
 have hl:=h.lt;have aJ:∀k,k<w0.heap.size+4→some k≠v.ownBlock:=fun k hk e=>by have:=eE k e.symm;omega
 have dH:∀k,k≠w0.heap.size+2→(w2.setCell ⟨w0.heap.size+2,0,none⟩ (.slice (some ⟨g,0,none⟩) (out.length+1) cp)).heap[k]? =w2.heap[k]?:=fun k hk=>Below.heap_setCell _ _ _ _ hk
 have eB:∀k,k<wr.heap.size→k≠w0.heap.size+2→some k≠v.ownBlock→(w2.setCell ⟨w0.heap.size+2,0,none⟩ (.slice (some ⟨g,0,none⟩) (out.length+1) cp)).heap[k]? =wr.heap[k]?:=fun k h1 h2 h3=>(dH k h2).trans (hg.block k h1 h3)
 refine⟨{ below:=?_,bt:=?_,bc:=?_,bo:=?_,bv:=?_,row:=?_ },⟨by simp[World.setCell];exact hg.size,fun k h1 h2 h3=>eB k h1 h2 (fun e=>h3 e.symm),fun k hk=>?_⟩⟩
 ·exact⟨hg.os.trans h.below.os,hg.tape.trans h.below.tape,hg.output.trans h.below.output,by simp[World.setCell];exact ZrC h.below.size hg.size,fun k hk=>(eB k (by have:=h.below.size;omega) (by omega) (aJ k (by omega))).trans (h.below.block k hk)⟩
 ·exact(eB _ (by omega) (by omega) (aJ _ (by omega))).trans h.bt
 ·exact(eB _ (by omega) (by omega) (aJ _ (by omega))).trans h.bc
 ·exact Zaj ((hg.block _ (by omega) (aJ _ (by omega))).trans h.bo) 0 _
 ·exact(eB _ (by omega) (by omega) (aJ _ (by omega))).trans h.bv
 ·refine Zaa (Zak ho (by simp) (by rw[Zat])) (fun k bW=>dH k ?_)
  have:=Zay ho bW;omega
 ·have:k=g:=(Option.some.inj hk).symm
  subst this;exact hgg.imp id (fun e=>by omega)
end
structure Zge (w0:World) (t:List VN) (fc:Nat) (caps:Array Value) (chg:Nat→VN→VN):Prop where
 enters:∀(c:Array Value) (w:World),(callFunc fc c).run Tryz.prog w= .ok (.enter fc c) w
 says:∀(i:Nat) (y:VN),t[i]? =some y→Zai y=false→∀W,Below w0.heap.size w0 W→Calls Tryz.prog fc (#[.int .i64 (i:Int),Zfn y]++caps) W fun e w'=>e= .returned (Zfn (chg i y))∧Below W.heap.size W w'
def Zq5 (w0:World)(t:List VN)(b o cap:Nat)(chv:Value)(chg:Nat→VN→VN)(U:L.Tr):Prop:=∀(i:Nat) (out:List VN) (v:Value) (wr:World),L.IsT chg t i U→PoC w0 t b o cap chv out v wr→out.length+U.size≤255 →
 Calls Tryz.prog 143 #[.int .i64 (i:Int),.pointer (some ⟨w0.heap.size,0,none⟩),.pointer (some ⟨w0.heap.size+1,0,none⟩),.pointer (some ⟨w0.heap.size+3,0,none⟩),.pointer (some ⟨w0.heap.size+2,0,none⟩)] wr
  fun e w'=>∃v',e= .returned (.int .i64 ((out.length+U.size - 1:Nat):Int))∧PoC w0 t b o cap chv (out++U.post out.length) v' w'∧Zby w0 wr v w' v'
theorem Zmy{w0:World}{t:List VN}{b o cap fc:Nat}{caps:Array Value}{chg:Nat→VN→VN}(ht:Zag w0 b o t)(cw:Zge w0 t fc caps chg):∀U,Zq5 w0 t b o cap (.func (.func fc) #[] caps) chg U
 | .leaf lv=>by
   intro i out v wr hT hC ac
   cases hT with
   | @leaf _ y h1 h2 =>
     obtain⟨hi,hy⟩:=Zrw h1;obtain⟨n0,n1,n2⟩:=(ht.below hC.below).node hi;rw[hy]at n0 n1 n2;obtain⟨iv,dN,cP,cI,dM⟩:=info_parts Zcn;generalize hx:w0.heap.size=x0 at *;generalize hp:wr.heap.size=p at *;obtain⟨yl,yr,yv⟩:=y;simp only at n0 n1 n2;have jn:yl= -1∧yr= -1:=by simp only[Zai,ZrK,ZrN]at h2;exact h2.1
     obtain⟨rfl,rfl⟩:=jn;have aF:=(ZrE wr.heap.size wr).alloc (ZrQ _) (.cells #[.int .i64 (-1),.int .i64 (-1),.int .i64 yv] 78);have aC:=Zrz wr (.cells #[.int .i64 (-1),.int .i64 (-1),.int .i64 yv] 78);rw[hp]at aC;have ce:=hC.next aF;have ew:(0:Int)≤i:=by omega
     have jx:(i:Int)<t.length:=by omega
     obtain⟨c0,_,_,_⟩:=hC.cells;rw[hx]at c0;have aI:=fun W=>Zbu ⟨-1,-1,yv⟩ W
     rw[h2]at aI;replace hC:=Zrr hC;replace ce:=Zrr ce;replace aC:=Zrr aC
     go_enter Tryz.func143,Tryz.ntmps143
     go_wp2_with fail;refine(aI _).mono ?_;rintro e W6 ⟨rfl,iy⟩;clear aI;obtain⟨yl,bF⟩:∃z:Int,z= -1:=⟨_,rfl⟩;obtain⟨yr,jT⟩:∃z:Int,z= -1:=⟨_,rfl⟩;have cM:=Zrr (ce.out.next iy.below)
     have jV:Hid (W6.heap[p]? =some (.cells #[.int .i64 yl,.int .i64 yr,.int .i64 yv] 78 (0,0))):=Zrr (by
      rw[bF,jT];exact(iy.below.block p (Zrv aC.out).1).trans aC.out)
     have gM:=Zrr ((Zby.below (w0:=w0) v aF).trans (Zby.below v iy.below));obtain⟨bY,am⟩:∃bY,bY=out:=⟨_,rfl⟩;obtain⟨v6,oB⟩:∃v6,v6=v:=⟨_,rfl⟩;rw[←am,←oB]at cM;rw[←oB]at gM;have cE:bY.length+1≤255:=by rw[am];exact ac
     replace am:=Zrr am;replace oB:=Zrr oB;replace bF:=Zrr bF;replace jT:=Zrr jT;clear n0 n1 n2 c0 aF aC ce iy;have hlt6:=cM.out.lt;have dq0:=(ZrE W6.heap.size W6).alloc (ZrQ _) (.cells #[.int .i64 yl,.int .i64 yr,.int .i64 yv] 78)
     have fY:=cM.out.next dq0
     have ng:=gM.out.trans (Zby.below v6 dq0);have u6:∀k,v6.ownBlock=some k→w0.heap.size+4≤k:=fun k hk=>Zay cM.out.row hk
     have aH:∀u∈[Value.int .i64 yl,.int .i64 yr,.int .i64 yv],u.oneCell'=true:=by simp[Value.oneCell']
     have cU:=cM.out.row.alloc (.cells #[.int .i64 yl,.int .i64 yr,.int .i64 yv] 78);have aG:=World.news_of_block (cs:=#[.int .i64 yl,.int .i64 yr,.int .i64 yv]) (t:=78) (fr:=(0,0)) (Zrz W6 (.cells #[.int .i64 yl,.int .i64 yr,.int .i64 yv] 78))
     try rw[zt]at aG
     obtain⟨_,_,c2,_⟩:=cM.out.cells;rw[hx]at c2;obtain⟨e0,e1,e2⟩:=Za5 jV.out;replace fY:=Zrr fY;replace ng:=Zrr ng;clear dq0
     go_wp2_with (at_builtin;(refine wpList_append_lies _ rfl _ _ 23 rfl (w0.heap.size+4) 78 iv _ 3 24 Tryz.underlying23 dN cP cI dM rfl (by decide) _ bY.length (Zal bY) rfl cU ⟨W6.heap.size,0,none⟩ 1 1 [.int .i64 yl,.int .i64 yr,.int .i64 yv] rfl rfl aG aH (by omega) (by unfold maxLen;omega) (by omega) (by simp <;> omega) _ rfl ?_;intro g7 gK w7 bh cm bQ _;have hP:=fY.out.push (x:=⟨yl,yr,yv⟩) bh cm bQ;have iY:=(cm.block (w0.heap.size+2) (by simp <;> omega) (fun e=>by have:=u6 _ e.symm;omega)).trans fY.out.bo;rw[hx]at iY;have c7:w7.cell? ⟨x0+2,0,none⟩=some v6:=(by simp[World.cell?,iY]);have f7:w7.frozen? ⟨x0+2,0,none⟩=false:=(by simp[World.frozen?,iY]);replace hP:=Zrr hP;replace iY:=Zrr iY))
     go_ret;refine⟨.slice (some ⟨g7,0,none⟩) (bY.length+1) gK,?_,?_,?_⟩
     ·rw[am.out];simp[L.Tr.size]
     ·have:=hP.out.1
      rw[hx,bF.out,jT.out]at this;rw[am.out]at this ⊢;exact this
     ·have:=ng.out.trans hP.out.2
      rw[hx,oB.out]at this;exact this
 | .node l r=>by
   intro i out v wr hT hC ac;have ihl:=Zmy (cap:=cap) ht cw l;have ihr:=Zmy (cap:=cap) ht cw r
   cases hT with
   | @node _ a b' y _ _ h1 h2 h3 h4 g1 g2 =>
     obtain⟨hi,hy⟩:=Zrw h1;obtain⟨n0,n1,n2⟩:=(ht.below hC.below).node hi;rw[hy]at n0 n1 n2;obtain⟨iv,dN,cP,cI,dM⟩:=info_parts Zcn;have yy:=l.pos;have hrp:=r.pos;have iH:out.length+(l.size+r.size+1)≤255:=ac;have xV:∀(c:Array Value) (w:World),(callFunc 143 c).run Tryz.prog w= .ok (.enter 143 c) w:=fun c w=>by simp[go_sem,Tryz.func143]
     have hK:=cw.enters;generalize hx:w0.heap.size=x0 at *;generalize hp:wr.heap.size=p at *;have aF:=(ZrE wr.heap.size wr).alloc (ZrQ _) (.cells #[.int .i64 y.left,.int .i64 y.right,.int .i64 y.var] 78);have aC:=Zrz wr (.cells #[.int .i64 y.left,.int .i64 y.right,.int .i64 y.var] 78);rw[hp]at aC;have ce:=hC.next aF;have hplt:x0+4≤p:=by have:=hC.lt;omega
     have gI:v.ownBlock≠some p:=fun e=>by have:=(Zap hC.row e).1;omega
     have ew:(0:Int)≤i:=by omega
     have jx:(i:Int)<t.length:=by omega
     obtain⟨c0,_,_,_⟩:=hC.cells;rw[hx]at c0;have aI:=fun W=>Zbu y W
     rw[h2]at aI;have rW:=cw.says i y h1 h2;unfold Zfn at rW;replace hC:=Zrr hC;replace ce:=Zrr ce;replace aC:=Zrr aC;replace rW:=Zrr rW
     go_enter Tryz.func143,Tryz.ntmps143
     go_wp2_with fail;refine(aI _).mono ?_;rintro e Wa ⟨rfl,oC⟩;have fY:=ce.out.next oC.below;have nB:=(oC.below.block p (Zrv aC.out).1).trans aC.out;have ng:=(Zby.below (w0:=w0) v aF).trans (Zby.below v oC.below);obtain⟨_,d1,_,_⟩:=fY.cells;rw[hx]at d1;obtain⟨e0,e1,e2⟩:=Za5 nB;have qs:=rW.out Wa (by rw[hx];exact hx ▸ fY.below);replace fY:=Zrr fY;replace nB:=Zrr nB;replace ng:=Zrr ng;clear aI n0 n1 n2 c0 aF aC ce oC;go_wp2_with fail;refine qs.mono ?_;rintro e Wb ⟨rfl,iI⟩;have xM:=fY.out.next iI;have nC:=(iI.block p (Zrv nB.out).1).trans nB.out;have hSb:=ng.out.trans (Zby.below v iI);generalize chg i y=z at *;obtain⟨zl,zr,zv⟩:=z;simp only at h3 h4;subst h3 h4;have xN:=((xM.set (by omega) gI 0 (.int .i64 (a:Nat))).set (by omega) gI 1 (.int .i64 (b':Nat))).set (by omega) gI 2 (.int .i64 zv);have nD:(((Wb.setCell ⟨p,0,none⟩ (.int .i64 (a:Nat))).setCell ⟨p,1,none⟩ (.int .i64 (b':Nat))).setCell ⟨p,2,none⟩ (.int .i64 zv)).heap[p]? =some (.cells #[.int .i64 (a:Nat),.int .i64 (b':Nat),.int .i64 zv] 78 (0,0)):=Zaj (Zaj (Zaj nC 0 _) 1 _) 2 _;have hSc:=Zrr (((hSb.set (p:=p) (o:=0) (by omega) (.int .i64 (a:Nat))).set (p:=p) (o:=1) (by omega) (.int .i64 (b':Nat))).set (p:=p) (o:=2) (by omega) (.int .i64 zv));obtain⟨e0,e1,e2⟩:=Za5 nC;obtain⟨r0,r1,r2⟩:=Za5 nD;obtain⟨_,_,_,d3⟩:=xN.cells;rw[hx]at d3;have f0:Wb.frozen? ⟨p,0,none⟩=false:=by simp[World.frozen?,nC]
     have f1:Wb.frozen? ⟨p,1,none⟩=false:=by simp[World.frozen?,nC]
     have f2:Wb.frozen? ⟨p,2,none⟩=false:=by simp[World.frozen?,nC]
     have hne3:¬ (x0+3=p):=by omega
     have ql:=ihl a out v _ g1 xN (by omega);rw[hx]at ql;replace xN:=Zrr xN;replace nD:=Zrr nD;clear qs xM nC hSb fY nB ng d1;go_wp2_with fail;generalize hWc:((Wb.setCell ⟨p,0,none⟩ (.int .i64 (a:Nat))).setCell ⟨p,1,none⟩ (.int .i64 (b':Nat))).setCell ⟨p,2,none⟩ (.int .i64 zv)=Wc at *;clear hWc e0 e1 e2 f0 f1 f2;have hpc:=(Zrv nD.out).1;refine ql.mono ?_;rintro e Wd ⟨vd,rfl,xO,wC⟩;have nE:=(wC.block p hpc (by omega) gI).trans nD.out
     have hvd:vd.ownBlock≠some p:=fun e=>by
      rcases wC.row p e with e'|e'
      ·exact gI e'
      ·omega
     obtain⟨q0,q1,q2⟩:=Za5 nE;obtain⟨_,_,_,mn⟩:=xO.cells;rw[hx]at mn;have sd:(out++l.post out.length).length=out.length+l.size:=by rw[ZrB,L.Tr.post_len]
     have qr:=ihr b' (out++l.post out.length) vd _ g2 xO (by rw[sd];omega);rw[hx,sd]at qr;have zX:=(Zrv nE).1;replace xO:=Zrr xO;replace nE:=Zrr nE;replace wC:=Zrr wC;replace sd:=Zrr sd;clear ql d3 r0 r1 r2;go_wp2_with fail;refine qr.mono ?_;rintro e We ⟨v6,rfl,hCe,hSe⟩;have nF:=(hSe.block p zX (by omega) hvd).trans nE.out
     have jr:v6.ownBlock≠some p:=fun e=>by
      rcases hSe.row p e with e'|e'
      ·exact hvd e'
      ·omega
     obtain⟨m0,m1,m2⟩:=Za5 nF;have f0:We.frozen? ⟨p,0,none⟩=false:=by simp[World.frozen?,nF]
     have f1:We.frozen? ⟨p,1,none⟩=false:=by simp[World.frozen?,nF]
     have f2:We.frozen? ⟨p,2,none⟩=false:=by simp[World.frozen?,nF]
     obtain⟨yl,bF⟩:∃z:Int,z=((out.length+l.size - 1:Nat):Int):=⟨_,rfl⟩;obtain⟨yr,jT⟩:∃z:Int,z=((out.length+l.size+r.size - 1:Nat):Int):=⟨_,rfl⟩;obtain⟨bY,am⟩:∃o6,o6=out++l.post out.length++r.post (out.length+l.size):=⟨_,rfl⟩;have cE:bY.length+1≤255:=by rw[am,ZrB,sd.out,L.Tr.post_len];omega
     rw[←am]at hCe;have gL:=(hSc.out.trans wC.out).trans hSe;rw[←bF,←jT];have cM:=Zrr (((hCe.set (by omega) jr 0 (.int .i64 yl)).set (by omega) jr 1 (.int .i64 yr)).set (by omega) jr 2 (.int .i64 0));have jV:Hid ((((We.setCell ⟨p,0,none⟩ (.int .i64 yl)).setCell ⟨p,1,none⟩ (.int .i64 yr)).setCell ⟨p,2,none⟩ (.int .i64 0)).heap[p]? =some (.cells #[.int .i64 yl,.int .i64 yr,.int .i64 0] 78 (0,0))):=Zrr (Zaj (Zaj (Zaj nF 0 _) 1 _) 2 _);have gM:=Zrr (((gL.set (p:=p) (o:=0) (by omega) (.int .i64 yl)).set (p:=p) (o:=1) (by omega) (.int .i64 yr)).set (p:=p) (o:=2) (by omega) (.int .i64 0));replace bF:=Zrr bF;replace jT:=Zrr jT;replace am:=Zrr am;obtain⟨_,_,d2e,_⟩:=hCe.cells;rw[hx]at d2e;have nN:¬ (x0+2=p):=by omega
     clear qr hCe gL nF hSe xO nE wC hSc xN nD mn q0 q1 q2;have zt:(((We.setCell ⟨p,0,none⟩ (.int .i64 yl)).setCell ⟨p,1,none⟩ (.int .i64 yr)).setCell ⟨p,2,none⟩ (.int .i64 0)).heap.size=We.heap.size:=by simp[World.setCell]
     have hlt6:=cM.out.lt;have dq0:=(ZrE (((We.setCell ⟨p,0,none⟩ (.int .i64 yl)).setCell ⟨p,1,none⟩ (.int .i64 yr)).setCell ⟨p,2,none⟩ (.int .i64 0)).heap.size (((We.setCell ⟨p,0,none⟩ (.int .i64 yl)).setCell ⟨p,1,none⟩ (.int .i64 yr)).setCell ⟨p,2,none⟩ (.int .i64 0))).alloc (ZrQ _) (.cells #[.int .i64 yl,.int .i64 yr,.int .i64 0] 78)
     have fY:=cM.out.next dq0
     have ng:=gM.out.trans (Zby.below v6 dq0);have u6:∀k,v6.ownBlock=some k→w0.heap.size+4≤k:=fun k hk=>Zay cM.out.row hk
     have aH:∀u∈[Value.int .i64 yl,.int .i64 yr,.int .i64 0],u.oneCell'=true:=by simp[Value.oneCell']
     have cU:=cM.out.row.alloc (.cells #[.int .i64 yl,.int .i64 yr,.int .i64 0] 78);have aG:=World.news_of_block (cs:=#[.int .i64 yl,.int .i64 yr,.int .i64 0]) (t:=78) (fr:=(0,0)) (Zrz (((We.setCell ⟨p,0,none⟩ (.int .i64 yl)).setCell ⟨p,1,none⟩ (.int .i64 yr)).setCell ⟨p,2,none⟩ (.int .i64 0)) (.cells #[.int .i64 yl,.int .i64 yr,.int .i64 0] 78))
     try rw[zt]at aG
     obtain⟨_,_,c2,_⟩:=cM.out.cells;rw[hx]at c2;obtain⟨e0,e1,e2⟩:=Za5 jV.out;replace fY:=Zrr fY;replace ng:=Zrr ng;clear dq0
     go_wp2_with (at_builtin;(refine wpList_append_lies _ rfl _ _ 23 rfl (w0.heap.size+4) 78 iv _ 3 24 Tryz.underlying23 dN cP cI dM rfl (by decide) _ bY.length (Zal bY) rfl cU ⟨We.heap.size,0,none⟩ 1 1 [.int .i64 yl,.int .i64 yr,.int .i64 0] rfl rfl aG aH (by omega) (by unfold maxLen;omega) (by omega) (by simp <;> omega) _ rfl ?_;intro g7 gK w7 bh cm bQ _;have hP:=fY.out.push (x:=⟨yl,yr,0⟩) bh cm bQ;have iY:=(cm.block (w0.heap.size+2) (by simp <;> omega) (fun e=>by have:=u6 _ e.symm;omega)).trans fY.out.bo;rw[hx]at iY;have c7:w7.cell? ⟨x0+2,0,none⟩=some v6:=(by simp[World.cell?,iY]);have f7:w7.frozen? ⟨x0+2,0,none⟩=false:=(by simp[World.frozen?,iY]);replace hP:=Zrr hP;replace iY:=Zrr iY))
     go_ret;refine⟨.slice (some ⟨g7,0,none⟩) (bY.length+1) gK,?_,?_,?_⟩
     ·have:bY.length=out.length+(l.node r).size - 1:=by rw[am.out];simp only[ZrB,L.Tr.post_len,L.Tr.size];omega
      rw[this];rfl
     ·have:=hP.out.1
      rw[hx]at this
      have e:out++(l.node r).post out.length=bY++[⟨yl,yr,0⟩]:=by
       rw[am.out,bF.out,jT.out];simp[L.Tr.post]
      rw[e];exact this
     ·have:=ng.out.trans hP.out.2
      rw[hx]at this;exact this
end Go.Proofs.YtemnmcfmabamcaaGreatDoor
end
