import Derived.Test.YtmnjakejhbpkoaaGreatDoorVEv5
set_option linter.unusedSimpArgs false
set_option linter.unusedVariables false
set_option maxRecDepth 100000
set_option maxHeartbeats 4000000
section
namespace Go.Proofs.YtmnjakejhbpkoaaGreatDoor
open Go Go.RowKit Go.Shelf
def ZmK (s:Zak)(v:Int):Zak:=ofS (Zc8 s++[v])
theorem ZmL(s:Zak)(v:Int)(h:1≤v∧v≤128):ZmK s v=ZaA s v:=by
 refine L.set_ext fun i hi=>?_
 rw[←L.hasS_bit _ _ hi,←L.hasS_bit _ _ hi,Bool.eq_iff_iff];unfold ZmK;rw[L.hasS_ofS,L.hasS_with,Bool.or_eq_true,List.mem_append,L.listV_mem,List.mem_singleton];simp only[Zpx,ZpA]
 constructor
 ·rintro⟨_,h1|h1⟩
  ·exact .inl h1
  ·exact .inr ⟨⟨h1.symm,by omega⟩,by omega⟩
 ·rintro(h1|h1)
  ·exact⟨L.hasS_range h1,.inl h1⟩
  ·exact⟨by omega,.inr h1.1.1.symm⟩
theorem Zic(s:Zak)(v:Int)(w:World):Calls Tryz.prog 160 #[ZaT s,.int .i64 v] w fun e w'=>e= .returned (ZaT (ZmK s v))∧Below w.heap.size w w':=by
 obtain⟨i0,cX,bB,ak,bE⟩:=info_parts ZcS;have hq:=fun w=>Ze8 s w
 have aL:=ZfI s 128;have gz:(Zc8 s).length≤128:=aL;unfold ZmK;unfold ZaT at hq ⊢;have aS:=(Zpr w.heap.size w).alloc (ZpD _) (.cells #[.int .u64 (lo s),.int .u64 (hi s)] 41);have cM:(w.alloc (.cells #[.int .u64 (lo s),.int .u64 (hi s)] 41)).heap.size=w.heap.size+1:=by simp
 go_enter Tryz.func160,Tryz.ntmps160
 go_wp2_with fail;generalize w.alloc (.cells #[.int .u64 (lo s),.int .u64 (hi s)] 41)=w1 at *;have aK:=Zpm w1 (.cells #[.int .u64 0,.int .u64 0] 41);have aP:=aS.alloc aS.size (.cells #[.int .u64 0,.int .u64 0] 41);have bT:(w1.alloc (.cells #[.int .u64 0,.int .u64 0] 41)).heap.size=w1.heap.size+1:=by simp
 generalize w1.alloc (.cells #[.int .u64 0,.int .u64 0] 41)=w2 at *;replace cM:=Zpe cM;replace bT:=Zpe bT;refine(hq w2).mono ?_;rintro e w3 ⟨vl,rfl,cZ,aa⟩;have jz:=aP.trans (aa.mono aP.size);have dw:=(aa.block w1.heap.size (by have:=bT.out;omega)).trans aK;have eD:=aa.size;clear hq aK aS aP
 go_wp2_with (at_builtin;refine wpList_append_own _ rfl _ _ 45 rfl w2.heap.size 3 i0 (.int .i64 0) 1 8 Tryz.underlying45 cX bB ak bE rfl (by decide) _ _ _ rfl (cZ.alloc _) ⟨w3.heap.size,0,none⟩ 1 1 [.int .i64 v] rfl rfl (ZaP _ _ _ _ rfl) (by simp[Value.oneCell']) (by unfold maxLen;omega) (by omega) (by simp;omega) ?_;intro v4 w4 cB ez _)
 have oC:=Below.grown (Below.alloc jz jz.size (.cells #[.int .i64 v] 3)) ez (by simp;have:=jz.size;omega) (fun k e=>Zpp (by have:=cM.out;have:=bT.out;omega) (Zbc cZ e));have yP:w4.heap[w1.heap.size]? =_:=(ez.block _ (by have:=bT.out;simp;omega) (fun e=>by have:=Zbc cZ e.symm;have:=bT.out;omega)).trans ((Below.heap_alloc _ _ _ (by have:=bT.out;omega)).trans dw);have sR:(Zc8 s++[v]).length=(Zc8 s).length+1:=by simp
 have cq:SlI w4 v4 (Zc8 s++[v]):=Za4 (base:=w2.heap.size) (ZaW cB (by simp) (by simp[ZeJ]));have pH:=Ze9 (Zc8 s++[v]) _ w4 cq (by rw[sR];omega);unfold ZaT at pH;clear cq cB ez dw jz cZ;refine pH.mono ?_;rintro e w5 ⟨rfl,aj⟩;have gO:=oC.trans (aj.mono oC.size);have eN:=(aj.block w1.heap.size ((Zpi yP).1)).trans yP;generalize hR:ofS (Zc8 s++[v])=R at *;have lZ:Below w.heap.size w ((w5.setCell ⟨w1.heap.size,0,none⟩ (.int .u64 (lo R))).setCell ⟨w1.heap.size,1,none⟩ (.int .u64 (hi R))):=(gO.setCell (by show _≤w1.heap.size;have:=cM.out;omega) _).setCell (by show _≤w1.heap.size;have:=cM.out;omega) _;obtain⟨z0,z1⟩:=Zae eN;have y0:w5.frozen? ⟨w1.heap.size,0,none⟩=false:=by simp[World.frozen?,eN]
 have y1:w5.frozen? ⟨w1.heap.size,1,none⟩=false:=by simp[World.frozen?,eN]
 have r0:((w5.setCell ⟨w1.heap.size,0,none⟩ (.int .u64 (lo R))).setCell ⟨w1.heap.size,1,none⟩ (.int .u64 (hi R))).cell? ⟨w1.heap.size,0,none⟩=some (.int .u64 (lo R)):=by
  rw[World.cell?,Zav eN];rfl
 have r1:((w5.setCell ⟨w1.heap.size,0,none⟩ (.int .u64 (lo R))).setCell ⟨w1.heap.size,1,none⟩ (.int .u64 (hi R))).cell? ⟨w1.heap.size,1,none⟩=some (.int .u64 (hi R)):=by
  rw[World.cell?,Zav eN];rfl
 clear eN pH yP;rw[cM.out]at z0 z1 y0 y1 r0 r1 lZ;generalize aV:lo R=x0 at *;generalize aC:hi R=x1 at *;go_wp2_with fail;exact bodyPost_ret (v:=.agg #[.int .u64 x0,.int .u64 x1]) (by simp[results,Tryz.results160,go_sem,r0,r1]) rfl ⟨by rw[hR,aV,aC],lZ⟩
theorem Zan.put{w:World}{b:Nat}{t:TypeId}{n:Nat}{f:Nat→Bool}(h:Zan w b t n f)(i:Nat)(v:Bool):Zan (w.setCell ⟨b,i,none⟩ (.bool v)) b t n (fun j=>if j=i then v else f j):=by
 obtain⟨c,h1,h2,h3⟩:=h;refine⟨_,Zag h1 i _,by simpa using h2,fun j hj=>?_⟩;rw[Array.getElem?_setIfInBounds]
 by_cases e:i=j
 ·subst e
  rw[if_pos rfl,if_pos (by omega)];simp
 ·rw[if_neg e,h3 j hj]
  simp[Ne.symm e]
theorem Zan.congr{w:World}{b:Nat}{t:TypeId}{n:Nat}{f g:Nat→Bool}(h:Zan w b t n f)(e:∀j,j<n→f j=g j):Zan w b t n g:=by
 obtain⟨c,h1,h2,h3⟩:=h;exact⟨c,h1,h2,fun j hj=>by rw[←e j hj];exact h3 j hj⟩
def Zcw (f:Nat→Bool)(w:World)(g k:Nat)(wr:World):Prop :=
 Below w.heap.size w wr∧w.heap.size≤g∧Zan wr g 4 129 (fun v=>decide (1≤v) && decide (v≤k) && f v)
theorem Zcw.next{f:Nat→Bool}{w:World}{g k:Nat}{wr w':World}(h:Zcw f w g k wr)(hb:Below wr.heap.size wr w'):Zcw f w g k w' :=
 ⟨h.1.trans (hb.mono h.1.size),h.2.1,h.2.2.same (hb.block _ h.2.2.lt)⟩
theorem Zcw.put{f:Nat→Bool}{w:World}{g k:Nat}{wr:World}(h:Zcw f w g k wr){b:Bool}(hb:b=f (k+1)):Zcw f w g (k+1) (wr.setCell ⟨g,k+1,none⟩ (.bool b)):=by
 refine⟨h.1.setCell h.2.1 _,h.2.1,(h.2.2.put (k+1) b).congr fun j hj=>?_⟩
 by_cases e:j=k+1
 ·subst e
  rw[if_pos rfl,hb];simp
 ·rw[if_neg e]
  have:decide (j≤k)=decide (j≤k+1):=decide_eq_decide.2 (by omega);rw[this]
theorem Zog(f:Nat→Bool)(s:Zak)(h:∀i,i<128→s.getLsbD i=f (i+1)):Za9 (fun v=>decide (1≤v) && decide (v≤128) && f v) 129=s:=by
 refine L.set_ext fun i hi=>?_
 rw[Zf2 _ _ _ hi,h i hi];have h1:i+1<129:=by omega
 have h2:i+1≤128:=by omega
 simp[h1,h2]
theorem ZjP(a b:Zak)(w:World):Calls Tryz.prog 91 #[.agg #[.int .u64 (lo a),.int .u64 (hi a)],.agg #[.int .u64 (lo b),.int .u64 (hi b)]] w fun e w'=>e= .returned (.agg #[.int .u64 (lo (a &&& b)),.int .u64 (hi (a &&& b))])∧Below w.heap.size w w':=by
 have qa:=fun v W=>ZbH a v W
 have qb:=fun v W=>ZbH b v W
 unfold ZaT at qa qb;obtain⟨e0,e1,e2⟩:=Zcz w (.cells #[.int .u64 (lo a),.int .u64 (hi a)] 41) (.cells #[.int .u64 (lo b),.int .u64 (hi b)] 41) (.cells #[.int .u64 0,.int .u64 0] 41);have aS:Below w.heap.size w (((w.alloc (.cells #[.int .u64 (lo a),.int .u64 (hi a)] 41)).alloc (.cells #[.int .u64 (lo b),.int .u64 (hi b)] 41)).alloc (.cells #[.int .u64 0,.int .u64 0] 41)):=((((Ext.refl w).alloc _).alloc _).alloc _).below;have cM:(((w.alloc (.cells #[.int .u64 (lo a),.int .u64 (hi a)] 41)).alloc (.cells #[.int .u64 (lo b),.int .u64 (hi b)] 41)).alloc (.cells #[.int .u64 0,.int .u64 0] 41)).heap.size=w.heap.size+3:=by simp
 obtain⟨w1,aD⟩:∃w1,w1=((w.alloc (.cells #[.int .u64 (lo a),.int .u64 (hi a)] 41)).alloc (.cells #[.int .u64 (lo b),.int .u64 (hi b)] 41)).alloc (.cells #[.int .u64 0,.int .u64 0] 41):=⟨_,rfl⟩;rw[←aD]at e0 e1 e2 aS cM
 have fE:=Zog (fun v=>Zau a v && Zau b v) (a &&& b) (fun i hi=>by
  rw[BitVec.getLsbD_and,←L.hasS_bit a i hi,←L.hasS_bit b i hi];simp)
 have th:Zcw (fun v=>Zau a v && Zau b v) w1 w1.heap.size 0 (w1.alloc (.cells (madeCells #[.bool false] 129) 4)):=⟨(Zpr _ _).alloc (ZpD _) _,ZpD _,(Zcb w1 _ _ 129 (Ze0 129) _ rfl).congr fun j _=>by
  rw[Bool.eq_iff_iff];simp;omega⟩
 replace qa:=Zpe qa;replace qb:=Zpe qb;replace e0:=Zpe e0;replace e1:=Zpe e1;replace e2:=Zpe e2;replace cM:=Zpe cM;replace fE:=Zpe fE;replace th:=Zpe th
 go_enter Tryz.func91,Tryz.ntmps91
 go_wp2_with fail;rw[←aD];replace aD:=Zpe aD;refine(Zdb w1).mono ?_;rintro e w2 ⟨rfl,rfl⟩;go_wp2_with fail
 go_loopw [6] (fun i wr=>∃k:Nat,k≤128∧i= .int .i64 ((k:Int)+1)∧Hid (Zcw (fun v=>Zau a v && Zau b v) w1 w1.heap.size k wr)) (fun i _=>129 - (intOf i).toNat)
 case atStart=>exact⟨0,by omega,rfl,th⟩
 case round =>
  clear th;obtain⟨k,hk,rfl,hI⟩:=hrel;have eF:=hI.out.1;have f0:=(eF.block _ (Zpi e0.out).1).trans e0.out;have f1:=(eF.block _ (Zpi e1.out).1).trans e1.out;have f2:=(eF.block _ (Zpi e2.out).1).trans e2.out;obtain⟨c0,c1⟩:=Zae f0;obtain⟨c2,c3⟩:=Zae f1
  by_cases aE:k<128
  ·have d0:decide ((k:Int)+1≤128)=true:=Zpv (by omega)
   have q1:=qa.out ((k:Int)+1) wr;have ak:Hid (Zau a ((k:Int)+1)=Zau a ((k+1:Nat):Int)):=Zpe rfl;have bE:Hid (Zau b ((k:Int)+1)=Zau b ((k+1:Nat):Int)):=Zpe rfl;have g0:(0:Int)≤(k:Int)+1:=by omega
   have g1:(k:Int)+1<129:=by omega
   have dY:Hid (∀W (c:Bool),Below wr.heap.size wr W→c=(Zau a ((k:Int)+1) && Zau b ((k:Int)+1))→Zcw (fun v=>Zau a v && Zau b v) w1 w1.heap.size (k+1) (W.setCell ⟨w1.heap.size,k+1,none⟩ (.bool c))):=Zpe fun W c hW hc=>(hI.out.next hW).put hc
   have lj:Hid (∀W,Below wr.heap.size wr W→∃v,W.cell? ⟨w1.heap.size,k+1,none⟩=some (.bool v)∧W.frozen? ⟨w1.heap.size,k+1,none⟩=false):=Zpe fun W hW=>⟨_,(hI.out.next hW).2.2.cell (by omega)⟩
   generalize pj:Zau a ((k:Int)+1)=za at *;have q2:=qb.out ((k:Int)+1);generalize hzb:Zau b ((k:Int)+1)=zb at *;replace q2:=Zpe q2;replace f0:=Zpe f0;replace f1:=Zpe f1;replace f2:=Zpe f2;replace pj:=Zpe pj;replace hzb:=Zpe hzb
   cases za
   ·obtain⟨_,s1,s2⟩:=lj.out wr (Zpr _ _)
    go_wp2_with fail;refine q1.mono ?_;rintro e w3 ⟨rfl,aR⟩;obtain⟨_,s3,s4⟩:=lj.out w3 aR.below;have ac:=Zpe (dY.out w3 false aR.below rfl);go_wp2_with fail;go_roundw
    case rel=>exact⟨k+1,by omega,by go_num,ac⟩
    case measure=>simp[intOf];omega
   ·go_wp2_with fail
    refine q1.mono ?_;rintro e w3 ⟨rfl,aR⟩;have q3:=q2.out w3;have d2:=aR.cell c2;have d3:=aR.cell c3;clear q1;go_wp2_with fail;refine q3.mono ?_;rintro e w4 ⟨rfl,ah⟩;obtain⟨_,s3,s4⟩:=lj.out w4 (aR.trans ah).below;have ac:=Zpe (dY.out w4 zb (aR.trans ah).below (by simp));go_wp2_with fail;go_roundw
    case rel=>exact⟨k+1,by omega,by go_num,ac⟩
    case measure=>simp[intOf];omega
  ·obtain rfl:k=128:=by omega
   have d0:decide (((128:Nat):Int)+1≤128)=false:=by decide
   have q:=ZdU _ wr w1.heap.size 129 hI.out.2.2;rw[fE.out]at q;unfold ZaT at q;replace f0:=Zpe f0;replace f1:=Zpe f1;replace f2:=Zpe f2;go_wp2_with fail;refine q.mono ?_;rintro e w3 ⟨rfl,aa⟩;generalize hR:a &&& b=R at *;replace hR:=Zpe hR;have eN:=(aa.block _ (Zpi f2.out).1).trans f2.out;obtain⟨z0,z1⟩:=Zae eN;have y0:w3.frozen? ⟨w.heap.size+1+1,0,none⟩=false:=by simp[World.frozen?,eN]
   have y1:w3.frozen? ⟨w.heap.size+1+1,1,none⟩=false:=by simp[World.frozen?,eN]
   have nI:=aS.trans ((eF.trans (aa.mono eF.size)).mono aS.size);have am:=(nI.setCell (p:=⟨w.heap.size+1+1,0,none⟩) (by simp;omega) (.int .u64 (lo R))).setCell (p:=⟨w.heap.size+1+1,1,none⟩) (by simp;omega) (.int .u64 (hi R));obtain⟨r0,r1⟩:=Zae (Zav eN (.int .u64 (lo R)) (.int .u64 (hi R)));replace eN:=Zpe eN;replace am:=Zpe am;clear q aa nI eF;go_wp2_with fail;exact bodyPost_ret (v:=.agg #[.int .u64 (lo R),.int .u64 (hi R)]) (by simp[results,Tryz.results91,go_sem,r0,r1]) rfl ⟨by rw[hR.out],am.out⟩
theorem ZfO(n:Nat)(hn:n≤128)(w:World):Calls Tryz.prog 93 #[.int .i64 (n:Nat)] w fun e w'=>e= .returned (.agg #[.int .u64 (lo (ZhA n)),.int .u64 (hi (ZhA n))])∧Below w.heap.size w w':=by
 have e2:=Zpm w (.cells #[.int .u64 0,.int .u64 0] 41);have aS:Below w.heap.size w (w.alloc (.cells #[.int .u64 0,.int .u64 0] 41)):=((Ext.refl w).alloc _).below;have cM:(w.alloc (.cells #[.int .u64 0,.int .u64 0] 41)).heap.size=w.heap.size+1:=by simp
 obtain⟨w1,aD⟩:∃w1,w1=w.alloc (.cells #[.int .u64 0,.int .u64 0] 41):=⟨_,rfl⟩;rw[←aD]at e2 aS cM
 have kJ:Zcw (fun v=>decide (v≤n)) w1 w1.heap.size 0 (w1.alloc (.cells (madeCells #[.bool false] 129) 4)):=⟨(Zpr _ _).alloc (ZpD _) _,ZpD _,(Zcb w1 _ _ 129 (Ze0 129) _ rfl).congr fun j _=>by
  rw[Bool.eq_iff_iff];simp;omega⟩
 have pO:∀g W,Zan W g 4 129 (fun v=>decide (1≤v) && decide (v≤n) && decide (v≤n))→Calls Tryz.prog 157 #[.slice (some ⟨g,0,none⟩) 129 129] W fun e w'=>e= .returned (ZaT (ZhA n))∧Below W.heap.size W w':=fun g W h=>by
  have e:Za9 (fun v=>decide (1≤v) && decide (v≤n) && decide (v≤n)) 129=ZhA n:=by
   refine L.set_ext fun i hi=>?_
   rw[Zf2 _ _ _ hi,←L.hasS_bit _ _ hi,Bool.eq_iff_iff,ZcE _ n hn];simp only[Zpx,ZpA];omega
  have q:=ZdU _ W g 129 h;rw[e]at q;exact q
 replace e2:=Zpe e2;replace cM:=Zpe cM;replace kJ:=Zpe kJ;replace pO:=Zpe pO
 go_enter Tryz.func93,Tryz.ntmps93
 go_wp2_with fail;rw[←aD];replace aD:=Zpe aD;refine(Zdb w1).mono ?_;rintro e w2 ⟨rfl,rfl⟩;go_wp2_with fail
 go_loopw [4] (fun i wr=>∃k:Nat,k≤n∧i= .int .i64 ((k:Int)+1)∧Hid (Zcw (fun v=>decide (v≤n)) w1 w1.heap.size k wr)) (fun i _=>n+1 - (intOf i).toNat)
 case atStart=>exact⟨0,by omega,rfl,kJ⟩
 case round =>
  clear kJ;obtain⟨k,hk,rfl,hI⟩:=hrel;have eF:=hI.out.1;have f2:=(eF.block _ (Zpi e2.out).1).trans e2.out
  by_cases aE:k<n
  ·have d0:decide ((k:Int)+1≤128)=true:=Zpv (by omega)
   have d1:decide ((k:Int)+1≤n)=true:=Zpv (by omega);have g0:(0:Int)≤(k:Int)+1:=by omega
   have g1:(k:Int)+1<129:=by omega
   obtain⟨s1,s2⟩:=hI.out.2.2.cell (j:=k+1) (by omega);have ac:=Zpe (hI.out.put (b:=true) (by simp;omega));replace f2:=Zpe f2;replace eF:=Zpe eF;go_wp2_with fail;go_roundw
   case rel=>exact⟨k+1,by omega,by go_num,ac⟩
   case measure=>simp[intOf];omega
  ·obtain rfl:k=n:=by omega
   have q:=pO.out _ wr hI.out.2.2;unfold ZaT at q;have d1:decide ((k:Int)+1≤k)=false:=Zpu (by omega);replace f2:=Zpe f2;generalize hR:ZhA k=R at *;replace hR:=Zpe hR
   by_cases h128:(k:Int)+1≤128
   ·have d0:decide ((k:Int)+1≤128)=true:=Zpv h128
    go_wp2_with fail;refine q.mono ?_;rintro e w3 ⟨rfl,aa⟩;have eN:=(aa.block _ (Zpi f2.out).1).trans f2.out;obtain⟨z0,z1⟩:=Zae eN;have y0:w3.frozen? ⟨w.heap.size,0,none⟩=false:=by simp[World.frozen?,eN]
    have y1:w3.frozen? ⟨w.heap.size,1,none⟩=false:=by simp[World.frozen?,eN]
    have nI:=aS.trans ((eF.trans (aa.mono eF.size)).mono aS.size);have am:=(nI.setCell (p:=⟨w.heap.size,0,none⟩) (by simp) (.int .u64 (lo R))).setCell (p:=⟨w.heap.size,1,none⟩) (by simp) (.int .u64 (hi R));obtain⟨r0,r1⟩:=Zae (Zav eN (.int .u64 (lo R)) (.int .u64 (hi R)));replace eN:=Zpe eN;replace am:=Zpe am;clear q aa nI eF;go_wp2_with fail;exact bodyPost_ret (v:=.agg #[.int .u64 (lo R),.int .u64 (hi R)]) (by simp[results,Tryz.results93,go_sem,r0,r1]) rfl ⟨by rw[hR.out],am.out⟩
   ·have d0:decide ((k:Int)+1≤128)=false:=Zpu h128
    go_wp2_with fail;refine q.mono ?_;rintro e w3 ⟨rfl,aa⟩;have eN:=(aa.block _ (Zpi f2.out).1).trans f2.out;obtain⟨z0,z1⟩:=Zae eN;have y0:w3.frozen? ⟨w.heap.size,0,none⟩=false:=by simp[World.frozen?,eN]
    have y1:w3.frozen? ⟨w.heap.size,1,none⟩=false:=by simp[World.frozen?,eN]
    have nI:=aS.trans ((eF.trans (aa.mono eF.size)).mono aS.size);have am:=(nI.setCell (p:=⟨w.heap.size,0,none⟩) (by simp) (.int .u64 (lo R))).setCell (p:=⟨w.heap.size,1,none⟩) (by simp) (.int .u64 (hi R));obtain⟨r0,r1⟩:=Zae (Zav eN (.int .u64 (lo R)) (.int .u64 (hi R)));replace eN:=Zpe eN;replace am:=Zpe am;clear q aa nI eF;go_wp2_with fail;exact bodyPost_ret (v:=.agg #[.int .u64 (lo R),.int .u64 (hi R)]) (by simp[results,Tryz.results93,go_sem,r0,r1]) rfl ⟨by rw[hR.out],am.out⟩
theorem Rep.grownT{B:Zas}{s:St}{w w':World}{blk:Nat}{c0:Array Value}{t:TypeId}{f0:Nat × Nat}(h:Rep B s w)(hk:w.heap[blk]? =some (.cells c0 t f0))(h1:t≠ZaO)(h2:t≠Za6)(h3:t≠ZaU)(h4:t≠106)(hg:blk≠ZcR∧blk≠gTz)
  (hs:∀(k:Nat) (o:Obj),k≠blk→w.heap[k]? =some o→w'.heap[k]? =some o):Rep B s w':=by
 obtain⟨nv,vs,aW,hn,he⟩:=h.store;obtain⟨c',hc⟩:=hn.nbk;have n1:B.sb≠blk:=fun e=>by rw[e,hk]at aW;simp at aW;exact h3 aW.2.1
 have n2:B.nb≠blk:=fun e=>by rw[e,hk]at hc;simp at hc;exact h2 hc.2.1
 have nm:∀ {α β:Type} [DecidableEq α] {enc:α→Value}{encV:β→Value}{b:Nat}{m:α→Option β},ZaG enc encV w b m→ZaG enc encV w' b m:=fun {α β _ enc encV b m} hm=>by
  obtain⟨L,cl,hb,ec⟩:=hm;refine⟨L,cl,hs b _ (fun e=>?_) hb,ec⟩;rw[e,hk]at hb;simp at hb
 have same:∀k,k≠blk→k<w.heap.size→w'.heap[k]? =w.heap[k]?:=fun k h1 h2=>by
  rw[Array.getElem?_eq_getElem h2];exact hs k _ h1 (Array.getElem?_eq_getElem h2)
 exact {
  tz:=h.tz.same (same _ (Ne.symm hg.2) h.tz.lt')
  pow:=h.pow.same (same _ (Ne.symm hg.1) h.pow.lt)
  glob:=h.glob
  store:=by
   refine⟨nv,vs,hs _ _ n1 aW,⟨hn.len,Zao hn.own ?_,hn.blk,fun i hi hv=>?_⟩,he⟩
   ·intro k bX
    rw[hn.blk]at bX
    cases bX
    rw[hs _ _ n2 hc,hc]
   ·obtain⟨ba,c,iI,aJ⟩:=hn.els i hi hv
    refine⟨ba,c,iI,aJ.imp id ?_⟩;rintro⟨b,o,rfl,cs,fz,hb,aO⟩;exact⟨b,o,rfl,cs,fz,hs b _ (fun e=>by rw[e,hk]at hb;simp at hb;exact h1 hb.2.1) hb,aO⟩
  tree:=by
   obtain⟨c,fz,hb,aO⟩:=h.tree;refine⟨c,fz,hs _ _ (fun e=>?_) hb,aO⟩;rw[e,hk]at hb;simp at hb;exact h4 hb.2.1
  leaf:=nm h.leaf
  uniq:=nm h.uniq
  ands:=nm h.ands
  nots:=nm h.nots
  apart:=h.apart
  small:=h.small }
theorem FrV.trans{M:List Nat}{a b c:World}(h:Fr M a b)(k:Fr M b c):Fr M a c :=
 ⟨k.os.trans h.os,k.tape.trans h.tape,k.output.trans h.output,Zpp h.size k.size,fun j hj hM=>(k.block j (Zpq hj h.size) hM).trans (h.block j hj hM)⟩
theorem SL.fr{t:List VN}{sb k:Nat}{X:List Nat}{s:St}{w0 w w':World}(h:SL t sb k X s w0 w){p:Nat}{es:Array MapEntry}{cl:Nat}(hp:p∈X)(h0:w0.heap.size≤p)(hm:w.heap[p]? =some (.map es cl))(hg:p≠ZcR∧p≠gTz)(hF:Fr [p] w w'):SL t sb k X s w0 w':=by
 obtain⟨B,h1,hR,h2,h3⟩:=h.on;have bv:=(Zpi hm).1;have mf:p<w'.heap.size:=Zpq bv hF.size;obtain⟨w2,cA⟩:∃w2:World,w2= { w' with heap:=w'.heap.setIfInBounds p (.map es cl) }:=⟨_,rfl⟩;have e1:w2.heap[p]? =some (.map es cl):=by rw[cA];simp[mf]
 have e2:∀j,j≠p→w'.heap[j]? =w2.heap[j]?:=fun j hj=>by rw[cA];simp[Array.getElem?_setIfInBounds,Ne.symm hj]
 have aU:Rep B s w2:=hR.same fun j o hj=>by
  by_cases e:j=p
  ·subst e;rw[e1,hm]
  ·rw[←e2 j e]
   exact hF.block j (Zpi hj).1 (by simpa using e)
 have bM:Rep B s w':=aU.offMap e1 (h3 p hp).1 hg e2;refine⟨⟨B,h1,bM,h2,fun x hx=>⟨(h3 x hx).1,Zpq (h3 x hx).2 hF.size⟩⟩,h.room,h.tree,?_⟩;exact⟨hF.os.trans h.bel.os,hF.tape.trans h.bel.tape,hF.output.trans h.bel.output,Zpp h.bel.size hF.size,fun j hj=>(hF.block j (Zpq hj h.bel.size) (by simp;omega)).trans (h.bel.block j hj)⟩
theorem ZkE(w:World)(K:TypeId)(p:Nat)(k v:Value):Fr [p] w (Zap K Tryz.prog w p k v):=by
 obtain⟨p1,p2,p3,_⟩:=ZbQ (P:=Tryz.prog) K w p k v;exact⟨p1,p2,p3,by rw[Za1];exact ZpD _,fun j _ hj=>Zai _ _ _ _ _ j (by simpa using hj)⟩
theorem ZaD{w w':World}(p:Nat)(hb:Below w.heap.size w w'):Fr [p] w w':=Fr.of_below hb
theorem ZbR{t:List VN}{sb xv gt ct gb pc pn:Nat}{f:Nat→Zak}{w:World}(h:ZmT t sb xv gt ct gb pc pn f w)(hc:Zad t=0){j:Nat}(hj:j<t.length) :
  Calls Tryz.prog 161 #[.pointer (some ⟨xv,0,none⟩),.int .i64 (j:Nat)] w fun e w'=>e= .returned (.int .i64 (L.nv t j:Nat))∧Ext w w':=by
 have q:=ZnC (f j) w;rw[ZkS hc hj (h.bel j hj)]at q;generalize L.nv t j=N at *;obtain⟨⟨s1,s2⟩,_⟩:=h.sets.cell hj;have c2:w.cell? ⟨xv,2,none⟩=some (.slice (some ⟨gb,0,none⟩) t.length t.length):=by simp[World.cell?,h.box]
 have g0:(0:Int)≤j:=by omega
 have g1:(j:Int)<t.length:=by omega
 clear h
 go_enter Tryz.func161,Tryz.ntmps161
 go_wp2_with fail;refine q.mono ?_;rintro e w1 ⟨rfl,aC⟩;clear q;go_wp2_with fail;go_ret;exact⟨rfl,aC⟩
def CtM (t:List VN)(s:St)(m:List (Nat × Nat)):Prop:=∀i c,asc m i=some c→∃(nd:Zaf) (P:Nat),s.nodes[i]? =some nd∧nd.pl=(P:Nat)∧P<t.length∧c=L.cnt (L.vl t P) (L.sem s.nodes i)
structure MI0 (t:List VN) (sb k:Nat) (X:List Nat) (s:St) (w0:World) (xv gt ct gb pc pn:Nat) (f:Nat→Zak) (wb:World):Prop where
 sl:SL t sb k X s w0 wb
 vw:ZmT t sb xv gt ct gb pc pn f wb
 px:pc∈X∧w0.heap.size≤pc∧pc≠ZcR∧pc≠gTz
 ne:xv≠pc∧gt≠pc∧gb≠pc
 mb:∃es cl,wb.heap[pc]? =some (.map es cl)
structure FI (t:List VN) (s:St) (pc:Nat) (wb:World) (m:List (Nat × Nat)) (W:World):Prop where
 fr:Fr [pc] wb W
 mp:ZaG Zab Zhu W pc (asc m)
 ct:CtM t s m
section
variable {t:List VN}{sb k:Nat}{X:List Nat}{s:St}{w0:World}{xv gt ct gb pc pn:Nat}{f:Nat→Zak}{wb W W':World}{m:List (Nat × Nat)}
theorem MI0.slAt(h:MI0 t sb k X s w0 xv gt ct gb pc pn f wb)(hF:Fr [pc] wb W):SL t sb k X s w0 W:=by
 obtain⟨es,cl,hm⟩:=h.mb;exact h.sl.fr h.px.1 h.px.2.1 hm h.px.2.2 hF
theorem MI0.vwAt(h:MI0 t sb k X s w0 xv gt ct gb pc pn f wb)(hF:Fr [pc] wb W):ZmT t sb xv gt ct gb pc pn f W:=by
 refine h.vw.same (hF.block _ (Zpi h.vw.box).1 (by simpa using h.ne.1)) (hF.block _ ?_ (by simpa using h.ne.2.1)) (hF.block _ h.vw.sets.lt (by simpa using h.ne.2.2));have h0:=(Zar h.sl.chk).1;exact Zpk _ _ ((h.vw.tree.node (k:=0) h0).1)
theorem FI.below(h:FI t s pc wb m W)(hb:Below W.heap.size W W'):FI t s pc wb m W' :=
 ⟨FrV.trans h.fr (ZaD pc hb),h.mp.same (hb.block _ h.mp.lt),h.ct⟩
theorem FI.fresh(h:FI t s pc wb m W){r o:Nat}{v:Value}(hr:wb.heap.size≤r)(aH:r≠pc):FI t s pc wb m (W.setCell ⟨r,o,none⟩ v) :=
 ⟨⟨h.fr.os,h.fr.tape,h.fr.output,by have:=h.fr.size;simpa using this,fun j hj hM=>(Zax o v (by omega)).trans (h.fr.block j hj hM)⟩,h.mp.same (Zax o v (Ne.symm aH)),h.ct⟩
theorem ZnT:∀w,(zeroValue 52).run Tryz.prog w= .ok (Zbx 0) w:=fun w=>by kernel_rfl
theorem FI.look(h:FI t s pc wb m W)(a:Nat):(Instr.lookup 141 (.map (some pc)) (.int .i64 a) true).run Tryz.prog W= .ok (.tuple #[((asc m a).map Zhu).getD (Zbx 0),.bool (asc m a).isSome]) W :=
 h.mp.look Zb6 (T:=141) Tryz.underlying141 _ ZnT a
theorem FI.put(h:FI t s pc wb m W)(a c:Nat)(hc:∃(nd:Zaf) (P:Nat),s.nodes[a]? =some nd∧nd.pl=(P:Nat)∧P<t.length∧c=L.cnt (L.vl t P) (L.sem s.nodes a)) :
  (Instr.mapUpdate 141 (.map (some pc)) (.int .i64 a) (Zbx c)).run Tryz.prog W= .ok () (Zap 3 Tryz.prog W pc (Zab a) (Zhu c))∧FI t s pc wb ((a,c) :: m) (Zap 3 Tryz.prog W pc (Zab a) (Zhu c))∧Fr [pc] W (Zap 3 Tryz.prog W pc (Zab a) (Zhu c)):=by
 obtain⟨h1,h2⟩:=h.mp.put Zb6 (T:=141) Tryz.underlying141 a c;refine⟨h1,⟨FrV.trans h.fr (ZkE W _ pc _ _),by rw[ZaS];exact h2,fun i d hd=>?_⟩,ZkE W _ pc _ _⟩;have e9:(if i=a then some c else asc m i)=some d:=hd
 split at e9
 ·rename_i e
  cases e9;subst e;exact hc
 ·exact h.ct i d e9
end
theorem ZnV.cells{n:Nat}{w:World}{ba:Option Addr}{l:List (Nat × Nat)}(h:ZnV n w ba l)(hl:l≠[]):∃g cs,ba=some ⟨g,0,none⟩∧n≤g∧w.heap[g]? =some (.cells cs ZaO (0,0))∧∀j (hj:j<l.length),cs[j*2]? =some (.int .i64 (l[j].1:Nat))∧cs[j*2+1]? =some (.int .i64 (l[j].2:Nat)):=by
 obtain h|⟨g,cs,h1,h2,h3,h4⟩:=h
 ·exact absurd h hl
 ·refine⟨g,cs,h1,h2,h3,fun j hj=>?_⟩
  have hR:Zca w g 0 ZaO (ZaL l):=⟨cs,(0,0),h3,h4⟩;have:=hR.off0 j hj;simpa [World.cell?,h3] using this
def ZmR (t:List VN)(s:St)(pc:Nat)(wb W:World)(n:Nat)(e:Ending)(W':World):Prop:=∃m',e= .returned (Zbx n)∧FI t s pc wb m' W'∧Fr [pc] W W'
section
variable {t:List VN}{sb k:Nat}{X:List Nat}{s:St}{w0:World}{xv gt ct gb pc pn:Nat}{f:Nat→Zak}{wb W:World}{m:List (Nat × Nat)}
theorem Zh4(h0:MI0 t sb k X s w0 xv gt ct gb pc pn f wb)(hF:FI t s pc wb m W)(at_:Nat) :
  Calls Tryz.prog 97 #[.pointer (some ⟨xv,0,none⟩),.int .i64 0,.int .i64 (at_:Nat)] W (ZmR t s pc wb W 0):=by
 have aS:=(Zpr W.heap.size W).alloc (ZpD _) (.cells #[.string ⟨#[]⟩] 52);have aC:=Zpm W (.cells #[.string ⟨#[]⟩] 52);have ft:=hF.below aS
 go_enter Tryz.func97,Tryz.ntmps97
 go_wp2_with fail;have hc:(W.alloc (.cells #[.string ⟨#[]⟩] 52)).cell? ⟨W.heap.size,0,none⟩=some (.string ⟨#[]⟩):=by rw[World.cell?,aC];rfl
 exact bodyPost_ret (v:=.agg #[.string ⟨#[]⟩]) (by simp[results,Tryz.results97,go_sem,hc]) rfl ⟨m,rfl,ft,ZaD pc aS⟩
theorem ZjN(h0:MI0 t sb k X s w0 xv gt ct gb pc pn f wb)(hF:FI t s pc wb m W){at_:Nat}(cF:at_<t.length) :
  Calls Tryz.prog 97 #[.pointer (some ⟨xv,0,none⟩),.int .i64 1,.int .i64 (at_:Nat)] W (ZmR t s pc wb W (2 ^ L.nv t at_)):=by
 have hc:=h0.sl.chk;have sX:L.nv t at_<8:=by have:=L.nv_le hc cF;have:=h0.sl.few;omega
 have aS:=(Zpr W.heap.size W).alloc (ZpD _) (.cells #[.string ⟨#[]⟩] 52);have aC:=Zpm W (.cells #[.string ⟨#[]⟩] 52);have ft:=hF.below aS;have q1:=ZbR (h0.vwAt ft.fr) hc cF;have q2:=fun W=>Zew (w:=W) sX
 generalize L.nv t at_=N at *;replace q2:=Zpe q2
 go_enter Tryz.func97,Tryz.ntmps97
 go_wp2_with fail;generalize W.alloc (.cells #[.string ⟨#[]⟩] 52)=w1 at *;refine q1.mono ?_;rintro e w2 ⟨rfl,aF⟩;have q2':=q2.out w2;clear q1;go_wp2_with fail;refine q2'.mono ?_;rintro e w3 ⟨rfl,aa⟩;have mN:=aF.below.trans (aa.mono aF.size);have dd:=(mN.block _ (Zpi aC).1).trans aC;have j4:=ft.below mN;have bq:Fr [pc] W w3:=ZaD pc (aS.trans (mN.mono aS.size));have fz:w3.frozen? ⟨W.heap.size,0,none⟩=false:=by simp[World.frozen?,dd]
 have bR:w3.cell? ⟨W.heap.size,0,none⟩=some (.string ⟨#[]⟩):=by simp[World.cell?,dd]
 unfold Zbx;generalize hT:(⟨(Zb5 (2 ^ N)).toArray⟩:ByteArray)=T at *;have aG:((w3.setCell ⟨W.heap.size,0,none⟩ (.string T)).cell? ⟨W.heap.size,0,none⟩=some (.string T)):=by simp[World.cell?,Zag dd 0 _]
 replace aG:=Zpe aG;have oI:=Zpe (j4.fresh (r:=W.heap.size) (o:=0) (v:=.string T) hF.fr.size (by have:=hF.mp.lt;omega));have iq:Hid (Fr [pc] W (w3.setCell ⟨W.heap.size,0,none⟩ (.string T))):=Zpe ⟨bq.os,bq.tape,bq.output,by have:=bq.size;simpa using this,fun j hj hM=>(Zax 0 _ (by omega)).trans (bq.block j hj hM)⟩;replace dd:=Zpe dd;clear q2' aa mN aF aC aS j4 bq;go_wp2_with fail;exact bodyPost_ret (v:=.agg #[.string T]) (by simp[results,Tryz.results97,go_sem,aG.out]) rfl ⟨m,by rw[←hT] <;> rfl,oI.out,iq.out⟩
end
end Go.Proofs.YtmnjakejhbpkoaaGreatDoor
end
