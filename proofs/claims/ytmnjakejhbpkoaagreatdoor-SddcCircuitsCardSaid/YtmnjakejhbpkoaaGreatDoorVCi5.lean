import Derived.Test.YtmnjakejhbpkoaaGreatDoorVCj5
set_option linter.unusedSimpArgs false
set_option linter.unusedVariables false
set_option maxRecDepth 100000
set_option maxHeartbeats 8000000
section
namespace Go.Proofs.YtmnjakejhbpkoaaGreatDoor
open Go Go.RowKit Go.Shelf
def ZbM:List L.Gt→List Value→List Value
 | g :: C,u :: us=>.int .i64 g.kind :: .int .i64 g.lit :: u :: ZbM C us
 | _,_=>[]
theorem ZfE:∀ {C:List L.Gt}{us:List Value},us.length=C.length→(ZbM C us).length=3*C.length
 | [],[],_=>rfl
 | g :: C,u :: us,h=>by
   have:=ZfE (C:=C) (us:=us) (by simpa using h);simp only[ZbM,ZpC];omega
 | [],_ :: _,h=>by simp at h
 | _ :: _,[],h=>by simp at h
theorem ZeO:∀ {C:List L.Gt}{us:List Value}(_:us.length=C.length) (g:L.Gt) (u:Value),ZbM (C++[g]) (us++[u])=ZbM C us++[.int .i64 g.kind,.int .i64 g.lit,u]
 | [],[],_,g,u=>rfl
 | a :: C,b :: us,h,g,u=>by
   have:=ZeO (C:=C) (us:=us) (by simpa using h) g u;simp only[List.cons_append,ZbM];rw[this]
 | [],_ :: _,h,_,_=>by simp at h
 | _ :: _,[],h,_,_=>by simp at h
theorem ZfD:∀ {C:List L.Gt}{us:List Value}(_:us.length=C.length) (j:Nat) (hj:j<C.length) (hu:j<us.length),(ZbM C us)[j*3]? =some (.int .i64 C[j].kind)∧(ZbM C us)[j*3+1]? =some (.int .i64 C[j].lit)∧(ZbM C us)[j*3+2]? =some us[j]
 | a :: C,b :: us,_,0,_,_=>⟨rfl,rfl,rfl⟩
 | a :: C,b :: us,h,j+1,hj,hu=>by
   obtain⟨h1,h2,h3⟩:=ZfD (C:=C) (us:=us) (by simpa using h) j (by simpa using hj) (by simpa using hu);rw[show (j+1)*3=j*3+3 by omega,show j*3+3+1=(j*3+1)+3 by omega,show j*3+3+2=(j*3+2)+3 by omega];exact⟨h1,h2,h3⟩
 | [],[],_,_,hj,_=>by simp at hj
 | [],_ :: _,h,_,_,_=>by simp at h
 | _ :: _,[],h,_,_,_=>by simp at h
theorem Znv:(Tryz.prog.info? 166).map (fun i=>(i.zero,i.size,i.bytes))=some (some (.agg #[.int .i64 0,.int .i64 0,.slice none 0 0]),3,40):=by kernel_rfl
theorem ZkI{w:World}{base:Nat}{vL:Value}{us:List Value}{C:List L.Gt}(ho:w.ownsRow base 166 3 vL C.length (ZbM C us))(h:ZbY w base us (C.map (·.inp))):SlC w vL C:=by
 have aL:us.length=C.length:=by have:=h.1;rwa [List.length_map]at this
 obtain⟨_,⟨rfl,e⟩|⟨g,cap,cur,rfl,bk,bV,hn,hm,aO,ht⟩⟩:=ho
 ·have:C=[]:=List.length_eq_zero_iff.1 e
  subst this;exact⟨none,0,rfl,.inl rfl⟩
 ·refine⟨_,cap,rfl,.inr ⟨g,0,rfl,fun j hj=>?_⟩⟩
  obtain⟨h1,h2,h3⟩:=ZfD aL j hj (by omega)
  have om:∀i x,(ZbM C us)[i]? =some x→w.cell? ⟨g,0+i,none⟩=some x:=fun i x hx=>by
   have fl:=(Zpj hx).1;rw[ZfE aL]at fl;rw[←ht,List.getElem?_take_of_lt (by omega)]at hx;rw[World.cell?,bV]
   show cur[0+i]? =some x
   rw[Nat.zero_add,←Array.getElem?_toList];exact hx
  refine⟨om _ _ h1,?_,us[j],?_,Za4 (h.2 j us[j] C[j].inp (Zpl (by omega)) (by rw[List.getElem?_map,Zpl hj];rfl))⟩
  ·have:=om _ _ h2;rwa [←Nat.add_assoc]at this
  ·have:=om _ _ h3;rwa [←Nat.add_assoc]at this
def CpC (n:Int)(w:World)(C:List L.Gt)(k:Nat)(wr:World):Prop :=
 ∃(vL:Value) (us:List Value),wr.heap[w.heap.size+1+1]? =some (.cells #[.int .i64 n,vL] 84 (0,0))∧wr.ownsRow w.heap.size 166 3 vL k (ZbM (C.take k) us)∧ZbY wr w.heap.size us ((C.take k).map (·.inp))∧wr.heap[w.heap.size+1]? =some (.cells #[.int .i64 0,.slice none 0 0] 84 (0,0))∧Below w.heap.size w wr
theorem Zks{n:Int}{C:List L.Gt}{v:Value}{w:World}(hv:SlC w v C)(hl:C.length≤5000)(hr:∀g∈C,g.inp.length≤200) :
  Calls Tryz.prog 51 #[.agg #[.int .i64 n,v]] w fun e w'=>∃vL,e= .returned (.agg #[.int .i64 n,vL])∧SlC w' vL C∧Below w.heap.size w w':=by
 obtain⟨iv,qN,kR,jU,tt⟩:=info_parts Znv;obtain⟨i0,cX,bB,ak,bE⟩:=info_parts ZcS;obtain⟨ba,cp,rfl,aO⟩:=hv.shape;clear hv;obtain⟨e1,e2,e3⟩:=Zcz w (.cells #[.int .i64 n,.slice ba C.length cp] 84) (.cells #[.int .i64 0,.slice none 0 0] 84) (.cells #[.int .i64 n,.slice none 0 0] 84);have aR:Ext w (((w.alloc (.cells #[.int .i64 n,.slice ba C.length cp] 84)).alloc (.cells #[.int .i64 0,.slice none 0 0] 84)).alloc (.cells #[.int .i64 n,.slice none 0 0] 84)):=(((Ext.refl w).alloc _).alloc _).alloc _
 have hC:Hid (CpC n w C 0 (((w.alloc (.cells #[.int .i64 n,.slice ba C.length cp] 84)).alloc (.cells #[.int .i64 0,.slice none 0 0] 84)).alloc (.cells #[.int .i64 n,.slice none 0 0] 84))) :=
  Zpe ⟨.slice none 0 0,[],e3,⟨rfl,.inl ⟨rfl,rfl⟩⟩,ZbY.nil _ _,e2,aR.below⟩
 replace aO:=Zpe aO;replace hr:=Zpe hr;clear e1 e2 e3 aR
 go_enter Tryz.func51,Tryz.ntmps51
 go_wp2_with fail
 go_loopw [12] (fun i wr=>∃k:Nat,k≤C.length∧i= .int .i64 (k:Int)∧Hid (CpC n w C k wr)) (fun i _=>C.length - (intOf i).toNat)
 case atStart=>exact⟨0,by omega,rfl,hC⟩
 case round =>
  clear hC;obtain⟨k,hk,rfl,hI⟩:=hrel;obtain⟨vL,us,hb,ho,hR,hz,hB⟩:=hI.out
  by_cases aE:k<C.length
  ·have d0:decide ((k:Int)<(C.length:Int))=true:=Zpv (by omega)
   have g0:(0:Int)≤(k:Int):=by omega
   have g1:(k:Int)<(C.length:Int):=by omega
   obtain⟨b,o,bb,cc,rfl,f0,f1,f2,fin⟩:=aO.out k aE;have lj:=hr.out _ (Zpz aE);have r0:=(hB.cell (Zpk w _ f0)).trans f0;have r1:=(hB.cell (Zpk w _ f1)).trans f1;have r2:=(hB.cell (Zpk w _ f2)).trans f2;have fH:C.take (k+1)=C.take k++[C[k]]:=List.take_succ_eq_append_getElem aE;have pU:us.length=(C.take k).length:=by have:=hR.1;rwa [List.length_map]at this
   generalize C[k]=g at *;obtain⟨kd,lt,c⟩:=g
   dsimp only at *
   have qu:=fin.ext hB
   have bR:∀j (hj:j<c.length),∃b o,bb=some ⟨b,o,none⟩∧wr.cell? ⟨b,o+j,none⟩=some (.int .i64 c[j]):=fun j hj=>by
    obtain⟨ba,cp,e,h⟩:=qu
    cases e
    rcases h with ⟨_,h,_⟩|⟨b,o,h1,h2⟩
    ·rw[h]at hj;simp at hj
    ·exact⟨b,o,h1,h2 j hj⟩
   clear fin qu f0 f1 f2 aO;have jh:Below wr.heap.size wr (wr.alloc (.cells #[.int .i64 kd,.int .i64 lt,.slice bb c.length cc] 166)):=(Zpr _ wr).alloc (ZpD _) _;have qM:=Zpm wr (.cells #[.int .i64 kd,.int .i64 lt,.slice bb c.length cc] 166);obtain⟨wo,uc⟩:∃W,W=wr.alloc (.cells #[.int .i64 kd,.int .i64 lt,.slice bb c.length cc] 166):=⟨_,rfl⟩;rw[←uc]at jh qM;replace uc:=Zpe uc;obtain⟨gb,bk⟩:∃x,x=wr.heap.size:=⟨_,rfl⟩;rw[←bk]at qM;replace bk:=Zpe bk;have qJ:=(jh.block _ (Zpi hb).1).trans hb;have uj:=(jh.block _ (Zpi hz).1).trans hz;have hoO:=Za0 ho (fun g c h=>jh.block g (Zpi h).1);have hRO:=hR.keep (fun g c h=>jh.block g (Zpi h).1);have te:=hB.trans (jh.mono hB.size)
   have rk:∀j (hj:j<c.length),∃b o,bb=some ⟨b,o,none⟩∧wo.cell? ⟨b,o+j,none⟩=some (.int .i64 c[j]):=fun j hj=>by
    obtain⟨b,o,h1,h2⟩:=bR j hj;exact⟨b,o,h1,(jh.cell (Zpk wr _ h2)).trans h2⟩
   have qH:∀V,Below wo.heap.size wo V→V.cell? ⟨w.heap.size+1+1,1,none⟩=some vL∧(V.cell? ⟨gb,0,none⟩=some (.int .i64 kd)∧V.cell? ⟨gb,1,none⟩=some (.int .i64 lt)∧V.cell? ⟨gb,2,none⟩=some (.slice bb c.length cc)):=fun V h=>by
    have x0:=(h.block _ (Zpi qJ).1).trans qJ;have x1:=(h.block _ (Zpi qM).1).trans qM;exact⟨by rw[World.cell?,x0];rfl,by rw[World.cell?,x1];rfl,by rw[World.cell?,x1];rfl,by rw[World.cell?,x1];rfl⟩
   replace qH:=Zpe qH;replace fH:=Zpe fH;replace pU:=Zpe pU;replace hb:=Zpe hb;replace hz:=Zpe hz;replace ho:=Zpe ho;replace qJ:=Zpe qJ;replace uj:=Zpe uj;clear bR;go_wp2_with fail;rw[←uc.out,←bk.out];clear r0 r1 r2
   try go_wp2_with fail
   (refine ZaQ (S:=(fun V=>V.cell? ⟨w.heap.size+1+1,1,none⟩=some vL∧(V.cell? ⟨gb,0,none⟩=some (.int .i64 kd)∧V.cell? ⟨gb,1,none⟩=some (.int .i64 lt)∧V.cell? ⟨gb,2,none⟩=some (.slice bb c.length cc)))) 14 (by kernel_rfl) ?_ (fun aA=>?_))
   ·exact qH.out _ ((Zpr _ _).drew)
   (refine Zac (i:=0) (v:=?_) rfl (by kernel_rfl) (by decide) (by kernel_rfl) (by kernel_rfl) (by kernel_rfl) (fun _ _ _ h=>h) (Or.inl ⟨by rfl,?_⟩) (by assumption) ?_);rotate_left
   ·(intro w aB;(try dsimp only at aB);skip;go_simp;first|done|with_reducible rfl)
   (try simp only[Act.put,Zpf,Zpg,Zph]);(refine Zac (i:=1) (v:=?_) rfl (by kernel_rfl) (by decide) (by kernel_rfl) (by kernel_rfl) (by kernel_rfl) (fun _ _ _ h=>h) (Or.inl ⟨by rfl,?_⟩) (by assumption) ?_);rotate_left
   ·(intro w aB;(try dsimp only at aB);skip;go_simp;first|done|with_reducible rfl)
   (try simp only[Act.put,Zpf,Zpg,Zph]);(refine Zac (i:=2) (v:=?_) rfl (by kernel_rfl) (by decide) (by kernel_rfl) (by kernel_rfl) (by kernel_rfl) (fun _ _ _ h=>h) (Or.inl ⟨by rfl,?_⟩) (by assumption) ?_);rotate_left
   ·(intro w aB;(try dsimp only at aB);skip;go_simp;first|done|with_reducible rfl)
   (try simp only[Act.put,Zpf,Zpg,Zph]);(refine Zac (i:=3) (v:=?_) rfl (by kernel_rfl) (by decide) (by kernel_rfl) (by kernel_rfl) (by kernel_rfl) (fun _ _ _ h=>h) (Or.inl ⟨by rfl,?_⟩) (by assumption) ?_);rotate_left
   ·(intro w aB;(try dsimp only at aB);skip;go_simp;first|done|with_reducible rfl)
   (try simp only[Act.put,Zpf,Zpg,Zph]);(refine Zac (i:=4) (v:=?_) rfl (by kernel_rfl) (by decide) (by kernel_rfl) (by kernel_rfl) (by kernel_rfl) (fun _ _ _ h=>h) (Or.inl ⟨by rfl,?_⟩) (by assumption) ?_);rotate_left
   ·(intro w aB;(try dsimp only at aB);skip;go_simp;first|done|with_reducible rfl)
   (try simp only[Act.put,Zpf,Zpg,Zph]);(refine Zac (i:=5) (v:=?_) rfl (by kernel_rfl) (by decide) (by kernel_rfl) (by kernel_rfl) (by kernel_rfl) (fun _ _ _ h=>h) (Or.inl ⟨by rfl,?_⟩) (by assumption) ?_);rotate_left
   ·(intro w aB;(try dsimp only at aB);skip;go_simp;first|done|with_reducible rfl)
   (try simp only[Act.put,Zpf,Zpg,Zph]);(refine Zac (i:=7) (v:=?_) rfl (by kernel_rfl) (by decide) (by kernel_rfl) (by kernel_rfl) (by kernel_rfl) (fun _ _ _ h=>h) (Or.inl ⟨by rfl,?_⟩) (by assumption) ?_);rotate_left
   ·(intro w aB;(try dsimp only at aB);skip;go_simp;first|done|with_reducible rfl)
   (try simp only[Act.put,Zpf,Zpg,Zph]);(refine Zac (i:=8) (v:=?_) rfl (by kernel_rfl) (by decide) (by kernel_rfl) (by kernel_rfl) (by kernel_rfl) (fun _ _ _ h=>h) (Or.inl ⟨by rfl,?_⟩) (by assumption) ?_);rotate_left
   ·(intro w aB;(try dsimp only at aB);skip;go_simp;first|done|with_reducible rfl)
   (try simp only[Act.put,Zpf,Zpg,Zph]);(refine ZaI (i:=6) (by kernel_rfl) rfl (fun K hK=>?_));(rw[if_pos (by rfl)]);go_simp;have pJ:((wo.alloc (.cells #[] 3)).drew).ownsRow w.heap.size 3 1 (.slice (some ⟨wo.heap.size,0,none⟩) 0 0) 0 []:=World.ownsRow_lit wo #[] 0 te.size (by unfold maxLen;omega) rfl;have ha:Below wo.heap.size wo ((wo.alloc (.cells #[] 3)).drew):=((Zpr _ wo).alloc (ZpD _) _).drew
   have wV:∀j (hj:j<c.length),∃b o,bb=some ⟨b,o,none⟩∧((wo.alloc (.cells #[] 3)).drew).cell? ⟨b,o+j,none⟩=some (.int .i64 c[j]):=fun j hj=>by
    obtain⟨b',o',h1,h2⟩:=rk j hj;exact⟨b',o',h1,(ha.cell (Zpk wo _ h2)).trans h2⟩
   refine hK.out _ _ (qH.out _ ha) (fun aA=>?_);generalize eE:(wo.alloc (.cells #[] 3)).drew=wa at *;replace eE:=Zpe eE;clear hK K aA rk;(try simp only[Act.put,Zpf,Zpg,Zph]);(refine ZaI (i:=9) (by kernel_rfl) rfl (fun K hK=>?_));(rw[if_pos (by rfl)]);refine Zfr _ _ rfl w.heap.size i0 cX bB ak bE _ 0 [] rfl pJ bb cc c rfl wV (by omega) (Zpp te.size ha.size) (fun v4 w4 cB ez=>?_);rw[List.nil_append,Nat.zero_add]at cB;have bF:Below wo.heap.size wo w4:=Below.grown ha ez ha.size (fun k e=>Nat.le_of_eq (Option.some.inj (show some wo.heap.size=some k from e)));refine hK.out _ _ (qH.out _ bF) (fun aA=>?_);clear hK K;(try simp only[Act.put,Zpf,Zpg,Zph]);obtain⟨a4,c4,rfl⟩:∃ba cp,v4= .slice ba c.length cp:=by obtain⟨ba,cp,h,_⟩:=Za4 (l:=c) cB;exact⟨ba,cp,h⟩
   (refine Zac (i:=10) (v:=?_) rfl (by kernel_rfl) (by decide) (by kernel_rfl) (by kernel_rfl) (by kernel_rfl) (fun _ _ _ h=>h) (Or.inl ⟨by rfl,?_⟩) (by assumption) ?_);rotate_left
   ·(intro w aB;(try dsimp only at aB);skip;go_simp;first|done|with_reducible rfl)
   (try simp only[Act.put,Zpf,Zpg,Zph]);clear aA;(refine ZaI (i:=11) (by kernel_rfl) rfl (fun K hK=>?_));(rw[if_pos (by rfl)]);go_simp;have h5:Below w4.heap.size w4 (w4.alloc (.cells #[.int .i64 kd,.int .i64 lt,.slice a4 c.length c4] 166)):=(Zpr _ w4).alloc (ZpD _) _;have m6:(w4.alloc (.cells #[.int .i64 kd,.int .i64 lt,.slice a4 c.length c4] 166)).heap[w4.heap.size]? =some (.cells #[.int .i64 kd,.int .i64 lt,.slice a4 c.length c4] 166):=Zpm w4 _;refine hK.out _ _ (qH.out _ (bF.trans (h5.mono bF.size))) (fun aA=>?_);generalize lQ:w4.alloc (.cells #[.int .i64 kd,.int .i64 lt,.slice a4 c.length c4] 166)=w5 at *;replace lQ:=Zpe lQ;clear hK K aA;(try simp only[Act.put,Zpf,Zpg,Zph]);have aj:=bF.trans (h5.mono bF.size);have kQ:=Za0 hoO (fun g c h=>aj.block g (Zpi h).1);have gO:Below w.heap.size w w5:=te.trans (aj.mono te.size);have xW:=World.news_of_block (cs:=#[.int .i64 kd,.int .i64 lt,.slice a4 c.length c4]) (t:=166) (fr:=(0,0)) m6;(refine ZaI (i:=12) (by kernel_rfl) rfl (fun K hK=>?_));(rw[if_pos (by rfl)]);refine wp_append_own w5 _ _ 82 rfl w.heap.size 166 iv _ 3 40 Tryz.underlying82 qN kR jU tt rfl (by decide) vL k (ZbM (C.take k) us) rfl kQ ⟨w4.heap.size,0,none⟩ 1 1 [.int .i64 kd,.int .i64 lt,.slice a4 c.length c4] rfl rfl xW (by simp[Value.oneCell']) (by unfold maxLen;omega) (by omega) gO.size (fun v6 w6 cz iR _=>?_)
   have jL:w6.heap[w.heap.size+1+1]? =some (.cells #[.int .i64 n,vL] 84 (0,0)):=by
    have h:=(aj.block _ (Zpi qJ.out).1).trans qJ.out;exact(ZaY kQ iR h (by decide)).trans h
   have hz6:w6.heap[w.heap.size+1]? =some (.cells #[.int .i64 0,.slice none 0 0] 84 (0,0)):=by
    have h:=(aj.block _ (Zpi uj.out).1).trans uj.out;exact(ZaY kQ iR h (by decide)).trans h
   have df:ZbY w6 w.heap.size us ((C.take k).map (·.inp)):=hRO.keep (fun g c h=>by
    have h':=aj.block g (Zpi h).1;exact(ZaY kQ iR (h'.trans h) (by decide)).trans h')
   have sd:w6.ownsRow w.heap.size 3 1 (.slice a4 c.length c4) c.length (c.map ZeJ):=Za0 cB (fun g c h=>by
    have h':=h5.block g (Zpi h).1;exact(ZaY kQ iR (h'.trans h) (by decide)).trans h')
   have i8:=df.snoc sd;have oP:ZbY w6 w.heap.size (us++[.slice a4 c.length c4]) ((C.take (k+1)).map (·.inp)):=by rw[fH.out,List.map_append];exact i8
   have kL:ZbM (C.take k) us++[.int .i64 kd,.int .i64 lt,.slice a4 c.length c4]=ZbM (C.take (k+1)) (us++[.slice a4 c.length c4]):=by rw[fH.out,ZeO pU.out]
   rw[kL]at cz;have jZ:Below w.heap.size w w6:=Below.grown gO iR gO.size (fun k e=>Zbc kQ e)
   have i6:w6.cell? ⟨gb,0,none⟩=some (.int .i64 kd)∧w6.cell? ⟨gb,1,none⟩=some (.int .i64 lt)∧w6.cell? ⟨gb,2,none⟩=some (.slice bb c.length cc):=by
    have h5':=(aj.block _ (Zpi qM).1).trans qM
    have ta:w6.heap[gb]? =w5.heap[gb]?:=iR.block gb (Zpi h5').1 fun e=>by
     have hoo:=ho.out;obtain⟨_,⟨rfl,_⟩|⟨g',cap,cur,rfl,hgb',wz,_⟩⟩:=hoo
     ·simp[Value.ownBlock]at e
     ·simp[Value.ownBlock]at e
      have:=(Zpi wz).1;have:=bk.out;omega
    rw[h5']at ta;exact⟨by rw[World.cell?,ta];rfl,by rw[World.cell?,ta];rfl,by rw[World.cell?,ta];rfl⟩
   have cE:w6.cell? ⟨w.heap.size+1+1,1,none⟩=some vL:=by rw[World.cell?,jL];rfl
   obtain⟨g6,c6,rfl⟩:∃g c,v6= .slice (some ⟨g,0,none⟩) (k+1) c:=by
    obtain⟨_,⟨_,e⟩|⟨g,cap,cur,h,_⟩⟩:=cz
    ·omega
    ·exact⟨g,cap,h⟩
   have ac:Hid (CpC n w C (k+1) (w6.setCell ⟨w.heap.size+1+1,1,none⟩ (.slice (some ⟨g6,0,none⟩) (k+1) c6))):=by
    have aH:∀(g:Nat) (cs:Array Value) (ty:TypeId),w6.heap[g]? =some (.cells cs ty (0,0))→ty≠84→(w6.setCell ⟨w.heap.size+1+1,1,none⟩ (.slice (some ⟨g6,0,none⟩) (k+1) c6)).heap[g]? =w6.heap[g]?:=fun g cs ty h1 h2=>by
     refine Below.heap_setCell _ _ _ _ fun e=>?_
     rw[e,jL]at h1;simp only[Zpw,Obj.cells.injEq]at h1;exact h2 h1.2.1.symm
    exact Zpe ⟨_,_,Zag jL 1 _,Za0 cz (fun g c h=>aH g c _ h (by decide)),oP.keep (fun g c h=>aH g c _ h (by decide)),(Below.heap_setCell _ _ _ _ (by simp)).trans hz6,jZ.setCell (by show _≤w.heap.size+1+1;omega) _⟩
   have y2:w6.frozen? ⟨w.heap.size+1+1,1,none⟩=false:=by simp[World.frozen?,jL]
   refine hK.out _ _ ⟨cE,i6⟩ (fun aA=>?_);clear hK K cz df i8 oP sd kQ cB jL hz6 iR i6 kL;(try simp only[Act.put,Zpf,Zpg,Zph]);(refine Zac (i:=13) (v:=?_) rfl (by kernel_rfl) (by decide) (by kernel_rfl) (by kernel_rfl) (by kernel_rfl) (fun _ _ _ h=>h) (Or.inl ⟨by rfl,?_⟩) (by assumption) ?_);rotate_left
   ·(intro w aB;(try dsimp only at aB);skip;go_simp;first|done|with_reducible rfl)
   (try simp only[Act.put,Zpf,Zpg,Zph]);(refine Zbt (by kernel_rfl) rfl (by kernel_rfl) (fun K hK=>?_))
   ((rw[if_pos (by rfl)]);go_simp;refine hK.out _ _ ?_)
   (clear hK K)
   (try simp only[Act.put,Zpf,Zpg,Zph]);go_wp2_with fail;go_roundw
   case rel=>exact⟨k+1,by omega,by go_num,ac⟩
   case measure=>simp[intOf];omega
  ·obtain rfl:k=C.length:=by omega
   have d0:decide ((C.length:Int)<(C.length:Int))=false:=Zpu (by omega)
   obtain⟨bL,nL,cL,rfl⟩:∃b n c,vL= .slice b n c:=by
    obtain⟨_,⟨rfl,_⟩|⟨g,cap,cur,rfl,_⟩⟩:=ho
    ·exact⟨_,_,_,rfl⟩
    ·exact⟨_,_,_,rfl⟩
   rw[List.take_length]at hR ho;have p0:wr.cell? ⟨w.heap.size+1+1,0,none⟩=some (.int .i64 n):=by rw[World.cell?,hb];rfl
   have p1:wr.cell? ⟨w.heap.size+1+1,1,none⟩=some (.slice bL nL cL):=by rw[World.cell?,hb];rfl
   have x0:wr.cell? ⟨w.heap.size+1,0,none⟩=some (.int .i64 0):=by rw[World.cell?,hz];rfl
   have x1:wr.cell? ⟨w.heap.size+1,1,none⟩=some (.slice none 0 0):=by rw[World.cell?,hz];rfl
   have y0:wr.frozen? ⟨w.heap.size+1,0,none⟩=false:=by simp[World.frozen?,hz]
   have y1:wr.frozen? ⟨w.heap.size+1,1,none⟩=false:=by simp[World.frozen?,hz]
   obtain⟨r0,r1⟩:=Zf3 hz (.int .i64 n) (.slice bL nL cL)
   have aH:∀(g:Nat) (cs:Array Value) (ty:TypeId),wr.heap[g]? =some (.cells cs ty (0,0))→ty≠84→((wr.setCell ⟨w.heap.size+1,0,none⟩ (.int .i64 n)).setCell ⟨w.heap.size+1,1,none⟩ (.slice bL nL cL)).heap[g]? =wr.heap[g]?:=fun g cs ty h1 h2=>by
    have nK:g≠w.heap.size+1:=by
     intro e;rw[e,hz]at h1;simp only[Zpw,Obj.cells.injEq]at h1;exact h2 h1.2.1.symm
    exact(Below.heap_setCell _ _ _ _ nK).trans (Below.heap_setCell _ _ _ _ nK)
   have aG:=Zpe (And.intro (ZkI (Za0 ho (fun g c h=>aH g c _ h (by decide))) (hR.keep (fun g c h=>aH g c _ h (by decide)))) ((hB.setCell (Nat.le_succ _) (.int .i64 n) (p:=⟨w.heap.size+1,0,none⟩)).setCell (Nat.le_succ _) (.slice bL nL cL) (p:=⟨w.heap.size+1,1,none⟩)));replace hb:=Zpe hb;replace hz:=Zpe hz;replace r0:=Zpe r0;replace r1:=Zpe r1;clear aH ho hR hB;go_wp2_with fail;exact bodyPost_ret (v:=.agg #[.int .i64 n,.slice bL nL cL]) (by simp[results,Tryz.results51,go_sem,r0.out,r1.out]) rfl ⟨_,rfl,aG.out.1,aG.out.2⟩
section
variable {t:List VN}{sb k k':Nat}{s:St}{w0 w:World}{φ ψ χ ω:L.Asg→Bool}{a b c d:Nat}
theorem Zfy(h:SL t sb k [] s w0 w)(hk:k'+363≤k)(ha:Val s a φ)(hb:Val s b ψ)(hc:Val s c χ)(hd:Val s d ω) :
  Calls Tryz.prog 179 #[.pointer (some ⟨sb,0,none⟩),.int .i64 (a:Nat),.int .i64 (b:Nat),.int .i64 (c:Nat),.int .i64 (d:Nat)] w (Zft t sb k' [] s w0 w fun x=>(φ x && ψ x) || (χ x && ω x)):=by
 have q:=h.and (k':=k'+245) (by omega) ha hb;replace h:=Zpe h;replace ha:=Zpe ha;replace hb:=Zpe hb;replace hc:=Zpe hc;replace hd:=Zpe hd
 go_enter Tryz.func179,Tryz.ntmps179
 go_wp2_with fail;refine q.mono ?_;rintro e w2 ⟨r2,s2,rfl,aZ,bT,ap,_,bU⟩;have q2:=aZ.and (k':=k'+127) (by omega) (hc.out.step h.out.inv bT) (hd.out.step h.out.inv bT);replace aZ:=Zpe aZ;replace ap:=Zpe ap;clear q;go_wp2_with fail;refine q2.mono ?_;rintro e w3 ⟨r3,s3,rfl,bd,eD,cD,_,dG⟩;have q3:=bd.or (k':=k') (by omega) (ap.out.step aZ.out.inv eD) cD;replace bd:=Zpe bd;replace cD:=Zpe cD;clear q2;go_wp2_with fail;refine q3.mono ?_;rintro e w4 ⟨r4,s4,rfl,dA,fY,eK,_,cJ⟩;replace dA:=Zpe dA;replace eK:=Zpe eK;clear q3;go_wp2_with fail;go_ret2;exact⟨r4,s4,rfl,dA.out,(bT.trans eD).trans fY,eK.out,(fun x hx=>by cases hx),(bU.trans dG).trans cJ⟩
theorem ZlT(h:SL t sb k [] s w0 w)(hk:k'+369≤k)(ha:Val s a φ)(hb:Val s b ψ) :
  Calls Tryz.prog 178 #[.pointer (some ⟨sb,0,none⟩),.int .i64 (a:Nat),.int .i64 (b:Nat)] w (Zft t sb k' [] s w0 w fun x=>φ x !=ψ x):=by
 have q:=h.not (k':=k'+366) (by omega) ha;replace h:=Zpe h;replace ha:=Zpe ha;replace hb:=Zpe hb
 go_enter Tryz.func178,Tryz.ntmps178
 go_wp2_with fail;refine q.mono ?_;rintro e w2 ⟨r2,s2,rfl,aZ,bT,ap,_,bU⟩;have q2:=aZ.not (k':=k'+363) (by omega) (hb.out.step h.out.inv bT);replace aZ:=Zpe aZ;replace ap:=Zpe ap;clear q;go_wp2_with fail;refine q2.mono ?_;rintro e w3 ⟨r3,s3,rfl,bd,eD,cD,_,dG⟩;have pL:=bT.trans eD;have q3:=Zfy (k':=k') bd (by omega) (ha.out.step h.out.inv pL) cD (hb.out.step h.out.inv pL) (ap.out.step aZ.out.inv eD);replace bd:=Zpe bd;replace cD:=Zpe cD;clear q2;go_wp2_with fail;refine q3.mono ?_;rintro e w4 ⟨r4,s4,rfl,dA,fY,eK,_,cJ⟩;replace dA:=Zpe dA;replace eK:=Zpe eK;clear q3;go_wp2_with fail;go_ret2;exact⟨r4,s4,rfl,dA.out,pL.trans fY,eK.out.congr fun x=>by cases φ x <;> cases ψ x <;> rfl,(fun x hx=>by cases hx),(bU.trans dG).trans cJ⟩
theorem ZkH(h:SL t sb k [] s w0 w)(hk:k'+369≤k)(ha:Val s a φ)(hb:Val s b ψ){bx:Nat}(hc:w.cell? ⟨bx,0,none⟩=some (.pointer (some ⟨sb,0,none⟩))) :
  Calls Tryz.prog 177 #[.int .i64 (a:Nat),.int .i64 (b:Nat),.pointer (some ⟨bx,0,none⟩)] w (Zft t sb k' [] s w0 w fun x=>φ x !=ψ x):=by
 have q:=ZlT (k':=k') h hk ha hb;replace h:=Zpe h
 go_enter Tryz.func177,Tryz.ntmps177
 go_wp2_with fail;refine q.mono ?_;rintro e w2 ⟨r2,s2,rfl,aZ,bT,ap,aF,bU⟩;replace aZ:=Zpe aZ;clear q;go_wp2_with fail;go_ret2;exact⟨r2,s2,rfl,aZ.out,bT,ap,aF,bU⟩
end
theorem ZhW{fm r0 cap:Nat}{q:Value}{ba:Option Addr}{l:List Nat}{w:World}(I:Nat→Nat→World→Prop)(hl:l.length≤1048576)
  (ti:∀(c:Array Value) (w:World),(callFunc fm c).run Tryz.prog w= .ok (.enter fm c) w) (h0:I 0 r0 w)
  (aJ:∀j r W,I j r W→∀(hj:j<l.length),∃b o,ba=some ⟨b,o,none⟩∧W.cell? ⟨b,o+j,none⟩=some (.int .i64 (l[j]:Nat)))
  (dr:∀j r W (hj:j<l.length),I j r W→Calls Tryz.prog fm #[.int .i64 (r:Nat),.int .i64 (l[j]:Nat),q] W fun e W'=>∃r':Nat,e= .returned (.tuple #[.int .i64 (r':Nat),.int .i64 0])∧I (j+1) r' W') :
  Calls Tryz.prog 152 #[.slice ba l.length cap,.func (.func fm) #[] #[q],.int .i64 (r0:Nat)] w fun e W'=>∃r:Nat,e= .returned (.tuple #[.int .i64 (r:Nat),.int .i64 0])∧I l.length r W':=by
 replace aJ:=Zpe aJ;replace dr:=Zpe dr;replace h0:=Zpe h0
 go_enter Tryz.func152,Tryz.ntmps152
 go_wp2_with fail
 go_loopw [2,13] (fun x i wr=>∃(k r:Nat),k≤l.length∧x= .int .i64 r∧i= .int .i64 k∧I k r wr) (fun x i _=>l.length - (intOf i).toNat)
 case atStart=>exact⟨0,r0,Nat.zero_le _,rfl,rfl,h0.out⟩
 case round =>
  obtain⟨k,r,hk,rfl,rfl,hI⟩:=hrel
  by_cases aE:k<l.length
  ·obtain⟨b,o,rfl,f1⟩:=aJ.out k r wr hI aE
   have q:=dr.out k r wr aE hI;generalize l[k]=x at *;replace hI:=Zpe hI;go_wp2_with fail;refine q.mono ?_;rintro e w2 ⟨r2,rfl,i7⟩;replace i7:=Zpe i7;clear q;go_wp2_with fail;go_roundw
   case rel=>exact⟨k+1,r2,by omega,rfl,by go_num,i7.out⟩
   case measure=>simp[intOf];omega
  ·obtain rfl:k=l.length:=by omega
   replace hI:=Zpe hI;go_wp2_with fail;go_ret2;exact⟨r,rfl,hI.out⟩
theorem ZbK.stays{w w':World}{b n:Nat}{f:Nat→Value}(h:ZbK w b 3 n f)(hS:Zaz w w'):ZbK w' b 3 n f:=by
 obtain⟨c,h1,h2⟩:=h;exact⟨c,hS.get h1 (by decide) (by decide),h2⟩
theorem ZgL{w w':World}{bx:Nat}{v:Value}(h:w.heap[bx]? =some (.cells #[v] 32))(hS:Zaz w w'):w'.heap[bx]? =some (.cells #[v] 32):=hS.get h (by decide) (by decide)
theorem ZbK.at_{w:World}{g:Nat}{ins:List Nat}(h:ZbK w g 3 ins.length (fun j=>Zab (ins.getD j 0))){j:Nat}(hj:j<ins.length):w.cell? ⟨g,0+j,none⟩=some (.int .i64 (ins[j]:Nat)):=by
 have:=(h.cell hj).1;rw[Nat.zero_add,this,Zpt,Zpl hj]
 rfl
section
variable {t:List VN}{sb k k':Nat}{s:St}{w0 w:World}{bx g:Nat}{ins:List Nat}{φs:List (L.Asg→Bool)}
theorem Zmh(h:SL t sb k [] s w0 w)(py:Val s 1 fun _=>true)(aL:ins.length=φs.length)(bg:ins.length≤12)(hr:ZbK w g 3 ins.length (fun j=>Zab (ins.getD j 0)))(av:∀j (h1:j<ins.length) (h2:j<φs.length),Val s ins[j] φs[j])(hk:k'+369*ins.length≤k) :
  Calls Tryz.prog 152 #[.slice (some ⟨g,0,none⟩) ins.length ins.length,.func (.func 82) #[.pointer (some ⟨sb,0,none⟩)] #[],.int .i64 (1:Nat)] w (Zft t sb k' [] s w0 w fun x=>(φs.map fun f=>f x).all id):=by
 have kB:∀(c:Array Value) (w:World),(callFunc 82 c).run Tryz.prog w= .ok (.enter 82 c) w:=fun c w=>by simp[go_sem,Tryz.func82]
 refine(ZdO (fm:=82) (sb:=sb) (r0:=1) (cap:=ins.length) (ba:=some ⟨g,0,none⟩) (l:=ins) (w:=w) (fun j r W=>∃s2,SL t sb (k'+369*(ins.length - j)) [] s2 w0 W∧L.Step s s2∧Val s2 r (fun x=>((φs.take j).map fun f=>f x).all id)∧Zaz w W) (by omega) kB
  ⟨s,h.less (by omega),L.Step.refl h.inv,py.congr fun x=>by simp,Zaz.refl _⟩
  (fun j r W ⟨s2,_,_,_,h4⟩ hj=>⟨g,0,rfl,(hr.stays h4).at_ hj⟩)
  (fun j r W hj ⟨s2,g1,g2,g3,g4⟩=>by
    have iu:j<φs.length:=by omega
    refine(g1.and (k':=k'+369*(ins.length - (j+1))) (by omega) g3 ((av j hj iu).step h.inv g2)).mono fun e w' hh=>?_
    obtain⟨r',s3,e1,e2,e3,e4,_,e5⟩:=hh;refine⟨r',e1,s3,e2,g2.trans e3,e4.congr fun x=>?_,g4.trans e5⟩;rw[List.take_succ_eq_append_getElem iu,List.map_append,List.all_append];simp)).mono fun e w' hh=>?_
 obtain⟨r,e1,s2,e2,e3,e4,e5⟩:=hh;rw[aL,List.take_length]at e4;exact⟨r,s2,e1,e2.less (by omega),e3,e4,(fun x hx=>by cases hx),e5⟩
theorem Znu(h:SL t sb k [] s w0 w)(kV:Val s 0 fun _=>false)(aL:ins.length=φs.length)(bg:ins.length≤12)(hr:ZbK w g 3 ins.length (fun j=>Zab (ins.getD j 0)))(av:∀j (h1:j<ins.length) (h2:j<φs.length),Val s ins[j] φs[j])(hk:k'+369*ins.length≤k) :
  Calls Tryz.prog 152 #[.slice (some ⟨g,0,none⟩) ins.length ins.length,.func (.func 41) #[.pointer (some ⟨sb,0,none⟩)] #[],.int .i64 (0:Nat)] w (Zft t sb k' [] s w0 w fun x=>(φs.map fun f=>f x).any id):=by
 have kB:∀(c:Array Value) (w:World),(callFunc 41 c).run Tryz.prog w= .ok (.enter 41 c) w:=fun c w=>by simp[go_sem,Tryz.func41]
 refine(ZdO (fm:=41) (sb:=sb) (r0:=0) (cap:=ins.length) (ba:=some ⟨g,0,none⟩) (l:=ins) (w:=w) (fun j r W=>∃s2,SL t sb (k'+369*(ins.length - j)) [] s2 w0 W∧L.Step s s2∧Val s2 r (fun x=>((φs.take j).map fun f=>f x).any id)∧Zaz w W) (by omega) kB
  ⟨s,h.less (by omega),L.Step.refl h.inv,kV.congr fun x=>by simp,Zaz.refl _⟩
  (fun j r W ⟨s2,_,_,_,h4⟩ hj=>⟨g,0,rfl,(hr.stays h4).at_ hj⟩)
  (fun j r W hj ⟨s2,g1,g2,g3,g4⟩=>by
    have iu:j<φs.length:=by omega
    refine(g1.or (k':=k'+369*(ins.length - (j+1))) (by omega) g3 ((av j hj iu).step h.inv g2)).mono fun e w' hh=>?_
    obtain⟨r',s3,e1,e2,e3,e4,_,e5⟩:=hh;refine⟨r',e1,s3,e2,g2.trans e3,e4.congr fun x=>?_,g4.trans e5⟩;rw[List.take_succ_eq_append_getElem iu,List.map_append,List.any_append];simp)).mono fun e w' hh=>?_
 obtain⟨r,e1,s2,e2,e3,e4,e5⟩:=hh;rw[aL,List.take_length]at e4;exact⟨r,s2,e1,e2.less (by omega),e3,e4,(fun x hx=>by cases hx),e5⟩
theorem Zmj(h:SL t sb k [] s w0 w)(kV:Val s 0 fun _=>false)(ao:w.heap[bx]? =some (.cells #[.pointer (some ⟨sb,0,none⟩)] 32))(aL:ins.length=φs.length)(bg:ins.length≤12)(hr:ZbK w g 3 ins.length (fun j=>Zab (ins.getD j 0)))(av:∀j (h1:j<ins.length) (h2:j<φs.length),Val s ins[j] φs[j])(hk:k'+369*ins.length≤k) :
  Calls Tryz.prog 152 #[.slice (some ⟨g,0,none⟩) ins.length ins.length,.func (.func 177) #[] #[.pointer (some ⟨bx,0,none⟩)],.int .i64 (0:Nat)] w (Zft t sb k' [] s w0 w fun x=>(φs.map fun f=>f x).foldl (fun o y=>o !=y) false):=by
 have kB:∀(c:Array Value) (w:World),(callFunc 177 c).run Tryz.prog w= .ok (.enter 177 c) w:=fun c w=>by simp[go_sem,Tryz.func177]
 refine(ZhW (fm:=177) (q:=.pointer (some ⟨bx,0,none⟩)) (r0:=0) (cap:=ins.length) (ba:=some ⟨g,0,none⟩) (l:=ins) (w:=w) (fun j r W=>∃s2,SL t sb (k'+369*(ins.length - j)) [] s2 w0 W∧L.Step s s2∧Val s2 r (fun x=>((φs.take j).map fun f=>f x).foldl (fun o y=>o !=y) false)∧Zaz w W) (by omega) kB
  ⟨s,h.less (by omega),L.Step.refl h.inv,kV.congr fun x=>by simp,Zaz.refl _⟩
  (fun j r W ⟨s2,_,_,_,h4⟩ hj=>⟨g,0,rfl,(hr.stays h4).at_ hj⟩)
  (fun j r W hj ⟨s2,g1,g2,g3,g4⟩=>by
    have iu:j<φs.length:=by omega
    have hb:=ZgL ao g4;refine(ZkH (bx:=bx) g1 (k':=k'+369*(ins.length - (j+1))) (by omega) g3 ((av j hj iu).step h.inv g2) (by rw[World.cell?,hb];rfl)).mono fun e w' hh=>?_
    obtain⟨r',s3,e1,e2,e3,e4,_,e5⟩:=hh;refine⟨r',e1,s3,e2,g2.trans e3,e4.congr fun x=>?_,g4.trans e5⟩;rw[List.take_succ_eq_append_getElem iu,List.map_append,List.foldl_append];simp)).mono fun e w' hh=>?_
 obtain⟨r,e1,s2,e2,e3,e4,e5⟩:=hh;rw[aL,List.take_length]at e4;exact⟨r,s2,e1,e2.less (by omega),e3,e4,(fun x hx=>by cases hx),e5⟩
end
end Go.Proofs.YtmnjakejhbpkoaaGreatDoor
end
