import Derived.Test.YtmnjakejhbpkoaaGreatDoorVComp27
set_option linter.unusedSimpArgs false
set_option linter.unusedVariables false
set_option maxRecDepth 100000
set_option maxHeartbeats 40000000
namespace Go.Proofs.YtmnjakejhbpkoaaGreatDoor
open Go Go.RowKit Go.Shelf
theorem ZgM{n:Int}{C:List L.Gt}{u:Value}{t:List VN}(w:World)(ba:Option Addr)(cap:Nat)(hT:ZaX w)(hP:Za7 w)(hv:SlC w u C∧(-9223372036854775808≤n∧n≤9223372036854775807))(ht:t=[]∨∃b o,ba=some ⟨b,o,none⟩∧Zam w b o t)(nj:t.length≤5864062014805) :
  Calls Tryz.prog 8 #[.agg #[.int .i64 n,u],.slice ba t.length cap] w fun e w'=>e= .returned (.bool true)∧Below w.heap.size w w':=by
 obtain⟨hv,_⟩:=hv;have e0:=Zpm w (.cells #[.int .i64 n,u] 84);have aC:Ext w (w.alloc (.cells #[.int .i64 n,u] 84)):=(Ext.refl w).alloc _;have hw:∀W,Below w.heap.size w W→Calls Tryz.prog 16 #[] W fun e w''=>e= .returned (.bool true)∧Below W.heap.size W w'':=fun W hx=>Zin W (hT.same (hx.block _ hT.lt')) (hP.same (hx.block _ hP.lt))
 obtain⟨w1,aD⟩:∃w1,w1=w.alloc (.cells #[.int .i64 n,u] 84):=⟨_,rfl⟩;rw[←aD]at e0 aC;have c0:w1.cell? ⟨w.heap.size,0,none⟩=some (.int .i64 n):=by rw[World.cell?,e0];rfl
 have c1:w1.cell? ⟨w.heap.size,1,none⟩=some u:=by rw[World.cell?,e0];rfl
 have ql:=ZjF (n:=n) (hv.ext aC.below);have pX:=Zpe hv;obtain⟨bb,cp,rfl,_⟩:=hv;replace e0:=Zpe e0;replace hw:=Zpe hw;replace aC:=Zpe aC
 cases hL:ZbV n C
 ·rw[hL]at ql
  go_enter Tryz.func8,Tryz.ntmps8
  go_wp2_with fail;rw[←aD];replace aD:=Zpe aD;go_wp2_with fail;refine ql.mono ?_;rintro e w2 ⟨rfl,aF⟩;have hx:=aC.out.trans aF;have q:=hw.out w2 hx.below;clear ql;go_wp2_with fail;refine q.mono ?_;rintro e w3 ⟨rfl,aa⟩;go_wp2_with fail;go_ret;exact⟨rfl,hx.below.trans (aa.mono hx.size)⟩
 ·rw[hL]at ql
  have qf:∀W,Ext w1 W→Calls Tryz.prog 15 #[.slice ba t.length cap] W fun e w'=>e= .returned (.bool (Zdm t))∧Ext W w':=fun W hx=>Zkx W ba cap (ZdV W ba cap (ht.imp id fun ⟨b,o,e,h⟩=>⟨b,o,e,(h.ext aC.out).ext hx⟩) nj)
  cases hF:Zdm t
  ·rw[hF]at qf
   replace qf:=Zpe qf
   go_enter Tryz.func8,Tryz.ntmps8
   go_wp2_with fail;rw[←aD];replace aD:=Zpe aD;go_wp2_with fail;refine ql.mono ?_;rintro e w2 ⟨rfl,aF⟩;have q:=qf.out w2 aF;clear ql;go_wp2_with fail;refine q.mono ?_;rintro e w3 ⟨rfl,aR⟩;have hx:=(aC.out.trans aF).trans aR;have qw:=hw.out w3 hx.below;clear q;go_wp2_with fail;refine qw.mono ?_;rintro e w4 ⟨rfl,bF⟩;go_wp2_with fail;go_ret;exact⟨rfl,hx.below.trans (bF.mono hx.size)⟩
  ·rw[hF]at qf
   replace qf:=Zpe qf;obtain⟨jF,cR,oF⟩:=Zg0 hL;have vH:=Znq hF;have bh:SlC w1 (.slice bb C.length cp) C:=pX.out.ext aC.out.below;have fZ:t=[]∨∃b o,ba=some ⟨b,o,none⟩∧Zam w1 b o t:=ht.imp id fun ⟨b,o,e,h⟩=>⟨b,o,e,h.ext aC.out⟩
   have qcp:=fun (W:World) (h:Ext w1 W)=>Zks (n:=n) (bh.ext h.below) jF cR
   have qcd:=fun (W:World) (h:Below w1.heap.size w1 W)=>Zjm (t:=t) W ba cap (fZ.imp id fun ⟨b,o,e,h'⟩=>⟨b,o,e,h'.below h⟩) vH
   replace qcp:=Zpe qcp;replace qcd:=Zpe qcd;replace cR:=Zpe cR;replace oF:=Zpe oF;replace fZ:=Zpe fZ
   go_enter Tryz.func8,Tryz.ntmps8
   go_wp2_with fail;rw[←aD];replace aD:=Zpe aD;go_wp2_with fail;refine ql.mono ?_;rintro e w2 ⟨rfl,aF⟩;have q:=qf.out w2 aF;have a0:=aF.cell c0;have a1:=aF.cell c1;clear ql c0 c1;go_wp2_with fail;refine q.mono ?_;rintro e w3 ⟨rfl,aR⟩;have hx:=(aC.out.trans aF).trans aR;have p8:=aF.trans aR;have b0:=aR.cell a0;have b1:=aR.cell a1;clear q a0 a1 aF aR;replace hx:=Zpe hx;go_wp2_with fail;refine(qcp.out w3 p8).mono ?_;rintro e w5 ⟨vL,rfl,fK,aj⟩;obtain⟨lb,lc,rfl⟩:∃b c,vL= .slice b C.length c:=by obtain⟨b,c,h,_⟩:=fK;exact⟨b,c,h⟩
   have ao:Below w5.heap.size w5 (w5.alloc (.cells #[.int .i64 n,.slice lb C.length lc] 84)):=(Zpr _ _).alloc (ZpD _) _;have nB:=Zpm w5 (.cells #[.int .i64 n,.slice lb C.length lc] 84);have jZ:Below w3.heap.size w3 (w5.alloc (.cells #[.int .i64 n,.slice lb C.length lc] 84)):=aj.trans (ao.mono aj.size);have gL:=fK.ext ao;obtain⟨w6,eL⟩:∃W,W=w5.alloc (.cells #[.int .i64 n,.slice lb C.length lc] 84):=⟨_,rfl⟩;rw[←eL]at ao nB jZ gL;replace eL:=Zpe eL;have dB:Below w.heap.size w w6:=hx.out.below.trans (jZ.mono hx.out.size);have fc:Below w1.heap.size w1 w6:=p8.below.trans (jZ.mono p8.size)
   have fR:∀V,Below w6.heap.size w6 V→V.cell? ⟨w5.heap.size,0,none⟩=some (.int .i64 n)∧V.cell? ⟨w5.heap.size,1,none⟩=some (.slice lb C.length lc):=fun V h=>by
    have f0:=(h.block _ (Zpi nB).1).trans nB;exact⟨by rw[World.cell?,f0];rfl,by rw[World.cell?,f0];rfl⟩
   replace fR:=Zpe fR;have gS:=Zpe ((Zpr w6.heap.size w6).drew);replace fc:=Zpe fc;clear fK ao aj
   by_cases hE:Zb0 n C t=0
   ·obtain⟨aq,hc,bz⟩:=Zl9 hE
    obtain⟨b,o,dI,eV⟩:∃b o,ba=some ⟨b,o,none⟩∧Zam w1 b o t:=by
     obtain⟨b,o,e,h⟩:=Zfi hc fZ.out;exact⟨b,o,e,h⟩
    have aY:=Zky hF hc;obtain⟨vI,bg⟩:=oF.out aq;have hl6:=L.nv_le hc (v:=t.length - 1) (by have:=(Zar hc).1;omega);obtain⟨m,rfl⟩:∃m:Nat,n=m:=⟨n.toNat,by have:=(L.ciChk_ok.1 aq).1;omega⟩;have qc:=fun (W:World) (tb tc:Nat) (h:Below w6.heap.size w6 W) (tM:Zam W tb 0 t)=>Zji (n:=m) (gL.ext h) tb 0 tc aq vI bg tM hc aY bz (hT.same ((dB.trans (h.mono dB.size)).block _ hT.lt')) (hP.same ((dB.trans (h.mono dB.size)).block _ hP.lt))
    replace aq:=Zpe aq;replace hc:=Zpe hc;replace hE:=Zpe hE;replace bz:=Zpe bz;replace eV:=Zpe eV;replace bg:=Zpe bg;have vQ:=Zpe hF;clear hL hF;replace dI:=Zpe dI;replace qc:=Zpe qc;go_wp2_with fail;rw[←eL.out];clear b0 b1
    try go_wp2_with fail
    (refine wp_region_held_drew (S:=(fun V=>V.cell? ⟨w5.heap.size,0,none⟩=some (.int .i64 (m:Nat))∧V.cell? ⟨w5.heap.size,1,none⟩=some (.slice lb C.length lc))) (by kernel_rfl) ?_ (fun aA=>?_))
    ·exact fR.out _ gS.out
    (refine ZpE (i:=0) (v:=?_) rfl (by kernel_rfl) (fun _ _ _ h=>h) (Or.inl ⟨by rfl,?_⟩) (by assumption) ?_);rotate_left
    ·(intro w aB;(try dsimp only at aB);go_simp;first|done|with_reducible rfl)
    (try simp only[Act.put,Zpf,Zpg,Zph]);(refine ZpE (i:=1) (v:=?_) rfl (by kernel_rfl) (fun _ _ _ h=>h) (Or.inl ⟨by rfl,?_⟩) (by assumption) ?_);rotate_left
    ·(intro w aB;(try dsimp only at aB);go_simp;first|done|with_reducible rfl)
    (try simp only[Act.put,Zpf,Zpg,Zph]);(refine wpAnyH_ready (rs:=[2]) (by kernel_rfl) (by simp) ?_);(refine Zaw rfl (fun K hK=>?_))
    ((rw[if_pos (by rfl)]);go_simp;(go_at_call 18);refine(qcd.out _ (fc.out.trans (gS.out.mono fc.out.size))).mono ?_;rintro e w6b ⟨tb,tc,rfl,pS,kf⟩;have fS:=Zpe (gS.out.trans (kf.mono gS.out.size));refine hK.out _ _ (fR.out _ fS.out) (fun aA=>?_);clear kf)
    (clear hK K)
    (try simp only[Act.put,Zpf,Zpg,Zph]);(refine wpAnyH_ready (rs:=[3]) (by kernel_rfl) (by simp) ?_);(refine Zaw rfl (fun K hK=>?_))
    ((rw[if_pos (by rfl)]);go_simp;(go_at_call 52);refine(qc.out _ tb tc fS.out pS).mono ?_;rintro e w7 ⟨sb,root,s4,rfl,dh,pV,lh⟩;have dh:=Zpe (dh.base (dB.trans (fS.out.mono dB.size)));replace pV:=Zpe pV;have ey:=Zpe (fS.out.trans (lh.mono fS.out.size));refine hK.out _ _ (fR.out _ ey.out) (fun aA=>?_);clear lh)
    (clear hK K)
    (try simp only[Act.put,Zpf,Zpg,Zph]);(refine ZpE (i:=4) (v:=?_) rfl (by kernel_rfl) (fun _ _ _ h=>h) (Or.inl ⟨by rfl,?_⟩) (by assumption) ?_);rotate_left
    ·(intro w aB;(try dsimp only at aB);go_simp;first|done|with_reducible rfl)
    (try simp only[Act.put,Zpf,Zpg,Zph]);(refine ZpE (i:=5) (v:=?_) rfl (by kernel_rfl) (fun _ _ _ h=>h) (Or.inl ⟨by rfl,?_⟩) (by assumption) ?_);rotate_left
    ·(intro w aB;(try dsimp only at aB);go_simp;first|done|with_reducible rfl)
    (try simp only[Act.put,Zpf,Zpg,Zph]);(refine ZpE (i:=6) (v:=?_) rfl (by kernel_rfl) (fun _ _ _ h=>h) (Or.inl ⟨by rfl,?_⟩) (by assumption) ?_);rotate_left
    ·(intro w aB;(try dsimp only at aB);go_simp;first|done|with_reducible rfl)
    (try simp only[Act.put,Zpf,Zpg,Zph]);(refine ZpE (i:=7) (v:=?_) rfl (by kernel_rfl) (fun _ _ _ h=>h) (Or.inl ⟨by rfl,?_⟩) (by assumption) ?_);rotate_left
    ·(intro w aB;(try dsimp only at aB);go_simp;first|done|with_reducible rfl)
    (try simp only[Act.put,Zpf,Zpg,Zph]);(refine ZpE (i:=8) (v:=?_) rfl (by kernel_rfl) (fun _ _ _ h=>h) (Or.inl ⟨by rfl,?_⟩) (by assumption) ?_);rotate_left
    ·(intro w aB;(try dsimp only at aB);go_simp;first|done|with_reducible rfl)
    (try simp only[Act.put,Zpf,Zpg,Zph]);(refine ZpE (i:=9) (v:=?_) rfl (by kernel_rfl) (fun _ _ _ h=>h) (Or.inl ⟨by rfl,?_⟩) (by assumption) ?_);rotate_left
    ·(intro w aB;(try dsimp only at aB);go_simp;first|done|with_reducible rfl)
    (try simp only[Act.put,Zpf,Zpg,Zph]);(refine ZpE (i:=10) (v:=?_) rfl (by kernel_rfl) (fun _ _ _ h=>h) (Or.inl ⟨by rfl,?_⟩) (by assumption) ?_);rotate_left
    ·(intro w aB;(try dsimp only at aB);go_simp;first|done|with_reducible rfl)
    (try simp only[Act.put,Zpf,Zpg,Zph]);(refine wpAnyH_done (by kernel_rfl) ?_ _);clear aA;have qfl:=ZiB 0 ba t.length cap w7;rw[show (decide ((0:Int)=7) && decide (7<t.length))=false by rfl]at qfl;go_wp2_with fail;refine qfl.mono ?_;rintro e w8 ⟨rfl,rfl⟩;clear qfl;have fd:Below w1.heap.size w1 w7:=fc.out.trans (ey.out.mono fc.out.size)
    have bR:∀V,Below w7.heap.size w7 V→V.cell? ⟨w.heap.size,0,none⟩=some (.int .i64 (m:Nat))∧V.cell? ⟨w.heap.size,1,none⟩=some (.slice bb C.length cp):=fun V h=>by
     have f0:=((fd.trans (h.mono fd.size)).block _ (Zpi e0.out).1).trans e0.out;exact⟨by rw[World.cell?,f0];rfl,by rw[World.cell?,f0];rfl⟩
    have rl:∀V,Below w7.heap.size w7 V→V.cell? ⟨w5.heap.size,0,none⟩=some (.int .i64 (m:Nat))∧V.cell? ⟨w5.heap.size,1,none⟩=some (.slice lb C.length lc):=fun V h=>fR.out V (ey.out.trans (h.mono ey.out.size))
    have dN:∀V,Below w7.heap.size w7 V→(V.cell? ⟨w.heap.size,0,none⟩=some (.int .i64 (m:Nat))∧V.cell? ⟨w.heap.size,1,none⟩=some (.slice bb C.length cp))∧V.cell? ⟨w5.heap.size,0,none⟩=some (.int .i64 (m:Nat))∧V.cell? ⟨w5.heap.size,1,none⟩=some (.slice lb C.length lc):=fun V h=>⟨bR V h,rl V h⟩
    replace bR:=Zpe bR;replace dN:=Zpe dN;clear rl;have iJ:=bh.ext fd;have pW:=gL.ext ey.out;have tL:t=[]∨∃b o,ba=some ⟨b,o,none⟩∧Zam w7 b o t:=fZ.out.imp id fun ⟨b,o,e,h⟩=>⟨b,o,e,h.below fd⟩
    have gC:=Zpe ((Zpr w7.heap.size w7).drew);have q5:=fun (W:World) (h:Below w7.heap.size w7 W)=>Zea (n:=(m:Nat)) (pW.ext h) (iJ.ext h) jF cR.out
    replace q5:=Zpe q5;go_wp2_with fail;(refine wp_region_held_drew (S:=(fun V=>(V.cell? ⟨w.heap.size,0,none⟩=some (.int .i64 (m:Nat))∧V.cell? ⟨w.heap.size,1,none⟩=some (.slice bb C.length cp))∧V.cell? ⟨w5.heap.size,0,none⟩=some (.int .i64 (m:Nat))∧V.cell? ⟨w5.heap.size,1,none⟩=some (.slice lb C.length lc))) (by kernel_rfl) ?_ (fun aA=>?_))
    ·exact dN.out _ gC.out
    (refine ZpE (i:=0) (v:=?_) rfl (by kernel_rfl) (fun _ _ _ h=>h) (Or.inl ⟨by rfl,?_⟩) (by assumption) ?_);rotate_left
    ·(intro w aB;(try dsimp only at aB);go_simp;first|done|with_reducible rfl)
    (try simp only[Act.put,Zpf,Zpg,Zph]);(refine ZpE (i:=1) (v:=?_) rfl (by kernel_rfl) (fun _ _ _ h=>h) (Or.inl ⟨by rfl,?_⟩) (by assumption) ?_);rotate_left
    ·(intro w aB;(try dsimp only at aB);go_simp;first|done|with_reducible rfl)
    (try simp only[Act.put,Zpf,Zpg,Zph]);(refine ZpE (i:=3) (v:=?_) rfl (by kernel_rfl) (fun _ _ _ h=>h) (Or.inl ⟨by rfl,?_⟩) (by assumption) ?_);rotate_left
    ·(intro w aB;(try dsimp only at aB);go_simp;first|done|with_reducible rfl)
    (try simp only[Act.put,Zpf,Zpg,Zph]);(refine ZpE (i:=5) (v:=?_) rfl (by kernel_rfl) (fun _ _ _ h=>h) (Or.inl ⟨by rfl,?_⟩) (by assumption) ?_);rotate_left
    ·(intro w aB;(try dsimp only at aB);go_simp;first|done|with_reducible rfl)
    (try simp only[Act.put,Zpf,Zpg,Zph]);(refine wpAnyH_ready (rs:=[2]) (by kernel_rfl) (by simp) ?_);(refine Zaw rfl (fun K hK=>?_))
    ((rw[if_pos (by rfl)]);go_simp;(go_at_call 53);refine(Zbg (iJ.ext gC.out) jF cR.out).mono ?_;rintro e w8 ⟨rfl,j9⟩;have mP:=Zpe (gC.out.trans (j9.below.mono gC.out.size));refine hK.out _ _ (dN.out _ mP.out) (fun aA=>?_);clear j9)
    (clear hK K)
    (try simp only[Act.put,Zpf,Zpg,Zph]);(refine wpAnyH_ready (rs:=[4]) (by kernel_rfl) (by simp) ?_);(refine Zaw rfl (fun K hK=>?_))
    ((rw[if_pos (by rfl)]);go_simp;(go_at_call 54);refine(Zeb (n:=(m:Nat)) (iJ.ext mP.out) jF cR.out).mono ?_;rintro e w9 ⟨rfl,bP⟩;have mQ:=Zpe (mP.out.trans (bP.mono mP.out.size));refine hK.out _ _ (dN.out _ mQ.out) (fun aA=>?_);clear bP)
    (clear hK K)
    (try simp only[Act.put,Zpf,Zpg,Zph])
    (unfold ZaT)
    (refine wpAnyH_ready (rs:=[6]) (by kernel_rfl) (by simp) ?_);(refine Zaw rfl (fun K hK=>?_))
    ((rw[if_pos (by rfl)]);go_simp;(go_at_call 21);refine(Ze6 (n:=(m:Nat)) (C:=C) (fun h=>by rw[if_pos h]) _ ba cap (tL.imp id fun ⟨b,o,e,h⟩=>⟨b,o,e,h.below mQ.out⟩) nj vQ.out).mono ?_;rintro e yS ⟨rfl,ke⟩;have gA:=Zpe (mQ.out.trans (ke.mono mQ.out.size));refine hK.out _ _ (dN.out _ gA.out) (fun aA=>?_);clear ke)
    (clear hK K)
    (try simp only[Act.put,Zpf,Zpg,Zph]);rw[hE.out];generalize (if L.ciChk (m:Nat) C=0 then L.ciVars C else 0)=vS;(refine ZpE (i:=7) (v:=?_) rfl (by kernel_rfl) (fun _ _ _ h=>h) (Or.inl ⟨by rfl,?_⟩) (by assumption) ?_);rotate_left
    ·(intro w aB;(try dsimp only at aB);go_simp;first|done|with_reducible rfl)
    (try simp only[Act.put,Zpf,Zpg,Zph]);(refine ZpE (i:=8) (v:=?_) rfl (by kernel_rfl) (fun _ _ _ h=>h) (Or.inl ⟨by rfl,?_⟩) (by assumption) ?_);rotate_left
    ·(intro w aB;(try dsimp only at aB);go_simp;first|done|with_reducible rfl)
    (try simp only[Act.put,Zpf,Zpg,Zph]);(refine ZpE (i:=9) (v:=?_) rfl (by kernel_rfl) (fun _ _ _ h=>h) (Or.inl ⟨by rfl,?_⟩) (by assumption) ?_);rotate_left
    ·(intro w aB;(try dsimp only at aB);go_simp;first|done|with_reducible rfl)
    (try simp only[Act.put,Zpf,Zpg,Zph]);(refine ZpE (i:=10) (v:=?_) rfl (by kernel_rfl) (fun _ _ _ h=>h) (Or.inl ⟨by rfl,?_⟩) (by assumption) ?_);rotate_left
    ·(intro w aB;(try dsimp only at aB);go_simp;first|done|with_reducible rfl)
    (try simp only[Act.put,Zpf,Zpg,Zph]);(refine wpAnyH_ready (rs:=[11]) (by kernel_rfl) (by simp) ?_);(refine Zaw rfl (fun K hK=>?_))
    ((rw[if_pos (by rfl)]);go_simp;(go_at_call 55);refine(q5.out _ gA.out).mono ?_;rintro e eY ⟨rfl,dv⟩;have ex:=Zpe (gA.out.trans (dv.below.mono gA.out.size));refine hK.out _ _ (dN.out _ ex.out) (fun aA=>?_);clear dv)
    (clear hK K)
    (try simp only[Act.put,Zpf,Zpg,Zph]);(refine ZpE (i:=12) (v:=?_) rfl (by kernel_rfl) (fun _ _ _ h=>h) (Or.inl ⟨by rfl,?_⟩) (by assumption) ?_);rotate_left
    ·(intro w aB;(try dsimp only at aB);go_simp;first|done|with_reducible rfl)
    (try simp only[Act.put,Zpf,Zpg,Zph]);(refine ZpE (i:=13) (v:=?_) rfl (by kernel_rfl) (fun _ _ _ h=>h) (Or.inl ⟨by rfl,?_⟩) (by assumption) ?_);rotate_left
    ·(intro w aB;(try dsimp only at aB);go_simp;first|done|with_reducible rfl)
    (try simp only[Act.put,Zpf,Zpg,Zph]);(refine wpAnyH_done (by kernel_rfl) ?_ _);clear aA;have nE:=dh.out.below ex.out;have e8:∀V,Below eY.heap.size eY V→V.cell? ⟨w.heap.size,0,none⟩=some (.int .i64 (m:Nat))∧V.cell? ⟨w.heap.size,1,none⟩=some (.slice bb C.length cp):=fun V h=>bR.out V (ex.out.trans (h.mono ex.out.size))
    have qv:=fun (W:World) (h:Below eY.heap.size eY W)=>ZdB W b o cap ((eV.out.below fd).below (ex.out.trans (h.mono ex.out.size))) hc.out
    have jn:∀(l:List Int),L.SortedBel t (t.length - 1) l→l.Nodup∧(∀v∈l,1≤v∧v≤128)∧l.length≤12:=fun l hl=>⟨L.sorted_nodup hl.sorted,fun v hv=>(ZfS hc.out hl hv).range,by rw[hl.len hc.out (by have:=(Zar hc.out).1;omega)];omega⟩
    have qt:=fun (W:World) (h:Below eY.heap.size eY W) (vl:Value) (l:List Int) (hl:SlI W vl l) (hs:L.SortedBel t (t.length - 1) l)=>Zgc (n:=m) (iJ.ext (ex.out.trans (h.mono ex.out.size))) cR.out aq.out hl (jn l hs).1 (jn l hs).2.1 (jn l hs).2.2
    obtain⟨φ,hφ⟩:∃φ,φ=L.ciφ C:=⟨_,rfl⟩;have hvφ:=pV.out;rw[←hφ]at hvφ qt;replace hφ:=Zpe hφ;have iC:=fun (W:World) (fb:Nat) (n1 n2 vl o:Value) (l:List Int) (hb:Below eY.heap.size eY W) (hf:eY.heap.size≤fb) (aK:W.heap[fb]? =some (.cells #[n1,n2] 48)) (fU:Zja W (.agg #[vl,o]) l φ) (aJ:∃base,W.ownsRow base 3 1 vl l.length (l.map ZeJ))=>CB.made nE hvφ hb hf aK fU aJ
    have tR:Below w.heap.size w eY:=nE.bel;replace iC:=Zpe iC;replace e8:=Zpe e8;replace qv:=Zpe qv;replace qt:=Zpe qt;replace jn:=Zpe jn;replace nE:=Zpe nE;replace hvφ:=Zpe hvφ;replace tR:=Zpe tR;have fh:=Zpe ((Zpr eY.heap.size eY).drew);obtain⟨b0,b1⟩:=e8.out eY (Zpr _ _);rw[dI.out]
    go_upto_region 11 with fail
    go_cut [9] from 59 to 62 (fun s10 wx=>∃(fb:Nat) (vl vo:Value) (l:List Int),s10= .pointer (some ⟨fb,0,none⟩)∧Hid (L.SortedBel t (t.length - 1) l)∧Hid (CB t sb 300 root fb vl vo l φ s4 w wx))
    case first =>
     (refine wp_region_held_drew (S:=(fun V=>V.cell? ⟨w.heap.size,0,none⟩=some (.int .i64 (m:Nat))∧V.cell? ⟨w.heap.size,1,none⟩=some (.slice bb C.length cp))) (by kernel_rfl) ?_ (fun aA=>?_))
     ·exact e8.out _ fh.out
     (refine ZpE (i:=0) (v:=?_) rfl (by kernel_rfl) (fun _ _ _ h=>h) (Or.inl ⟨by rfl,?_⟩) (by assumption) ?_);rotate_left
     ·(intro w aB;(try dsimp only at aB);go_simp;first|done|with_reducible rfl)
     (try simp only[Act.put,Zpf,Zpg,Zph]);(refine ZpE (i:=1) (v:=?_) rfl (by kernel_rfl) (fun _ _ _ h=>h) (Or.inl ⟨by rfl,?_⟩) (by assumption) ?_);rotate_left
     ·(intro w aB;(try dsimp only at aB);go_simp;first|done|with_reducible rfl)
     (try simp only[Act.put,Zpf,Zpg,Zph]);refine wpAnyH_ready (rs:=[2,4]) (by kernel_rfl) (by simp) ?_;refine Ziy rfl rfl (fun K hK=>?_) (fun K hK=>?_)
     ·(rw[if_pos (by rfl)])
      go_simp;refine(qv.out _ fh.out).mono ?_;rintro e w5 ⟨vl,l,rfl,aJ,cq,aj⟩;obtain⟨lb,lc,rfl⟩:∃ba cp,vl= .slice ba l.length cp:=by obtain⟨ba,cp,h,_⟩:=Za4 aJ;exact⟨ba,cp,h⟩
      have fj:=Zpe (fh.out.trans (aj.mono fh.out.size));refine hK.out _ _ (e8.out _ fj.out) (fun aA=>?_);clear hK K aj;(try simp only[Act.put,Zpf,Zpg,Zph]);refine wpAnyH_ready (rs:=[3,4]) (by kernel_rfl) (by simp) ?_;refine Ziy rfl rfl (fun K hK=>?_) (fun K hK=>?_)
      ·(rw[if_pos (by rfl)])
       go_simp;refine(qt.out _ fj.out _ l (Za4 aJ) cq).mono ?_;rintro e w6 ⟨v,rfl,fU,⟨vo,rfl⟩,kG⟩
       obtain⟨go,gn,gc,rfl⟩:∃g N c,vo= .slice (some ⟨g,0,none⟩) N c:=by
        obtain⟨_,g,c,h1,_⟩:=fU;simp only[Value.agg.injEq,Array.mk.injEq,List.cons.injEq,and_true]at h1;exact⟨g,_,c,h1.2⟩
       have ll:=Zpe (fj.out.trans (kG.mono fj.out.size));have iG:=Zby aJ (Zaz.of_below kG);refine hK.out _ _ (e8.out _ ll.out) (fun aA=>?_);clear hK K;(try simp only[Act.put,Zpf,Zpg,Zph]);refine wpAnyH_ready (rs:=[4]) (by kernel_rfl) (by simp) ?_;refine Zaw rfl (fun K hK=>?_);(rw[if_pos (by rfl)]);go_simp;have nb:=Zpm w6 (.cells #[.slice none 0 0,.slice none 0 0] 48);have dI:=(Zpr w6.heap.size w6).alloc (ZpD _) (.cells #[.slice none 0 0,.slice none 0 0] 48);have ey:=Zpe (ll.out.trans (dI.mono ll.out.size));have kJ:eY.heap.size≤w6.heap.size:=ll.out.size;obtain⟨fb,iQ⟩:∃fb,fb=w6.heap.size:=⟨_,rfl⟩;rw[←iQ]at nb kJ ⊢;replace iQ:=Zpe iQ;obtain⟨w7,lR⟩:∃W,W=w6.alloc (.cells #[.slice none 0 0,.slice none 0 0] 48):=⟨_,rfl⟩;rw[←lR]at nb dI ey ⊢;replace lR:=Zpe lR;refine hK.out _ _ (e8.out _ ey.out) (fun aA=>?_);clear hK K;(try simp only[Act.put,Zpf,Zpg,Zph]);replace fU:=fU.below dI;have tE:=Zby iG (Zaz.of_below dI);have hM:=Zpe (iC.out w7 fb _ _ _ _ l ey.out kJ nb fU ⟨_,tE⟩);have x0:w7.cell? ⟨fb,0,none⟩=some (.slice none 0 0):=by rw[World.cell?,nb];rfl
       have x1:w7.cell? ⟨fb,1,none⟩=some (.slice none 0 0):=by rw[World.cell?,nb];rfl
       have y0:w7.frozen? ⟨fb,0,none⟩=false:=by simp[World.frozen?,nb]
       have y1:w7.frozen? ⟨fb,1,none⟩=false:=by simp[World.frozen?,nb]
       replace nb:=Zpe nb;(refine wpAnyH_ready (rs:=[5]) (by kernel_rfl) (by simp) ?_);(refine Zaw rfl (fun K hK=>?_))
       ((rw[if_pos (by rfl)]);go_simp;refine hK.out _ _ (e8.out _ hM.out.2) (fun aA=>?_))
       (clear hK K)
       (try simp only[Act.put,Zpf,Zpg,Zph]);(refine wpAnyH_done (by kernel_rfl) ?_ _);go_wp2_with fail
       go_meet
       exact⟨fb,_,_,l,rfl,Zpe cq,Zpe hM.out.1⟩
      ·(rw[if_pos (by rfl)])
       go_simp;have nb:=Zpm w5 (.cells #[.slice none 0 0,.slice none 0 0] 48);have dI:=(Zpr w5.heap.size w5).alloc (ZpD _) (.cells #[.slice none 0 0,.slice none 0 0] 48);have gS:=Zpe (fj.out.trans (dI.mono fj.out.size));have kJ:eY.heap.size≤w5.heap.size:=fj.out.size;obtain⟨fb,iQ⟩:∃fb,fb=w5.heap.size:=⟨_,rfl⟩;rw[←iQ]at nb kJ ⊢;replace iQ:=Zpe iQ;obtain⟨w6,lR⟩:∃W,W=w5.alloc (.cells #[.slice none 0 0,.slice none 0 0] 48):=⟨_,rfl⟩;rw[←lR]at nb dI gS ⊢;replace lR:=Zpe lR;refine hK.out _ _ (e8.out _ gS.out) (fun aA=>?_);clear hK K;(try simp only[Act.put,Zpf,Zpg,Zph]);have iF:=Zby aJ (Zaz.of_below dI);refine wpAnyH_ready (rs:=[3]) (by kernel_rfl) (by simp) ?_;refine Zaw rfl (fun K hK=>?_);(rw[if_pos (by rfl)]);go_simp;refine(qt.out _ gS.out _ l (Za4 iF) cq).mono ?_;rintro e w7 ⟨v,rfl,fU,⟨vo,rfl⟩,kG⟩
       obtain⟨go,gn,gc,rfl⟩:∃g N c,vo= .slice (some ⟨g,0,none⟩) N c:=by
        obtain⟨_,g,c,h1,_⟩:=fU;simp only[Value.agg.injEq,Array.mk.injEq,List.cons.injEq,and_true]at h1;exact⟨g,_,c,h1.2⟩
       have ll:=Zpe (gS.out.trans (kG.mono gS.out.size));have iG:=Zby iF (Zaz.of_below kG);refine hK.out _ _ (e8.out _ ll.out) (fun aA=>?_);clear hK K;(try simp only[Act.put,Zpf,Zpg,Zph]);replace nb:=(kG.block _ (Zpi nb).1).trans nb;have hM:=Zpe (iC.out w7 fb _ _ _ _ l ll.out kJ nb fU ⟨_,iG⟩);have x0:w7.cell? ⟨fb,0,none⟩=some (.slice none 0 0):=by rw[World.cell?,nb];rfl
       have x1:w7.cell? ⟨fb,1,none⟩=some (.slice none 0 0):=by rw[World.cell?,nb];rfl
       have y0:w7.frozen? ⟨fb,0,none⟩=false:=by simp[World.frozen?,nb]
       have y1:w7.frozen? ⟨fb,1,none⟩=false:=by simp[World.frozen?,nb]
       replace nb:=Zpe nb;(refine wpAnyH_ready (rs:=[5]) (by kernel_rfl) (by simp) ?_);(refine Zaw rfl (fun K hK=>?_))
       ((rw[if_pos (by rfl)]);go_simp;refine hK.out _ _ (e8.out _ hM.out.2) (fun aA=>?_))
       (clear hK K)
       (try simp only[Act.put,Zpf,Zpg,Zph]);(refine wpAnyH_done (by kernel_rfl) ?_ _);go_wp2_with fail
       go_meet
       exact⟨fb,_,_,l,rfl,Zpe cq,Zpe hM.out.1⟩
     ·(rw[if_pos (by rfl)])
      go_simp;have nb:((eY.alloc (.cells #[.slice none 0 0,.slice none 0 0] 48)).drew).heap[eY.heap.size]? =some (.cells #[.slice none 0 0,.slice none 0 0] 48):=Zpm eY (.cells #[.slice none 0 0,.slice none 0 0] 48);have dI:=((Zpr eY.heap.size eY).alloc (ZpD _) (.cells #[.slice none 0 0,.slice none 0 0] 48)).drew;have ko:=Zpe dI;obtain⟨fb,iQ⟩:∃fb,fb=eY.heap.size:=⟨_,rfl⟩;have kJ:eY.heap.size≤fb:=Nat.le_of_eq iQ.symm;rw[←iQ]at nb ⊢;replace iQ:=Zpe iQ;obtain⟨w5a,lR⟩:∃W,W=(eY.alloc (.cells #[.slice none 0 0,.slice none 0 0] 48)).drew:=⟨_,rfl⟩;rw[←lR]at nb dI ko ⊢;replace lR:=Zpe lR;refine hK.out _ _ (e8.out _ ko.out) (fun aA=>?_);clear hK K;(try simp only[Act.put,Zpf,Zpg,Zph]);refine wpAnyH_ready (rs:=[2]) (by kernel_rfl) (by simp) ?_;refine Zaw rfl (fun K hK=>?_);(rw[if_pos (by rfl)]);go_simp;refine(qv.out _ ko.out).mono ?_;rintro e w5 ⟨vl,l,rfl,aJ,cq,aj⟩;obtain⟨lb,lc,rfl⟩:∃ba cp,vl= .slice ba l.length cp:=by obtain⟨ba,cp,h,_⟩:=Za4 aJ;exact⟨ba,cp,h⟩
      have fj:=Zpe (ko.out.trans (aj.mono ko.out.size));refine hK.out _ _ (e8.out _ fj.out) (fun aA=>?_);clear hK K;(try simp only[Act.put,Zpf,Zpg,Zph]);replace nb:=(aj.block _ (Zpi nb).1).trans nb;refine wpAnyH_ready (rs:=[3]) (by kernel_rfl) (by simp) ?_;refine Zaw rfl (fun K hK=>?_);(rw[if_pos (by rfl)]);go_simp;refine(qt.out _ fj.out _ l (Za4 aJ) cq).mono ?_;rintro e w7 ⟨v,rfl,fU,⟨vo,rfl⟩,kG⟩
      obtain⟨go,gn,gc,rfl⟩:∃g N c,vo= .slice (some ⟨g,0,none⟩) N c:=by
       obtain⟨_,g,c,h1,_⟩:=fU;simp only[Value.agg.injEq,Array.mk.injEq,List.cons.injEq,and_true]at h1;exact⟨g,_,c,h1.2⟩
      have ll:=Zpe (fj.out.trans (kG.mono fj.out.size));have iG:=Zby aJ (Zaz.of_below kG);refine hK.out _ _ (e8.out _ ll.out) (fun aA=>?_);clear hK K;(try simp only[Act.put,Zpf,Zpg,Zph]);replace nb:=(kG.block _ (Zpi nb).1).trans nb;have hM:=Zpe (iC.out w7 fb _ _ _ _ l ll.out kJ nb fU ⟨_,iG⟩);have x0:w7.cell? ⟨fb,0,none⟩=some (.slice none 0 0):=by rw[World.cell?,nb];rfl
      have x1:w7.cell? ⟨fb,1,none⟩=some (.slice none 0 0):=by rw[World.cell?,nb];rfl
      have y0:w7.frozen? ⟨fb,0,none⟩=false:=by simp[World.frozen?,nb]
      have y1:w7.frozen? ⟨fb,1,none⟩=false:=by simp[World.frozen?,nb]
      replace nb:=Zpe nb;(refine wpAnyH_ready (rs:=[5]) (by kernel_rfl) (by simp) ?_);(refine Zaw rfl (fun K hK=>?_))
      ((rw[if_pos (by rfl)]);go_simp;refine hK.out _ _ (e8.out _ hM.out.2) (fun aA=>?_))
      (clear hK K)
      (try simp only[Act.put,Zpf,Zpg,Zph]);(refine wpAnyH_done (by kernel_rfl) ?_ _);go_wp2_with fail
      go_meet
      exact⟨fb,_,_,l,rfl,Zpe cq,Zpe hM.out.1⟩
    case rest =>
     obtain⟨fb,vl,vo,l,rfl,cq,hG⟩:=hcut
     obtain⟨uk,ul,rfl⟩:∃ba cp,vl= .slice ba l.length cp:=by
      obtain⟨_,hr⟩:=hG.out.row;obtain⟨ba,cp,h,_⟩:=Za4 hr;exact⟨ba,cp,h⟩
     obtain⟨go,gn,gc,rfl⟩:∃g N c,vo= .slice (some ⟨g,0,none⟩) N c:=by
      obtain⟨_,g,c,h1,_⟩:=hG.out.fn;simp only[Value.agg.injEq,Array.mk.injEq,List.cons.injEq,and_true]at h1;exact⟨g,_,c,h1.2⟩
     obtain⟨gU,xt,sP⟩:=jn.out l cq.out;have kl:L.cnt (L.vl t (t.length - 1)) φ=L.cnt l φ:=(L.cnt_perm (L.sorted_perm hc.out (by have:=(Zar hc.out).1;omega) cq.out) φ).symm
     have hc64:L.cnt l φ≤64:=Zpp (L.cnt_le l φ) (by have hl:l.length≤6:=(by have:=cq.out.len hc.out (by have:=(Zar hc.out).1;omega);omega);exact Nat.pow_le_pow_right (by decide) hl)
     have qn:=ZgN hG.out.sl hG.out.val;rw[kl]at qn;have qs:=fun (W:World) (h:CB t sb 300 root fb (.slice uk l.length ul) (.slice (some ⟨go,0,none⟩) gn gc) l φ s4 w W)=>ZjU h.sl h.val h.fn gU xt sP
     have qk:=fun (W:World) (h:CB t sb 300 root fb (.slice uk l.length ul) (.slice (some ⟨go,0,none⟩) gn gc) l φ s4 w W)=>ZhS h.fn gU sP
     have qo:=fun (W:World)=>Ze4 (w:=W) (n:=L.cnt l φ) (by omega)
     have aH:=fun (W:World)=>Zoq (a:=L.cnt l φ) (b:=L.cnt l φ) (by omega) (by omega) W
     simp only[decide_true]at aH;generalize L.cnt l φ=N at *;obtain⟨SN,vp⟩:∃x,Zbx N= .agg #[.string x]:=⟨_,rfl⟩;simp only[vp]at aH qo qn;replace vp:=Zpe vp;replace qs:=Zpe qs;replace qk:=Zpe qk;replace qo:=Zpe qo;replace kl:=Zpe kl;replace gU:=Zpe gU;replace xt:=Zpe xt;clear b0 b1 fh;go_wp2_with fail;refine qn.mono ?_;rintro e tY ⟨rfl,wR⟩;have vV:=hG.out.below wR;clear qn;have nH:=(Zpr tY.heap.size tY).alloc (ZpD _) (.cells #[.string SN] 52);have mZ:=Zpm tY (.cells #[.string SN] 52);have fu:=vV.below nH;obtain⟨qZ,ms⟩:∃W,W=tY.alloc (.cells #[.string SN] 52):=⟨_,rfl⟩;rw[←ms]at nH mZ fu;obtain⟨nb,fD⟩:∃x,x=tY.heap.size:=⟨_,rfl⟩;rw[←fD]at mZ
     have tw:∀V,Below qZ.heap.size qZ V→V.cell? ⟨nb,0,none⟩=some (.string SN):=fun V h=>by
      rw[World.cell?,h.block _ (Zpi mZ).1,mZ];rfl
     have kH:∀V,Below qZ.heap.size qZ V→(V.cell? ⟨fb,0,none⟩=some (.slice uk l.length ul)∧V.cell? ⟨fb,1,none⟩=some (.slice (some ⟨go,0,none⟩) gn gc))∧V.cell? ⟨nb,0,none⟩=some (.string SN):=fun V h=>⟨(fu.below h).cells,tw V h⟩
     replace kH:=Zpe kH;replace fu:=Zpe fu;replace vV:=Zpe vV;replace hG:=Zpe hG;go_wp2_with fail;rw[←ms,←fD];replace ms:=Zpe ms;replace fD:=Zpe fD;have t6:=Zpe ((Zpr qZ.heap.size qZ).drew)
     try go_wp2_with fail
     (refine wp_region_held_drew (S:=(fun V=>(V.cell? ⟨fb,0,none⟩=some (.slice uk l.length ul)∧V.cell? ⟨fb,1,none⟩=some (.slice (some ⟨go,0,none⟩) gn gc))∧V.cell? ⟨nb,0,none⟩=some (.string SN))) (by kernel_rfl) ?_ (fun aA=>?_))
     ·exact kH.out _ t6.out
     (refine ZpE (i:=0) (v:=?_) rfl (by kernel_rfl) (fun _ _ _ h=>h) (Or.inl ⟨by rfl,?_⟩) (by assumption) ?_);rotate_left
     ·(intro w aB;(try dsimp only at aB);go_simp;first|done|with_reducible rfl)
     (try simp only[Act.put,Zpf,Zpg,Zph]);(refine ZpE (i:=1) (v:=?_) rfl (by kernel_rfl) (fun _ _ _ h=>h) (Or.inl ⟨by rfl,?_⟩) (by assumption) ?_);rotate_left
     ·(intro w aB;(try dsimp only at aB);go_simp;first|done|with_reducible rfl)
     (try simp only[Act.put,Zpf,Zpg,Zph]);(refine ZpE (i:=2) (v:=?_) rfl (by kernel_rfl) (fun _ _ _ h=>h) (Or.inl ⟨by rfl,?_⟩) (by assumption) ?_);rotate_left
     ·(intro w aB;(try dsimp only at aB);go_simp;first|done|with_reducible rfl)
     (try simp only[Act.put,Zpf,Zpg,Zph]);(refine wpAnyH_ready (rs:=[3]) (by kernel_rfl) (by simp) ?_);(refine Zaw rfl (fun K hK=>?_))
     ((rw[if_pos (by rfl)]);go_simp;(go_at_call 29);refine(qs.out _ (fu.out.below t6.out)).mono ?_;rintro e v1 ⟨rfl,bI⟩;have t7:=Zpe (t6.out.trans (bI.mono t6.out.size));refine hK.out _ _ (kH.out _ t7.out) (fun aA=>?_);clear bI)
     (clear hK K)
     (try simp only[Act.put,Zpf,Zpg,Zph]);(refine ZpE (i:=4) (v:=?_) rfl (by kernel_rfl) (fun _ _ _ h=>h) (Or.inl ⟨by rfl,?_⟩) (by assumption) ?_);rotate_left
     ·(intro w aB;(try dsimp only at aB);go_simp;first|done|with_reducible rfl)
     (try simp only[Act.put,Zpf,Zpg,Zph]);(refine ZpE (i:=5) (v:=?_) rfl (by kernel_rfl) (fun _ _ _ h=>h) (Or.inl ⟨by rfl,?_⟩) (by assumption) ?_);rotate_left
     ·(intro w aB;(try dsimp only at aB);go_simp;first|done|with_reducible rfl)
     (try simp only[Act.put,Zpf,Zpg,Zph]);(refine ZpE (i:=6) (v:=?_) rfl (by kernel_rfl) (fun _ _ _ h=>h) (Or.inl ⟨by rfl,?_⟩) (by assumption) ?_);rotate_left
     ·(intro w aB;(try dsimp only at aB);go_simp;first|done|with_reducible rfl)
     (try simp only[Act.put,Zpf,Zpg,Zph]);(refine ZpE (i:=7) (v:=?_) rfl (by kernel_rfl) (fun _ _ _ h=>h) (Or.inl ⟨by rfl,?_⟩) (by assumption) ?_);rotate_left
     ·(intro w aB;(try dsimp only at aB);go_simp;first|done|with_reducible rfl)
     (try simp only[Act.put,Zpf,Zpg,Zph]);(refine ZpE (i:=8) (v:=?_) rfl (by kernel_rfl) (fun _ _ _ h=>h) (Or.inl ⟨by rfl,?_⟩) (by assumption) ?_);rotate_left
     ·(intro w aB;(try dsimp only at aB);go_simp;first|done|with_reducible rfl)
     (try simp only[Act.put,Zpf,Zpg,Zph]);(refine ZpE (i:=9) (v:=?_) rfl (by kernel_rfl) (fun _ _ _ h=>h) (Or.inl ⟨by rfl,?_⟩) (by assumption) ?_);rotate_left
     ·(intro w aB;(try dsimp only at aB);go_simp;first|done|with_reducible rfl)
     (try simp only[Act.put,Zpf,Zpg,Zph]);(refine ZpE (i:=10) (v:=?_) rfl (by kernel_rfl) (fun _ _ _ h=>h) (Or.inl ⟨by rfl,?_⟩) (by assumption) ?_);rotate_left
     ·(intro w aB;(try dsimp only at aB);go_simp;first|done|with_reducible rfl)
     (try simp only[Act.put,Zpf,Zpg,Zph]);(refine wpAnyH_ready (rs:=[11]) (by kernel_rfl) (by simp) ?_);(refine Zaw rfl (fun K hK=>?_))
     ((rw[if_pos (by rfl)]);go_simp;(go_at_call 31);refine(qk.out _ (fu.out.below t7.out)).mono ?_;rintro e v2 ⟨rfl,ap⟩;have vD:=Zpe (t7.out.trans (ap.below.mono t7.out.size));refine hK.out _ _ (kH.out _ vD.out) (fun aA=>?_);clear ap)
     (clear hK K)
     (try simp only[Act.put,Zpf,Zpg,Zph]);have fy:IntKind.u64.wrap (N:Int)=(N:Int):=by simp[IntKind.wrap,IntKind.bits,IntKind.signed];omega
     (refine ZpE (i:=12) (v:=?_) rfl (by kernel_rfl) (fun _ _ _ h=>h) (Or.inl ⟨by rfl,?_⟩) (by assumption) ?_);rotate_left
     ·(intro w aB;(try dsimp only at aB);go_simp;first|done|with_reducible rfl)
     (try simp only[Act.put,Zpf,Zpg,Zph]);(refine wpAnyH_ready (rs:=[13]) (by kernel_rfl) (by simp) ?_);(refine Zaw rfl (fun K hK=>?_))
     ((rw[if_pos (by rfl)]);go_simp;(go_at_call 30);refine(qo.out _).mono ?_;rintro e v3 ⟨rfl,cD⟩;have t8:=Zpe (vD.out.trans (cD.mono vD.out.size));refine hK.out _ _ (kH.out _ t8.out) (fun aA=>?_);clear cD)
     (clear hK K)
     (try simp only[Act.put,Zpf,Zpg,Zph]);(refine ZpE (i:=14) (v:=?_) rfl (by kernel_rfl) (fun _ _ _ h=>h) (Or.inl ⟨by rfl,?_⟩) (by assumption) ?_);rotate_left
     ·(intro w aB;(try dsimp only at aB);go_simp;first|done|with_reducible rfl)
     (try simp only[Act.put,Zpf,Zpg,Zph]);(refine ZpE (i:=15) (v:=?_) rfl (by kernel_rfl) (fun _ _ _ h=>h) (Or.inl ⟨by rfl,?_⟩) (by assumption) ?_);rotate_left
     ·(intro w aB;(try dsimp only at aB);go_simp;first|done|with_reducible rfl)
     (try simp only[Act.put,Zpf,Zpg,Zph]);(refine ZpE (i:=16) (v:=?_) rfl (by kernel_rfl) (fun _ _ _ h=>h) (Or.inl ⟨by rfl,?_⟩) (by assumption) ?_);rotate_left
     ·(intro w aB;(try dsimp only at aB);go_simp;first|done|with_reducible rfl)
     (try simp only[Act.put,Zpf,Zpg,Zph]);(refine wpAnyH_ready (rs:=[17]) (by kernel_rfl) (by simp) ?_);(refine Zaw rfl (fun K hK=>?_))
     ((rw[if_pos (by rfl)]);go_simp;(go_at_call 16);refine(hw.out _ (fu.out.below t8.out).sl.bel).mono ?_;rintro e v4 ⟨rfl,eK⟩;have e19:=Zpe (t8.out.trans (eK.mono t8.out.size));refine hK.out _ _ (kH.out _ e19.out) (fun aA=>?_);clear eK)
     (clear hK K)
     (try simp only[Act.put,Zpf,Zpg,Zph]);(refine ZpE (i:=18) (v:=?_) rfl (by kernel_rfl) (fun _ _ _ h=>h) (Or.inl ⟨by rfl,?_⟩) (by assumption) ?_);rotate_left
     ·(intro w aB;(try dsimp only at aB);go_simp;first|done|with_reducible rfl)
     (try simp only[Act.put,Zpf,Zpg,Zph]);(refine ZpE (i:=19) (v:=?_) rfl (by kernel_rfl) (fun _ _ _ h=>h) (Or.inl ⟨by rfl,?_⟩) (by assumption) ?_);rotate_left
     ·(intro w aB;(try dsimp only at aB);go_simp;first|done|with_reducible rfl)
     (try simp only[Act.put,Zpf,Zpg,Zph]);(refine wpAnyH_done (by kernel_rfl) ?_ _);clear aA;go_wp2_with fail;go_ret;exact⟨rfl,fu.out.sl.bel.trans (e19.out.mono fu.out.sl.bel.size)⟩
   ·have qc:=fun (W:World) (tb tc:Nat) (h:Below w6.heap.size w6 W) (tM:Zam W tb 0 t)=>Zjh (n:=n) (gL.ext h) jF cR.out (some ⟨tb,0,none⟩) tc (Or.inr ⟨tb,0,rfl,tM⟩) hE
    have hd:(Zb0 n C t !=0)=true:=by simpa using hE
    obtain⟨z,hz⟩:∃z,z=Zb0 n C t:=⟨_,rfl⟩;rw[←hz]at qc hd hE;have lU:(z !=z)=false:=by simp
    replace hz:=Zpe hz;replace hE:=Zpe hE;have vQ:=Zpe hF;clear hL hF;replace qc:=Zpe qc;go_wp2_with fail;rw[←eL.out];clear b0 b1
    try go_wp2_with fail
    (refine wp_region_held_drew (S:=(fun V=>V.cell? ⟨w5.heap.size,0,none⟩=some (.int .i64 n)∧V.cell? ⟨w5.heap.size,1,none⟩=some (.slice lb C.length lc))) (by kernel_rfl) ?_ (fun aA=>?_))
    ·exact fR.out _ gS.out
    (refine ZpE (i:=0) (v:=?_) rfl (by kernel_rfl) (fun _ _ _ h=>h) (Or.inl ⟨by rfl,?_⟩) (by assumption) ?_);rotate_left
    ·(intro w aB;(try dsimp only at aB);go_simp;first|done|with_reducible rfl)
    (try simp only[Act.put,Zpf,Zpg,Zph]);(refine ZpE (i:=1) (v:=?_) rfl (by kernel_rfl) (fun _ _ _ h=>h) (Or.inl ⟨by rfl,?_⟩) (by assumption) ?_);rotate_left
    ·(intro w aB;(try dsimp only at aB);go_simp;first|done|with_reducible rfl)
    (try simp only[Act.put,Zpf,Zpg,Zph]);(refine wpAnyH_ready (rs:=[2]) (by kernel_rfl) (by simp) ?_);(refine Zaw rfl (fun K hK=>?_))
    ((rw[if_pos (by rfl)]);go_simp;(go_at_call 18);refine(qcd.out _ (fc.out.trans (gS.out.mono fc.out.size))).mono ?_;rintro e w6b ⟨tb,tc,rfl,pS,kf⟩;have fS:=Zpe (gS.out.trans (kf.mono gS.out.size));refine hK.out _ _ (fR.out _ fS.out) (fun aA=>?_);clear kf)
    (clear hK K)
    (try simp only[Act.put,Zpf,Zpg,Zph]);(refine wpAnyH_ready (rs:=[3]) (by kernel_rfl) (by simp) ?_);(refine Zaw rfl (fun K hK=>?_))
    ((rw[if_pos (by rfl)]);go_simp;(go_at_call 52);refine(qc.out _ tb tc fS.out pS).mono ?_;rintro e w7 ⟨rfl,lh⟩;have ey:=Zpe (fS.out.trans (lh.mono fS.out.size));refine hK.out _ _ (fR.out _ ey.out) (fun aA=>?_);clear lh)
    (clear hK K)
    (try simp only[Act.put,Zpf,Zpg,Zph]);(refine ZpE (i:=4) (v:=?_) rfl (by kernel_rfl) (fun _ _ _ h=>h) (Or.inl ⟨by rfl,?_⟩) (by assumption) ?_);rotate_left
    ·(intro w aB;(try dsimp only at aB);go_simp;first|done|with_reducible rfl)
    (try simp only[Act.put,Zpf,Zpg,Zph]);(refine ZpE (i:=5) (v:=?_) rfl (by kernel_rfl) (fun _ _ _ h=>h) (Or.inl ⟨by rfl,?_⟩) (by assumption) ?_);rotate_left
    ·(intro w aB;(try dsimp only at aB);go_simp;first|done|with_reducible rfl)
    (try simp only[Act.put,Zpf,Zpg,Zph]);(refine ZpE (i:=6) (v:=?_) rfl (by kernel_rfl) (fun _ _ _ h=>h) (Or.inl ⟨by rfl,?_⟩) (by assumption) ?_);rotate_left
    ·(intro w aB;(try dsimp only at aB);go_simp;first|done|with_reducible rfl)
    (try simp only[Act.put,Zpf,Zpg,Zph]);(refine ZpE (i:=7) (v:=?_) rfl (by kernel_rfl) (fun _ _ _ h=>h) (Or.inl ⟨by rfl,?_⟩) (by assumption) ?_);rotate_left
    ·(intro w aB;(try dsimp only at aB);go_simp;first|done|with_reducible rfl)
    (try simp only[Act.put,Zpf,Zpg,Zph]);(refine ZpE (i:=8) (v:=?_) rfl (by kernel_rfl) (fun _ _ _ h=>h) (Or.inl ⟨by rfl,?_⟩) (by assumption) ?_);rotate_left
    ·(intro w aB;(try dsimp only at aB);go_simp;first|done|with_reducible rfl)
    (try simp only[Act.put,Zpf,Zpg,Zph]);(refine ZpE (i:=9) (v:=?_) rfl (by kernel_rfl) (fun _ _ _ h=>h) (Or.inl ⟨by rfl,?_⟩) (by assumption) ?_);rotate_left
    ·(intro w aB;(try dsimp only at aB);go_simp;first|done|with_reducible rfl)
    (try simp only[Act.put,Zpf,Zpg,Zph]);(refine ZpE (i:=10) (v:=?_) rfl (by kernel_rfl) (fun _ _ _ h=>h) (Or.inl ⟨by rfl,?_⟩) (by assumption) ?_);rotate_left
    ·(intro w aB;(try dsimp only at aB);go_simp;first|done|with_reducible rfl)
    (try simp only[Act.put,Zpf,Zpg,Zph]);(refine wpAnyH_done (by kernel_rfl) ?_ _);clear aA;have kh:Below w.heap.size w w7:=dB.trans (ey.out.mono dB.size);have qfl:=ZiB z ba t.length cap w7
    cases hB:(decide (z=7) && decide (7<t.length))
    ·rw[hB]at qfl
     go_wp2_with fail;refine qfl.mono ?_;rintro e w8 ⟨rfl,rfl⟩;have fd:Below w1.heap.size w1 w7:=fc.out.trans (ey.out.mono fc.out.size)
     have bR:∀V,Below w7.heap.size w7 V→V.cell? ⟨w.heap.size,0,none⟩=some (.int .i64 n)∧V.cell? ⟨w.heap.size,1,none⟩=some (.slice bb C.length cp):=fun V h=>by
      have f0:=((fd.trans (h.mono fd.size)).block _ (Zpi e0.out).1).trans e0.out;exact⟨by rw[World.cell?,f0];rfl,by rw[World.cell?,f0];rfl⟩
     have rl:∀V,Below w7.heap.size w7 V→V.cell? ⟨w5.heap.size,0,none⟩=some (.int .i64 n)∧V.cell? ⟨w5.heap.size,1,none⟩=some (.slice lb C.length lc):=fun V h=>fR.out V (ey.out.trans (h.mono ey.out.size))
     have dN:∀V,Below w7.heap.size w7 V→(V.cell? ⟨w.heap.size,0,none⟩=some (.int .i64 n)∧V.cell? ⟨w.heap.size,1,none⟩=some (.slice bb C.length cp))∧V.cell? ⟨w5.heap.size,0,none⟩=some (.int .i64 n)∧V.cell? ⟨w5.heap.size,1,none⟩=some (.slice lb C.length lc):=fun V h=>⟨bR V h,rl V h⟩
     replace bR:=Zpe bR;replace dN:=Zpe dN;clear rl;have iJ:=bh.ext fd;have pW:=gL.ext ey.out;have tL:t=[]∨∃b o,ba=some ⟨b,o,none⟩∧Zam w7 b o t:=fZ.out.imp id fun ⟨b,o,e,h⟩=>⟨b,o,e,h.below fd⟩
     have gC:=Zpe ((Zpr w7.heap.size w7).drew);have q5:=fun (W:World) (h:Below w7.heap.size w7 W)=>Zea (n:=n) (pW.ext h) (iJ.ext h) jF cR.out
     replace q5:=Zpe q5;go_wp2_with fail;(refine wp_region_held_drew (S:=(fun V=>(V.cell? ⟨w.heap.size,0,none⟩=some (.int .i64 n)∧V.cell? ⟨w.heap.size,1,none⟩=some (.slice bb C.length cp))∧V.cell? ⟨w5.heap.size,0,none⟩=some (.int .i64 n)∧V.cell? ⟨w5.heap.size,1,none⟩=some (.slice lb C.length lc))) (by kernel_rfl) ?_ (fun aA=>?_))
     ·exact dN.out _ gC.out
     (refine ZpE (i:=0) (v:=?_) rfl (by kernel_rfl) (fun _ _ _ h=>h) (Or.inl ⟨by rfl,?_⟩) (by assumption) ?_);rotate_left
     ·(intro w aB;(try dsimp only at aB);go_simp;first|done|with_reducible rfl)
     (try simp only[Act.put,Zpf,Zpg,Zph]);(refine ZpE (i:=1) (v:=?_) rfl (by kernel_rfl) (fun _ _ _ h=>h) (Or.inl ⟨by rfl,?_⟩) (by assumption) ?_);rotate_left
     ·(intro w aB;(try dsimp only at aB);go_simp;first|done|with_reducible rfl)
     (try simp only[Act.put,Zpf,Zpg,Zph]);(refine ZpE (i:=3) (v:=?_) rfl (by kernel_rfl) (fun _ _ _ h=>h) (Or.inl ⟨by rfl,?_⟩) (by assumption) ?_);rotate_left
     ·(intro w aB;(try dsimp only at aB);go_simp;first|done|with_reducible rfl)
     (try simp only[Act.put,Zpf,Zpg,Zph]);(refine ZpE (i:=5) (v:=?_) rfl (by kernel_rfl) (fun _ _ _ h=>h) (Or.inl ⟨by rfl,?_⟩) (by assumption) ?_);rotate_left
     ·(intro w aB;(try dsimp only at aB);go_simp;first|done|with_reducible rfl)
     (try simp only[Act.put,Zpf,Zpg,Zph]);(refine wpAnyH_ready (rs:=[2]) (by kernel_rfl) (by simp) ?_);(refine Zaw rfl (fun K hK=>?_))
     ((rw[if_pos (by rfl)]);go_simp;(go_at_call 53);refine(Zbg (iJ.ext gC.out) jF cR.out).mono ?_;rintro e w8 ⟨rfl,j9⟩;have mP:=Zpe (gC.out.trans (j9.below.mono gC.out.size));refine hK.out _ _ (dN.out _ mP.out) (fun aA=>?_);clear j9)
     (clear hK K)
     (try simp only[Act.put,Zpf,Zpg,Zph]);(refine wpAnyH_ready (rs:=[4]) (by kernel_rfl) (by simp) ?_);(refine Zaw rfl (fun K hK=>?_))
     ((rw[if_pos (by rfl)]);go_simp;(go_at_call 54);refine(Zeb (n:=n) (iJ.ext mP.out) jF cR.out).mono ?_;rintro e w9 ⟨rfl,bP⟩;have mQ:=Zpe (mP.out.trans (bP.mono mP.out.size));refine hK.out _ _ (dN.out _ mQ.out) (fun aA=>?_);clear bP)
     (clear hK K)
     (try simp only[Act.put,Zpf,Zpg,Zph])
     (unfold ZaT)
     (refine wpAnyH_ready (rs:=[6]) (by kernel_rfl) (by simp) ?_);(refine Zaw rfl (fun K hK=>?_))
     ((rw[if_pos (by rfl)]);go_simp;(go_at_call 21);refine(Ze6 (n:=n) (C:=C) (fun h=>by rw[if_pos h]) _ ba cap (tL.imp id fun ⟨b,o,e,h⟩=>⟨b,o,e,h.below mQ.out⟩) nj vQ.out).mono ?_;rintro e yS ⟨rfl,ke⟩;have gA:=Zpe (mQ.out.trans (ke.mono mQ.out.size));refine hK.out _ _ (dN.out _ gA.out) (fun aA=>?_);clear ke)
     (clear hK K)
     (try simp only[Act.put,Zpf,Zpg,Zph]);rw[←hz.out];generalize (if L.ciChk n C=0 then L.ciVars C else 0)=vS;(refine ZpE (i:=7) (v:=?_) rfl (by kernel_rfl) (fun _ _ _ h=>h) (Or.inl ⟨by rfl,?_⟩) (by assumption) ?_);rotate_left
     ·(intro w aB;(try dsimp only at aB);go_simp;first|done|with_reducible rfl)
     (try simp only[Act.put,Zpf,Zpg,Zph]);(refine ZpE (i:=8) (v:=?_) rfl (by kernel_rfl) (fun _ _ _ h=>h) (Or.inl ⟨by rfl,?_⟩) (by assumption) ?_);rotate_left
     ·(intro w aB;(try dsimp only at aB);go_simp;first|done|with_reducible rfl)
     (try simp only[Act.put,Zpf,Zpg,Zph]);(refine ZpE (i:=9) (v:=?_) rfl (by kernel_rfl) (fun _ _ _ h=>h) (Or.inl ⟨by rfl,?_⟩) (by assumption) ?_);rotate_left
     ·(intro w aB;(try dsimp only at aB);go_simp;first|done|with_reducible rfl)
     (try simp only[Act.put,Zpf,Zpg,Zph]);(refine ZpE (i:=10) (v:=?_) rfl (by kernel_rfl) (fun _ _ _ h=>h) (Or.inl ⟨by rfl,?_⟩) (by assumption) ?_);rotate_left
     ·(intro w aB;(try dsimp only at aB);go_simp;first|done|with_reducible rfl)
     (try simp only[Act.put,Zpf,Zpg,Zph]);(refine wpAnyH_ready (rs:=[11]) (by kernel_rfl) (by simp) ?_);(refine Zaw rfl (fun K hK=>?_))
     ((rw[if_pos (by rfl)]);go_simp;(go_at_call 55);refine(q5.out _ gA.out).mono ?_;rintro e eY ⟨rfl,dv⟩;have ex:=Zpe (gA.out.trans (dv.below.mono gA.out.size));refine hK.out _ _ (dN.out _ ex.out) (fun aA=>?_);clear dv)
     (clear hK K)
     (try simp only[Act.put,Zpf,Zpg,Zph]);(refine ZpE (i:=12) (v:=?_) rfl (by kernel_rfl) (fun _ _ _ h=>h) (Or.inl ⟨by rfl,?_⟩) (by assumption) ?_);rotate_left
     ·(intro w aB;(try dsimp only at aB);go_simp;first|done|with_reducible rfl)
     (try simp only[Act.put,Zpf,Zpg,Zph]);(refine ZpE (i:=13) (v:=?_) rfl (by kernel_rfl) (fun _ _ _ h=>h) (Or.inl ⟨by rfl,?_⟩) (by assumption) ?_);rotate_left
     ·(intro w aB;(try dsimp only at aB);go_simp;first|done|with_reducible rfl)
     (try simp only[Act.put,Zpf,Zpg,Zph]);(refine wpAnyH_done (by kernel_rfl) ?_ _);clear aA;have kg:Below w.heap.size w eY:=kh.trans (ex.out.mono kh.size);have qw:=hw.out eY kg;go_wp2_with fail;refine qw.mono ?_;rintro e w13 ⟨rfl,wQ⟩;go_wp2_with fail;go_ret;exact⟨rfl,kg.trans (wQ.mono kg.size)⟩
    ·rw[hB]at qfl
     have qw:=hw.out w7 kh;go_wp2_with fail;refine qfl.mono ?_;rintro e w8 ⟨rfl,rfl⟩;go_wp2_with fail;refine qw.mono ?_;rintro e w9 ⟨rfl,bP⟩;go_wp2_with fail;go_ret;exact⟨rfl,kh.trans (bP.mono kh.size)⟩
end Go.Proofs.YtmnjakejhbpkoaaGreatDoor
