import Derived.Test.YtmnjakejhbpkoaaGreatDoorVView4
set_option linter.unusedSimpArgs false
set_option linter.unusedVariables false
set_option maxRecDepth 100000
set_option maxHeartbeats 8000000
namespace Go.Proofs.YtmnjakejhbpkoaaGreatDoor
open Go Go.RowKit Go.Shelf
section
variable {t:List VN}{sb k:Nat}{X:List Nat}{s:St}{w0:World}{xv gt ct gb pc pn:Nat}{f:Nat→Zak}{wb W:World}{m:List (Nat × Nat)}
theorem ZoN{t:List VN}(hc:Zad t=0)(aY:t.length≤11){P at_:Nat}(hP:P<t.length)(cF:at_<t.length)(hu:L.Und t at_ P){φ:L.Asg→Bool}(hd:L.Dep (L.Bel t P) φ){c:Nat}(he:c=L.cnt (L.vl t P) φ) :
  L.nv t P≤L.nv t at_∧L.nv t at_≤6∧L.nv t at_ - L.nv t P<8∧c*2 ^ (L.nv t at_ - L.nv t P)<256∧c<256∧2 ^ (L.nv t at_ - L.nv t P)<256∧L.cnt (L.vl t at_) φ=c*2 ^ (L.nv t at_ - L.nv t P):=by
 obtain⟨h1,h2⟩:=L.cnt_up hc cF hu hd;have h3:=L.nv_le hc cF;have h4:=L.cnt_le (L.vl t at_) φ;have h5:=L.cnt_le (L.vl t P) φ;have h6:(2:Nat) ^ (L.vl t at_).length≤2 ^ 6:=Nat.pow_le_pow_right (by omega) (by show L.nv t at_≤6;omega);have h7:(2:Nat) ^ (L.vl t P).length≤2 ^ 6:=Nat.pow_le_pow_right (by omega) (by show L.nv t P≤6;omega);have h8:(2:Nat) ^ (L.nv t at_ - L.nv t P)≤2 ^ 6:=Nat.pow_le_pow_right (by omega) (by omega);have e:L.cnt (L.vl t at_) φ=c*2 ^ (L.nv t at_ - L.nv t P):=by rw[h2,←he,Nat.mul_comm]
 refine⟨h1,by omega,by omega,by rw[←e];omega,by omega,by omega,e⟩
theorem ZjL(h0:MI0 t sb k X s w0 xv gt ct gb pc pn f wb)(hF:FI t s pc wb m W){a at_:Nat}(h2:2≤a)(cF:at_<t.length){nd:Zaf}{P:Nat}(hn:s.nodes[a]? =some nd)(bv:nd.pl=(P:Nat))(hP:P<t.length)(hu:L.Und t at_ P)(hd:L.Dep (L.Bel t P) (L.sem s.nodes a)){c:Nat}(hm:asc m a=some c)(he:c=L.cnt (L.vl t P) (L.sem s.nodes a)) :
  Calls Tryz.prog 97 #[.pointer (some ⟨xv,0,none⟩),.int .i64 (a:Nat),.int .i64 (at_:Nat)] W (ZmR t s pc wb W (L.cnt (L.vl t at_) (L.sem s.nodes a))):=by
 have hc:=h0.sl.chk;obtain⟨hPn,sX,rJ,rq,rh,pI,dR⟩:=ZoN hc h0.sl.few hP cF hu hd he;replace dR:=Zpe dR;replace he:=Zpe he;have d0:((a:Int) ==0)=false:=by rw[beq_eq_false_iff_ne];omega
 have d1:((a:Int) ==1)=false:=by rw[beq_eq_false_iff_ne];omega
 have aS:=(Zpr W.heap.size W).alloc (ZpD _) (.cells #[.string ⟨#[]⟩] 52);have aC:=Zpm W (.cells #[.string ⟨#[]⟩] 52);obtain⟨w1,aD⟩:∃w1,w1=W.alloc (.cells #[.string ⟨#[]⟩] 52):=⟨_,rfl⟩;rw[←aD]at aS aC;have ft:=hF.below aS;have kY:=h0.vwAt ft.fr;have q1:=(h0.slAt ft.fr).at hn;rw[bv]at q1;have c0:w1.cell? ⟨xv,0,none⟩=some (.pointer (some ⟨sb,0,none⟩)):=by simp[World.cell?,kY.box]
 have c3:w1.cell? ⟨xv,3,none⟩=some (.map (some pc)):=by simp[World.cell?,kY.box]
 rw[aD]at c0 c3
 go_enter Tryz.func97,Tryz.ntmps97
 go_wp2_with fail;rw[←aD]at c0 c3 ⊢;replace aD:=Zpe aD;refine q1.mono ?_;rintro e w2 ⟨rfl,aP⟩;have iO:=ft.below aP;have lk:=iO.look a;rw[hm]at lk;obtain⟨S9,cP⟩:∃S9,Zbx c= .agg #[.string S9]:=⟨_,rfl⟩;rw[show ((some c).map Zhu).getD (Zbx 0)= .agg #[.string S9] from cP,show (some c).isSome=true from rfl]at lk;have e3:=(aP.cell (Zpk _ _ c3)).trans c3;have fX:=(aP.block _ (Zpi aC).1).trans aC;have bP:Below w2.heap.size w2 (w2.alloc (.cells #[.string S9] 52)):=(Zpr _ _).alloc (ZpD _) _;have dM:=iO.below bP;have h9:=Zpm w2 (.cells #[.string S9] 52);have ar:=(bP.block _ (Zpi fX).1).trans fX;have gE:Fr [pc] W (w2.alloc (.cells #[.string S9] 52)):=ZaD pc (aS.trans ((aP.trans (bP.mono aP.size)).mono aS.size));replace cP:=Zpe cP;clear q1 c0 c3 aC kY fX ft;go_wp2_with fail;generalize jg:w2.heap.size=g9 at *;generalize w2.alloc (.cells #[.string S9] 52)=w9 at *;replace jg:=Zpe jg;obtain⟨m9,sS⟩:∃m9,m9=m:=⟨_,rfl⟩;rw[←sS]at dM;have sQ:=(Zpi h9).1;have dV:=(Zpi ar).1;have c9:w9.cell? ⟨g9,0,none⟩=some (.string S9):=by simp[World.cell?,h9]
 have nx:=Zpe fun (V:World) (hV:Below w9.heap.size w9 V)=>ZbR (h0.vwAt (dM.below hV).fr) hc cF
 have jW:=Zpe fun (V:World) (hV:Below w9.heap.size w9 V)=>ZbR (h0.vwAt (dM.below hV).fr) hc hP
 have qp:=Zpe fun V:World=>Zew (w:=V) (n:=L.nv t at_ - L.nv t P) rJ
 have qm:=Zpe fun V:World=>Zet (w:=V) (a:=c) (b:=2 ^ (L.nv t at_ - L.nv t P)) rq rh pI
 have ni:IntKind.i64.wrap ((L.nv t at_:Int) - (L.nv t P:Int))=((L.nv t at_ - L.nv t P:Nat):Int):=by rw[IntWalk.i64_in _ (by omega)];omega
 generalize L.nv t at_ - L.nv t P=D at *;generalize L.nv t at_=N at *;generalize L.nv t P=M at *;rw[show Zbx c= .agg #[.string S9] from cP.out]at qm;replace dM:=Zpe dM;replace ar:=Zpe ar;replace h9:=Zpe h9;(refine ZaQ (S:=(fun V=>Below w9.heap.size w9 V)) 10 (by kernel_rfl) ?_ (fun aA=>?_))
 ·exact(Zpr _ _).drew
 (refine Zac (i:=0) (v:=?_) rfl (by kernel_rfl) (by decide) (by kernel_rfl) (by kernel_rfl) (by kernel_rfl) (fun _ _ _ h=>h) (Or.inl ⟨by rfl,?_⟩) (by assumption) ?_);rotate_left
 ·(intro w aB;(try dsimp only at aB);have z0:=(aB.cell (p:=⟨g9,0,none⟩) sQ).trans c9;go_simp;first|done|with_reducible rfl)
 (try simp only[Act.put,Zpf,Zpg,Zph]);(refine Zac (i:=1) (v:=?_) rfl (by kernel_rfl) (by decide) (by kernel_rfl) (by kernel_rfl) (by kernel_rfl) (fun _ _ _ h=>h) (Or.inl ⟨by rfl,?_⟩) (by assumption) ?_);rotate_left
 ·(intro w aB;(try dsimp only at aB);skip;go_simp;first|done|with_reducible rfl)
 (try simp only[Act.put,Zpf,Zpg,Zph]);(refine Zac (i:=2) (v:=?_) rfl (by kernel_rfl) (by decide) (by kernel_rfl) (by kernel_rfl) (by kernel_rfl) (fun _ _ _ h=>h) (Or.inl ⟨by rfl,?_⟩) (by assumption) ?_);rotate_left
 ·(intro w aB;(try dsimp only at aB);skip;go_simp;first|done|with_reducible rfl)
 (try simp only[Act.put,Zpf,Zpg,Zph]);(refine Zac (i:=4) (v:=?_) rfl (by kernel_rfl) (by decide) (by kernel_rfl) (by kernel_rfl) (by kernel_rfl) (fun _ _ _ h=>h) (Or.inl ⟨by rfl,?_⟩) (by assumption) ?_);rotate_left
 ·(intro w aB;(try dsimp only at aB);skip;go_simp;first|done|with_reducible rfl)
 (try simp only[Act.put,Zpf,Zpg,Zph]);(refine Zac (i:=5) (v:=?_) rfl (by kernel_rfl) (by decide) (by kernel_rfl) (by kernel_rfl) (by kernel_rfl) (fun _ _ _ h=>h) (Or.inl ⟨by rfl,?_⟩) (by assumption) ?_);rotate_left
 ·(intro w aB;(try dsimp only at aB);skip;go_simp;first|done|with_reducible rfl)
 (try simp only[Act.put,Zpf,Zpg,Zph]);(refine ZaI (i:=3) (by kernel_rfl) rfl (fun K hK=>?_))
 ((rw[if_pos (by rfl)]);go_simp;(go_at_call 161);refine(nx.out _ aA).mono ?_;rintro e v1 ⟨rfl,bI⟩;refine hK.out _ _ (aA.trans (bI.below.mono aA.size)) (fun aA=>?_))
 (clear hK K)
 (try simp only[Act.put,Zpf,Zpg,Zph]);(refine ZaI (i:=6) (by kernel_rfl) rfl (fun K hK=>?_))
 ((rw[if_pos (by rfl)]);go_simp;(go_at_call 161);refine(jW.out _ aA).mono ?_;rintro e v2 ⟨rfl,ap⟩;refine hK.out _ _ (aA.trans (ap.below.mono aA.size)) (fun aA=>?_))
 (clear hK K)
 (try simp only[Act.put,Zpf,Zpg,Zph]);(refine Zac (i:=7) (v:=?_) rfl (by kernel_rfl) (by decide) (by kernel_rfl) (by kernel_rfl) (by kernel_rfl) (fun _ _ _ h=>h) (Or.inl ⟨by rfl,?_⟩) (by assumption) ?_);rotate_left
 ·(intro w aB;(try dsimp only at aB);skip;go_simp;first|done|with_reducible rfl)
 (try simp only[Act.put,Zpf,Zpg,Zph]);(refine ZaI (i:=8) (by kernel_rfl) rfl (fun K hK=>?_))
 ((rw[if_pos (by rfl)]);go_simp;(go_at_call 43);refine(qp.out _).mono ?_;rintro e v3 ⟨rfl,cD⟩;refine hK.out _ _ (aA.trans (cD.mono aA.size)) (fun aA=>?_))
 (clear hK K)
 (try simp only[Act.put,Zpf,Zpg,Zph]);(refine ZaI (i:=9) (by kernel_rfl) rfl (fun K hK=>?_))
 ((rw[if_pos (by rfl)]);go_simp;(go_at_call 68);refine(qm.out _).mono ?_;rintro e v4 ⟨rfl,eK⟩;refine hK.out _ _ (aA.trans (eK.mono aA.size)) (fun aA=>?_))
 (clear hK K)
 (try simp only[Act.put,Zpf,Zpg,Zph]);have cd:=(aA.block _ dV).trans ar.out;have fz:v4.frozen? ⟨W.heap.size,0,none⟩=false:=by simp[World.frozen?,cd]
 have bR:v4.cell? ⟨W.heap.size,0,none⟩=some (.string ⟨#[]⟩):=by simp[World.cell?,cd]
 unfold Zbx;generalize hT:(⟨(Zb5 (c*2 ^ D)).toArray⟩:ByteArray)=T at *;have aG:((v4.setCell ⟨W.heap.size,0,none⟩ (.string T)).cell? ⟨W.heap.size,0,none⟩=some (.string T)):=by simp[World.cell?,Zag cd 0 _]
 replace aG:=Zpe aG;have kX:=Zpe ((dM.out.below aA).fresh (r:=W.heap.size) (o:=0) (v:=.string T) hF.fr.size (by have:=hF.mp.lt;omega));have ae:=FrV.trans gE (ZaD pc aA);have gr:Hid (Fr [pc] W (v4.setCell ⟨W.heap.size,0,none⟩ (.string T))):=Zpe ⟨ae.os,ae.tape,ae.output,by have:=ae.size;simpa using this,fun j hj hM=>(Zax 0 _ (by omega)).trans (ae.block j hj hM)⟩;replace cd:=Zpe cd;clear nx jW qp qm aA ae;(refine Zbt (by kernel_rfl) rfl (by kernel_rfl) (fun K hK=>?_))
 ((rw[if_pos (by rfl)]);go_simp;refine hK.out _ _ ?_)
 (clear hK K)
 (try simp only[Act.put,Zpf,Zpg,Zph]);go_wp2_with fail;exact bodyPost_ret (v:=.agg #[.string T]) (by simp[results,Tryz.results97,go_sem,aG.out]) rfl ⟨m9,by rw[←hT,dR.out] <;> rfl,kX.out,gr.out⟩
theorem ZjM(h0:MI0 t sb k X s w0 xv gt ct gb pc pn f wb)(hF:FI t s pc wb m W){a at_:Nat}(h2:2≤a)(cF:at_<t.length){nd:Zaf}{P:Nat}(hn:s.nodes[a]? =some nd)(bv:nd.pl=(P:Nat))(hP:P<t.length)(hu:L.Und t at_ P)(hd:L.Dep (L.Bel t P) (L.sem s.nodes a))(hm:asc m a=none)(cG:nd.el=[])(he:1=L.cnt (L.vl t P) (L.sem s.nodes a)) :
  Calls Tryz.prog 97 #[.pointer (some ⟨xv,0,none⟩),.int .i64 (a:Nat),.int .i64 (at_:Nat)] W (ZmR t s pc wb W (L.cnt (L.vl t at_) (L.sem s.nodes a))):=by
 have hc:=h0.sl.chk;obtain⟨c,eC⟩:∃c,c=1:=⟨_,rfl⟩;rw[←eC]at he;obtain⟨hPn,sX,rJ,rq,rh,pI,dR⟩:=ZoN hc h0.sl.few hP cF hu hd he;replace dR:=Zpe dR;replace he:=Zpe he;have d0:((a:Int) ==0)=false:=by rw[beq_eq_false_iff_ne];omega
 have d1:((a:Int) ==1)=false:=by rw[beq_eq_false_iff_ne];omega
 have aS:=(Zpr W.heap.size W).alloc (ZpD _) (.cells #[.string ⟨#[]⟩] 52);have aC:=Zpm W (.cells #[.string ⟨#[]⟩] 52);obtain⟨w1,aD⟩:∃w1,w1=W.alloc (.cells #[.string ⟨#[]⟩] 52):=⟨_,rfl⟩;rw[←aD]at aS aC;have ft:=hF.below aS;have kY:=h0.vwAt ft.fr;have q1:=(h0.slAt ft.fr).at hn;rw[bv]at q1;have c0:w1.cell? ⟨xv,0,none⟩=some (.pointer (some ⟨sb,0,none⟩)):=by simp[World.cell?,kY.box]
 have c3:w1.cell? ⟨xv,3,none⟩=some (.map (some pc)):=by simp[World.cell?,kY.box]
 rw[aD]at c0 c3
 go_enter Tryz.func97,Tryz.ntmps97
 go_wp2_with fail;rw[←aD]at c0 c3 ⊢;replace aD:=Zpe aD;refine q1.mono ?_;rintro e w2 ⟨rfl,aP⟩;have iO:=ft.below aP;have lk:=iO.look a;rw[hm,show ((none:Option Nat).map Zhu).getD (Zbx 0)= .agg #[.string ⟨#[]⟩] from rfl,show (none:Option Nat).isSome=false from rfl]at lk;have e3:=(aP.cell (Zpk _ _ c3)).trans c3;have fX:=(aP.block _ (Zpi aC).1).trans aC;have aa:Below w2.heap.size w2 (w2.alloc (.cells #[.string ⟨#[]⟩] 52)):=(Zpr _ _).alloc (ZpD _) _;have j4:=iO.below aa;have h3:=Zpm w2 (.cells #[.string ⟨#[]⟩] 52);have dd:=(aa.block _ (Zpi fX).1).trans fX;have bq:Fr [pc] W (w2.alloc (.cells #[.string ⟨#[]⟩] 52)):=ZaD pc (aS.trans ((aP.trans (aa.mono aP.size)).mono aS.size));have q4:=(h0.slAt j4.fr).elements hn;rw[cG,show ([]:List (Nat × Nat)).length=0 from rfl]at q4;have k0:(w2.alloc (.cells #[.string ⟨#[]⟩] 52)).cell? ⟨xv,0,none⟩=some (.pointer (some ⟨sb,0,none⟩)):=by simp[World.cell?,(h0.vwAt j4.fr).box]
 have q5:=fun V:World=>Ze4 (w:=V) (n:=1) (by omega)
 clear q1 c0 c3 aC kY fX ft;go_wp2_with fail;generalize jg:w2.heap.size=g9 at *;generalize w2.alloc (.cells #[.string ⟨#[]⟩] 52)=w3 at *;replace jg:=Zpe jg;refine q4.mono ?_;rintro e w4 ⟨ba,cap,rfl,_,bF⟩;have oI:=j4.below bF;have h4:=(bF.block _ (Zpi h3).1).trans h3;have eg:=(bF.block _ (Zpi dd).1).trans dd;have iq:=FrV.trans bq (ZaD pc bF);have q5':=q5 w4;clear q4 j4 h3 dd bq k0 lk e3 q5;go_wp2_with fail;refine q5'.mono ?_;rintro e w5 ⟨rfl,aj⟩;have oJ:=oI.below aj;have h5:=(aj.block _ (Zpi h4).1).trans h4;have eT:=(aj.block _ (Zpi eg).1).trans eg;have gD:=FrV.trans iq (ZaD pc aj);have x9:w5.cell? ⟨g9,0,none⟩=some (.string ⟨#[]⟩):=by simp[World.cell?,h5]
 have z9:w5.frozen? ⟨g9,0,none⟩=false:=by simp[World.frozen?,h5]
 obtain⟨S9,cP⟩:∃S9,Zbx c= .agg #[.string S9]:=⟨_,rfl⟩;rw[←eC,cP];replace cP:=Zpe cP;replace eC:=Zpe eC;clear q5' oI h4 eg iq;go_wp2_with fail;refine wp_loop_rounds 1 ?_;rw[rounds_succ];go_wp2_with fail;have kM:wb.heap.size≤g9∧g9≠pc:=by have:=iO.fr.size;have:=iO.mp.lt;have:=jg.out;omega
 have hgW:W.heap.size<g9:=by have h8:=jg.out;have:=aP.size;have:=aS.size;have:=aD.out;rw[this]at aP;have:=aP.size;simp at this;omega
 have iZ:=oJ.fresh (r:=g9) (o:=0) (v:=.string S9) kM.1 kM.2;have h8:(w5.setCell ⟨g9,0,none⟩ (.string S9)).heap[g9]? =some (.cells #[.string S9] 52 (0,0)):=Zag h5 0 _;have cC:=(Zax (w:=w5) (b:=g9) (k:=W.heap.size) 0 (.string S9) (by omega)).trans eT;have gu:Fr [pc] W (w5.setCell ⟨g9,0,none⟩ (.string S9)):=⟨gD.os,gD.tape,gD.output,by have:=gD.size;simpa using this,fun j hj hM=>(Zax 0 _ (by omega)).trans (gD.block j hj hM)⟩;generalize w5.setCell ⟨g9,0,none⟩ (.string S9)=w8 at *;clear oJ h5 eT gD x9 z9 aj bF;have x3:w8.cell? ⟨xv,3,none⟩=some (.map (some pc)):=by simp[World.cell?,(h0.vwAt iZ.fr).box]
 have x9:w8.cell? ⟨g9,0,none⟩=some (.string S9):=by simp[World.cell?,h8]
 have oK:=iZ.below ((Zpr w8.heap.size w8).drew);obtain⟨dY,dM,ku⟩:=oK.put a c ⟨nd,P,hn,bv,hP,he.out⟩;rw[cP.out]at dY
 have oh:g9≠pc:=by
  intro e;obtain⟨L0,qq,iz,_⟩:=iZ.mp;rw[←e,h8]at iz;simp at iz
 have rV:W.heap.size≠pc:=by have:=hF.mp.lt;omega
 have h9:=(Zai (P:=Tryz.prog) 3 w8.drew pc (Zab a) (Zhu c) g9 oh).trans h8;have ar:=(Zai (P:=Tryz.prog) 3 w8.drew pc (Zab a) (Zhu c) W.heap.size rV).trans cC;have gE:=FrV.trans (FrV.trans gu (ZaD pc ((Zpr w8.heap.size w8).drew))) ku;replace dM:=Zpe dM;replace h9:=Zpe h9;replace ar:=Zpe ar;replace h8:=Zpe h8;replace cC:=Zpe cC;replace iZ:=Zpe iZ;(refine ZaQ (S:=(fun V=>V.cell? ⟨xv,3,none⟩=some (.map (some pc))∧V.cell? ⟨g9,0,none⟩=some (.string S9))) 6 (by kernel_rfl) ?_ (fun aA=>?_))
 ·exact⟨x3,x9⟩
 (refine Zac (i:=0) (v:=?_) rfl (by kernel_rfl) (by decide) (by kernel_rfl) (by kernel_rfl) (by kernel_rfl) (fun _ _ _ h=>h) (Or.inl ⟨by rfl,?_⟩) (by assumption) ?_);rotate_left
 ·(intro w aB;(try dsimp only at aB);skip;go_simp;first|done|with_reducible rfl)
 (try simp only[Act.put,Zpf,Zpg,Zph]);(refine Zac (i:=1) (v:=?_) rfl (by kernel_rfl) (by decide) (by kernel_rfl) (by kernel_rfl) (by kernel_rfl) (fun _ _ _ h=>h) (Or.inl ⟨by rfl,?_⟩) (by assumption) ?_);rotate_left
 ·(intro w aB;(try dsimp only at aB);skip;go_simp;first|done|with_reducible rfl)
 (try simp only[Act.put,Zpf,Zpg,Zph]);(refine Zac (i:=2) (v:=?_) rfl (by kernel_rfl) (by decide) (by kernel_rfl) (by kernel_rfl) (by kernel_rfl) (fun _ _ _ h=>h) (Or.inl ⟨by rfl,?_⟩) (by assumption) ?_);rotate_left
 ·(intro w aB;(try dsimp only at aB);skip;go_simp;first|done|with_reducible rfl)
 (try simp only[Act.put,Zpf,Zpg,Zph]);(refine Zac (i:=3) (v:=?_) rfl (by kernel_rfl) (by decide) (by kernel_rfl) (by kernel_rfl) (by kernel_rfl) (fun _ _ _ h=>h) (Or.inl ⟨by rfl,?_⟩) (by assumption) ?_);rotate_left
 ·(intro w aB;(try dsimp only at aB);obtain⟨z3,z9⟩:=aB;go_simp;first|done|with_reducible rfl)
 (try simp only[Act.put,Zpf,Zpg,Zph]);(refine Zac (i:=4) (v:=?_) rfl (by kernel_rfl) (by decide) (by kernel_rfl) (by kernel_rfl) (by kernel_rfl) (fun _ _ _ h=>h) (Or.inl ⟨by rfl,?_⟩) (by assumption) ?_);rotate_left
 ·(intro w aB;(try dsimp only at aB);skip;go_simp;first|done|with_reducible rfl)
 (try simp only[Act.put,Zpf,Zpg,Zph]);(refine Zac (i:=5) (v:=?_) rfl (by kernel_rfl) (by decide) (by kernel_rfl) (by kernel_rfl) (by kernel_rfl) (fun _ _ _ h=>h) (Or.inl ⟨by rfl,?_⟩) (by assumption) ?_);rotate_left
 ·(intro w aB;(try dsimp only at aB);obtain⟨z3,z9⟩:=aB;go_simp;first|done|with_reducible rfl)
 (try simp only[Act.put,Zpf,Zpg,Zph]);(refine Zbt (by kernel_rfl) rfl (by kernel_rfl) (fun K hK=>?_))
 ((rw[if_pos (by rfl)]);go_simp;refine hK.out _ _ ?_)
 (clear hK K)
 (try simp only[Act.put,Zpf,Zpg,Zph]);clear dY ku x3 x9;go_wp2_with fail;generalize Zap 3 Tryz.prog w8.drew pc (Zab a) (Zhu c)=w9 at *;replace dM:=dM.out;replace h9:=h9.out;replace ar:=ar.out;obtain⟨m9,sS⟩:∃m9,m9=(a,c) :: m:=⟨_,rfl⟩;rw[←sS]at dM;have sQ:=(Zpi h9).1;have dV:=(Zpi ar).1;have c9:w9.cell? ⟨g9,0,none⟩=some (.string S9):=by simp[World.cell?,h9]
 have nx:=Zpe fun (V:World) (hV:Below w9.heap.size w9 V)=>ZbR (h0.vwAt (dM.below hV).fr) hc cF
 have jW:=Zpe fun (V:World) (hV:Below w9.heap.size w9 V)=>ZbR (h0.vwAt (dM.below hV).fr) hc hP
 have qp:=Zpe fun V:World=>Zew (w:=V) (n:=L.nv t at_ - L.nv t P) rJ
 have qm:=Zpe fun V:World=>Zet (w:=V) (a:=c) (b:=2 ^ (L.nv t at_ - L.nv t P)) rq rh pI
 have ni:IntKind.i64.wrap ((L.nv t at_:Int) - (L.nv t P:Int))=((L.nv t at_ - L.nv t P:Nat):Int):=by rw[IntWalk.i64_in _ (by omega)];omega
 generalize L.nv t at_ - L.nv t P=D at *;generalize L.nv t at_=N at *;generalize L.nv t P=M at *;rw[show Zbx c= .agg #[.string S9] from cP.out]at qm;replace dM:=Zpe dM;replace ar:=Zpe ar;replace h9:=Zpe h9;(refine ZaQ (S:=(fun V=>Below w9.heap.size w9 V)) 10 (by kernel_rfl) ?_ (fun aA=>?_))
 ·exact(Zpr _ _).drew
 (refine Zac (i:=0) (v:=?_) rfl (by kernel_rfl) (by decide) (by kernel_rfl) (by kernel_rfl) (by kernel_rfl) (fun _ _ _ h=>h) (Or.inl ⟨by rfl,?_⟩) (by assumption) ?_);rotate_left
 ·(intro w aB;(try dsimp only at aB);have z0:=(aB.cell (p:=⟨g9,0,none⟩) sQ).trans c9;go_simp;first|done|with_reducible rfl)
 (try simp only[Act.put,Zpf,Zpg,Zph]);(refine Zac (i:=1) (v:=?_) rfl (by kernel_rfl) (by decide) (by kernel_rfl) (by kernel_rfl) (by kernel_rfl) (fun _ _ _ h=>h) (Or.inl ⟨by rfl,?_⟩) (by assumption) ?_);rotate_left
 ·(intro w aB;(try dsimp only at aB);skip;go_simp;first|done|with_reducible rfl)
 (try simp only[Act.put,Zpf,Zpg,Zph]);(refine Zac (i:=2) (v:=?_) rfl (by kernel_rfl) (by decide) (by kernel_rfl) (by kernel_rfl) (by kernel_rfl) (fun _ _ _ h=>h) (Or.inl ⟨by rfl,?_⟩) (by assumption) ?_);rotate_left
 ·(intro w aB;(try dsimp only at aB);skip;go_simp;first|done|with_reducible rfl)
 (try simp only[Act.put,Zpf,Zpg,Zph]);(refine Zac (i:=4) (v:=?_) rfl (by kernel_rfl) (by decide) (by kernel_rfl) (by kernel_rfl) (by kernel_rfl) (fun _ _ _ h=>h) (Or.inl ⟨by rfl,?_⟩) (by assumption) ?_);rotate_left
 ·(intro w aB;(try dsimp only at aB);skip;go_simp;first|done|with_reducible rfl)
 (try simp only[Act.put,Zpf,Zpg,Zph]);(refine Zac (i:=5) (v:=?_) rfl (by kernel_rfl) (by decide) (by kernel_rfl) (by kernel_rfl) (by kernel_rfl) (fun _ _ _ h=>h) (Or.inl ⟨by rfl,?_⟩) (by assumption) ?_);rotate_left
 ·(intro w aB;(try dsimp only at aB);skip;go_simp;first|done|with_reducible rfl)
 (try simp only[Act.put,Zpf,Zpg,Zph]);(refine ZaI (i:=3) (by kernel_rfl) rfl (fun K hK=>?_))
 ((rw[if_pos (by rfl)]);go_simp;(go_at_call 161);refine(nx.out _ aA).mono ?_;rintro e v1 ⟨rfl,bI⟩;refine hK.out _ _ (aA.trans (bI.below.mono aA.size)) (fun aA=>?_))
 (clear hK K)
 (try simp only[Act.put,Zpf,Zpg,Zph]);(refine ZaI (i:=6) (by kernel_rfl) rfl (fun K hK=>?_))
 ((rw[if_pos (by rfl)]);go_simp;(go_at_call 161);refine(jW.out _ aA).mono ?_;rintro e v2 ⟨rfl,ap⟩;refine hK.out _ _ (aA.trans (ap.below.mono aA.size)) (fun aA=>?_))
 (clear hK K)
 (try simp only[Act.put,Zpf,Zpg,Zph]);(refine Zac (i:=7) (v:=?_) rfl (by kernel_rfl) (by decide) (by kernel_rfl) (by kernel_rfl) (by kernel_rfl) (fun _ _ _ h=>h) (Or.inl ⟨by rfl,?_⟩) (by assumption) ?_);rotate_left
 ·(intro w aB;(try dsimp only at aB);skip;go_simp;first|done|with_reducible rfl)
 (try simp only[Act.put,Zpf,Zpg,Zph]);(refine ZaI (i:=8) (by kernel_rfl) rfl (fun K hK=>?_))
 ((rw[if_pos (by rfl)]);go_simp;(go_at_call 43);refine(qp.out _).mono ?_;rintro e v3 ⟨rfl,cD⟩;refine hK.out _ _ (aA.trans (cD.mono aA.size)) (fun aA=>?_))
 (clear hK K)
 (try simp only[Act.put,Zpf,Zpg,Zph]);(refine ZaI (i:=9) (by kernel_rfl) rfl (fun K hK=>?_))
 ((rw[if_pos (by rfl)]);go_simp;(go_at_call 68);refine(qm.out _).mono ?_;rintro e v4 ⟨rfl,eK⟩;refine hK.out _ _ (aA.trans (eK.mono aA.size)) (fun aA=>?_))
 (clear hK K)
 (try simp only[Act.put,Zpf,Zpg,Zph]);have cd:=(aA.block _ dV).trans ar.out;have fz:v4.frozen? ⟨W.heap.size,0,none⟩=false:=by simp[World.frozen?,cd]
 have bR:v4.cell? ⟨W.heap.size,0,none⟩=some (.string ⟨#[]⟩):=by simp[World.cell?,cd]
 unfold Zbx;generalize hT:(⟨(Zb5 (c*2 ^ D)).toArray⟩:ByteArray)=T at *;have aG:((v4.setCell ⟨W.heap.size,0,none⟩ (.string T)).cell? ⟨W.heap.size,0,none⟩=some (.string T)):=by simp[World.cell?,Zag cd 0 _]
 replace aG:=Zpe aG;have kX:=Zpe ((dM.out.below aA).fresh (r:=W.heap.size) (o:=0) (v:=.string T) hF.fr.size (by have:=hF.mp.lt;omega));have ae:=FrV.trans gE (ZaD pc aA);have gr:Hid (Fr [pc] W (v4.setCell ⟨W.heap.size,0,none⟩ (.string T))):=Zpe ⟨ae.os,ae.tape,ae.output,by have:=ae.size;simpa using this,fun j hj hM=>(Zax 0 _ (by omega)).trans (ae.block j hj hM)⟩;replace cd:=Zpe cd;clear nx jW qp qm aA ae;(refine Zbt (by kernel_rfl) rfl (by kernel_rfl) (fun K hK=>?_))
 ((rw[if_pos (by rfl)]);go_simp;refine hK.out _ _ ?_)
 (clear hK K)
 (try simp only[Act.put,Zpf,Zpg,Zph]);go_wp2_with fail;exact bodyPost_ret (v:=.agg #[.string T]) (by simp[results,Tryz.results97,go_sem,aG.out]) rfl ⟨m9,by rw[←hT,dR.out] <;> rfl,kX.out,gr.out⟩
end
end Go.Proofs.YtmnjakejhbpkoaaGreatDoor
