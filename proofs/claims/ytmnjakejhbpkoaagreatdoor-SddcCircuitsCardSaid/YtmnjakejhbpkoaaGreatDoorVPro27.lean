import Derived.Test.YtmnjakejhbpkoaaGreatDoorVJoin
import Derived.Shelf.SlIterI.Collect
set_option linter.unusedSimpArgs false
set_option linter.unusedVariables false
set_option maxRecDepth 100000
set_option maxHeartbeats 8000000
section
namespace Go.Proofs.YtmnjakejhbpkoaaGreatDoor
open Go Go.RowKit Go.Shelf
theorem Zmy{t:List VN}(w:World)(ba:Option Addr)(cap:Nat)(need:Zak)(h:t=[]∨∃b o,ba=some ⟨b,o,none⟩∧Zam w b o t)(hc:Zad t≠0) :
  Calls Tryz.prog 79 #[.slice ba t.length cap,.agg #[.int .u64 (lo need),.int .u64 (hi need)]] w fun e w'=>e= .returned (.tuple #[.pointer none,.int .i64 (Zad t)])∧Ext w w':=by
 have aC:=(Ext.refl w).alloc (.cells #[.int .u64 (lo need),.int .u64 (hi need)] 41);have q:=ZbZ (w.alloc (.cells #[.int .u64 (lo need),.int .u64 (hi need)] 41)) ba cap (h.imp id fun ⟨b,o,e,ht⟩=>⟨b,o,e,ht.ext aC⟩);have hd:(Zad t !=0)=true:=by simpa using hc
 generalize Zad t=z at *;clear hc h
 go_enter Tryz.func79,Tryz.ntmps79
 go_wp2_with fail;refine q.mono ?_;rintro e w2 ⟨rfl,aF⟩;clear q;go_wp2_with fail;go_ret2;exact⟨rfl,aC.trans aF⟩
theorem ZnK{t:List VN}(w:World)(b o cap:Nat)(need:Zak)(h:Zam w b o t)(hc:Zad t=0)(bJ:∃u,Zau need u=true∧¬ Zbm t u) :
  Calls Tryz.prog 79 #[.slice (some ⟨b,o,none⟩) t.length cap,.agg #[.int .u64 (lo need),.int .u64 (hi need)]] w fun e w'=>e= .returned (.tuple #[.pointer none,.int .i64 1])∧Below w.heap.size w w':=by
 have aC:=(Ext.refl w).alloc (.cells #[.int .u64 (lo need),.int .u64 (hi need)] 41);have aX:=Zpm w (.cells #[.int .u64 (lo need),.int .u64 (hi need)] 41);obtain⟨w1,aD⟩:∃w1,w1=w.alloc (.cells #[.int .u64 (lo need),.int .u64 (hi need)] 41):=⟨_,rfl⟩;rw[←aD]at aC aX;have q:=ZbZ w1 (some ⟨b,o,none⟩) cap (.inr ⟨b,o,rfl,h.ext aC⟩);rw[hc]at q;have h1:=h.ext aC;replace aC:=Zpe aC;replace bJ:=Zpe bJ;replace hc:=Zpe hc
 go_enter Tryz.func79,Tryz.ntmps79
 go_wp2_with fail;rw[←aD];replace aD:=Zpe aD;refine q.mono ?_;rintro e w2 ⟨rfl,aF⟩;have dW:=(aF.below.block _ (Zpi aX).1).trans aX;have h2:=h1.ext aF;have c0:w2.cell? ⟨w.heap.size,0,none⟩=some (.int .u64 (lo need)):=by simp[World.cell?,dW]
 have c1:w2.cell? ⟨w.heap.size,1,none⟩=some (.int .u64 (hi need)):=by simp[World.cell?,dW]
 have bK:=aC.out.trans aF;replace bK:=Zpe bK;replace h2:=Zpe h2;clear q aX dW h1 aF;go_wp2_with fail;(refine wp_region_held_drew (S:=(fun V=>V.cell? ⟨w.heap.size,0,none⟩=some (.int .u64 (lo need))∧V.cell? ⟨w.heap.size,1,none⟩=some (.int .u64 (hi need)))) (by kernel_rfl) ?_ (fun aA=>?_))
 ·exact⟨c0,c1⟩
 (refine ZpE (i:=0) (v:=?_) rfl (by kernel_rfl) (fun _ _ _ h=>h) (Or.inl ⟨by rfl,?_⟩) (by assumption) ?_);rotate_left
 ·(intro w aB;(try dsimp only at aB);go_simp;first|done|with_reducible rfl)
 (try simp only[Act.put,Zpf,Zpg,Zph]);(refine ZpE (i:=1) (v:=?_) rfl (by kernel_rfl) (fun _ _ _ h=>h) (Or.inl ⟨by rfl,?_⟩) (by assumption) ?_);rotate_left
 ·(intro w aB;(try dsimp only at aB);go_simp;first|done|with_reducible rfl)
 (try simp only[Act.put,Zpf,Zpg,Zph]);have qa:=fun V (hV:Zam V b o t)=>Zi5 (cap:=cap) V b o hV hc.out
 have qs:=fun m V=>Zfk need m V
 unfold ZaT at qs;replace qa:=Zpe qa;replace qs:=Zpe qs;(refine wpAnyH_ready (rs:=[2]) (by kernel_rfl) (by simp) ?_);(refine Zaw rfl (fun K hK=>?_))
 ((rw[if_pos (by rfl)]);go_simp;(go_at_call 150);refine(qa.out _ (h2.out.below ((Zpr _ _).drew))).mono ?_;rintro e w3 ⟨m,rfl,hm,aa⟩;refine hK.out _ _ ⟨(aa.cell (Zpk _ _ aA.1)).trans aA.1,(aa.cell (Zpk _ _ aA.2)).trans aA.2⟩ (fun aA=>?_))
 (clear hK K)
 (try simp only[Act.put,Zpf,Zpg,Zph]);have jW:=qs.out m;replace hm:=Zpe hm;(refine wpAnyH_ready (rs:=[3]) (by kernel_rfl) (by simp) ?_);(refine Zaw rfl (fun K hK=>?_))
 ((rw[if_pos (by rfl)]);go_simp;(go_at_call 111);refine(jW _).mono ?_;rintro e w4 ⟨rfl,ah⟩;refine hK.out _ _ ⟨ah.cell aA.1,ah.cell aA.2⟩ (fun aA=>?_))
 (clear hK K)
 (try simp only[Act.put,Zpf,Zpg,Zph]);(refine ZpE (i:=4) (v:=?_) rfl (by kernel_rfl) (fun _ _ _ h=>h) (Or.inl ⟨by rfl,?_⟩) (by assumption) ?_);rotate_left
 ·(intro w aB;(try dsimp only at aB);go_simp;first|done|with_reducible rfl)
 (try simp only[Act.put,Zpf,Zpg,Zph]);(refine wpAnyH_done (by kernel_rfl) ?_ _);have aP:Below w2.heap.size w2 w3:=((Zpr _ _).drew).trans aa;have cu:Below w.heap.size w w4:=bK.out.below.trans ((aP.trans (ah.below.mono aP.size)).mono bK.out.below.size);have h4:Zam w4 b o t:=(h2.out.below aP).ext ah
 have hs:ZnP need m=false:=by
  cases e:ZnP need m
  ·rfl
  ·obtain⟨u,hu,hnu⟩:=bJ.out
   exact absurd ((Zem hc.out u).1 ((Zbu hm.out (L.hasS_range hu)).1 ((Zi1 _ _).1 e u hu))) hnu
 rw[hs];replace cu:=Zpe cu;clear jW qs qa ah aa aP h4 aA;go_wp2_with fail;go_ret2;exact⟨rfl,cu.out⟩
theorem Zlh{t:List VN}(w:World)(b o cap:Nat)(need:Zak)(h:Zam w b o t)(hc:Zad t=0)(bJ:∀u,Zau need u=true→Zbm t u){w0:World}(bD:Below w0.heap.size w0 w)(hT:ZaX w)(hP:Za7 w)(aY:t.length≤11) :
  Calls Tryz.prog 79 #[.slice (some ⟨b,o,none⟩) t.length cap,.agg #[.int .u64 (lo need),.int .u64 (hi need)]] w fun e w'=>∃sb,e= .returned (.tuple #[.pointer (some ⟨sb,0,none⟩),.int .i64 0])∧SL t sb 327000 [] (Za3 t) w0 w'∧Val (Za3 t) 0 (fun _=>false)∧Val (Za3 t) 1 (fun _=>true)∧Below w.heap.size w w':=by
 replace bD:=Zpe bD;replace hT:=Zpe hT;replace hP:=Zpe hP;have aC:=(Ext.refl w).alloc (.cells #[.int .u64 (lo need),.int .u64 (hi need)] 41);have aX:=Zpm w (.cells #[.int .u64 (lo need),.int .u64 (hi need)] 41);obtain⟨w1,aD⟩:∃w1,w1=w.alloc (.cells #[.int .u64 (lo need),.int .u64 (hi need)] 41):=⟨_,rfl⟩;rw[←aD]at aC aX;have q:=ZbZ w1 (some ⟨b,o,none⟩) cap (.inr ⟨b,o,rfl,h.ext aC⟩);rw[hc]at q;have h1:=h.ext aC;replace aC:=Zpe aC;replace bJ:=Zpe bJ;replace hc:=Zpe hc
 go_enter Tryz.func79,Tryz.ntmps79
 go_wp2_with fail;rw[←aD];replace aD:=Zpe aD;refine q.mono ?_;rintro e w2 ⟨rfl,aF⟩;have dW:=(aF.below.block _ (Zpi aX).1).trans aX;have h2:=h1.ext aF;have c0:w2.cell? ⟨w.heap.size,0,none⟩=some (.int .u64 (lo need)):=by simp[World.cell?,dW]
 have c1:w2.cell? ⟨w.heap.size,1,none⟩=some (.int .u64 (hi need)):=by simp[World.cell?,dW]
 have bK:=aC.out.trans aF;replace bK:=Zpe bK;replace h2:=Zpe h2;clear q aX dW h1 aF;go_wp2_with fail;(refine wp_region_held_drew (S:=(fun V=>V.cell? ⟨w.heap.size,0,none⟩=some (.int .u64 (lo need))∧V.cell? ⟨w.heap.size,1,none⟩=some (.int .u64 (hi need)))) (by kernel_rfl) ?_ (fun aA=>?_))
 ·exact⟨c0,c1⟩
 (refine ZpE (i:=0) (v:=?_) rfl (by kernel_rfl) (fun _ _ _ h=>h) (Or.inl ⟨by rfl,?_⟩) (by assumption) ?_);rotate_left
 ·(intro w aB;(try dsimp only at aB);go_simp;first|done|with_reducible rfl)
 (try simp only[Act.put,Zpf,Zpg,Zph]);(refine ZpE (i:=1) (v:=?_) rfl (by kernel_rfl) (fun _ _ _ h=>h) (Or.inl ⟨by rfl,?_⟩) (by assumption) ?_);rotate_left
 ·(intro w aB;(try dsimp only at aB);go_simp;first|done|with_reducible rfl)
 (try simp only[Act.put,Zpf,Zpg,Zph]);have qa:=fun V (hV:Zam V b o t)=>Zi5 (cap:=cap) V b o hV hc.out
 have qs:=fun m V=>Zfk need m V
 unfold ZaT at qs;replace qa:=Zpe qa;replace qs:=Zpe qs;(refine wpAnyH_ready (rs:=[2]) (by kernel_rfl) (by simp) ?_);(refine Zaw rfl (fun K hK=>?_))
 ((rw[if_pos (by rfl)]);go_simp;(go_at_call 150);refine(qa.out _ (h2.out.below ((Zpr _ _).drew))).mono ?_;rintro e w3 ⟨m,rfl,hm,aa⟩;refine hK.out _ _ ⟨(aa.cell (Zpk _ _ aA.1)).trans aA.1,(aa.cell (Zpk _ _ aA.2)).trans aA.2⟩ (fun aA=>?_))
 (clear hK K)
 (try simp only[Act.put,Zpf,Zpg,Zph]);have jW:=qs.out m;replace hm:=Zpe hm;(refine wpAnyH_ready (rs:=[3]) (by kernel_rfl) (by simp) ?_);(refine Zaw rfl (fun K hK=>?_))
 ((rw[if_pos (by rfl)]);go_simp;(go_at_call 111);refine(jW _).mono ?_;rintro e w4 ⟨rfl,ah⟩;refine hK.out _ _ ⟨ah.cell aA.1,ah.cell aA.2⟩ (fun aA=>?_))
 (clear hK K)
 (try simp only[Act.put,Zpf,Zpg,Zph]);(refine ZpE (i:=4) (v:=?_) rfl (by kernel_rfl) (fun _ _ _ h=>h) (Or.inl ⟨by rfl,?_⟩) (by assumption) ?_);rotate_left
 ·(intro w aB;(try dsimp only at aB);go_simp;first|done|with_reducible rfl)
 (try simp only[Act.put,Zpf,Zpg,Zph]);(refine wpAnyH_done (by kernel_rfl) ?_ _);have aP:Below w2.heap.size w2 w3:=((Zpr _ _).drew).trans aa;have cu:Below w.heap.size w w4:=bK.out.below.trans ((aP.trans (ah.below.mono aP.size)).mono bK.out.below.size);have h4:Zam w4 b o t:=(h2.out.below aP).ext ah;have hs:ZnP need m=true:=(Zi1 _ _).2 fun u hu=>(Zbu hm.out (L.hasS_range hu)).2 ((Zem hc.out u).2 (bJ.out u hu))
 rw[hs];have q:=ZoT (w0:=w0) b o cap (bD.out.trans (cu.mono bD.out.size)) (hT.out.below hT.out.lt cu) (hP.out.below cu) h4 hc.out aY;replace cu:=Zpe cu;clear jW qs qa ah aa aP h4 aA;go_wp2_with fail;refine q.mono ?_;rintro e w5 ⟨sb,rfl,cT,v0,v1,aj⟩;replace cT:=Zpe cT;clear q;go_wp2_with fail;go_ret2;exact⟨sb,rfl,cT.out,v0,v1,cu.out.trans (aj.mono cu.out.size)⟩
theorem SL.base{t:List VN}{sb k:Nat}{X:List Nat}{s:St}{w0 w1 w:World}(h:SL t sb k X s w1 w)(hb:Below w0.heap.size w0 w1):SL t sb k X s w0 w:=by
 obtain⟨B,h1,h2,h3,h4⟩:=h.on;exact⟨⟨B,h1,h2,fun j hj=>Zpp hb.size (h3 j hj),h4⟩,h.room,h.tree,hb.trans (h.bel.mono hb.size)⟩
theorem Zjl{n:Int}{T:List (List Int)}{v:Value}{w:World}(hv:SlT w v T){t:List VN}(b o cap:Nat)(aq:L.thChk n T=0)(h30:T.length≤30)(eV:Zam w b o t)(hc:Zad t=0)(aY:t.length≤11)(bz:∀u,Zau (L.thVars T) u=true→Zbm t u)(hT:ZaX w)(hP:Za7 w) :
  Calls Tryz.prog 19 #[.agg #[.int .i64 n,v],.slice (some ⟨b,o,none⟩) t.length cap] w fun e w'=>∃(sb root:Nat) (s:St),e= .returned (.tuple #[.pointer (some ⟨sb,0,none⟩),.int .i64 (root:Nat),.int .i64 0])∧SL t sb 50820 [] s w w'∧Val s root (L.thφ T)∧Below w.heap.size w w':=by
 obtain⟨⟨cO,pE⟩,_,aN⟩:=L.thChk_ok.1 aq;have aC:=(Ext.refl w).alloc (.cells #[.int .i64 n,v] 24);have aX:=Zpm w (.cells #[.int .i64 n,v] 24);have q:=Zfg (n:=n) (hv.ext aC.below);rw[aq]at q;have hz:ZcR<w.heap.size∧gTz<w.heap.size:=⟨hP.lt,hT.lt'⟩
 have jQ:∀c∈T,∀l∈c,Zbm t (l.natAbs:Int):=fun c hc l hl=>by
  have h1:=L.validB_range pE ((aN c hc).2 l hl);exact bz _ ((L.hasS_thVars T _).2 ⟨c,hc,l,hl,rfl,h1.1,h1.2.2⟩)
 have lj:∀c∈T,c.length≤128:=fun c hc=>(aN c hc).1
 obtain⟨w1,aD⟩:∃w1,w1=w.alloc (.cells #[.int .i64 n,v] 24):=⟨_,rfl⟩;rw[←aD]at aC aX q;have c0:w1.cell? ⟨w.heap.size,0,none⟩=some (.int .i64 n):=by simp[World.cell?,aX]
 have c1:w1.cell? ⟨w.heap.size,1,none⟩=some v:=by simp[World.cell?,aX]
 have pX:=Zpe hv;obtain⟨eO,c2,rfl,gV⟩:=hv
 have aO:∀j (hj:j<T.length),∃b o u,eO=some ⟨b,o,none⟩∧w.cell? ⟨b,o+j,none⟩=some u∧SlI w u T[j]:=fun j hj=>by
  rcases gV with ⟨_,rfl,_⟩|⟨b,o,rfl,h⟩
  ·simp at hj
  ·obtain⟨u,h1,h2⟩:=h j hj
   exact⟨b,o,u,rfl,h1,h2⟩
 replace aO:=Zpe aO;replace aq:=Zpe aq;replace hc:=Zpe hc;replace hT:=Zpe hT;replace hP:=Zpe hP;replace jQ:=Zpe jQ;replace lj:=Zpe lj;replace bz:=Zpe bz;replace eV:=Zpe eV;clear aX aN gV
 go_enter Tryz.func19,Tryz.ntmps19
 go_wp2_with fail;rw[←aD];replace aD:=Zpe aD;refine q.mono ?_;rintro e w2 ⟨rfl,aF⟩;have bK:=aC.trans aF;have qv:=ZjW (n:=n) (pX.out.ext bK.below) aq.out;have d0:=aF.cell c0;have d1:=aF.cell c1;unfold ZaT at qv;replace aC:=Zpe aC;replace aF:=Zpe aF;clear q c0 c1;go_wp2_with fail;refine qv.mono ?_;rintro e w3 ⟨rfl,aR⟩;have eM:=bK.trans aR;have q3:=Zlh (w0:=w) w3 b o cap (L.thVars T) (eV.out.ext eM) hc.out bz.out eM.below (hT.out.ext eM) (hP.out.below eM.below) aY;have e1:=aR.cell d1;replace aR:=Zpe aR;replace eM:=Zpe eM;replace bK:=Zpe bK;clear qv d0 d1;go_wp2_with fail;refine q3.mono ?_;rintro e w4 ⟨sb,rfl,dA,v0,v1,bF⟩;have f1:=(bF.cell (Zpk _ _ e1)).trans e1;replace dA:=Zpe dA;replace v0:=Zpe v0;replace v1:=Zpe v1;clear q3 e1;go_wp2_with fail;clear f1
 go_loopw [4,5,30] (fun y x i wr=>∃(k r:Nat),k≤T.length∧y= .pointer (some ⟨sb,0,none⟩)∧x= .int .i64 (r:Nat)∧i= .int .i64 k∧Hid (∃s',SL t sb (50820+(T.length - k)*9206) [] s' w wr∧L.Step (Za3 t) s'∧Val s' r (L.thφ (T.take k)))) (fun y x i _=>T.length - (intOf i).toNat)
 case atStart=>exact⟨0,1,Nat.zero_le _,rfl,rfl,rfl,Zpe ⟨_,dA.out.less (by omega),L.Step.refl dA.out.inv,v1.out.congr fun x=>by simp[L.thφ]⟩⟩
 case round =>
  obtain⟨k,r,hk,rfl,rfl,rfl,hI⟩:=hrel;obtain⟨s',hS,hs,hv⟩:=hI.out;clear hI
  by_cases aE:k<T.length
  ·obtain⟨b2,o2,u,rfl,g1,g2⟩:=aO.out k aE
   have g1:=(hS.bel.cell (Zpk w _ g1)).trans g1;have wZ:=Zpz aE;have rf:=lj.out _ wZ;have q:=Zjj hS hz (v0.out.step dA.out.inv hs) g2 (jQ.out _ wZ) rf (k':=50820+(T.length - (k+1))*9206+118) (by omega);have fH:Hid (T.take (k+1)=T.take k++[T[k]]):=Zpe (List.take_succ_eq_append_getElem aE);generalize T[k]=c at *;obtain⟨bb,cc,rfl,_⟩:=g2;replace hS:=Zpe hS;replace hv:=Zpe hv;go_wp2_with fail;refine q.mono ?_;rintro e w5 ⟨r5,s5,rfl,cT,qU,fK,_,_⟩;have q5:=cT.and (k':=50820+(T.length - (k+1))*9206) (by omega) (hv.out.step hS.out.inv qU) fK;replace cT:=Zpe cT;replace fK:=Zpe fK;clear q;go_wp2_with fail;refine q5.mono ?_;rintro e w6 ⟨r6,s6,rfl,cE,qV,gL,_,_⟩;have ag:Hid (∃s',SL t sb (50820+(T.length - (k+1))*9206) [] s' w w6∧L.Step (Za3 t) s'∧Val s' r6 (L.thφ (T.take (k+1)))):=Zpe ⟨s6,cE,(hs.trans qU).trans qV,gL.congr fun x=>by rw[fH.out,L.thφ_snoc]⟩;clear q5 cE gL;go_wp2_with fail;exact⟨⟨k+1,r6,by omega,rfl,rfl,rfl,ag⟩,by simp[intOf];omega⟩
  ·obtain rfl:k=T.length:=by omega
   rw[List.take_length]at hv;replace hS:=Zpe hS;replace hv:=Zpe hv;go_wp2_with fail;go_ret3;exact⟨sb,r,s',rfl,hS.out.less (by omega),hv.out,hS.out.bel⟩
def t5:List VN:=[⟨-1,-1,1⟩,⟨-1,-1,2⟩,⟨0,1,0⟩,⟨-1,-1,3⟩,⟨2,3,0⟩]
def T2:List (List Int):=[[1,2],[-1,3]]
theorem ZhK:Zad t5=0:=by kernel_rfl
theorem Zpa:L.thChk 3 T2=0:=by kernel_rfl
theorem ZoO:L.cnt (L.vl t5 4) (L.thφ T2)=4:=by kernel_rfl
theorem Zo4:L.giv (L.thφ T2) 1 true=ZfK 3:=by
 funext x
 simp[L.giv,L.upd,L.thφ,L.clφ,L.liφ,T2,ZfK]
theorem Zo3:L.giv (L.thφ T2) 1 false=ZfK 2:=by
 funext x
 simp[L.giv,L.upd,L.thφ,L.clφ,L.liφ,T2,ZfK]
theorem Zpc:(Zbq (Za3 t5) 3 3).map (fun p=>L.tx p.2.nodes p.1)=some [51]:=by kernel_rfl
theorem Zpb:(Zbq (Za3 t5) 2 1).map (fun p=>L.tx p.2.nodes p.1)=some [50]:=by kernel_rfl
theorem ZdQ(v:Int)(w:World):Calls Tryz.prog 66 #[.int .i64 v] w fun e w'=>e= .returned (.agg #[.int .i64 (-1),.int .i64 (-1),.int .i64 v])∧Ext w w':=by
 go_enter Tryz.func66,Tryz.ntmps66
 go_wp2_with fail
 go_returns
 exact⟨rfl,⟨by go_grown,ZpD _⟩⟩
theorem ZlJ(w:World):Calls Tryz.prog 62 #[] w fun e w'=>∃g,e= .returned (.slice (some ⟨g,0,none⟩) 5 5)∧w.heap.size≤g∧Zam w' g 0 t5∧Ext w w':=by
 go_enter Tryz.func62,Tryz.ntmps62
 go_wp2_with fail;refine(ZdQ 1 _).mono ?_;rintro e w1 ⟨rfl,aC⟩;go_wp2_with fail;refine(ZdQ 2 _).mono ?_;rintro e w2 ⟨rfl,aF⟩;go_wp2_with fail;refine(ZdQ 3 _).mono ?_;rintro e w3 ⟨rfl,aR⟩;have hx:=(aC.trans aF).trans aR;have dw:=Zpm w3 (.cells #[.int .i64 (-1),.int .i64 (-1),.int .i64 1,.int .i64 (-1),.int .i64 (-1),.int .i64 2,.int .i64 0,.int .i64 1,.int .i64 0,.int .i64 (-1),.int .i64 (-1),.int .i64 3,.int .i64 2,.int .i64 3,.int .i64 0] 106);have ah:Ext w (w3.alloc (.cells #[.int .i64 (-1),.int .i64 (-1),.int .i64 1,.int .i64 (-1),.int .i64 (-1),.int .i64 2,.int .i64 0,.int .i64 1,.int .i64 0,.int .i64 (-1),.int .i64 (-1),.int .i64 3,.int .i64 2,.int .i64 3,.int .i64 0] 106)):=hx.alloc _;go_wp2_with fail;generalize w3.alloc (.cells #[.int .i64 (-1),.int .i64 (-1),.int .i64 1,.int .i64 (-1),.int .i64 (-1),.int .i64 2,.int .i64 0,.int .i64 1,.int .i64 0,.int .i64 (-1),.int .i64 (-1),.int .i64 3,.int .i64 2,.int .i64 3,.int .i64 0] 106)=w4 at *;go_ret;refine⟨w3.heap.size,rfl,hx.below.size,fun j u hj=>?_,ah⟩;have:=World.news_of_block dw j u hj;rw[Nat.zero_add];have wK:(⟨w3.heap.size,0,none⟩:Addr).add j=⟨w3.heap.size,j,none⟩:=by unfold Addr.add;split <;> simp_all
 rw[wK]at this;exact this
theorem ZhJ(w:World):Calls Tryz.prog 61 #[] w fun e w'=>∃v,e= .returned (.agg #[.int .i64 3,v])∧SlT w' v T2∧Ext w w':=by
 obtain⟨e0,e1,e2,e3⟩:=Zgd w (.cells #[.int .i64 3,.slice (some ⟨w.heap.size+1+1+1,0,none⟩) 2 2] 24) (.cells #[.int .i64 1,.int .i64 2] 3) (.cells #[.int .i64 (-1),.int .i64 3] 3) (.cells #[.slice (some ⟨w.heap.size+1,0,none⟩) 2 2,.slice (some ⟨w.heap.size+1+1,0,none⟩) 2 2] 45);have hx:Ext w ((((w.alloc (.cells #[.int .i64 3,.slice (some ⟨w.heap.size+1+1+1,0,none⟩) 2 2] 24)).alloc (.cells #[.int .i64 1,.int .i64 2] 3)).alloc (.cells #[.int .i64 (-1),.int .i64 3] 3)).alloc (.cells #[.slice (some ⟨w.heap.size+1,0,none⟩) 2 2,.slice (some ⟨w.heap.size+1+1,0,none⟩) 2 2] 45)):=((((Ext.refl w).alloc _).alloc _).alloc _).alloc _;replace e0:=Zpe e0;replace e1:=Zpe e1;replace e2:=Zpe e2;replace e3:=Zpe e3
 go_enter Tryz.func61,Tryz.ntmps61
 go_wp2_with fail;generalize (((w.alloc (.cells #[.int .i64 3,.slice (some ⟨w.heap.size+1+1+1,0,none⟩) 2 2] 24)).alloc (.cells #[.int .i64 1,.int .i64 2] 3)).alloc (.cells #[.int .i64 (-1),.int .i64 3] 3)).alloc (.cells #[.slice (some ⟨w.heap.size+1,0,none⟩) 2 2,.slice (some ⟨w.heap.size+1+1,0,none⟩) 2 2] 45)=w4 at *;have c0:w4.cell? ⟨w.heap.size,0,none⟩=some (.int .i64 3):=by rw[World.cell?,e0.out];rfl
 have c1:w4.cell? ⟨w.heap.size,1,none⟩=some (.slice (some ⟨w.heap.size+1+1+1,0,none⟩) 2 2):=by rw[World.cell?,e0.out];rfl
 refine bodyPost_ret (v:=.agg #[.int .i64 3,.slice (some ⟨w.heap.size+1+1+1,0,none⟩) 2 2]) (by simp[results,Tryz.results61,go_sem,c0,c1]) rfl ⟨_,rfl,⟨_,2,rfl,.inr ⟨w.heap.size+3,0,rfl,fun j hj=>?_⟩⟩,hx⟩;have cx:j<2:=hj
 match j,cx with
 | 0,_=>exact⟨.slice (some ⟨w.heap.size+1,0,none⟩) 2 2,by rw[World.cell?,e3.out];rfl,⟨_,2,rfl,.inr ⟨w.heap.size+1,0,rfl,fun i hi=>by
    have mU:i<2:=hi
    match i,mU with
    | 0,_=>rw[World.cell?,e1.out];rfl
    | 1,_=>rw[World.cell?,e1.out];rfl⟩⟩⟩
 | 1,_=>exact⟨.slice (some ⟨w.heap.size+2,0,none⟩) 2 2,by rw[World.cell?,e3.out];rfl,⟨_,2,rfl,.inr ⟨w.heap.size+2,0,rfl,fun i hi=>by
    have mU:i<2:=hi
    match i,mU with
    | 0,_=>rw[World.cell?,e2.out];rfl
    | 1,_=>rw[World.cell?,e2.out];rfl⟩⟩⟩
theorem ZiL{t:List VN}(hc:Zad t=0)(aY:t.length≤11){x:Int}{u:Nat}{y:VN}(h1:t[u]? =some y)(h2:Zaj y=true)(h3:y.var=(x.natAbs:Int)){T:List UInt8}(hT:(Zbq (Za3 t) x u).map (fun p=>L.tx p.2.nodes p.1)=some T)
  {s:St}(hi:L.Inv s) (ht:s.tree=t) {r:Nat}(hv:Val s r (ZfK x)):L.tx s.nodes r=T:=by
 have hR:L.Room (Za3 t) 0:=⟨Zla hc,aY,by rw[Zk9];omega⟩;obtain⟨c,s',e1,e2,e3,e4,_⟩:=L.literal_spec hR (l:=x) (u:=u) (y:=y) h1 h2 h3;rw[e1]at hT;have hT':L.tx s'.nodes c=T:=by simpa using hT
 rw[←hT'];have hk:s'.tree=t:=e2.tree;exact L.tx_eq hi e2.inv (by rw[hk,ht]) r c hv.lt e3 (funext fun z=>by rw[hv.sem,e4];rfl)
theorem Zin(w:World)(hT:ZaX w)(hP:Za7 w):Calls Tryz.prog 16 #[] w fun e w'=>e= .returned (.bool true)∧Below w.heap.size w w':=by
 go_enter Tryz.func16,Tryz.ntmps16
 go_wp2_with fail;refine(ZhJ _).mono ?_;rintro e w1 ⟨v,rfl,bI,aC⟩;replace bI:=Zpe bI;go_wp2_with fail;refine(ZlJ _).mono ?_;rintro e w2 ⟨g,rfl,hg,lN,aF⟩;have hx:=aC.trans aF
 have q:=Zjl (bI.out.ext aF.below) g 0 5 Zpa (by decide) lN ZhK (by decide) (fun u hu=>by
  obtain⟨c,hc,l,hl,e,_⟩:=(L.hasS_thVars T2 u).1 hu;have:u=1∨u=2∨u=3:=by simp[T2]at hc;rcases hc with rfl|rfl <;> simp at hl <;> rcases hl with rfl|rfl <;> simp at e <;> omega
  rcases this with rfl|rfl|rfl
  ·exact⟨0,_,rfl,by decide,rfl⟩
  ·exact⟨1,_,rfl,by decide,rfl⟩
  ·exact⟨3,_,rfl,by decide,rfl⟩) (hT.ext hx) (hP.below hx.below)
 obtain⟨ba,cp,rfl,_⟩:=bI.out;replace hT:=Zpe hT;replace hP:=Zpe hP;replace bI:=Zpe bI;replace lN:=Zpe lN;rw[show t5.length=5 from rfl]at q;replace hx:=Zpe hx;clear aC aF;go_wp2_with fail;refine q.mono ?_;rintro e w3 ⟨sb,root,s3,rfl,bd,cD,aa⟩;have q3:=ZgN bd cD;rw[show t5.length - 1=4 from rfl,ZoO,show Zbx 4= .agg #[.string ⟨#[4]⟩] from rfl]at q3;replace bd:=Zpe bd;replace cD:=Zpe cD;clear q;go_wp2_with fail;refine q3.mono ?_;rintro e w4 ⟨rfl,bF⟩;clear q3;go_wp2_with fail;have hbB:Below w4.heap.size w4 (w4.alloc (.cells #[.string ⟨#[4]⟩] 52)):=(Zpr _ _).alloc (ZpD _) _;have uR:=Zpm w4 (.cells #[.string ⟨#[4]⟩] 52);obtain⟨wB,u7⟩:∃wB,wB=w4.alloc (.cells #[.string ⟨#[4]⟩] 52):=⟨_,rfl⟩;rw[←u7]at hbB uR;have nE:=(bd.out.below bF).below hbB;have q4:=ZgE (k':=40000) nE cD.out (l:=1) ⟨0,_,rfl,by decide,rfl⟩ (by omega);rw[show ((1:Int).natAbs:Int)=1 from rfl,show decide ((0:Int)<1)=true from rfl,Zo4]at q4;replace nE:=Zpe nE;replace uR:=Zpe uR;replace u7:=Zpe u7;go_wp2_with fail;rw[←u7.out];refine q4.mono ?_;rintro e w5 ⟨r5,s5,rfl,cT,qU,fK,_,jE⟩;have q5:=ZgE (k':=30000) cT (cD.out.step bd.out.inv qU) (l:=-1) ⟨0,_,rfl,by decide,rfl⟩ (by omega);rw[show ((-1:Int).natAbs:Int)=1 from rfl,show decide ((0:Int) < -1)=false from rfl,Zo3]at q5;replace cT:=Zpe cT;clear q4;go_wp2_with fail;refine q5.mono ?_;rintro e w6 ⟨r6,s6,rfl,cE,qV,gL,_,iH⟩;have mr:=fK.step cT.out.inv qV;have q6:=cE.text mr.lt;rw[ZiL ZhK (by decide) (x:=3) (u:=3) rfl (by decide) rfl Zpc cE.inv cE.tree mr]at q6;replace cE:=Zpe cE;replace mr:=Zpe mr;clear q5;go_wp2_with fail;refine q6.mono ?_;rintro e w7 ⟨rfl,lh⟩;have dh:=cE.out.below lh;have q7:=dh.text gL.lt;rw[ZiL ZhK (by decide) (x:=2) (u:=1) rfl (by decide) rfl Zpb dh.inv dh.tree gL]at q7;replace dh:=Zpe dh;clear q6;go_wp2_with fail;refine q7.mono ?_;rintro e w8 ⟨rfl,j9⟩;have oU:=dh.out.below j9;have hn8:=((((jE.trans iH).trans (Zaz.of_below lh)).trans (Zaz.of_below j9)).get uR.out (by decide) (by decide));have c8:w8.cell? ⟨w4.heap.size,0,none⟩=some (.string ⟨#[4]⟩):=by simp[World.cell?,hn8]
 have am:=hx.out.below.trans (oU.bel.mono hx.out.below.size);have qn:=fun V=>Ze4 (w:=V) (n:=4) (by omega)
 rw[show Zbx 4= .agg #[.string ⟨#[4]⟩] from rfl,show (((4:Nat):Nat):Int)=4 from rfl]at qn;have hnq:=fun V=>Zoq (a:=4) (b:=4) (by omega) (by omega) V
 rw[show Zbx 4= .agg #[.string ⟨#[4]⟩] from rfl,show decide ((4:Nat)=4)=true from rfl]at hnq;replace oU:=Zpe oU;replace am:=Zpe am;replace qn:=Zpe qn;clear q7;go_wp2_with fail;(refine wp_region_held_drew (S:=(fun V=>V.cell? ⟨w4.heap.size,0,none⟩=some (.string ⟨#[4]⟩))) (by kernel_rfl) ?_ (fun aA=>?_))
 ·exact c8
 (refine ZpE (i:=0) (v:=?_) rfl (by kernel_rfl) (fun _ _ _ h=>h) (Or.inl ⟨by rfl,?_⟩) (by assumption) ?_);rotate_left
 ·(intro w aB;(try dsimp only at aB);go_simp;first|done|with_reducible rfl)
 (try simp only[Act.put,Zpf,Zpg,Zph]);(refine ZpE (i:=1) (v:=?_) rfl (by kernel_rfl) (fun _ _ _ h=>h) (Or.inl ⟨by rfl,?_⟩) (by assumption) ?_);rotate_left
 ·(intro w aB;(try dsimp only at aB);go_simp;first|done|with_reducible rfl)
 (try simp only[Act.put,Zpf,Zpg,Zph]);(refine ZpE (i:=2) (v:=?_) rfl (by kernel_rfl) (fun _ _ _ h=>h) (Or.inl ⟨by rfl,?_⟩) (by assumption) ?_);rotate_left
 ·(intro w aB;(try dsimp only at aB);go_simp;first|done|with_reducible rfl)
 (try simp only[Act.put,Zpf,Zpg,Zph]);(refine ZpE (i:=3) (v:=?_) rfl (by kernel_rfl) (fun _ _ _ h=>h) (Or.inl ⟨by rfl,?_⟩) (by assumption) ?_);rotate_left
 ·(intro w aB;(try dsimp only at aB);go_simp;first|done|with_reducible rfl)
 (try simp only[Act.put,Zpf,Zpg,Zph]);(refine ZpE (i:=4) (v:=?_) rfl (by kernel_rfl) (fun _ _ _ h=>h) (Or.inl ⟨by rfl,?_⟩) (by assumption) ?_);rotate_left
 ·(intro w aB;(try dsimp only at aB);go_simp;first|done|with_reducible rfl)
 (try simp only[Act.put,Zpf,Zpg,Zph]);(refine ZpE (i:=5) (v:=?_) rfl (by kernel_rfl) (fun _ _ _ h=>h) (Or.inl ⟨by rfl,?_⟩) (by assumption) ?_);rotate_left
 ·(intro w aB;(try dsimp only at aB);go_simp;first|done|with_reducible rfl)
 (try simp only[Act.put,Zpf,Zpg,Zph]);(refine ZpE (i:=6) (v:=?_) rfl (by kernel_rfl) (fun _ _ _ h=>h) (Or.inl ⟨by rfl,?_⟩) (by assumption) ?_);rotate_left
 ·(intro w aB;(try dsimp only at aB);go_simp;first|done|with_reducible rfl)
 (try simp only[Act.put,Zpf,Zpg,Zph]);(refine ZpE (i:=7) (v:=?_) rfl (by kernel_rfl) (fun _ _ _ h=>h) (Or.inl ⟨by rfl,?_⟩) (by assumption) ?_);rotate_left
 ·(intro w aB;(try dsimp only at aB);go_simp;first|done|with_reducible rfl)
 (try simp only[Act.put,Zpf,Zpg,Zph]);(refine ZpE (i:=8) (v:=?_) rfl (by kernel_rfl) (fun _ _ _ h=>h) (Or.inl ⟨by rfl,?_⟩) (by assumption) ?_);rotate_left
 ·(intro w aB;(try dsimp only at aB);go_simp;first|done|with_reducible rfl)
 (try simp only[Act.put,Zpf,Zpg,Zph]);(refine ZpE (i:=9) (v:=?_) rfl (by kernel_rfl) (fun _ _ _ h=>h) (Or.inl ⟨by rfl,?_⟩) (by assumption) ?_);rotate_left
 ·(intro w aB;(try dsimp only at aB);go_simp;first|done|with_reducible rfl)
 (try simp only[Act.put,Zpf,Zpg,Zph]);(refine ZpE (i:=10) (v:=?_) rfl (by kernel_rfl) (fun _ _ _ h=>h) (Or.inl ⟨by rfl,?_⟩) (by assumption) ?_);rotate_left
 ·(intro w aB;(try dsimp only at aB);go_simp;first|done|with_reducible rfl)
 (try simp only[Act.put,Zpf,Zpg,Zph]);(refine ZpE (i:=11) (v:=?_) rfl (by kernel_rfl) (fun _ _ _ h=>h) (Or.inl ⟨by rfl,?_⟩) (by assumption) ?_);rotate_left
 ·(intro w aB;(try dsimp only at aB);go_simp;first|done|with_reducible rfl)
 (try simp only[Act.put,Zpf,Zpg,Zph]);(refine wpAnyH_ready (rs:=[12]) (by kernel_rfl) (by simp) ?_);(refine Zaw rfl (fun K hK=>?_))
 ((rw[if_pos (by rfl)]);go_simp;(go_at_call 30);refine(qn.out _).mono ?_;rintro e w9 ⟨rfl,bP⟩;refine hK.out _ _ ((bP.cell (Zpk _ _ aA)).trans aA) (fun aA=>?_))
 (clear hK K)
 (try simp only[Act.put,Zpf,Zpg,Zph]);(refine ZpE (i:=13) (v:=?_) rfl (by kernel_rfl) (fun _ _ _ h=>h) (Or.inl ⟨by rfl,?_⟩) (by assumption) ?_);rotate_left
 ·(intro w aB;(try dsimp only at aB);go_simp;first|done|with_reducible rfl)
 (try simp only[Act.put,Zpf,Zpg,Zph]);(refine ZpE (i:=14) (v:=?_) rfl (by kernel_rfl) (fun _ _ _ h=>h) (Or.inl ⟨by rfl,?_⟩) (by assumption) ?_);rotate_left
 ·(intro w aB;(try dsimp only at aB);go_simp;first|done|with_reducible rfl)
 (try simp only[Act.put,Zpf,Zpg,Zph]);(refine ZpE (i:=15) (v:=?_) rfl (by kernel_rfl) (fun _ _ _ h=>h) (Or.inl ⟨by rfl,?_⟩) (by assumption) ?_);rotate_left
 ·(intro w aB;(try dsimp only at aB);go_simp;first|done|with_reducible rfl)
 (try simp only[Act.put,Zpf,Zpg,Zph]);(refine ZpE (i:=16) (v:=?_) rfl (by kernel_rfl) (fun _ _ _ h=>h) (Or.inl ⟨by rfl,?_⟩) (by assumption) ?_);rotate_left
 ·(intro w aB;(try dsimp only at aB);go_simp;first|done|with_reducible rfl)
 (try simp only[Act.put,Zpf,Zpg,Zph]);(refine ZpE (i:=17) (v:=?_) rfl (by kernel_rfl) (fun _ _ _ h=>h) (Or.inl ⟨by rfl,?_⟩) (by assumption) ?_);rotate_left
 ·(intro w aB;(try dsimp only at aB);go_simp;first|done|with_reducible rfl)
 (try simp only[Act.put,Zpf,Zpg,Zph]);(refine ZpE (i:=18) (v:=?_) rfl (by kernel_rfl) (fun _ _ _ h=>h) (Or.inl ⟨by rfl,?_⟩) (by assumption) ?_);rotate_left
 ·(intro w aB;(try dsimp only at aB);go_simp;first|done|with_reducible rfl)
 (try simp only[Act.put,Zpf,Zpg,Zph]);(refine ZpE (i:=19) (v:=?_) rfl (by kernel_rfl) (fun _ _ _ h=>h) (Or.inl ⟨by rfl,?_⟩) (by assumption) ?_);rotate_left
 ·(intro w aB;(try dsimp only at aB);go_simp;first|done|with_reducible rfl)
 (try simp only[Act.put,Zpf,Zpg,Zph]);(refine ZpE (i:=20) (v:=?_) rfl (by kernel_rfl) (fun _ _ _ h=>h) (Or.inl ⟨by rfl,?_⟩) (by assumption) ?_);rotate_left
 ·(intro w aB;(try dsimp only at aB);go_simp;first|done|with_reducible rfl)
 (try simp only[Act.put,Zpf,Zpg,Zph]);(refine ZpE (i:=21) (v:=?_) rfl (by kernel_rfl) (fun _ _ _ h=>h) (Or.inl ⟨by rfl,?_⟩) (by assumption) ?_);rotate_left
 ·(intro w aB;(try dsimp only at aB);go_simp;first|done|with_reducible rfl)
 (try simp only[Act.put,Zpf,Zpg,Zph]);(refine ZpE (i:=22) (v:=?_) rfl (by kernel_rfl) (fun _ _ _ h=>h) (Or.inl ⟨by rfl,?_⟩) (by assumption) ?_);rotate_left
 ·(intro w aB;(try dsimp only at aB);go_simp;first|done|with_reducible rfl)
 (try simp only[Act.put,Zpf,Zpg,Zph]);(refine ZpE (i:=23) (v:=?_) rfl (by kernel_rfl) (fun _ _ _ h=>h) (Or.inl ⟨by rfl,?_⟩) (by assumption) ?_);rotate_left
 ·(intro w aB;(try dsimp only at aB);go_simp;first|done|with_reducible rfl)
 (try simp only[Act.put,Zpf,Zpg,Zph]);(refine wpAnyH_done (by kernel_rfl) ?_ _);have hbf:Below w.heap.size w w9:=am.out.trans (((Zpr _ _).drew.trans bP).mono am.out.size);clear aA bP;go_wp2_with fail;go_ret;exact⟨rfl,hbf⟩
def Zdm (t:List VN):Bool:=if Zad t≠0 then decide (t.length≤300) else decide (t.length≤11)
theorem Zkx{t:List VN}(w:World)(ba:Option Addr)(cap:Nat)(q:Calls Tryz.prog 77 #[.slice ba t.length cap] w fun e w'=>e= .returned (.int .i64 (Zad t))∧Ext w w') :
  Calls Tryz.prog 15 #[.slice ba t.length cap] w fun e w'=>e= .returned (.bool (Zdm t))∧Ext w w':=by
 unfold Zdm;generalize Zad t=z at *;have h1:Hid (decide ((t.length:Int)≤300)=decide (t.length≤300)):=Zpe (decide_eq_decide.2 (by omega));have h2:Hid (decide ((t.length:Int)≤11)=decide (t.length≤11)):=Zpe (decide_eq_decide.2 (by omega))
 by_cases hz:z=0
 ·subst hz
  rw[if_neg (by simp),←h2.out]
  go_enter Tryz.func15,Tryz.ntmps15
  go_wp2_with fail;refine q.mono ?_;rintro e w2 ⟨rfl,aF⟩;go_wp2_with fail;go_ret;exact⟨rfl,aF⟩
 ·have d:(z !=0)=true:=by simpa using hz
  rw[if_pos hz,←h1.out];replace hz:=Zpe hz
  go_enter Tryz.func15,Tryz.ntmps15
  go_wp2_with fail;refine q.mono ?_;rintro e w2 ⟨rfl,aF⟩;go_wp2_with fail;go_ret;exact⟨rfl,aF⟩
theorem Zky{t:List VN}(h:Zdm t=true)(h0:Zad t=0):t.length≤11:=by
 unfold Zdm at h;rw[if_neg (fun e=>e h0)]at h;simpa using h
theorem ZgT{t:List VN}{j:Nat}{m:Zak}(h:ZbE t j m):L.SortedBel t j (Zc8 m):=⟨L.listVK_sorted m 128,fun x=>by
 rw[L.listV_mem];exact⟨fun hx=>(Zbu h (L.hasS_range hx)).1 hx,fun hx=>(Zbu h hx.range).2 hx⟩⟩
theorem ZfS{t:List VN}(hc:Zad t=0){l:List Int}(h:L.SortedBel t (t.length - 1) l){x:Int}(hx:x∈l):Zbm t x:=(Zem hc x).1 ((h.mem x).1 hx)
end Go.Proofs.YtmnjakejhbpkoaaGreatDoor
end
