import Derived.Test.YtmnjakejhbpkoaaGreatDoorVView5
set_option linter.unusedSimpArgs false
set_option linter.unusedVariables false
set_option maxRecDepth 100000
set_option maxHeartbeats 16000000
namespace Go.Proofs.YtmnjakejhbpkoaaGreatDoor
open Go Go.RowKit Go.Shelf
theorem ZdL{p:Nat}{V V':World}(h:Fr [p] V V'){a:Addr}{v:Value}(hc:V.cell? a=some v)(aH:a.block≠p):V'.cell? a=some v:=by
 have hl:=Zpk _ _ hc;rw[←hc];simp only[World.cell?,h.block _ hl (by simpa using aH)]
theorem ZiA{p:Nat}{V V':World}(h:Fr [p] V V'){b:Nat}{o:Obj}(hc:V.heap[b]? =some o)(aH:b≠p):V'.heap[b]? =some o :=
 (h.block _ (Zpi hc).1 (by simpa using aH)).trans hc
theorem Zo0{t:List VN}(hc:Zad t=0)(aY:t.length≤11){P:Nat}{y:VN}{l r:Nat}(hy:t[P]? =some y)(fp:y.left=l)(iW:y.right=r):(L.vl t l).length≤6∧(L.vl t r).length≤6:=by
 have hP:=(Zpj hy).1
 have h1:∀v,(L.vl t v).length≤6:=fun v=>by
  by_cases hv:v<t.length
  ·have:=L.nv_le hc hv;unfold L.nv at this;omega
  ·have e:t[v]? =none:=List.getElem?_eq_none (by omega)
   unfold L.vl L.vlF;rw[e];exact Nat.zero_le _
 exact⟨h1 l,h1 r⟩
def Zlf (n:Nat):ByteArray:=⟨(Zb5 n).toArray⟩
section
variable {t:List VN}{sb k:Nat}{X:List Nat}{s:St}{w0:World}{xv gt ct gb pc pn:Nat}{f:Nat→Zak}{wb W:World}{m:List (Nat × Nat)}
structure LpM (t:List VN) (s:St) (pc:Nat) (wb W:World) (g9 ge:Nat) (cs:Array Value) (c:Nat) (wr:World):Prop where
 fi:∃m',FI t s pc wb m' wr
 fr:Fr [pc] W wr
 n:wr.heap[g9]? =some (.cells #[.string (Zlf c)] 52 (0,0))
 r:wr.heap[W.heap.size]? =some (.cells #[.string ⟨#[]⟩] 52 (0,0))
 el:wr.heap[ge]? =some (.cells cs ZaO (0,0))
theorem ZjK(h0:MI0 t sb k X s w0 xv gt ct gb pc pn f wb)(hF:FI t s pc wb m W){a at_:Nat}(h2:2≤a)(cF:at_<t.length){nd:Zaf}{P:Nat}(hn:s.nodes[a]? =some nd)(bv:nd.pl=(P:Nat))(hP:P<t.length)(hu:L.Und t at_ P)(hd:L.Dep (L.Bel t P) (L.sem s.nodes a))(hm:asc m a=none)
  {y:VN}{l r:Nat}(hy:t[P]? =some y) (fp:y.left=l) (iW:y.right=r) (aH:nd.el≠[]) (he:L.sumC t s.nodes l r nd.el=L.cnt (L.vl t P) (L.sem s.nodes a))
  (ih:∀p∈nd.el,∀(m':List (Nat × Nat)) (V:World),FI t s pc wb m' V→Calls Tryz.prog 97 #[.pointer (some ⟨xv,0,none⟩),.int .i64 (p.1:Nat),.int .i64 (l:Nat)] V (ZmR t s pc wb V (L.cnt (L.vl t l) (L.sem s.nodes p.1))) ∧
    Calls Tryz.prog 97 #[.pointer (some ⟨xv,0,none⟩),.int .i64 (p.2:Nat),.int .i64 (r:Nat)] V (ZmR t s pc wb V (L.cnt (L.vl t r) (L.sem s.nodes p.2)))) :
  Calls Tryz.prog 97 #[.pointer (some ⟨xv,0,none⟩),.int .i64 (a:Nat),.int .i64 (at_:Nat)] W (ZmR t s pc wb W (L.cnt (L.vl t at_) (L.sem s.nodes a))):=by
 have hc:=h0.sl.chk;obtain⟨c,he⟩:∃c,c=L.cnt (L.vl t P) (L.sem s.nodes a):=⟨_,rfl⟩
 rename_i ry
 rw[←he]at ry;obtain⟨hPn,sX,rJ,rq,rh,pI,dR⟩:=ZoN hc h0.sl.few hP cF hu hd he;replace dR:=Zpe dR;replace he:=Zpe he;replace ry:=Zpe ry;replace ih:=Zpe ih
 have aL:nd.el.length≤1048576:=by
  obtain⟨B,_,hR,_⟩:=h0.sl.on;exact(hR.small.2 nd (List.mem_of_getElem? hn)).2.2.2.2.1
 have dT:0<nd.el.length:=List.length_pos_iff.2 aH;have d0:((a:Int) ==0)=false:=by rw[beq_eq_false_iff_ne];omega
 have d1:((a:Int) ==1)=false:=by rw[beq_eq_false_iff_ne];omega
 have dl:((nd.el.length:Int) ==0)=false:=by rw[beq_eq_false_iff_ne];omega
 have aS:=(Zpr W.heap.size W).alloc (ZpD _) (.cells #[.string ⟨#[]⟩] 52);have aC:=Zpm W (.cells #[.string ⟨#[]⟩] 52);obtain⟨w1,aD⟩:∃w1,w1=W.alloc (.cells #[.string ⟨#[]⟩] 52):=⟨_,rfl⟩;rw[←aD]at aS aC;have ft:=hF.below aS;have kY:=h0.vwAt ft.fr;have q1:=(h0.slAt ft.fr).at hn;rw[bv]at q1;have c0:w1.cell? ⟨xv,0,none⟩=some (.pointer (some ⟨sb,0,none⟩)):=by simp[World.cell?,kY.box]
 have c3:w1.cell? ⟨xv,3,none⟩=some (.map (some pc)):=by simp[World.cell?,kY.box]
 rw[aD]at c0 c3
 go_enter Tryz.func97,Tryz.ntmps97
 go_wp2_with fail;rw[←aD]at c0 c3 ⊢;refine q1.mono ?_;rintro e w2 ⟨rfl,aP⟩;have hgW:W.heap.size<w2.heap.size:=by have:=aP.size;rw[aD]at this;simp at this;omega
 replace aD:=Zpe aD;have iO:=ft.below aP;have lk:=iO.look a;rw[hm,show ((none:Option Nat).map Zhu).getD (Zbx 0)= .agg #[.string ⟨#[]⟩] from rfl,show (none:Option Nat).isSome=false from rfl]at lk;have e3:=(aP.cell (Zpk _ _ c3)).trans c3;have fX:=(aP.block _ (Zpi aC).1).trans aC;have aa:Below w2.heap.size w2 (w2.alloc (.cells #[.string ⟨#[]⟩] 52)):=(Zpr _ _).alloc (ZpD _) _;have j4:=iO.below aa;have h3:=Zpm w2 (.cells #[.string ⟨#[]⟩] 52);have dd:=(aa.block _ (Zpi fX).1).trans fX;have bq:Fr [pc] W (w2.alloc (.cells #[.string ⟨#[]⟩] 52)):=ZaD pc (aS.trans ((aP.trans (aa.mono aP.size)).mono aS.size));have q4:=(h0.slAt j4.fr).elements hn;have k0:(w2.alloc (.cells #[.string ⟨#[]⟩] 52)).cell? ⟨xv,0,none⟩=some (.pointer (some ⟨sb,0,none⟩)):=by simp[World.cell?,(h0.vwAt j4.fr).box]
 have hg9w:w2.heap.size<(w2.alloc (.cells #[.string ⟨#[]⟩] 52)).heap.size:=by simp
 clear q1 c0 c3 aC kY fX ft;go_wp2_with fail;generalize jg:w2.heap.size=g9 at *;generalize w2.alloc (.cells #[.string ⟨#[]⟩] 52)=w3 at *;replace jg:=Zpe jg;refine q4.mono ?_;rintro e w4 ⟨ba,cap,rfl,rK,bF⟩;obtain⟨ge,cs,rfl,dC,rz,aO⟩:=rK.cells aH;have oI:=j4.below bF;have h4:=(bF.block _ (Zpi h3).1).trans h3;have eg:=(bF.block _ (Zpi dd).1).trans dd;have iq:=FrV.trans bq (ZaD pc bF);have kM:wb.heap.size≤g9∧g9≠pc:=by have:=iO.fr.size;have:=iO.mp.lt;have:=jg.out;omega
 have sH:ge≠pc∧ge≠g9:=by have:=j4.mp.lt;omega
 have rV:W.heap.size≠pc:=by have:=hF.mp.lt;omega
 have iB:Hid (LpM t s pc wb W g9 ge cs 0 w4):=Zpe ⟨⟨m,oI⟩,iq,h4,eg,rz⟩;replace aO:=Zpe aO;clear q4 j4 h3 dd bq k0 lk e3 rK oI h4 eg iq rz iO;go_wp2_with fail
 go_loopw [60] (fun i wr=>∃j:Nat,j≤nd.el.length∧i= .int .i64 j∧Hid (LpM t s pc wb W g9 ge cs (L.sumC t s.nodes l r (nd.el.take j)) wr)) (fun i _=>nd.el.length - (intOf i).toNat)
 case atStart=>exact⟨0,Nat.zero_le _,rfl,iB⟩
 case round =>
  clear iB;obtain⟨j,hj,rfl,hI⟩:=hrel
  by_cases aE:j<nd.el.length
  ·obtain⟨⟨mj,vR⟩,sC,uS,nZ,kp⟩:=hI.out
   clear hI;have dlt:decide ((j:Int)<(nd.el.length:Int))=true:=Zpv (by omega);have q0:(0:Int)≤j:=by omega
   have q1:(j:Int)<nd.el.length:=by omega
   obtain⟨e1,e2⟩:=aO.out j aE;have x1:wr.cell? ⟨ge,j*2,none⟩=some (.int .i64 (nd.el[j].1:Nat)):=by simp[World.cell?,kp,e1]
   have x2:wr.cell? ⟨ge,j*2+1,none⟩=some (.int .i64 (nd.el[j].2:Nat)):=by simp[World.cell?,kp,e2]
   have fV:nd.el[j]∈nd.el:=Zpz aE
   have qX:L.sumC t s.nodes l r (nd.el.take (j+1))=L.sumC t s.nodes l r (nd.el.take j)+L.cnt (L.vl t l) (L.sem s.nodes nd.el[j].1)*L.cnt (L.vl t r) (L.sem s.nodes nd.el[j].2):=by
    rw[List.take_succ_eq_append_getElem aE,L.sumC_snoc]
   have cq:L.sumC t s.nodes l r (nd.el.take (j+1))≤c:=by
    have:=L.sumC_le (t:=t) s.nodes l r (nd.el.take (j+1)) (nd.el.drop (j+1));rw[List.take_append_drop,ry.out]at this;exact this
   have ihp:=Zpe (ih.out nd.el[j] fV);generalize nd.el[j]=p at *;obtain⟨p1,p2⟩:=p;simp only at x1 x2 qX ihp;obtain⟨C1,gP⟩:∃C,C=L.cnt (L.vl t l) (L.sem s.nodes p1):=⟨_,rfl⟩;obtain⟨C2,cv⟩:∃C,C=L.cnt (L.vl t r) (L.sem s.nodes p2):=⟨_,rfl⟩;rw[←gP,←cv]at qX ihp;replace gP:=Zpe gP;replace cv:=Zpe cv;obtain⟨cj,wW⟩:∃C,C=L.sumC t s.nodes l r (nd.el.take j):=⟨_,rfl⟩;rw[←wW]at qX uS;replace wW:=Zpe wW;have eJ:cj+C1*C2<256:=by omega
   replace qX:=Zpe qX;have aj:Below wr.heap.size wr (wr.alloc (.cells #[.int .i64 (p1:Nat),.int .i64 (p2:Nat)] 165)):=(Zpr _ _).alloc (ZpD _) _;have oJ:=vR.below aj;have h5:=Zpm wr (.cells #[.int .i64 (p1:Nat),.int .i64 (p2:Nat)] 165);have m6:=(aj.block _ (Zpi uS).1).trans uS;have eT:=(aj.block _ (Zpi nZ).1).trans nZ;have qL:=(aj.block _ (Zpi kp).1).trans kp;have gD:=FrV.trans sC (ZaD pc aj);have hq5:wr.heap.size≠pc:=by have:=vR.mp.lt;omega
   clear e1 e2 vR uS nZ kp sC;go_wp2_with fail;generalize tA:wr.heap.size=q at *;generalize wr.alloc (.cells #[.int .i64 (p1:Nat),.int .i64 (p2:Nat)] 165)=w5 at *;replace tA:=Zpe tA;clear x1 x2 aj;have tn:=h0.vwAt oJ.fr;have tl:P<t.length:=hP;obtain⟨n0,n1,_⟩:=tn.tree.node hP;have ug:t[P]=y:=by rw[Zpl hP]at hy;exact Option.some.inj hy
   rw[ug,fp,Nat.zero_add]at n0;rw[ug,iW,Nat.zero_add]at n1;have k9:w5.cell? ⟨g9,0,none⟩=some (.string (Zlf cj)):=by simp[World.cell?,m6]
   have k1:w5.cell? ⟨q,0,none⟩=some (.int .i64 (p1:Nat)):=by simp[World.cell?,h5]
   have k2:w5.cell? ⟨q,1,none⟩=some (.int .i64 (p2:Nat)):=by simp[World.cell?,h5]
   have kv:w5.cell? ⟨xv,1,none⟩=some (.slice (some ⟨gt,0,none⟩) t.length ct):=by simp[World.cell?,tn.box]
   have hxp:=h0.ne.1;have sJ:=h0.ne.2.1
   have jJ:=Zpe fun (V V1:World) (qB:Fr [pc] V V1) (hS:V.cell? ⟨g9,0,none⟩=some (.string (Zlf cj))∧(V.cell? ⟨q,0,none⟩=some (.int .i64 (p1:Nat))∧V.cell? ⟨q,1,none⟩=some (.int .i64 (p2:Nat)))∧V.cell? ⟨xv,1,none⟩=some (.slice (some ⟨gt,0,none⟩) t.length ct)∧V.cell? ⟨gt,P*3,none⟩=some (.int .i64 (l:Nat))∧V.cell? ⟨gt,P*3+1,none⟩=some (.int .i64 (r:Nat))) =>
    (⟨ZdL qB hS.1 kM.2,⟨ZdL qB hS.2.1.1 hq5,ZdL qB hS.2.1.2 hq5⟩,ZdL qB hS.2.2.1 hxp,ZdL qB hS.2.2.2.1 sJ,ZdL qB hS.2.2.2.2 sJ⟩:V1.cell? ⟨g9,0,none⟩=some (.string (Zlf cj))∧(V1.cell? ⟨q,0,none⟩=some (.int .i64 (p1:Nat))∧V1.cell? ⟨q,1,none⟩=some (.int .i64 (p2:Nat)))∧V1.cell? ⟨xv,1,none⟩=some (.slice (some ⟨gt,0,none⟩) t.length ct)∧V1.cell? ⟨gt,P*3,none⟩=some (.int .i64 (l:Nat))∧V1.cell? ⟨gt,P*3+1,none⟩=some (.int .i64 (r:Nat)))
   have g0:(0:Int)≤P:=by omega
   have g1:(P:Int)<t.length:=by omega
   replace m6:=Zpe m6;replace eT:=Zpe eT;replace qL:=Zpe qL;replace h5:=Zpe h5;replace tn:=Zpe tn;replace ug:=Zpe ug;have hF6:=oJ.below ((Zpr w5.heap.size w5).drew);replace oJ:=Zpe oJ;(refine ZaQ (S:=(fun V=>V.cell? ⟨g9,0,none⟩=some (.string (Zlf cj))∧(V.cell? ⟨q,0,none⟩=some (.int .i64 (p1:Nat))∧V.cell? ⟨q,1,none⟩=some (.int .i64 (p2:Nat)))∧V.cell? ⟨xv,1,none⟩=some (.slice (some ⟨gt,0,none⟩) t.length ct)∧V.cell? ⟨gt,P*3,none⟩=some (.int .i64 (l:Nat))∧V.cell? ⟨gt,P*3+1,none⟩=some (.int .i64 (r:Nat)))) 27 (by kernel_rfl) ?_ (fun aA=>?_))
   ·exact⟨k9,⟨k1,k2⟩,kv,n0,n1⟩
   (refine Zac (i:=0) (v:=?_) rfl (by kernel_rfl) (by decide) (by kernel_rfl) (by kernel_rfl) (by kernel_rfl) (fun _ _ _ h=>h) (Or.inl ⟨by rfl,?_⟩) (by assumption) ?_);rotate_left
   ·(intro w aB;(try dsimp only at aB);obtain⟨s9,⟨s1,s2⟩,sv,t0,t1⟩:=aB;go_simp;first|done|with_reducible rfl)
   (try simp only[Act.put,Zpf,Zpg,Zph]);(refine Zac (i:=1) (v:=?_) rfl (by kernel_rfl) (by decide) (by kernel_rfl) (by kernel_rfl) (by kernel_rfl) (fun _ _ _ h=>h) (Or.inl ⟨by rfl,?_⟩) (by assumption) ?_);rotate_left
   ·(intro w aB;(try dsimp only at aB);skip;go_simp;first|done|with_reducible rfl)
   (try simp only[Act.put,Zpf,Zpg,Zph]);(refine Zac (i:=2) (v:=?_) rfl (by kernel_rfl) (by decide) (by kernel_rfl) (by kernel_rfl) (by kernel_rfl) (fun _ _ _ h=>h) (Or.inl ⟨by rfl,?_⟩) (by assumption) ?_);rotate_left
   ·(intro w aB;(try dsimp only at aB);skip;go_simp;first|done|with_reducible rfl)
   (try simp only[Act.put,Zpf,Zpg,Zph]);(refine Zac (i:=3) (v:=?_) rfl (by kernel_rfl) (by decide) (by kernel_rfl) (by kernel_rfl) (by kernel_rfl) (fun _ _ _ h=>h) (Or.inl ⟨by rfl,?_⟩) (by assumption) ?_);rotate_left
   ·(intro w aB;(try dsimp only at aB);obtain⟨s9,⟨s1,s2⟩,sv,t0,t1⟩:=aB;go_simp;first|done|with_reducible rfl)
   (try simp only[Act.put,Zpf,Zpg,Zph]);(refine Zac (i:=4) (v:=?_) rfl (by kernel_rfl) (by decide) (by kernel_rfl) (by kernel_rfl) (by kernel_rfl) (fun _ _ _ h=>h) (Or.inl ⟨by rfl,?_⟩) (by assumption) ?_);rotate_left
   ·(intro w aB;(try dsimp only at aB);skip;go_simp;first|done|with_reducible rfl)
   (try simp only[Act.put,Zpf,Zpg,Zph]);(refine Zac (i:=5) (v:=?_) rfl (by kernel_rfl) (by decide) (by kernel_rfl) (by kernel_rfl) (by kernel_rfl) (fun _ _ _ h=>h) (Or.inl ⟨by rfl,?_⟩) (by assumption) ?_);rotate_left
   ·(intro w aB;(try dsimp only at aB);skip;go_simp;first|done|with_reducible rfl)
   (try simp only[Act.put,Zpf,Zpg,Zph]);(refine Zac (i:=6) (v:=?_) rfl (by kernel_rfl) (by decide) (by kernel_rfl) (by kernel_rfl) (by kernel_rfl) (fun _ _ _ h=>h) (Or.inl ⟨by rfl,?_⟩) (by assumption) ?_);rotate_left
   ·(intro w aB;(try dsimp only at aB);skip;go_simp;first|done|with_reducible rfl)
   (try simp only[Act.put,Zpf,Zpg,Zph]);(refine Zac (i:=7) (v:=?_) rfl (by kernel_rfl) (by decide) (by kernel_rfl) (by kernel_rfl) (by kernel_rfl) (fun _ _ _ h=>h) (Or.inl ⟨by rfl,?_⟩) (by assumption) ?_);rotate_left
   ·(intro w aB;(try dsimp only at aB);obtain⟨s9,⟨s1,s2⟩,sv,t0,t1⟩:=aB;go_simp;first|done|with_reducible rfl)
   (try simp only[Act.put,Zpf,Zpg,Zph]);(refine Zac (i:=8) (v:=?_) rfl (by kernel_rfl) (by decide) (by kernel_rfl) (by kernel_rfl) (by kernel_rfl) (fun _ _ _ h=>h) (Or.inl ⟨by rfl,?_⟩) (by assumption) ?_);rotate_left
   ·(intro w aB;(try dsimp only at aB);skip;go_simp;first|done|with_reducible rfl)
   (try simp only[Act.put,Zpf,Zpg,Zph]);(refine Zac (i:=9) (v:=?_) rfl (by kernel_rfl) (by decide) (by kernel_rfl) (by kernel_rfl) (by kernel_rfl) (fun _ _ _ h=>h) (Or.inl ⟨by rfl,?_⟩) (by assumption) ?_);rotate_left
   ·(intro w aB;(try dsimp only at aB);skip;go_simp;first|done|with_reducible rfl)
   (try simp only[Act.put,Zpf,Zpg,Zph]);(refine Zac (i:=10) (v:=?_) rfl (by kernel_rfl) (by decide) (by kernel_rfl) (by kernel_rfl) (by kernel_rfl) (fun _ _ _ h=>h) (Or.inl ⟨by rfl,?_⟩) (by assumption) ?_);rotate_left
   ·(intro w aB;(try dsimp only at aB);skip;go_simp;first|done|with_reducible rfl)
   (try simp only[Act.put,Zpf,Zpg,Zph]);(refine Zac (i:=11) (v:=?_) rfl (by kernel_rfl) (by decide) (by kernel_rfl) (by kernel_rfl) (by kernel_rfl) (fun _ _ _ h=>h) (Or.inl ⟨by rfl,?_⟩) (by assumption) ?_);rotate_left
   ·(intro w aB;(try dsimp only at aB);obtain⟨s9,⟨s1,s2⟩,sv,t0,t1⟩:=aB;go_simp;first|done|with_reducible rfl)
   (try simp only[Act.put,Zpf,Zpg,Zph]);(refine Zac (i:=13) (v:=?_) rfl (by kernel_rfl) (by decide) (by kernel_rfl) (by kernel_rfl) (by kernel_rfl) (fun _ _ _ h=>h) (Or.inl ⟨by rfl,?_⟩) (by assumption) ?_);rotate_left
   ·(intro w aB;(try dsimp only at aB);skip;go_simp;first|done|with_reducible rfl)
   (try simp only[Act.put,Zpf,Zpg,Zph]);(refine Zac (i:=14) (v:=?_) rfl (by kernel_rfl) (by decide) (by kernel_rfl) (by kernel_rfl) (by kernel_rfl) (fun _ _ _ h=>h) (Or.inl ⟨by rfl,?_⟩) (by assumption) ?_);rotate_left
   ·(intro w aB;(try dsimp only at aB);skip;go_simp;first|done|with_reducible rfl)
   (try simp only[Act.put,Zpf,Zpg,Zph]);(refine Zac (i:=15) (v:=?_) rfl (by kernel_rfl) (by decide) (by kernel_rfl) (by kernel_rfl) (by kernel_rfl) (fun _ _ _ h=>h) (Or.inl ⟨by rfl,?_⟩) (by assumption) ?_);rotate_left
   ·(intro w aB;(try dsimp only at aB);obtain⟨s9,⟨s1,s2⟩,sv,t0,t1⟩:=aB;go_simp;first|done|with_reducible rfl)
   (try simp only[Act.put,Zpf,Zpg,Zph]);(refine Zac (i:=16) (v:=?_) rfl (by kernel_rfl) (by decide) (by kernel_rfl) (by kernel_rfl) (by kernel_rfl) (fun _ _ _ h=>h) (Or.inl ⟨by rfl,?_⟩) (by assumption) ?_);rotate_left
   ·(intro w aB;(try dsimp only at aB);skip;go_simp;first|done|with_reducible rfl)
   (try simp only[Act.put,Zpf,Zpg,Zph]);(refine Zac (i:=17) (v:=?_) rfl (by kernel_rfl) (by decide) (by kernel_rfl) (by kernel_rfl) (by kernel_rfl) (fun _ _ _ h=>h) (Or.inl ⟨by rfl,?_⟩) (by assumption) ?_);rotate_left
   ·(intro w aB;(try dsimp only at aB);skip;go_simp;first|done|with_reducible rfl)
   (try simp only[Act.put,Zpf,Zpg,Zph]);(refine Zac (i:=18) (v:=?_) rfl (by kernel_rfl) (by decide) (by kernel_rfl) (by kernel_rfl) (by kernel_rfl) (fun _ _ _ h=>h) (Or.inl ⟨by rfl,?_⟩) (by assumption) ?_);rotate_left
   ·(intro w aB;(try dsimp only at aB);skip;go_simp;first|done|with_reducible rfl)
   (try simp only[Act.put,Zpf,Zpg,Zph]);(refine Zac (i:=19) (v:=?_) rfl (by kernel_rfl) (by decide) (by kernel_rfl) (by kernel_rfl) (by kernel_rfl) (fun _ _ _ h=>h) (Or.inl ⟨by rfl,?_⟩) (by assumption) ?_);rotate_left
   ·(intro w aB;(try dsimp only at aB);obtain⟨s9,⟨s1,s2⟩,sv,t0,t1⟩:=aB;go_simp;first|done|with_reducible rfl)
   (try simp only[Act.put,Zpf,Zpg,Zph]);(refine Zac (i:=20) (v:=?_) rfl (by kernel_rfl) (by decide) (by kernel_rfl) (by kernel_rfl) (by kernel_rfl) (fun _ _ _ h=>h) (Or.inl ⟨by rfl,?_⟩) (by assumption) ?_);rotate_left
   ·(intro w aB;(try dsimp only at aB);skip;go_simp;first|done|with_reducible rfl)
   (try simp only[Act.put,Zpf,Zpg,Zph]);(refine Zac (i:=21) (v:=?_) rfl (by kernel_rfl) (by decide) (by kernel_rfl) (by kernel_rfl) (by kernel_rfl) (fun _ _ _ h=>h) (Or.inl ⟨by rfl,?_⟩) (by assumption) ?_);rotate_left
   ·(intro w aB;(try dsimp only at aB);skip;go_simp;first|done|with_reducible rfl)
   (try simp only[Act.put,Zpf,Zpg,Zph]);(refine Zac (i:=22) (v:=?_) rfl (by kernel_rfl) (by decide) (by kernel_rfl) (by kernel_rfl) (by kernel_rfl) (fun _ _ _ h=>h) (Or.inl ⟨by rfl,?_⟩) (by assumption) ?_);rotate_left
   ·(intro w aB;(try dsimp only at aB);skip;go_simp;first|done|with_reducible rfl)
   (try simp only[Act.put,Zpf,Zpg,Zph]);(refine Zac (i:=23) (v:=?_) rfl (by kernel_rfl) (by decide) (by kernel_rfl) (by kernel_rfl) (by kernel_rfl) (fun _ _ _ h=>h) (Or.inl ⟨by rfl,?_⟩) (by assumption) ?_);rotate_left
   ·(intro w aB;(try dsimp only at aB);obtain⟨s9,⟨s1,s2⟩,sv,t0,t1⟩:=aB;go_simp;first|done|with_reducible rfl)
   (try simp only[Act.put,Zpf,Zpg,Zph]);have qm:=Zpe fun V:World=>Zet (w:=V) (a:=C1) (b:=C2) (by omega) (by have h1:=gP.out;have h3:=L.cnt_le (L.vl t l) (L.sem s.nodes p1);have:=Zo0 hc h0.sl.few hy fp iW;have h6:(2:Nat) ^ (L.vl t l).length≤2 ^ 6:=Nat.pow_le_pow_right (by omega) this.1;omega) (by have h1:=cv.out;have h3:=L.cnt_le (L.vl t r) (L.sem s.nodes p2);have:=Zo0 hc h0.sl.few hy fp iW;have h6:(2:Nat) ^ (L.vl t r).length≤2 ^ 6:=Nat.pow_le_pow_right (by omega) this.2;omega)
   have qa:=Zpe fun V:World=>Zmt (w:=V) (a:=cj) (b:=C1*C2) eJ
   rw[show Zbx cj= .agg #[.string (Zlf cj)] from rfl]at qa;have sB:=FrV.trans gD (ZaD pc ((Zpr w5.heap.size w5).drew));(refine ZaI (i:=12) (by kernel_rfl) rfl (fun K hK=>?_))
   ((rw[if_pos (by rfl)]);go_simp;(go_at_call 97);refine((ihp.out _ _ hF6).1).mono ?_;rintro e v1 ⟨m1,rfl,hF7,oc⟩;refine hK.out _ _ (jJ.out _ _ oc aA) (fun aA=>?_))
   (clear hK K)
   (try simp only[Act.put,Zpf,Zpg,Zph]);(refine ZaI (i:=24) (by kernel_rfl) rfl (fun K hK=>?_))
   ((rw[if_pos (by rfl)]);go_simp;(go_at_call 97);refine((ihp.out _ _ hF7).2).mono ?_;rintro e v2 ⟨m2,rfl,iZ,gu⟩;refine hK.out _ _ (jJ.out _ _ gu aA) (fun aA=>?_))
   (clear hK K)
   (try simp only[Act.put,Zpf,Zpg,Zph]);(refine ZaI (i:=25) (by kernel_rfl) rfl (fun K hK=>?_))
   ((rw[if_pos (by rfl)]);go_simp;(go_at_call 68);refine(qm.out _).mono ?_;rintro e v3 ⟨rfl,cD⟩;refine hK.out _ _ (jJ.out _ _ (ZaD pc cD) aA) (fun aA=>?_))
   (clear hK K)
   (try simp only[Act.put,Zpf,Zpg,Zph]);(refine ZaI (i:=26) (by kernel_rfl) rfl (fun K hK=>?_))
   ((rw[if_pos (by rfl)]);go_simp;(go_at_call 42);refine(qa.out _).mono ?_;rintro e v4 ⟨rfl,eK⟩;refine hK.out _ _ (jJ.out _ _ (ZaD pc eK) aA) (fun aA=>?_))
   (clear hK K)
   (try simp only[Act.put,Zpf,Zpg,Zph]);have dM:=(iZ.below cD).below eK;have gE:=FrV.trans (FrV.trans (FrV.trans oc gu) (ZaD pc cD)) (ZaD pc eK);have jP:Fr [pc] w5 v4:=FrV.trans (ZaD pc ((Zpr w5.heap.size w5).drew)) gE;have xX:=ZiA jP m6.out kM.2;have ar:=ZiA jP eT.out rV;have he9:=ZiA jP qL.out sH.1;have ae:=FrV.trans sB gE;have z0:v4.cell? ⟨g9,0,none⟩=some (.string (Zlf cj)):=aA.1;have z1:v4.frozen? ⟨g9,0,none⟩=false:=by simp[World.frozen?,xX]
   rw[show Zbx (cj+C1*C2)= .agg #[.string (Zlf (cj+C1*C2))] from rfl]
   have aM:Hid (LpM t s pc wb W g9 ge cs (L.sumC t s.nodes l r (nd.el.take (j+1))) (v4.setCell ⟨g9,0,none⟩ (.string (Zlf (cj+C1*C2))))):=Zpe (by
    rw[qX.out];refine⟨⟨m2,dM.fresh kM.1 kM.2⟩,⟨ae.os,ae.tape,ae.output,by have:=ae.size;simpa using this,fun i hi hM=>(Zax 0 _ (by omega)).trans (ae.block i hi hM)⟩,Zag xX 0 _,(Zax 0 _ (by omega)).trans ar,(Zax 0 _ sH.2).trans he9⟩)
   clear aA hF6 hF7 iZ dM oc gu gE jP xX ar he9 ae sB gD jJ ihp qm qa k9 k1 k2 kv n0 n1;(refine Zbt (by kernel_rfl) rfl (by kernel_rfl) (fun K hK=>?_))
   ((rw[if_pos (by rfl)]);go_simp;refine hK.out _ _ ?_)
   (clear hK K)
   (try simp only[Act.put,Zpf,Zpg,Zph]);go_wp2_with fail;exact⟨⟨j+1,by omega,rfl,aM⟩,by simp[intOf];omega⟩
  ·have dlt:decide ((j:Int)<(nd.el.length:Int))=false:=Zpu (by omega)
   obtain rfl:j=nd.el.length:=by omega
   obtain⟨⟨m8,iZ⟩,gu,h8,cC,_⟩:=hI.out;clear hI;rw[List.take_length,ry.out]at h8;obtain⟨S9,cP⟩:∃S9,Zbx c= .agg #[.string S9]:=⟨_,rfl⟩
   have vq:Zlf c=S9:=by
    have h1:Zbx c= .agg #[.string (Zlf c)]:=rfl;rw[h1]at cP;simp only[Value.agg.injEq,Array.mk.injEq,List.cons.injEq,Value.string.injEq,and_true]at cP;exact cP
   rw[vq]at h8;replace vq:=Zpe vq;replace cP:=Zpe cP;go_wp2_with fail;obtain⟨w8,hw8⟩:∃w8,w8=wr:=⟨_,rfl⟩;rw[←hw8]at iZ gu h8 cC ⊢;clear hw8;have x3:w8.cell? ⟨xv,3,none⟩=some (.map (some pc)):=by simp[World.cell?,(h0.vwAt iZ.fr).box]
   have x9:w8.cell? ⟨g9,0,none⟩=some (.string S9):=by simp[World.cell?,h8]
   have oK:=iZ.below ((Zpr w8.heap.size w8).drew);obtain⟨dY,dM,ku⟩:=oK.put a c ⟨nd,P,hn,bv,hP,he.out⟩;rw[cP.out]at dY
   have oh:g9≠pc:=by
    intro e;obtain⟨L0,qq,iz,_⟩:=iZ.mp;rw[←e,h8]at iz;simp at iz
   have rV:W.heap.size≠pc:=by have:=hF.mp.lt;omega
   have h9:=(Zai (P:=Tryz.prog) 3 w8.drew pc (Zab a) (Zhu c) g9 oh).trans h8;have ar:=(Zai (P:=Tryz.prog) 3 w8.drew pc (Zab a) (Zhu c) W.heap.size rV).trans cC;have gE:=FrV.trans (FrV.trans gu (ZaD pc ((Zpr w8.heap.size w8).drew))) ku;replace dM:=Zpe dM;replace h9:=Zpe h9;replace ar:=Zpe ar;replace h8:=Zpe h8;replace cC:=Zpe cC;replace iZ:=Zpe iZ;(refine ZaQ (S:=(fun V=>V.cell? ⟨xv,3,none⟩=some (.map (some pc))∧V.cell? ⟨g9,0,none⟩=some (.string S9))) 6 (by kernel_rfl) ?_ (fun aA=>?_))
   ·exact⟨x3,x9⟩
   (refine Zac (i:=0) (v:=?_) rfl (by kernel_rfl) (by decide) (by kernel_rfl) (by kernel_rfl) (by kernel_rfl) (fun _ _ _ h=>h) (Or.inl ⟨by rfl,?_⟩) (by assumption) ?_);rotate_left
   ·(intro w aB;(try dsimp only at aB);skip;go_simp;first|done|with_reducible rfl)
   (try simp only[Act.put,Zpf,Zpg,Zph]);(refine Zac (i:=1) (v:=?_) rfl (by kernel_rfl) (by decide) (by kernel_rfl) (by kernel_rfl) (by kernel_rfl) (fun _ _ _ h=>h) (Or.inl ⟨by rfl,?_⟩) (by assumption) ?_);rotate_left
   ·(intro w aB;(try dsimp only at aB);skip;go_simp;first|done|with_reducible rfl)
   (try simp only[Act.put,Zpf,Zpg,Zph]);(refine Zac (i:=2) (v:=?_) rfl (by kernel_rfl) (by decide) (by kernel_rfl) (by kernel_rfl) (by kernel_rfl) (fun _ _ _ h=>h) (Or.inl ⟨by rfl,?_⟩) (by assumption) ?_);rotate_left
   ·(intro w aB;(try dsimp only at aB);skip;go_simp;first|done|with_reducible rfl)
   (try simp only[Act.put,Zpf,Zpg,Zph]);(refine Zac (i:=3) (v:=?_) rfl (by kernel_rfl) (by decide) (by kernel_rfl) (by kernel_rfl) (by kernel_rfl) (fun _ _ _ h=>h) (Or.inl ⟨by rfl,?_⟩) (by assumption) ?_);rotate_left
   ·(intro w aB;(try dsimp only at aB);obtain⟨z3,z9⟩:=aB;go_simp;first|done|with_reducible rfl)
   (try simp only[Act.put,Zpf,Zpg,Zph]);(refine Zac (i:=4) (v:=?_) rfl (by kernel_rfl) (by decide) (by kernel_rfl) (by kernel_rfl) (by kernel_rfl) (fun _ _ _ h=>h) (Or.inl ⟨by rfl,?_⟩) (by assumption) ?_);rotate_left
   ·(intro w aB;(try dsimp only at aB);skip;go_simp;first|done|with_reducible rfl)
   (try simp only[Act.put,Zpf,Zpg,Zph]);(refine Zac (i:=5) (v:=?_) rfl (by kernel_rfl) (by decide) (by kernel_rfl) (by kernel_rfl) (by kernel_rfl) (fun _ _ _ h=>h) (Or.inl ⟨by rfl,?_⟩) (by assumption) ?_);rotate_left
   ·(intro w aB;(try dsimp only at aB);obtain⟨z3,z9⟩:=aB;go_simp;first|done|with_reducible rfl)
   (try simp only[Act.put,Zpf,Zpg,Zph]);(refine Zbt (by kernel_rfl) rfl (by kernel_rfl) (fun K hK=>?_))
   ((rw[if_pos (by rfl)]);go_simp;refine hK.out _ _ ?_)
   (clear hK K)
   (try simp only[Act.put,Zpf,Zpg,Zph]);clear dY ku x3 x9;go_wp2_with fail;generalize Zap 3 Tryz.prog w8.drew pc (Zab a) (Zhu c)=w9 at *;replace dM:=dM.out;replace h9:=h9.out;replace ar:=ar.out;obtain⟨m9,sS⟩:∃m9,m9=(a,c) :: m8:=⟨_,rfl⟩;rw[←sS]at dM;have sQ:=(Zpi h9).1;have dV:=(Zpi ar).1;have c9:w9.cell? ⟨g9,0,none⟩=some (.string S9):=by simp[World.cell?,h9]
   have nx:=Zpe fun (V:World) (hV:Below w9.heap.size w9 V)=>ZbR (h0.vwAt (dM.below hV).fr) hc cF
   have jW:=Zpe fun (V:World) (hV:Below w9.heap.size w9 V)=>ZbR (h0.vwAt (dM.below hV).fr) hc hP
   have qp:=Zpe fun V:World=>Zew (w:=V) (n:=L.nv t at_ - L.nv t P) rJ
   have qm:=Zpe fun V:World=>Zet (w:=V) (a:=c) (b:=2 ^ (L.nv t at_ - L.nv t P)) rq rh pI
   have ni:IntKind.i64.wrap ((L.nv t at_:Int) - (L.nv t P:Int))=((L.nv t at_ - L.nv t P:Nat):Int):=by rw[IntWalk.i64_in _ (by omega)];omega
   generalize L.nv t at_ - L.nv t P=D at *;generalize L.nv t at_=N at *;generalize L.nv t P=M at *;rw[show Zbx c= .agg #[.string S9] from cP.out]at qm;replace dM:=Zpe dM;replace ar:=Zpe ar;replace h9:=Zpe h9;(refine ZaQ (S:=(fun V=>Below w9.heap.size w9 V)) 10 (by kernel_rfl) ?_ (fun aA=>?_))
   ·exact(Zpr _ _).drew
   (refine Zac (i:=0) (v:=?_) rfl (by kernel_rfl) (by decide) (by kernel_rfl) (by kernel_rfl) (by kernel_rfl) (fun _ _ _ h=>h) (Or.inl ⟨by rfl,?_⟩) (by assumption) ?_);rotate_left
   ·(intro w aB;(try dsimp only at aB);have z0:=(aB.cell (p:=⟨g9,0,none⟩) sQ).trans c9;go_simp;first|done|with_reducible rfl)
   (try simp only[Act.put,Zpf,Zpg,Zph]);(refine Zac (i:=1) (v:=?_) rfl (by kernel_rfl) (by decide) (by kernel_rfl) (by kernel_rfl) (by kernel_rfl) (fun _ _ _ h=>h) (Or.inl ⟨by rfl,?_⟩) (by assumption) ?_);rotate_left
   ·(intro w aB;(try dsimp only at aB);skip;go_simp;first|done|with_reducible rfl)
   (try simp only[Act.put,Zpf,Zpg,Zph]);(refine Zac (i:=2) (v:=?_) rfl (by kernel_rfl) (by decide) (by kernel_rfl) (by kernel_rfl) (by kernel_rfl) (fun _ _ _ h=>h) (Or.inl ⟨by rfl,?_⟩) (by assumption) ?_);rotate_left
   ·(intro w aB;(try dsimp only at aB);skip;go_simp;first|done|with_reducible rfl)
   (try simp only[Act.put,Zpf,Zpg,Zph]);(refine Zac (i:=4) (v:=?_) rfl (by kernel_rfl) (by decide) (by kernel_rfl) (by kernel_rfl) (by kernel_rfl) (fun _ _ _ h=>h) (Or.inl ⟨by rfl,?_⟩) (by assumption) ?_);rotate_left
   ·(intro w aB;(try dsimp only at aB);skip;go_simp;first|done|with_reducible rfl)
   (try simp only[Act.put,Zpf,Zpg,Zph]);(refine Zac (i:=5) (v:=?_) rfl (by kernel_rfl) (by decide) (by kernel_rfl) (by kernel_rfl) (by kernel_rfl) (fun _ _ _ h=>h) (Or.inl ⟨by rfl,?_⟩) (by assumption) ?_);rotate_left
   ·(intro w aB;(try dsimp only at aB);skip;go_simp;first|done|with_reducible rfl)
   (try simp only[Act.put,Zpf,Zpg,Zph]);(refine ZaI (i:=3) (by kernel_rfl) rfl (fun K hK=>?_))
   ((rw[if_pos (by rfl)]);go_simp;(go_at_call 161);refine(nx.out _ aA).mono ?_;rintro e v1 ⟨rfl,bI⟩;refine hK.out _ _ (aA.trans (bI.below.mono aA.size)) (fun aA=>?_))
   (clear hK K)
   (try simp only[Act.put,Zpf,Zpg,Zph]);(refine ZaI (i:=6) (by kernel_rfl) rfl (fun K hK=>?_))
   ((rw[if_pos (by rfl)]);go_simp;(go_at_call 161);refine(jW.out _ aA).mono ?_;rintro e v2 ⟨rfl,ap⟩;refine hK.out _ _ (aA.trans (ap.below.mono aA.size)) (fun aA=>?_))
   (clear hK K)
   (try simp only[Act.put,Zpf,Zpg,Zph]);(refine Zac (i:=7) (v:=?_) rfl (by kernel_rfl) (by decide) (by kernel_rfl) (by kernel_rfl) (by kernel_rfl) (fun _ _ _ h=>h) (Or.inl ⟨by rfl,?_⟩) (by assumption) ?_);rotate_left
   ·(intro w aB;(try dsimp only at aB);skip;go_simp;first|done|with_reducible rfl)
   (try simp only[Act.put,Zpf,Zpg,Zph]);(refine ZaI (i:=8) (by kernel_rfl) rfl (fun K hK=>?_))
   ((rw[if_pos (by rfl)]);go_simp;(go_at_call 43);refine(qp.out _).mono ?_;rintro e v3 ⟨rfl,cD⟩;refine hK.out _ _ (aA.trans (cD.mono aA.size)) (fun aA=>?_))
   (clear hK K)
   (try simp only[Act.put,Zpf,Zpg,Zph]);(refine ZaI (i:=9) (by kernel_rfl) rfl (fun K hK=>?_))
   ((rw[if_pos (by rfl)]);go_simp;(go_at_call 68);refine(qm.out _).mono ?_;rintro e v4 ⟨rfl,eK⟩;refine hK.out _ _ (aA.trans (eK.mono aA.size)) (fun aA=>?_))
   (clear hK K)
   (try simp only[Act.put,Zpf,Zpg,Zph]);have cd:=(aA.block _ dV).trans ar.out;have fz:v4.frozen? ⟨W.heap.size,0,none⟩=false:=by simp[World.frozen?,cd]
   have bR:v4.cell? ⟨W.heap.size,0,none⟩=some (.string ⟨#[]⟩):=by simp[World.cell?,cd]
   unfold Zbx;generalize hT:(⟨(Zb5 (c*2 ^ D)).toArray⟩:ByteArray)=T at *;have aG:((v4.setCell ⟨W.heap.size,0,none⟩ (.string T)).cell? ⟨W.heap.size,0,none⟩=some (.string T)):=by simp[World.cell?,Zag cd 0 _]
   replace aG:=Zpe aG;have kX:=Zpe ((dM.out.below aA).fresh (r:=W.heap.size) (o:=0) (v:=.string T) hF.fr.size (by have:=hF.mp.lt;omega));have ae:=FrV.trans gE (ZaD pc aA);have gr:Hid (Fr [pc] W (v4.setCell ⟨W.heap.size,0,none⟩ (.string T))):=Zpe ⟨ae.os,ae.tape,ae.output,by have:=ae.size;simpa using this,fun j hj hM=>(Zax 0 _ (by omega)).trans (ae.block j hj hM)⟩;replace cd:=Zpe cd;clear nx jW qp qm aA ae;(refine Zbt (by kernel_rfl) rfl (by kernel_rfl) (fun K hK=>?_))
   ((rw[if_pos (by rfl)]);go_simp;refine hK.out _ _ ?_)
   (clear hK K)
   (try simp only[Act.put,Zpf,Zpg,Zph]);go_wp2_with fail;exact bodyPost_ret (v:=.agg #[.string T]) (by simp[results,Tryz.results97,go_sem,aG.out]) rfl ⟨m9,by rw[←hT,dR.out] <;> rfl,kX.out,gr.out⟩
end
end Go.Proofs.YtmnjakejhbpkoaaGreatDoor
