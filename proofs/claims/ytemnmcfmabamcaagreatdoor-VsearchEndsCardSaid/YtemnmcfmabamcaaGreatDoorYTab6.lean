import Derived.Test.YtemnmcfmabamcaaGreatDoorYTab5
set_option linter.unusedSimpArgs false
set_option linter.unusedVariables false
set_option maxRecDepth 100000
set_option maxHeartbeats 8000000
namespace Go.Proofs.YtemnmcfmabamcaaGreatDoor
open Go Go.RowKit Go.Shelf
def Zjr (els:List (List Bool × List Bool))(w:World)(e:Ending)(w':World):Prop:=∃v,e= .returned v∧EAt w' v els∧Below w.heap.size w w'
theorem Zpw:(Tryz.prog.info? 106).map (fun i=>(i.zero,i.size,i.bytes))=some (some (.agg #[.slice none 0 0,.slice none 0 0]),2,48):=by kernel_rfl
theorem ZpH{t:List VN}{l:List Int}{φ:L.Asg→Bool}{f:List Bool}(hC:Zfd t l φ f){m:List Int}{L':Nat}(hm:∀x,ZaZ (ofS m) x=true↔L.Bel t L' x):L.Mask l (L.Bel t L') (ZeK l (L.asg (ofS m))) :=
 ⟨ZcE _ _,fun k hk=>by rw[ZbF l _ hk];exact hm _⟩
theorem Zi7(N:Nat):List.replicate N false=ZcV N fun _=>false:=by simp[ZcV,List.map_const']
theorem Zkq(f:List Bool)(mk:Nat)(out:List (List Bool × List Bool))(x:Nat):(L.elStep f mk out x).length≤out.length+1:=by
 unfold L.elStep
 split
 ·simp only[List.length_modify]
  split
  ·simp
  ·omega
 ·omega
theorem Ze3(f:List Bool)(mk:Nat):∀m,(L.elsN f mk m).length≤m
 | 0=>by simp[L.elsN]
 | m+1=>by
   rw[L.elsN_succ];have:=Zkq f mk (L.elsN f mk m) m;have:=Ze3 f mk m;omega
def ZdR (w:World)(f:List Bool)(mk x:Nat)(v:Value)(wr:World):Prop:=Za1 w f.length wr.heap.size (L.elsN f mk x) v wr
theorem Za1.top{w0:World}{N top top':Nat}{els:List (List Bool × List Bool)}{v:Value}{wr:World}(h:Za1 w0 N top els v wr)(ht:top≤top'):Za1 w0 N top' els v wr:=by
 obtain⟨bs,h1,h2,h3,h5,h4⟩:=h.bs;exact⟨h.bel,⟨bs,h1,h2,h3,fun x hx=>ZrD (h5 x hx) ht,h4⟩,h.len,h.sh⟩
theorem Zj6{t:List VN}{l:List Int}{φ:L.Asg→Bool}{f:List Bool}(hC:Zfd t l φ f){w:World}{b o c:Nat}{vf:Value}(ht:Zag w b o t)(hf:SlB w vf f){P L':Nat}{y:VN}(hP:L.PlaceOf t P φ)(hy:t[P]? =some y)(aI:Zai y=false)(bF:y.left=L') :
  Calls Tryz.prog 51 #[.slice (some ⟨b,o,none⟩) t.length c,vf] w fun e w'=>∃mk,L.Mask l (L.Bel t L') mk∧Zjr (L.elsN f mk (2 ^ l.length)) w e w':=by
 have q1:=ZdP (c:=c) hC ht hf (z:=P) (.inr ⟨P,rfl,hP⟩);have t0:=(Zam hC.chk).1;have eH:=hC.few;have cE:=hC.six;have hN:=hC.tab.len;have rQ:=ZbW cE;rw[←hN]at rQ;have ja:=hP.lt;obtain⟨L2,R',eL,eR,hLP,hRP,_⟩:=L.inner_ok hC.chk hy aI;obtain rfl:L2=L':=by omega
 obtain⟨ml,jM,hmll,kk⟩:=hC.below (v:=L2) (by omega);have eZ:=ZpH hC kk;have qv:=fun W (hb:Below w.heap.size w W)=>ZcO W b o c l (ht.below hb) t0 (by omega) hC.vars
 have ql:=fun W (hb:Below w.heap.size w W)=>Zch (t.length+1) W b o c L2 ml (ht.below hb) (by omega) jM
 have qof:=fun W v (hv:SlI W v ml)=>Zda ml v W hv (by omega)
 have qi:=fun W v (hv:SlI W v l)=>Zl2 hv ⟨l.length,rfl,cE⟩ (ofS ml)
 unfold ZbU at qof qi;generalize iO:ZeK l (L.asg (ofS ml))=mk at *;generalize lo (ofS ml)=m0 at *;generalize hi (ofS ml)=m1 at *;obtain⟨bf,of,cf,rfl,jk,lB⟩:=hf;obtain⟨n0,n1,n2⟩:=ht.node ja;rw[(Zrw hy).2]at n0 n1 n2;obtain⟨yl,yr,yv⟩:=y;simp only at n0 n1 n2 eL eR;subst eL eR;have i0:(0:Int)≤P:=by omega
 have i1:(P:Int)<t.length:=by omega
 have dP:decide ((P:Int)<0)=false:=ZrH (by omega);have dL:decide ((L2:Int)<0)=false:=ZrH (by omega);have hmkN:mk<f.length:=by rw[hN];exact eZ.lt
 have gh:∀x:Nat,x<f.length→bits BinOp.and IntKind.i64 (x:Int) (mk:Int)=((x &&& mk:Nat):Int):=fun x hx=>ZhH x mk (by omega) (by omega)
 have lz:∀i x:Nat,i<f.length→x<f.length→x &&& mk=x→i - (i &&& mk)+x<f.length∧i &&& mk≤i:=fun i x hi hx hs=>by
  rw[hN]at hi hx ⊢;exact⟨(L.split_bits hi hx hs).1,Nat.and_le_left⟩
 obtain⟨iv,dN,cP,cI,dM⟩:=info_parts Zpw;have hmkS:∀W,(Instr.makeSlice 40 (.int .i64 (f.length:Int)) (.int .i64 (f.length:Int))).run Tryz.prog W= .ok (.slice (some ⟨W.heap.size,0,none⟩) f.length f.length) (W.alloc (.cells (madeCells #[.bool false] f.length) 4)):=fun W=>Zlz f.length (by omega) W
 rw[←hN];replace hC:=Zrr hC;replace hN:=Zrr hN;replace hP:=Zrr hP;replace hy:=Zrr hy;replace aI:=Zrr aI;replace eZ:=Zrr eZ;replace kk:=Zrr kk;replace jM:=Zrr jM;replace qv:=Zrr qv;replace ql:=Zrr ql;replace qof:=Zrr qof;replace qi:=Zrr qi;replace iO:=Zrr iO;replace lB:=Zrr lB;replace gh:=Zrr gh;replace lz:=Zrr lz
 go_enter Tryz.func51,Tryz.ntmps51
 go_wp2_with fail;refine q1.mono ?_;rintro e w1 ⟨rfl,aF⟩;have n0':=(aF.cell (Zrx w _ n0)).trans n0;have fD:=aF.trans ((ZrE w1.heap.size w1).drew.mono aF.size);have k0:w1.drew.cell? ⟨b,o+P*3,none⟩=some (.int .i64 (L2:Nat)):=(fD.cell (Zrx w _ n0)).trans n0;have qv1:=qv.out w1.drew fD;replace fD:=Zrr fD;clear q1 n0 n1 n2;go_wp2_with fail;(refine wp_region_held_drew (S:=(fun W=>W.cell? ⟨b,o+P*3,none⟩=some (.int .i64 (L2:Nat)))) (by kernel_rfl) ?_ (fun aE=>?_))
 ·exact k0
 (refine ZrR (i:=0) (v:=?_) rfl (by kernel_rfl) (fun _ _ _ h=>h) (Or.inl ⟨by rfl,?_⟩) (by assumption) ?_);rotate_left
 ·(intro w aB;(try dsimp only at aB);go_simp;first|done|with_reducible rfl)
 (try simp only[Act.put,Zrs,Zrt,Zru]);(refine ZrR (i:=2) (v:=?_) rfl (by kernel_rfl) (fun _ _ _ h=>h) (Or.inl ⟨by rfl,?_⟩) (by assumption) ?_);rotate_left
 ·(intro w aB;(try dsimp only at aB);go_simp;first|done|with_reducible rfl)
 (try simp only[Act.put,Zrs,Zrt,Zru]);(refine ZrR (i:=3) (v:=?_) rfl (by kernel_rfl) (fun _ _ _ h=>h) (Or.inl ⟨by rfl,?_⟩) (by assumption) ?_);rotate_left
 ·(intro w aB;(try dsimp only at aB);go_simp;first|done|with_reducible rfl)
 (try simp only[Act.put,Zrs,Zrt,Zru]);(refine ZrR (i:=4) (v:=?_) rfl (by kernel_rfl) (fun _ _ _ h=>h) (Or.inl ⟨by rfl,?_⟩) (by assumption) ?_);rotate_left
 ·(intro w aB;(try dsimp only at aB);go_simp;first|done|with_reducible rfl)
 (try simp only[Act.put,Zrs,Zrt,Zru]);(refine ZrR (i:=5) (v:=?_) rfl (by kernel_rfl) (fun _ _ _ h=>h) (Or.inl ⟨by rfl,?_⟩) (by assumption) ?_);rotate_left
 ·(intro w aB;(try dsimp only at aB);go_simp;first|done|with_reducible rfl)
 (try simp only[Act.put,Zrs,Zrt,Zru]);(refine ZrR (i:=6) (v:=?_) rfl (by kernel_rfl) (fun _ _ _ h=>h) (Or.inl ⟨by rfl,?_⟩) (by assumption) ?_);rotate_left
 ·(intro w aB;(try dsimp only at aB);go_simp;first|done|with_reducible rfl)
 (try simp only[Act.put,Zrs,Zrt,Zru]);(refine ZrR (i:=7) (v:=?_) rfl (by kernel_rfl) (fun _ _ _ h=>h) (Or.inl ⟨by rfl,?_⟩) (by assumption) ?_);rotate_left
 ·(intro w aB;(try dsimp only at aB);go_simp;first|done|with_reducible rfl)
 (try simp only[Act.put,Zrs,Zrt,Zru]);(refine wpAnyH_ready (rs:=[1]) (by kernel_rfl) (by simp) ?_);(refine ZaW rfl (fun K hK=>?_))
 ((rw[if_pos (by rfl)]);go_simp;(go_at_call 36);refine qv1.mono ?_;rintro e w2 ⟨v2,rfl,aV,aL⟩;refine hK.out _ _ ((aL.cell (Zrx _ _ k0)).trans k0) (fun aE=>?_))
 (clear hK K)
 (try simp only[Act.put,Zrs,Zrt,Zru]);have b2:=fD.out.trans (aL.mono fD.out.size);have k2:w2.cell? ⟨b,o+P*3,none⟩=some (.int .i64 (L2:Nat)):=(aL.cell (Zrx _ _ k0)).trans k0;have ql1:=ql.out w2 b2;have mg:=Zbi aV;replace aV:=Zrr aV;replace b2:=Zrr b2;clear k0 aL;(refine wpAnyH_ready (rs:=[8]) (by kernel_rfl) (by simp) ?_);(refine ZaW rfl (fun K hK=>?_))
 ((rw[if_pos (by rfl)]);go_simp;(go_at_call 72);refine ql1.mono ?_;rintro e w3 ⟨v3,rfl,au,aU⟩;refine hK.out _ _ ((aU.cell (Zrx _ _ k2)).trans k2) (fun aE=>?_))
 (clear hK K)
 (try simp only[Act.put,Zrs,Zrt,Zru]);have b3:=b2.out.trans (aU.mono b2.out.size);have k3:w3.cell? ⟨b,o+P*3,none⟩=some (.int .i64 (L2:Nat)):=(aU.cell (Zrx _ _ k2)).trans k2;have qo1:=qof.out w3 v3 (Zbi au);have ur:=Zdr aV.out aU;replace ur:=Zrr ur;replace au:=Zrr au;replace b3:=Zrr b3;clear k2 aU ql1;(refine wpAnyH_ready (rs:=[9]) (by kernel_rfl) (by simp) ?_);(refine ZaW rfl (fun K hK=>?_))
 ((rw[if_pos (by rfl)]);go_simp;(go_at_call 84);refine qo1.mono ?_;rintro e w4 ⟨rfl,aw⟩;refine hK.out _ _ ((aw.cell (Zrx _ _ k3)).trans k3) (fun aE=>?_))
 (clear hK K)
 (try simp only[Act.put,Zrs,Zrt,Zru]);have b4:=b3.out.trans (aw.mono b3.out.size);have k4:w4.cell? ⟨b,o+P*3,none⟩=some (.int .i64 (L2:Nat)):=(aw.cell (Zrx _ _ k3)).trans k3;have qi1:=qi.out w4 v2 (Zbi (Zdr ur.out aw));replace b4:=Zrr b4;clear k3 aw qo1;(refine wpAnyH_ready (rs:=[10]) (by kernel_rfl) (by simp) ?_);(refine ZaW rfl (fun K hK=>?_))
 ((rw[if_pos (by rfl)]);go_simp;(go_at_call 85);refine qi1.mono ?_;rintro e w5 ⟨rfl,ah⟩;refine hK.out _ _ ((ah.cell (Zrx _ _ k4)).trans k4) (fun aE=>?_))
 (clear hK K)
 (try simp only[Act.put,Zrs,Zrt,Zru]);(refine ZrR (i:=11) (v:=?_) rfl (by kernel_rfl) (fun _ _ _ h=>h) (Or.inl ⟨by rfl,?_⟩) (by assumption) ?_);rotate_left
 ·(intro w aB;(try dsimp only at aB);go_simp;first|done|with_reducible rfl)
 (try simp only[Act.put,Zrs,Zrt,Zru]);(refine wpAnyH_done (by kernel_rfl) ?_ _);have b5:=Zrr (b4.out.trans (ah.mono b4.out.size));clear k4 ah qi1 aE n0' qv1 mg;have h0:Hid (ZdR w f mk 0 (.slice none 0 0) w5):=Zrr (Za1.nil w w5 _ _ b5.out);go_wp2_with fail
 go_loopw [7,8] (fun ov xv wr=>∃x:Nat,x≤f.length∧xv= .int .i64 (x:Nat)∧Hid (ZdR w f mk x ov wr)) (fun _ xv _=>f.length - (intOf xv).toNat)
 case atStart=>exact⟨0,Nat.zero_le _,rfl,h0⟩
 case round =>
  clear h0 b5;obtain⟨x,hx,rfl,hI⟩:=hrel
  by_cases aD:x<f.length
  ·have dx:decide ((x:Int)<(f.length:Int))=true:=ZrI (by omega)
   have al:=gh.out x aD
   by_cases ks:x &&& mk=x
   ·have aS:bits BinOp.and IntKind.i64 (x:Int) (mk:Int)=(x:Int):=by rw[al,ks]
    have dne:((x:Int) !=(x:Int))=false:=by simp
    clear al;have hE:=hI.out;have ar:=L.elsN_succ f mk x;have cO:=hE.len;have kW:=Ze3 f mk x;unfold ZdR at hE;have hws:=hE.bel.size;generalize jK:L.elsN f mk x=els at *;obtain⟨ba,cp,rfl,nT,rX⟩:=hE.shape;obtain⟨wo,hwo⟩:∃wo,wo=wr:=⟨wr,rfl⟩;have cK:∀i:Nat,i<f.length→i - (i &&& mk)+x<f.length∧i &&& mk≤i:=fun i hi=>lz.out i x hi aD ks
    replace cK:=Zrr cK;replace jK:=Zrr jK;replace ar:=Zrr ar;replace ks:=Zrr ks;replace nT:=Zrr nT;replace rX:=Zrr rX;replace cO:=Zrr cO;replace hE:=Zrr hE;clear hI;have n8:Hid (Below wr.heap.size wr (wr.alloc (.cells (madeCells #[.bool false] f.length) 4))∧BAt (wr.alloc (.cells (madeCells #[.bool false] f.length) 4)) wr.heap.size (Zfo f.length (fun i=>f.getD (i - (i &&& mk)+x) false) 0)):=Zrr ⟨(ZrE _ _).alloc (ZrQ _) _,by rw[Zku];exact BAt.new _ _⟩;go_wp2_with fail;generalize wr.alloc (.cells (madeCells #[.bool false] f.length) 4)=wq at *;subst hwo;obtain⟨g1,jl⟩:∃g1,g1=wo.heap.size:=⟨_,rfl⟩;rw[←jl]at n8 ⊢;replace jl:=Zrr jl
    go_loopw [10] (fun iv wr=>∃i:Nat,i≤f.length∧iv= .int .i64 (i:Nat)∧Hid (Below g1 wo wr∧BAt wr g1 (Zfo f.length (fun i=>f.getD (i - (i &&& mk)+x) false) i))) (fun iv _=>f.length - (intOf iv).toNat)
    case atStart=>exact⟨0,Nat.zero_le _,rfl,n8⟩
    case round =>
     clear n8;obtain⟨i,hi,rfl,hJ⟩:=hrel
     by_cases ex:i<f.length
     ·have di:decide ((i:Int)<(f.length:Int))=true:=ZrI (by omega)
      obtain⟨hj1,py⟩:=cK.out i ex;have kP:=gh.out i ex;have fo:f.getD (i - (i &&& mk)+x) false=f[i - (i &&& mk)+x]:=ZgV hj1;have dH:=ZlP f.length (fun i=>f.getD (i - (i &&& mk)+x) false) i;simp only[fo]at dH;generalize i &&& mk=z at *;have hfj:=lB.out (i - z+x) hj1;obtain⟨d,hd⟩:∃d,d=i - z:=⟨_,rfl⟩;obtain⟨j,hj⟩:∃j,j=d+x:=⟨_,rfl⟩;have e1:(i:Int) - (z:Int)=(d:Int):=by omega
      have e2:(d:Int)+(x:Int)=(j:Int):=by omega
      have e3:IntKind.i64.wrap (d:Int)=(d:Int):=IntWalk.i64_in _ (by omega);have e4:IntKind.i64.wrap (j:Int)=(j:Int):=IntWalk.i64_in _ (by omega);have hjj:i - z+x=j:=by omega
      simp only[hjj]at hfj dH fo hj1;have aN:=(hJ.out.1.cell (p:=⟨bf,of+j,none⟩) (by show bf<g1;have:=jl.out;omega)).trans ((hE.out.bel.cell (p:=⟨bf,of+j,none⟩) jk).trans hfj);generalize f[j]=fj at *;have j0:(0:Int)≤j:=by omega
      have j1:(j:Int)<f.length:=by omega
      have ii0:(0:Int)≤i:=by omega
      have ii1:(i:Int)<f.length:=by omega
      obtain⟨s1,s2⟩:=hJ.out.2.cell (j:=i) (by rw[Zfp];exact ex);have aA:Hid (Below g1 wo (wr.setCell ⟨g1,i,none⟩ (.bool fj))∧BAt (wr.setCell ⟨g1,i,none⟩ (.bool fj)) g1 (Zfo f.length (fun i=>f.getD (i - (i &&& mk)+x) false) (i+1))):=Zrr ⟨hJ.out.1.setCell (show g1≤g1 from ZrQ _) _,by have:=hJ.out.2.set i fj;rwa [dH]at this⟩;clear dH fo hfj hJ;replace hjj:=Zrr hjj;replace hd:=Zrr hd;replace hj:=Zrr hj;go_wp2_with fail;go_roundw
      case rel=>exact⟨i+1,by omega,by go_num,aA⟩
      case measure=>simp[intOf];omega
     ·have di:decide ((i:Int)<(f.length:Int))=false:=ZrH (by omega)
      obtain rfl:i=f.length:=by omega
      have fA:BAt wr g1 (L.subTab f mk x):=by have:=hJ.out.2;rw[ZlO]at this;exact this
      have kE:=hE.out.next (by have:=hJ.out.1;rwa [jl.out]at this);have cY:(L.subTab f mk x).length=f.length:=Za0 _ _;have qu:g1<wr.heap.size:=fA.lt;generalize fH:L.subTab f mk x=sub at *;replace fH:=Zrr fH;replace kE:=Zrr kE;replace fA:=Zrr fA;replace cY:=Zrr cY;clear hJ hE;obtain⟨w2,bS⟩:∃w2,w2=wr:=⟨wr,rfl⟩;have h3:Hid (Below wr.heap.size wr wr∧∀j (hj:j<els.length),j<0→els[j].2≠sub):=Zrr ⟨ZrE _ _,fun j _ h=>by omega⟩;obtain⟨En,dZ⟩:∃En,En=els.length:=⟨_,rfl⟩;have hEn64:En≤64:=by omega
      have pU:Hid (wo.heap.size<wr.heap.size):=Zrr (by have:=jl.out;omega);rw[←dZ]at kE nT rX ⊢;replace dZ:=Zrr dZ;go_wp2_with fail;subst bS
      go_loopw [11] (fun kv wr=>∃k:Nat,k≤En∧kv= .int .i64 (k:Nat)∧Hid (Below w2.heap.size w2 wr∧∀j (hj:j<els.length),j<k→els[j].2≠sub)) (fun kv _=>En - (intOf kv).toNat)
      case atStart=>exact⟨0,Nat.zero_le _,rfl,h3⟩
      case round =>
       clear h3;obtain⟨k,hk,rfl,hJ⟩:=hrel;have oM:=kE.out.next hJ.out.1
       by_cases dq:k<En
       ·have dk:decide ((k:Int)<(En:Int))=true:=ZrI (by omega)
        have oh:k<els.length:=by have:=dZ.out;omega
        obtain⟨g,rfl⟩:=nT.out (by omega);obtain⟨p,q,⟨c1,c2⟩,bp,bq,kq⟩:=oM.cell oh;have kk0:(0:Int)≤k:=by omega
        have wv:(k:Int)<En:=by omega
        obtain⟨fN,iE⟩:=cO.out _ (ZrM oh);have sq:=bq.slB (c:=f.length);have bs3:BAt wr g1 sub:=(hJ.out.1.block g1 qu).trans fA.out;have ssub:=bs3.slB (c:=f.length);replace bs3:=Zrr bs3;rw[iE]at sq;rw[cY.out]at ssub;have qs:=ZfZ sq ssub (by rw[iE];exact cY.out) (by omega);have iP:els[k].1.length=f.length:=fN;obtain⟨⟨p0,q0⟩,uW⟩:∃e0:List Bool × List Bool,e0=els[k]:=⟨_,rfl⟩;rw[←uW]at qs sq bp bq iP;simp only at qs sq bp bq iP;replace sq:=Zrr sq;replace ssub:=Zrr ssub;replace bp:=Zrr bp;replace bq:=Zrr bq;replace iP:=Zrr iP;replace fN:=Zrr fN;replace iE:=Zrr iE;replace uW:=Zrr uW;replace oM:=Zrr oM
        by_cases ap:q0=sub
        ·rw[ZrI ap]at qs
         replace ap:=Zrr ap;go_wp2_with fail;refine qs.mono ?_;rintro e w6 ⟨rfl,bZ⟩;have dkk:((k:Int) ==(En:Int))=false:=beq_eq_false_iff_ne.2 (by omega)
         have aa:Hid (els.set k (L.primeSet p0 mk x,q0)=L.elsN f mk (x+1)):=Zrr (by
          rw[ar.out,Zkp ks.out oh (by rw[←uW.out,fH.out];exact ap.out) (fun j hj=>by rw[fH.out];exact hJ.out.2 j (by omega) hj),←uW.out])
         have hE6:=oM.out.next bZ;obtain⟨tp,fP⟩:∃tp,tp=wo.heap.size:=⟨_,rfl⟩
         have mO:Hid (Za1 w f.length tp (els.set k (ZaS p0 mk x 0,q0)) (.slice (some ⟨g,0,none⟩) En cp) w6):=Zrr (by
          rw[ZcN,uW.out,List.set_getElem_self,fP];exact hE6)
         have ue:Hid (k<els.length):=Zrr oh;have fx:Hid (tp≤w6.heap.size):=Zrr (by have:=hJ.out.1.size;have:=bZ.size;have:=jl.out;omega);replace fP:=Zrr fP;clear qs hE6 oM kE bZ hJ cO nT c1 c2;go_wp2_with fail
         go_loopw [12] (fun iv wr=>∃i:Nat,i≤f.length∧iv= .int .i64 (i:Nat)∧Hid (Za1 w f.length (tp) ((els).set k (ZaS p0 mk x i,q0)) (.slice (some ⟨g,0,none⟩) (En) cp) wr∧tp≤wr.heap.size)) (fun iv _=>f.length - (intOf iv).toNat)
         case atStart=>exact⟨0,Nat.zero_le _,rfl,Zrr ⟨mO.out,fx.out⟩⟩
         case round =>
          clear mO fx;obtain⟨i,hi,rfl,hJ⟩:=hrel
          by_cases ex:i<f.length
          ·have di:decide ((i:Int)<(f.length:Int))=true:=ZrI (by omega)
           have kP:=gh.out i ex;have eB:k<((els).set k (ZaS p0 mk x i,q0)).length:=by rw[List.length_set];exact ue.out
           by_cases hm:i &&& mk=x
           ·have uI:bits BinOp.and IntKind.i64 (i:Int) (mk:Int)=(x:Int):=by rw[kP,hm]
            have dm:((x:Int) ==(x:Int))=true:=by simp
            clear kP;obtain⟨p,q,⟨c1,c2⟩,bp,bq,kq⟩:=hJ.out.1.cell eB;rw[List.getElem_set_self]at bp;obtain⟨s1,s2⟩:=bp.cell (j:=i) (by rw[ZbE,iP.out];exact ex);have eN:=hJ.out.1.prime eB c1 i true;rw[List.getElem_set_self,List.set_set]at eN;simp only[Zdt hm]at eN;have aA:Hid (Za1 w f.length (tp) ((els).set k (ZaS p0 mk x (i+1),q0)) (.slice (some ⟨g,0,none⟩) (En) cp) (wr.setCell ⟨p,i,none⟩ (.bool true))∧tp≤(wr.setCell ⟨p,i,none⟩ (.bool true)).heap.size):=Zrr ⟨eN,by have:=hJ.out.2;simpa [World.setCell] using this⟩;have ii0:(0:Int)≤i:=by omega
            have ii1:(i:Int)<f.length:=by omega
            have kk0:(0:Int)≤(k:Nat):=by omega
            have wv:((k:Nat):Int)<((En:Nat):Int):=by omega
            replace hm:=Zrr hm;clear eN bp bq hJ c2 eB;go_wp2_with fail;go_roundw
            case rel=>exact⟨i+1,by omega,by go_num,aA⟩
            case measure=>simp[intOf];omega
           ·have aA:Hid (Za1 w f.length (tp) ((els).set k (ZaS p0 mk x (i+1),q0)) (.slice (some ⟨g,0,none⟩) (En) cp) wr∧tp≤wr.heap.size):=Zrr (by have:=hJ.out;rw[ZcM hm]at this;exact this)
            generalize i &&& mk=z at *;have dm:((z:Int) ==(x:Int))=false:=beq_eq_false_iff_ne.2 (by omega);replace hm:=Zrr hm;clear hJ eB;go_wp2_with fail;go_roundw
            case rel=>exact⟨i+1,by omega,by go_num,aA⟩
            case measure=>simp[intOf];omega
          ·have di:decide ((i:Int)<(f.length:Int))=false:=ZrH (by omega)
           obtain rfl:i=f.length:=by omega
           have e9:ZaS p0 mk x f.length=L.primeSet p0 mk x:=by rw[←iP.out];exact Zds _ _ _
           have aZ:=hJ.out.1;rw[e9,aa.out]at aZ;have aA:Hid (ZdR w f mk (x+1) (.slice (some ⟨g,0,none⟩) (En) cp) wr):=Zrr (aZ.top hJ.out.2);clear aZ e9 hJ;go_wp2_with fail;go_roundw
           case rel=>exact⟨x+1,by omega,by go_num,aA⟩
           case measure=>simp[intOf];omega
        ·have aJ:els[k].2≠sub:=by rw[←uW.out];exact ap
         rw[ZrH ap]at qs;replace ap:=Zrr ap;go_wp2_with fail;refine qs.mono ?_;rintro e w6 ⟨rfl,bZ⟩
         have aA:Hid (Below w2.heap.size w2 w6∧∀j (hj:j<els.length),j<k+1→els[j].2≠sub):=Zrr ⟨hJ.out.1.trans (bZ.mono hJ.out.1.size),fun j hj h=>by
          by_cases e:j=k
          ·subst e;exact aJ
          ·exact hJ.out.2 j hj (by omega)⟩
         replace aJ:=Zrr aJ;clear qs hJ bZ;go_wp2_with fail;go_roundw
         case rel=>exact⟨k+1,by omega,by go_num,aA⟩
         case measure=>simp[intOf];omega
       ·have dk:decide ((k:Int)<(En:Int))=false:=ZrH (by omega)
        obtain rfl:En=k:=by omega
        by_cases hE0:En=0
        ·rcases rX.out hE0 with ⟨rfl,rfl⟩|⟨g0,rfl⟩
         ·replace hE0:=Zrr hE0
          have dkk:((En:Int) ==(En:Int))=true:=by simp
          have kF:=oM.next ((ZrE wr.heap.size wr).alloc (ZrQ _) (.cells (madeCells #[.bool false] f.length) 4));have oD:=BAt.new wr f.length;have oE:BAt wr g1 sub:=(hJ.out.1.block g1 qu).trans fA.out;have iu:=hJ.out.1.size;have kO:=(ZrE wr.heap.size wr).alloc (ZrQ _) (.cells (madeCells #[.bool false] f.length) 4);have oF:BAt (wr.alloc (.cells (madeCells #[.bool false] f.length) 4)) g1 sub:=(kO.block g1 oE.lt).trans oE;have eO:(wr.alloc (.cells (madeCells #[.bool false] f.length) 4)).heap.size=wr.heap.size+1:=by simp
          have aa:Hid ((els++[(ZcV f.length fun _=>false,sub)]).set En (L.primeSet (ZcV f.length fun _=>false) mk x,sub)=L.elsN f mk (x+1)):=Zrr (by
           rw[ar.out,Zeo ks.out (fun j hj=>by rw[fH.out];exact hJ.out.2 j hj (by have:=dZ.out;omega)),fH.out,dZ.out])
          have o8:wo.heap.size≤g1:=by have:=jl.out;omega
          have o9:g1≤wo.heap.size:=by have:=jl.out;omega
          have jO:=cY.out;have iq:=pU.out;have ff:=(ZrE (wr.alloc (.cells (madeCells #[.bool false] f.length) 4)).heap.size (wr.alloc (.cells (madeCells #[.bool false] f.length) 4))).alloc (ZrQ _) (.cells #[.slice (some ⟨wr.heap.size,0,none⟩) f.length f.length,.slice (some ⟨g1,0,none⟩) f.length f.length] 106);have kG:=kF.next ff;have mK:BAt _ wr.heap.size _:=(ff.block _ oD.lt).trans oD;have mL:BAt _ g1 _:=(ff.block _ oF.lt).trans oF;obtain⟨bs,x1,x2,x3,x5,x4⟩:=kG.bs;have aG:=World.news_of_block (cs:=#[.slice (some ⟨wr.heap.size,0,none⟩) f.length f.length,.slice (some ⟨g1,0,none⟩) f.length f.length]) (t:=106) (fr:=(0,0)) (Zrz (wr.alloc (.cells (madeCells #[.bool false] f.length) 4)) (.cells #[.slice (some ⟨wr.heap.size,0,none⟩) f.length f.length,.slice (some ⟨g1,0,none⟩) f.length f.length] 106));rw[eO]at aG;have aH:∀u∈[Value.slice (some ⟨wr.heap.size,0,none⟩) f.length f.length,.slice (some ⟨g1,0,none⟩) f.length f.length],u.oneCell'=true:=by simp[Value.oneCell']
          have pc:=x2;rw[←dZ.out]at pc;clear oM kE oE cO oD oF kO kF ff;replace kG:=Zrr kG;replace mK:=Zrr mK;replace mL:=Zrr mL;replace x4:=Zrr x4;replace x2:=Zrr x2;replace x5:=Zrr x5;replace x1:=Zrr x1;replace x3:=Zrr x3
          go_wp2_with (at_builtin;(refine wpList_append_lies _ rfl _ _ 103 rfl w.heap.size 106 iv _ 2 48 Tryz.underlying103 dN cP cI dM rfl (by decide) _ En (Zfv f.length bs) rfl pc ⟨wr.heap.size+1,0,none⟩ 1 1 [.slice (some ⟨wr.heap.size,0,none⟩) f.length f.length,.slice (some ⟨g1,0,none⟩) f.length f.length] rfl rfl aG aH (by omega) (by unfold maxLen;omega) (by omega) (by simp <;> omega) _ rfl ?_;intro g fR w7 bh cm bQ _;have eP:=Za1.push (top':=wr.heap.size+1) kG.out mK.out mL.out (by simp) jO (by omega) (by omega) (by omega) (by omega) (by omega) (by omega) (by omega) x1.out x2.out x3.out x5.out x4.out (by rw[←dZ.out];exact bh) cm;have fQ:=cm.size))
          obtain⟨p0,ed⟩:∃p0,p0=ZcV f.length fun _=>false:=⟨_,rfl⟩
          obtain⟨q0,fv⟩:∃q0,q0=sub:=⟨_,rfl⟩;rw[←ed,←fv]at aa;rw[Zi7,←ed,←fv,←dZ.out]at eP;have iP:Hid (p0.length=f.length):=Zrr (by rw[ed];exact Za0 _ _)
          have mO:Hid (Za1 w f.length (wr.heap.size+1) ((els++[(p0,q0)]).set En (ZaS p0 mk x 0,q0)) (.slice (some ⟨g,0,none⟩) (En+1) fR) w7):=Zrr (by
           rw[ZcN]
           have e9:(els++[(p0,q0)]).set En (p0,q0)=els++[(p0,q0)]:=by
            rw[dZ.out];simp
           rw[e9];exact eP)
          have ue:Hid (En<(els++[(p0,q0)]).length):=Zrr (by rw[ZrB,dZ.out];simp);have pX:wr.heap.size+2≤w7.heap.size:=by simpa using fQ
          have fx:Hid (wr.heap.size+1≤w7.heap.size):=Zrr (by omega);obtain⟨tp,fP⟩:∃tp,tp=wr.heap.size+1:=⟨_,rfl⟩;rw[←fP]at mO fx;replace ed:=Zrr ed;replace fv:=Zrr fv;replace fP:=Zrr fP;clear eP kG mK mL x1 x2 x3 x4 x5 pc aG aH bh cm bQ fQ pX jO o8 o9 hJ iu eO iq;go_wp2_with fail
          go_loopw [12] (fun iv wr=>∃i:Nat,i≤f.length∧iv= .int .i64 (i:Nat)∧Hid (Za1 w f.length (tp) (((els++[(p0,q0)])).set En (ZaS p0 mk x i,q0)) (.slice (some ⟨g,0,none⟩) ((En+1)) fR) wr∧tp≤wr.heap.size)) (fun iv _=>f.length - (intOf iv).toNat)
          case atStart=>exact⟨0,Nat.zero_le _,rfl,Zrr ⟨mO.out,fx.out⟩⟩
          case round =>
           clear mO fx;obtain⟨i,hi,rfl,hJ⟩:=hrel
           by_cases ex:i<f.length
           ·have di:decide ((i:Int)<(f.length:Int))=true:=ZrI (by omega)
            have kP:=gh.out i ex;have eB:En<(((els++[(p0,q0)])).set En (ZaS p0 mk x i,q0)).length:=by rw[List.length_set];exact ue.out
            by_cases hm:i &&& mk=x
            ·have uI:bits BinOp.and IntKind.i64 (i:Int) (mk:Int)=(x:Int):=by rw[kP,hm]
             have dm:((x:Int) ==(x:Int))=true:=by simp
             clear kP;obtain⟨p,q,⟨c1,c2⟩,bp,bq,kq⟩:=hJ.out.1.cell eB;rw[List.getElem_set_self]at bp;obtain⟨s1,s2⟩:=bp.cell (j:=i) (by rw[ZbE,iP.out];exact ex);have eN:=hJ.out.1.prime eB c1 i true;rw[List.getElem_set_self,List.set_set]at eN;simp only[Zdt hm]at eN;have aA:Hid (Za1 w f.length (tp) (((els++[(p0,q0)])).set En (ZaS p0 mk x (i+1),q0)) (.slice (some ⟨g,0,none⟩) ((En+1)) fR) (wr.setCell ⟨p,i,none⟩ (.bool true))∧tp≤(wr.setCell ⟨p,i,none⟩ (.bool true)).heap.size):=Zrr ⟨eN,by have:=hJ.out.2;simpa [World.setCell] using this⟩;have ii0:(0:Int)≤i:=by omega
             have ii1:(i:Int)<f.length:=by omega
             have kk0:(0:Int)≤(En:Nat):=by omega
             have wv:((En:Nat):Int)<(((En+1):Nat):Int):=by omega
             replace hm:=Zrr hm;clear eN bp bq hJ c2 eB;go_wp2_with fail;go_roundw
             case rel=>exact⟨i+1,by omega,by go_num,aA⟩
             case measure=>simp[intOf];omega
            ·have aA:Hid (Za1 w f.length (tp) (((els++[(p0,q0)])).set En (ZaS p0 mk x (i+1),q0)) (.slice (some ⟨g,0,none⟩) ((En+1)) fR) wr∧tp≤wr.heap.size):=Zrr (by have:=hJ.out;rw[ZcM hm]at this;exact this)
             generalize i &&& mk=z at *;have dm:((z:Int) ==(x:Int))=false:=beq_eq_false_iff_ne.2 (by omega);replace hm:=Zrr hm;clear hJ eB;go_wp2_with fail;go_roundw
             case rel=>exact⟨i+1,by omega,by go_num,aA⟩
             case measure=>simp[intOf];omega
           ·have di:decide ((i:Int)<(f.length:Int))=false:=ZrH (by omega)
            obtain rfl:i=f.length:=by omega
            have e9:ZaS p0 mk x f.length=L.primeSet p0 mk x:=by rw[←iP.out];exact Zds _ _ _
            have aZ:=hJ.out.1;rw[e9,aa.out]at aZ;have aA:Hid (ZdR w f mk (x+1) (.slice (some ⟨g,0,none⟩) ((En+1)) fR) wr):=Zrr (aZ.top hJ.out.2);clear aZ e9 hJ;go_wp2_with fail;go_roundw
            case rel=>exact⟨x+1,by omega,by go_num,aA⟩
            case measure=>simp[intOf];omega
         ·replace hE0:=Zrr hE0
          have dkk:((En:Int) ==(En:Int))=true:=by simp
          have kF:=oM.next ((ZrE wr.heap.size wr).alloc (ZrQ _) (.cells (madeCells #[.bool false] f.length) 4));have oD:=BAt.new wr f.length;have oE:BAt wr g1 sub:=(hJ.out.1.block g1 qu).trans fA.out;have iu:=hJ.out.1.size;have kO:=(ZrE wr.heap.size wr).alloc (ZrQ _) (.cells (madeCells #[.bool false] f.length) 4);have oF:BAt (wr.alloc (.cells (madeCells #[.bool false] f.length) 4)) g1 sub:=(kO.block g1 oE.lt).trans oE;have eO:(wr.alloc (.cells (madeCells #[.bool false] f.length) 4)).heap.size=wr.heap.size+1:=by simp
          have aa:Hid ((els++[(ZcV f.length fun _=>false,sub)]).set En (L.primeSet (ZcV f.length fun _=>false) mk x,sub)=L.elsN f mk (x+1)):=Zrr (by
           rw[ar.out,Zeo ks.out (fun j hj=>by rw[fH.out];exact hJ.out.2 j hj (by have:=dZ.out;omega)),fH.out,dZ.out])
          have o8:wo.heap.size≤g1:=by have:=jl.out;omega
          have o9:g1≤wo.heap.size:=by have:=jl.out;omega
          have jO:=cY.out;have iq:=pU.out;have ff:=(ZrE (wr.alloc (.cells (madeCells #[.bool false] f.length) 4)).heap.size (wr.alloc (.cells (madeCells #[.bool false] f.length) 4))).alloc (ZrQ _) (.cells #[.slice (some ⟨wr.heap.size,0,none⟩) f.length f.length,.slice (some ⟨g1,0,none⟩) f.length f.length] 106);have kG:=kF.next ff;have mK:BAt _ wr.heap.size _:=(ff.block _ oD.lt).trans oD;have mL:BAt _ g1 _:=(ff.block _ oF.lt).trans oF;obtain⟨bs,x1,x2,x3,x5,x4⟩:=kG.bs;have aG:=World.news_of_block (cs:=#[.slice (some ⟨wr.heap.size,0,none⟩) f.length f.length,.slice (some ⟨g1,0,none⟩) f.length f.length]) (t:=106) (fr:=(0,0)) (Zrz (wr.alloc (.cells (madeCells #[.bool false] f.length) 4)) (.cells #[.slice (some ⟨wr.heap.size,0,none⟩) f.length f.length,.slice (some ⟨g1,0,none⟩) f.length f.length] 106));rw[eO]at aG;have aH:∀u∈[Value.slice (some ⟨wr.heap.size,0,none⟩) f.length f.length,.slice (some ⟨g1,0,none⟩) f.length f.length],u.oneCell'=true:=by simp[Value.oneCell']
          have pc:=x2;rw[←dZ.out]at pc;clear oM kE oE cO oD oF kO kF ff;replace kG:=Zrr kG;replace mK:=Zrr mK;replace mL:=Zrr mL;replace x4:=Zrr x4;replace x2:=Zrr x2;replace x5:=Zrr x5;replace x1:=Zrr x1;replace x3:=Zrr x3
          go_wp2_with (at_builtin;(refine wpList_append_lies _ rfl _ _ 103 rfl w.heap.size 106 iv _ 2 48 Tryz.underlying103 dN cP cI dM rfl (by decide) _ En (Zfv f.length bs) rfl pc ⟨wr.heap.size+1,0,none⟩ 1 1 [.slice (some ⟨wr.heap.size,0,none⟩) f.length f.length,.slice (some ⟨g1,0,none⟩) f.length f.length] rfl rfl aG aH (by omega) (by unfold maxLen;omega) (by omega) (by simp <;> omega) _ rfl ?_;intro g fR w7 bh cm bQ _;have eP:=Za1.push (top':=wr.heap.size+1) kG.out mK.out mL.out (by simp) jO (by omega) (by omega) (by omega) (by omega) (by omega) (by omega) (by omega) x1.out x2.out x3.out x5.out x4.out (by rw[←dZ.out];exact bh) cm;have fQ:=cm.size))
          obtain⟨p0,ed⟩:∃p0,p0=ZcV f.length fun _=>false:=⟨_,rfl⟩
          obtain⟨q0,fv⟩:∃q0,q0=sub:=⟨_,rfl⟩;rw[←ed,←fv]at aa;rw[Zi7,←ed,←fv,←dZ.out]at eP;have iP:Hid (p0.length=f.length):=Zrr (by rw[ed];exact Za0 _ _)
          have mO:Hid (Za1 w f.length (wr.heap.size+1) ((els++[(p0,q0)]).set En (ZaS p0 mk x 0,q0)) (.slice (some ⟨g,0,none⟩) (En+1) fR) w7):=Zrr (by
           rw[ZcN]
           have e9:(els++[(p0,q0)]).set En (p0,q0)=els++[(p0,q0)]:=by
            rw[dZ.out];simp
           rw[e9];exact eP)
          have ue:Hid (En<(els++[(p0,q0)]).length):=Zrr (by rw[ZrB,dZ.out];simp);have pX:wr.heap.size+2≤w7.heap.size:=by simpa using fQ
          have fx:Hid (wr.heap.size+1≤w7.heap.size):=Zrr (by omega);obtain⟨tp,fP⟩:∃tp,tp=wr.heap.size+1:=⟨_,rfl⟩;rw[←fP]at mO fx;replace ed:=Zrr ed;replace fv:=Zrr fv;replace fP:=Zrr fP;clear eP kG mK mL x1 x2 x3 x4 x5 pc aG aH bh cm bQ fQ pX jO o8 o9 hJ iu eO iq;go_wp2_with fail
          go_loopw [12] (fun iv wr=>∃i:Nat,i≤f.length∧iv= .int .i64 (i:Nat)∧Hid (Za1 w f.length (tp) (((els++[(p0,q0)])).set En (ZaS p0 mk x i,q0)) (.slice (some ⟨g,0,none⟩) ((En+1)) fR) wr∧tp≤wr.heap.size)) (fun iv _=>f.length - (intOf iv).toNat)
          case atStart=>exact⟨0,Nat.zero_le _,rfl,Zrr ⟨mO.out,fx.out⟩⟩
          case round =>
           clear mO fx;obtain⟨i,hi,rfl,hJ⟩:=hrel
           by_cases ex:i<f.length
           ·have di:decide ((i:Int)<(f.length:Int))=true:=ZrI (by omega)
            have kP:=gh.out i ex;have eB:En<(((els++[(p0,q0)])).set En (ZaS p0 mk x i,q0)).length:=by rw[List.length_set];exact ue.out
            by_cases hm:i &&& mk=x
            ·have uI:bits BinOp.and IntKind.i64 (i:Int) (mk:Int)=(x:Int):=by rw[kP,hm]
             have dm:((x:Int) ==(x:Int))=true:=by simp
             clear kP;obtain⟨p,q,⟨c1,c2⟩,bp,bq,kq⟩:=hJ.out.1.cell eB;rw[List.getElem_set_self]at bp;obtain⟨s1,s2⟩:=bp.cell (j:=i) (by rw[ZbE,iP.out];exact ex);have eN:=hJ.out.1.prime eB c1 i true;rw[List.getElem_set_self,List.set_set]at eN;simp only[Zdt hm]at eN;have aA:Hid (Za1 w f.length (tp) (((els++[(p0,q0)])).set En (ZaS p0 mk x (i+1),q0)) (.slice (some ⟨g,0,none⟩) ((En+1)) fR) (wr.setCell ⟨p,i,none⟩ (.bool true))∧tp≤(wr.setCell ⟨p,i,none⟩ (.bool true)).heap.size):=Zrr ⟨eN,by have:=hJ.out.2;simpa [World.setCell] using this⟩;have ii0:(0:Int)≤i:=by omega
             have ii1:(i:Int)<f.length:=by omega
             have kk0:(0:Int)≤(En:Nat):=by omega
             have wv:((En:Nat):Int)<(((En+1):Nat):Int):=by omega
             replace hm:=Zrr hm;clear eN bp bq hJ c2 eB;go_wp2_with fail;go_roundw
             case rel=>exact⟨i+1,by omega,by go_num,aA⟩
             case measure=>simp[intOf];omega
            ·have aA:Hid (Za1 w f.length (tp) (((els++[(p0,q0)])).set En (ZaS p0 mk x (i+1),q0)) (.slice (some ⟨g,0,none⟩) ((En+1)) fR) wr∧tp≤wr.heap.size):=Zrr (by have:=hJ.out;rw[ZcM hm]at this;exact this)
             generalize i &&& mk=z at *;have dm:((z:Int) ==(x:Int))=false:=beq_eq_false_iff_ne.2 (by omega);replace hm:=Zrr hm;clear hJ eB;go_wp2_with fail;go_roundw
             case rel=>exact⟨i+1,by omega,by go_num,aA⟩
             case measure=>simp[intOf];omega
           ·have di:decide ((i:Int)<(f.length:Int))=false:=ZrH (by omega)
            obtain rfl:i=f.length:=by omega
            have e9:ZaS p0 mk x f.length=L.primeSet p0 mk x:=by rw[←iP.out];exact Zds _ _ _
            have aZ:=hJ.out.1;rw[e9,aa.out]at aZ;have aA:Hid (ZdR w f mk (x+1) (.slice (some ⟨g,0,none⟩) ((En+1)) fR) wr):=Zrr (aZ.top hJ.out.2);clear aZ e9 hJ;go_wp2_with fail;go_roundw
            case rel=>exact⟨x+1,by omega,by go_num,aA⟩
            case measure=>simp[intOf];omega
        ·obtain⟨g0,rfl⟩:=nT.out (by omega)
         have dkk:((En:Int) ==(En:Int))=true:=by simp
         have kF:=oM.next ((ZrE wr.heap.size wr).alloc (ZrQ _) (.cells (madeCells #[.bool false] f.length) 4));have oD:=BAt.new wr f.length;have oE:BAt wr g1 sub:=(hJ.out.1.block g1 qu).trans fA.out;have iu:=hJ.out.1.size;have kO:=(ZrE wr.heap.size wr).alloc (ZrQ _) (.cells (madeCells #[.bool false] f.length) 4);have oF:BAt (wr.alloc (.cells (madeCells #[.bool false] f.length) 4)) g1 sub:=(kO.block g1 oE.lt).trans oE;have eO:(wr.alloc (.cells (madeCells #[.bool false] f.length) 4)).heap.size=wr.heap.size+1:=by simp
         have aa:Hid ((els++[(ZcV f.length fun _=>false,sub)]).set En (L.primeSet (ZcV f.length fun _=>false) mk x,sub)=L.elsN f mk (x+1)):=Zrr (by
          rw[ar.out,Zeo ks.out (fun j hj=>by rw[fH.out];exact hJ.out.2 j hj (by have:=dZ.out;omega)),fH.out,dZ.out])
         have o8:wo.heap.size≤g1:=by have:=jl.out;omega
         have o9:g1≤wo.heap.size:=by have:=jl.out;omega
         have jO:=cY.out;have iq:=pU.out;have ff:=(ZrE (wr.alloc (.cells (madeCells #[.bool false] f.length) 4)).heap.size (wr.alloc (.cells (madeCells #[.bool false] f.length) 4))).alloc (ZrQ _) (.cells #[.slice (some ⟨wr.heap.size,0,none⟩) f.length f.length,.slice (some ⟨g1,0,none⟩) f.length f.length] 106);have kG:=kF.next ff;have mK:BAt _ wr.heap.size _:=(ff.block _ oD.lt).trans oD;have mL:BAt _ g1 _:=(ff.block _ oF.lt).trans oF;obtain⟨bs,x1,x2,x3,x5,x4⟩:=kG.bs;have aG:=World.news_of_block (cs:=#[.slice (some ⟨wr.heap.size,0,none⟩) f.length f.length,.slice (some ⟨g1,0,none⟩) f.length f.length]) (t:=106) (fr:=(0,0)) (Zrz (wr.alloc (.cells (madeCells #[.bool false] f.length) 4)) (.cells #[.slice (some ⟨wr.heap.size,0,none⟩) f.length f.length,.slice (some ⟨g1,0,none⟩) f.length f.length] 106));rw[eO]at aG;have aH:∀u∈[Value.slice (some ⟨wr.heap.size,0,none⟩) f.length f.length,.slice (some ⟨g1,0,none⟩) f.length f.length],u.oneCell'=true:=by simp[Value.oneCell']
         have pc:=x2;rw[←dZ.out]at pc;clear oM kE oE cO oD oF kO kF ff;replace kG:=Zrr kG;replace mK:=Zrr mK;replace mL:=Zrr mL;replace x4:=Zrr x4;replace x2:=Zrr x2;replace x5:=Zrr x5;replace x1:=Zrr x1;replace x3:=Zrr x3
         go_wp2_with (at_builtin;(refine wpList_append_lies _ rfl _ _ 103 rfl w.heap.size 106 iv _ 2 48 Tryz.underlying103 dN cP cI dM rfl (by decide) _ En (Zfv f.length bs) rfl pc ⟨wr.heap.size+1,0,none⟩ 1 1 [.slice (some ⟨wr.heap.size,0,none⟩) f.length f.length,.slice (some ⟨g1,0,none⟩) f.length f.length] rfl rfl aG aH (by omega) (by unfold maxLen;omega) (by omega) (by simp <;> omega) _ rfl ?_;intro g fR w7 bh cm bQ _;have eP:=Za1.push (top':=wr.heap.size+1) kG.out mK.out mL.out (by simp) jO (by omega) (by omega) (by omega) (by omega) (by omega) (by omega) (by omega) x1.out x2.out x3.out x5.out x4.out (by rw[←dZ.out];exact bh) cm;have fQ:=cm.size))
         obtain⟨p0,ed⟩:∃p0,p0=ZcV f.length fun _=>false:=⟨_,rfl⟩
         obtain⟨q0,fv⟩:∃q0,q0=sub:=⟨_,rfl⟩;rw[←ed,←fv]at aa;rw[Zi7,←ed,←fv,←dZ.out]at eP;have iP:Hid (p0.length=f.length):=Zrr (by rw[ed];exact Za0 _ _)
         have mO:Hid (Za1 w f.length (wr.heap.size+1) ((els++[(p0,q0)]).set En (ZaS p0 mk x 0,q0)) (.slice (some ⟨g,0,none⟩) (En+1) fR) w7):=Zrr (by
          rw[ZcN]
          have e9:(els++[(p0,q0)]).set En (p0,q0)=els++[(p0,q0)]:=by
           rw[dZ.out];simp
          rw[e9];exact eP)
         have ue:Hid (En<(els++[(p0,q0)]).length):=Zrr (by rw[ZrB,dZ.out];simp);have pX:wr.heap.size+2≤w7.heap.size:=by simpa using fQ
         have fx:Hid (wr.heap.size+1≤w7.heap.size):=Zrr (by omega);obtain⟨tp,fP⟩:∃tp,tp=wr.heap.size+1:=⟨_,rfl⟩;rw[←fP]at mO fx;replace ed:=Zrr ed;replace fv:=Zrr fv;replace fP:=Zrr fP;clear eP kG mK mL x1 x2 x3 x4 x5 pc aG aH bh cm bQ fQ pX jO o8 o9 hJ iu eO iq;go_wp2_with fail
         go_loopw [12] (fun iv wr=>∃i:Nat,i≤f.length∧iv= .int .i64 (i:Nat)∧Hid (Za1 w f.length (tp) (((els++[(p0,q0)])).set En (ZaS p0 mk x i,q0)) (.slice (some ⟨g,0,none⟩) ((En+1)) fR) wr∧tp≤wr.heap.size)) (fun iv _=>f.length - (intOf iv).toNat)
         case atStart=>exact⟨0,Nat.zero_le _,rfl,Zrr ⟨mO.out,fx.out⟩⟩
         case round =>
          clear mO fx;obtain⟨i,hi,rfl,hJ⟩:=hrel
          by_cases ex:i<f.length
          ·have di:decide ((i:Int)<(f.length:Int))=true:=ZrI (by omega)
           have kP:=gh.out i ex;have eB:En<(((els++[(p0,q0)])).set En (ZaS p0 mk x i,q0)).length:=by rw[List.length_set];exact ue.out
           by_cases hm:i &&& mk=x
           ·have uI:bits BinOp.and IntKind.i64 (i:Int) (mk:Int)=(x:Int):=by rw[kP,hm]
            have dm:((x:Int) ==(x:Int))=true:=by simp
            clear kP;obtain⟨p,q,⟨c1,c2⟩,bp,bq,kq⟩:=hJ.out.1.cell eB;rw[List.getElem_set_self]at bp;obtain⟨s1,s2⟩:=bp.cell (j:=i) (by rw[ZbE,iP.out];exact ex);have eN:=hJ.out.1.prime eB c1 i true;rw[List.getElem_set_self,List.set_set]at eN;simp only[Zdt hm]at eN;have aA:Hid (Za1 w f.length (tp) (((els++[(p0,q0)])).set En (ZaS p0 mk x (i+1),q0)) (.slice (some ⟨g,0,none⟩) ((En+1)) fR) (wr.setCell ⟨p,i,none⟩ (.bool true))∧tp≤(wr.setCell ⟨p,i,none⟩ (.bool true)).heap.size):=Zrr ⟨eN,by have:=hJ.out.2;simpa [World.setCell] using this⟩;have ii0:(0:Int)≤i:=by omega
            have ii1:(i:Int)<f.length:=by omega
            have kk0:(0:Int)≤(En:Nat):=by omega
            have wv:((En:Nat):Int)<(((En+1):Nat):Int):=by omega
            replace hm:=Zrr hm;clear eN bp bq hJ c2 eB;go_wp2_with fail;go_roundw
            case rel=>exact⟨i+1,by omega,by go_num,aA⟩
            case measure=>simp[intOf];omega
           ·have aA:Hid (Za1 w f.length (tp) (((els++[(p0,q0)])).set En (ZaS p0 mk x (i+1),q0)) (.slice (some ⟨g,0,none⟩) ((En+1)) fR) wr∧tp≤wr.heap.size):=Zrr (by have:=hJ.out;rw[ZcM hm]at this;exact this)
            generalize i &&& mk=z at *;have dm:((z:Int) ==(x:Int))=false:=beq_eq_false_iff_ne.2 (by omega);replace hm:=Zrr hm;clear hJ eB;go_wp2_with fail;go_roundw
            case rel=>exact⟨i+1,by omega,by go_num,aA⟩
            case measure=>simp[intOf];omega
          ·have di:decide ((i:Int)<(f.length:Int))=false:=ZrH (by omega)
           obtain rfl:i=f.length:=by omega
           have e9:ZaS p0 mk x f.length=L.primeSet p0 mk x:=by rw[←iP.out];exact Zds _ _ _
           have aZ:=hJ.out.1;rw[e9,aa.out]at aZ;have aA:Hid (ZdR w f mk (x+1) (.slice (some ⟨g,0,none⟩) ((En+1)) fR) wr):=Zrr (aZ.top hJ.out.2);clear aZ e9 hJ;go_wp2_with fail;go_roundw
           case rel=>exact⟨x+1,by omega,by go_num,aA⟩
           case measure=>simp[intOf];omega
   ·have aA:Hid (ZdR w f mk (x+1) u7 wr):=Zrr (by
     have:=hI.out;unfold ZdR at this ⊢;rw[L.elsN_succ,ZiC ks];exact this)
    generalize x &&& mk=z at *;have dne:((z:Int) !=(x:Int))=true:=by simp;omega
    replace ks:=Zrr ks;clear hI;go_wp2_with fail;go_roundw
    case rel=>exact⟨x+1,by omega,by go_num,aA⟩
    case measure=>simp[intOf];omega
  ·have dx:decide ((x:Int)<(f.length:Int))=false:=ZrH (by omega)
   obtain rfl:x=f.length:=by omega
   have aa:Hid (Zjr (L.elsN f mk f.length) w (.returned u7) wr):=Zrr ⟨_,rfl,hI.out.reads,hI.out.bel⟩;clear hI;go_wp2_with fail;go_ret;exact⟨mk,eZ.out,aa.out⟩
end Go.Proofs.YtemnmcfmabamcaaGreatDoor
