import Derived.Test.YtemnmcfmabamcaaGreatDoorYTab3
set_option linter.unusedSimpArgs false
set_option linter.unusedVariables false
set_option maxRecDepth 100000
set_option maxHeartbeats 4000000
namespace Go.Proofs.YtemnmcfmabamcaaGreatDoor
open Go Go.RowKit Go.Shelf
theorem ZkW(s:Zax)(w:World):Calls Tryz.prog 82 #[.agg #[.int .u64 (lo s),.int .u64 (hi s)]] w fun e w'=>e= .returned (.int .i64 ((Zex s).length:Nat))∧Below w.heap.size w w':=by
 have aF:=(ZrE w.heap.size w).alloc (ZrQ _) (.cells #[.int .u64 (lo s),.int .u64 (hi s)] 82);have al:=Zrz w (.cells #[.int .u64 (lo s),.int .u64 (hi s)] 82);have q:=ZfO s (w.alloc (.cells #[.int .u64 (lo s),.int .u64 (hi s)] 82));unfold ZbU at q;obtain⟨y0,y1⟩:=Zah al;generalize hm:(Zex s).length=m at *;replace hm:=Zrr hm;replace al:=Zrr al
 go_enter Tryz.func82,Tryz.ntmps82
 go_wp2_with fail;generalize w.alloc (.cells #[.int .u64 (lo s),.int .u64 (hi s)] 82)=w1 at *;refine q.mono ?_;rintro e w2 ⟨v,rfl,ho,hb⟩;rw[←hm.out]at ho;obtain⟨ba,c,rfl,_⟩:=Zbi ho;rw[hm.out];replace ho:=Zrr ho;clear q;go_wp2_with fail;go_ret;exact⟨rfl,aF.trans (hb.mono aF.size)⟩
def Zqn (a b:Zax)(k:Nat):Prop:=∀v:Nat,1≤v→v<k→ZaZ a v=true→ZaZ b v=true
theorem Zqn.all{a b:Zax}(h:Zqn a b 129)(v:Int)(hv:ZaZ a v=true):ZaZ b v=true:=by
 have hr:1≤v∧v≤128:=by
  unfold ZaZ at hv;simp only[ZrK,ZrN]at hv;exact hv.1
 have:=h v.toNat (by omega) (by omega);rw[show ((v.toNat:Nat):Int)=v by omega]at this;exact this hv
theorem Zgx(a b:Zax)(D:Bool)(hD:D=true↔∀v,ZaZ a v=true→ZaZ b v=true)(w:World):Calls Tryz.prog 83 #[.agg #[.int .u64 (lo a),.int .u64 (hi a)],.agg #[.int .u64 (lo b),.int .u64 (hi b)]] w fun e w'=>e= .returned (.bool D)∧Below w.heap.size w w':=by
 obtain⟨g0,g1⟩:=Zm8 w (.cells #[.int .u64 (lo a),.int .u64 (hi a)] 82) (.cells #[.int .u64 (lo b),.int .u64 (hi b)] 82);have aK:=((Ext.refl w).alloc (.cells #[.int .u64 (lo a),.int .u64 (hi a)] 82)).alloc (.cells #[.int .u64 (lo b),.int .u64 (hi b)] 82);have qa:=fun (v:Int) W=>Zdu a v W
 have qb:=fun (v:Int) W=>Zdu b v W
 unfold ZbU at qa qb;obtain⟨y0,y1⟩:=Zah g0;obtain⟨z0,z1⟩:=Zah g1;replace hD:=Zrr hD;replace qa:=Zrr qa;replace qb:=Zrr qb;clear g0 g1
 go_enter Tryz.func83,Tryz.ntmps83
 go_wp2_with fail;generalize (w.alloc (.cells #[.int .u64 (lo a),.int .u64 (hi a)] 82)).alloc (.cells #[.int .u64 (lo b),.int .u64 (hi b)] 82)=w1 at *;have h0:Hid (Ext w1 w1∧Zqn a b 1):=Zrr ⟨Ext.refl _,fun v h1 h2=>by omega⟩
 go_loopw [5] (fun iv wr=>∃k:Nat,1≤k∧k≤129∧iv= .int .i64 (k:Nat)∧Hid (Ext w1 wr∧Zqn a b k)) (fun iv _=>129 - (intOf iv).toNat)
 case atStart=>exact⟨1,by omega,by omega,rfl,h0⟩
 case round =>
  clear h0;obtain⟨k,li,hk,rfl,hI⟩:=hrel
  by_cases aD:k≤128
  ·have dlt:decide ((k:Int)≤128)=true:=ZrI (by omega)
   have u0:=hI.out.1.cell y0;have u1:=hI.out.1.cell y1;have v0:=hI.out.1.cell z0;have v1:=hI.out.1.cell z1;have q1:=qa.out (k:Int) wr
   have aM:(ZaZ a (k:Int)=true→ZaZ b (k:Int)=true)→Zqn a b (k+1):=fun h v h1 h2 h3=>by
    by_cases e:v=k
    ·subst e;exact h h3
    ·exact hI.out.2 v h1 (by omega) h3
   have cz:ZaZ a (k:Int)=true→ZaZ b (k:Int)=false→D=false:=fun h1 h2=>by
    cases hd:D
    ·rfl
    ·have:=hD.out.1 hd _ h1
     rw[h2]at this;cases this
   replace aM:=Zrr aM;replace cz:=Zrr cz
   cases ha:ZaZ a (k:Int)
   ·rw[ha]at q1
    replace ha:=Zrr ha;go_wp2_with fail;refine q1.mono ?_;rintro e w2 ⟨rfl,aO⟩;clear q1;go_wp2_with fail;go_roundw
    case rel=>exact⟨k+1,by omega,by omega,by go_num,Zrr ⟨hI.out.1.trans aO,aM.out fun h=>by rw[ha.out]at h;cases h⟩⟩
    case measure=>simp[intOf];omega
   ·rw[ha]at q1
    replace ha:=Zrr ha;go_wp2_with fail;refine q1.mono ?_;rintro e w2 ⟨rfl,aO⟩;have q2:=qb.out (k:Int) w2;have v0':=aO.cell v0;have v1':=aO.cell v1;clear q1 u0 u1 v0 v1
    cases hb:ZaZ b (k:Int)
    ·rw[hb]at q2
     replace hb:=Zrr hb;go_wp2_with fail;refine q2.mono ?_;rintro e w3 ⟨rfl,aR⟩;clear q2;go_wp2_with fail;go_ret;exact⟨by rw[cz.out ha.out hb.out];rfl,(aK.trans ((hI.out.1.trans aO).trans aR)).below⟩
    ·rw[hb]at q2
     replace hb:=Zrr hb;go_wp2_with fail;refine q2.mono ?_;rintro e w3 ⟨rfl,aR⟩;clear q2;go_wp2_with fail;go_roundw
     case rel=>exact⟨k+1,by omega,by omega,by go_num,Zrr ⟨(hI.out.1.trans aO).trans aR,aM.out fun _=>hb.out⟩⟩
     case measure=>simp[intOf];omega
  ·have dlt:decide ((k:Int)≤128)=false:=ZrH (by omega)
   obtain rfl:k=129:=by omega
   have hDt:=Zrr (hD.out.2 hI.out.2.all);go_wp2_with fail;go_ret;exact⟨by rw[hDt.out];rfl,(aK.trans hI.out.1).below⟩
structure Zfd (t:List VN) (l:List Int) (φ:L.Asg→Bool) (f:List Bool):Prop where
 chk:Zae t=0
 few:t.length≤11
 six:l.length≤6
 vars:Zf1 t=some l
 sb:L.SortedBel t (t.length - 1) l
 tab:IsTab l φ f
 dep:L.Dep (fun v=>v∈l) φ
theorem Zfd.range{t:List VN}{l:List Int}{φ:L.Asg→Bool}{f:List Bool}(h:Zfd t l φ f):∀v∈l,1≤v∧v≤128:=fun v hv=>((h.sb.mem v).1 hv).range
theorem Zfd.hangs{t:List VN}{l:List Int}{φ:L.Asg→Bool}{f:List Bool}(h:Zfd t l φ f)(v:Int):ZaZ (ofS (L.depL l f)) v=true↔L.Hangs φ v:=by
 rw[L.hasS_ofS,L.depL_mem h.sb.sorted h.tab h.dep];exact⟨fun h=>h.2,fun hh=>⟨h.range v (hh.dep h.dep),hh⟩⟩
theorem Zfd.below{t:List VN}{l:List Int}{φ:L.Asg→Bool}{f:List Bool}(h:Zfd t l φ f){v:Nat}(hv:v<t.length):∃m,ZeG t (t.length+1) v=some m∧m.length≤128∧∀x,ZaZ (ofS m) x=true↔L.Bel t v x:=by
 obtain⟨m,h1,h2⟩:=L.belowR_spec h.chk v hv (t.length+1) (by omega);refine⟨m,h1,?_,fun x=>?_⟩
 ·have:=h2.len h.chk hv
  have h3:=L.nv_le h.chk hv;have:=h.few;omega
 ·rw[L.hasS_ofS,h2.mem]
  exact⟨fun h=>h.2,fun h=>⟨h.range,h⟩⟩
def Zqk (t:List VN)(φ:L.Asg→Bool)(z:Int):Prop:=(z= -1∧∀v,¬ L.Hangs φ v)∨∃P:Nat,z=P∧L.PlaceOf t P φ
def Zgd (w:World)(px:Nat)(x0 x1:Int)(wr:World):Prop:=Below w.heap.size w wr∧(wr.cell? ⟨px,0,none⟩=some (.int .u64 x0)∧wr.cell? ⟨px,1,none⟩=some (.int .u64 x1))
theorem Zgd.next{w wr w':World}{px:Nat}{x0 x1:Int}(h:Zgd w px x0 x1 wr)(hb:Below wr.heap.size wr w'):Zgd w px x0 x1 w' :=
 ⟨h.1.trans (hb.mono h.1.size),(hb.cell (Zrx wr _ h.2.1)).trans h.2.1,(hb.cell (Zrx wr _ h.2.2)).trans h.2.2⟩
theorem ZdP{t:List VN}{l:List Int}{φ:L.Asg→Bool}{f:List Bool}(hC:Zfd t l φ f){w:World}{b o c:Nat}{vf:Value}(ht:Zag w b o t)(hf:SlB w vf f){z:Int}(hz:Zqk t φ z) :
  Calls Tryz.prog 49 #[.slice (some ⟨b,o,none⟩) t.length c,vf] w fun e w'=>e= .returned (.int .i64 z)∧Below w.heap.size w w':=by
 have t0:=(Zam hC.chk).1;have eH:=hC.few;have cE:=hC.six;have hN:=hC.tab.len;have qv:=ZcO w b o c l ht t0 (by omega) hC.vars;have rp:IntKind.i64.wrap ((t.length:Int) - 1)=((t.length - 1:Nat):Int):=by rw[IntWalk.i64_in _ (by omega)];omega
 generalize hS:ofS (L.depL l f)=S at *;have jd:=hC.hangs;rw[hS]at jd;have uV:=fun (W:World) (vl:Value) (hv:SlI W vl l) (hb:Below w.heap.size w W)=>ZiA hv (hf.below hb) cE hN
 rw[hS]at uV;unfold ZbU at uV
 have aX:(Zex S).length=0↔∀v,¬ L.Hangs φ v:=by
  rw[List.length_eq_zero_iff,List.eq_nil_iff_forall_not_mem];exact⟨fun h v hv=>h v ((L.listV_mem S v).2 ((jd v).2 hv)),fun h v hv=>h v ((jd v).1 ((L.listV_mem S v).1 hv))⟩
 obtain⟨bf,of,cf,rfl,jk,lB⟩:=hf;replace uV:=Zrr uV;replace aX:=Zrr aX;replace jd:=Zrr jd;replace hC:=Zrr hC;replace hN:=Zrr hN;replace lB:=Zrr lB;clear hS
 go_enter Tryz.func49,Tryz.ntmps49
 go_wp2_with fail;refine qv.mono ?_;rintro e w1 ⟨v1,rfl,dX,aF⟩;have q2:=uV.out w1 v1 (Zbi dX) aF;replace dX:=Zrr dX;clear qv;go_wp2_with fail;refine q2.mono ?_;rintro e w2 ⟨rfl,aL⟩;have b2:=aF.trans (aL.mono aF.size);have aU:=(ZrE w2.heap.size w2).alloc (ZrQ _) (.cells #[.int .u64 (lo S),.int .u64 (hi S)] 82);obtain⟨y0,y1⟩:=Zah (Zrz w2 (.cells #[.int .u64 (lo S),.int .u64 (hi S)] 82));have b3:=Zrr (b2.trans (aU.mono b2.size));have q3:=ZkW S (w2.alloc (.cells #[.int .u64 (lo S),.int .u64 (hi S)] 82));clear q2 aF aL b2 aU;go_wp2_with fail;generalize w2.alloc (.cells #[.int .u64 (lo S),.int .u64 (hi S)] 82)=w3 at *;generalize w2.heap.size=px at *;generalize hm:(Zex S).length=m at *;replace hm:=Zrr hm;refine q3.mono ?_;rintro e w4 ⟨rfl,aw⟩;have xW:Zgd w px (lo S) (hi S) w4:=Zgd.next ⟨b3.out,y0,y1⟩ aw;clear q3 y0 y1;rcases hz with ⟨rfl,cz⟩|⟨P,rfl,hP⟩
 ·have m0:m=0:=aX.out.2 cz
  subst m0;replace cz:=Zrr cz;go_wp2_with fail;go_ret;exact⟨rfl,xW.1⟩
 ·have m0:((m:Int) ==0)=false:=beq_eq_false_iff_ne.2 fun e=>by
   obtain⟨v,hv⟩:=hP.ess;exact(aX.out.1 (by omega)) v hv
  have fF:=L.Und.root hC.out.chk t.length P hP.lt (by omega);replace hP:=Zrr hP;replace xW:=Zrr xW;replace fF:=Zrr fF;go_wp2_with fail
  go_loopw [6] (fun qv wr=>∃Q:Nat,Q<t.length∧qv= .int .i64 (Q:Nat)∧Hid (L.Und t Q P)∧Hid (Zgd w px (lo S) (hi S) wr)) (fun qv _=>(intOf qv).toNat)
  case atStart=>exact⟨t.length - 1,by omega,rfl,fF,xW⟩
  case round =>
   clear xW fF;obtain⟨Q,hQ,rfl,hU,hI⟩:=hrel;obtain⟨n0,n1,n2⟩:=(ht.below hI.out.1).node hQ;have hy:t[Q]? =some t[Q]:=Zry hQ;generalize t[Q]=y at *;obtain⟨yl,yr,yv⟩:=y;simp only at n0 n1 n2;have i0:(0:Int)≤Q:=by omega
   have i1:(Q:Int)<t.length:=by omega
   cases aI:Zai ⟨yl,yr,yv⟩
   ·obtain⟨L',R',eL,eR,hLQ,hRQ,_⟩:=L.inner_ok hC.out.chk hy aI
    simp only at eL eR;subst eL eR;have dl:decide (((L':Nat):Int)≥0)=true:=ZrI (by omega);obtain⟨ml,jM,hmll,kk⟩:=hC.out.below (v:=L') (by omega);obtain⟨mr,hmr,hmrl,rJ⟩:=hC.out.below (v:=R') (by omega);have ql:=fun W (hb:Below w.heap.size w W)=>Zch (t.length+1) W b o c L' ml (ht.below hb) (by omega) jM
    have qr:=fun W (hb:Below w.heap.size w W)=>Zch (t.length+1) W b o c R' mr (ht.below hb) (by omega) hmr
    have cY:(∀v,ZaZ S v=true→ZaZ (ofS ml) v=true)↔L.Und t L' P:=by
     rw[←hP.out.toL hC.out.chk hU.out hy aI rfl rfl];exact⟨fun h v hv=>(kk v).1 (h v ((jd.out v).2 hv)),fun h v hv=>(kk v).2 (h v ((jd.out v).1 hv))⟩
    have vB:(∀v,ZaZ S v=true→ZaZ (ofS mr) v=true)↔L.Und t R' P:=by
     rw[←hP.out.toR hC.out.chk hU.out hy aI rfl rfl];exact⟨fun h v hv=>(rJ v).1 (h v ((jd.out v).2 hv)),fun h v hv=>(rJ v).2 (h v ((jd.out v).1 hv))⟩
    have cy:=hU.out.kids hC.out.chk hy rfl rfl;have xT:=hI.out.next (ZrE wr.heap.size wr).drew;obtain⟨k0,k1,k2⟩:=(ht.below xT.1).node hQ;rw[show t[Q]=(⟨(L':Nat),(R':Nat),yv⟩:VN) from (Zrw hy).2]at k0 k1 k2;simp only at k0 k1 k2;obtain⟨p0,p1⟩:=xT.2;have tg:=Zrr xT;replace ql:=Zrr ql;replace qr:=Zrr qr;replace kk:=Zrr kk;replace rJ:=Zrr rJ;replace cY:=Zrr cY;replace vB:=Zrr vB;replace hy:=Zrr hy;replace aI:=Zrr aI;replace cy:=Zrr cy;replace jM:=Zrr jM;replace hmr:=Zrr hmr;obtain⟨D,hD⟩:∃D:Bool,D=true↔L.Und t L' P:=⟨@decide _ (Classical.propDecidable _),@decide_eq_true_iff _ (Classical.propDecidable _)⟩;have qsub:=fun W=>Zgx S (ofS ml) D (hD.trans cY.out.symm) W
    have qof:=fun W v (hv:SlI W v ml)=>Zda ml v W hv (by omega)
    unfold ZbU at qof;generalize lo (ofS ml)=m0 at *;generalize hi (ofS ml)=m1 at *;replace qsub:=Zrr qsub;replace qof:=Zrr qof;replace hD:=Zrr hD;clear n0 n1 n2;have n0:wr.cell? ⟨b,o+Q*3,none⟩=some (.int .i64 (L':Nat)):=k0;go_wp2_with fail;(refine wp_region_held_drew (S:=(fun W=>(W.cell? ⟨px,0,none⟩=some (.int .u64 (lo S))∧W.cell? ⟨px,1,none⟩=some (.int .u64 (hi S)))∧W.cell? ⟨b,o+Q*3,none⟩=some (.int .i64 (L':Nat)))) (by kernel_rfl) ?_ (fun aE=>?_))
    ·exact⟨⟨p0,p1⟩,k0⟩
    (refine ZrR (i:=0) (v:=?_) rfl (by kernel_rfl) (fun _ _ _ h=>h) (Or.inl ⟨by rfl,?_⟩) (by assumption) ?_);rotate_left
    ·(intro w aB;(try dsimp only at aB);go_simp;first|done|with_reducible rfl)
    (try simp only[Act.put,Zrs,Zrt,Zru]);(refine ZrR (i:=1) (v:=?_) rfl (by kernel_rfl) (fun _ _ _ h=>h) (Or.inl ⟨by rfl,?_⟩) (by assumption) ?_);rotate_left
    ·(intro w aB;(try dsimp only at aB);go_simp;first|done|with_reducible rfl)
    (try simp only[Act.put,Zrs,Zrt,Zru]);(refine ZrR (i:=2) (v:=?_) rfl (by kernel_rfl) (fun _ _ _ h=>h) (Or.inl ⟨by rfl,?_⟩) (by assumption) ?_);rotate_left
    ·(intro w aB;(try dsimp only at aB);go_simp;first|done|with_reducible rfl)
    (try simp only[Act.put,Zrs,Zrt,Zru]);(refine ZrR (i:=3) (v:=?_) rfl (by kernel_rfl) (fun _ _ _ h=>h) (Or.inl ⟨by rfl,?_⟩) (by assumption) ?_);rotate_left
    ·(intro w aB;(try dsimp only at aB);go_simp;first|done|with_reducible rfl)
    (try simp only[Act.put,Zrs,Zrt,Zru]);(refine ZrR (i:=4) (v:=?_) rfl (by kernel_rfl) (fun _ _ _ h=>h) (Or.inl ⟨by rfl,?_⟩) (by assumption) ?_);rotate_left
    ·(intro w aB;(try dsimp only at aB);go_simp;first|done|with_reducible rfl)
    (try simp only[Act.put,Zrs,Zrt,Zru]);(refine ZrR (i:=5) (v:=?_) rfl (by kernel_rfl) (fun _ _ _ h=>h) (Or.inl ⟨by rfl,?_⟩) (by assumption) ?_);rotate_left
    ·(intro w aB;(try dsimp only at aB);go_simp;first|done|with_reducible rfl)
    (try simp only[Act.put,Zrs,Zrt,Zru]);(refine ZrR (i:=6) (v:=?_) rfl (by kernel_rfl) (fun _ _ _ h=>h) (Or.inl ⟨by rfl,?_⟩) (by assumption) ?_);rotate_left
    ·(intro w aB;(try dsimp only at aB);go_simp;first|done|with_reducible rfl)
    (try simp only[Act.put,Zrs,Zrt,Zru]);have qb1:=ql.out wr.drew tg.out.1;(refine wpAnyH_ready (rs:=[7]) (by kernel_rfl) (by simp) ?_);(refine ZaW rfl (fun K hK=>?_))
    ((rw[if_pos (by rfl)]);go_simp;(go_at_call 72);refine qb1.mono ?_;rintro e w5 ⟨v5,rfl,eG,ah⟩;refine hK.out _ _ ⟨⟨(ah.cell (Zrx _ _ p0)).trans p0,(ah.cell (Zrx _ _ p1)).trans p1⟩,(ah.cell (Zrx _ _ k0)).trans k0⟩ (fun aE=>?_))
    (clear hK K)
    (try simp only[Act.put,Zrs,Zrt,Zru]);have jU:=tg.out.next ah;have qo:=qof.out w5 v5 (Zbi eG);have k5:w5.cell? ⟨b,o+Q*3,none⟩=some (.int .i64 (L':Nat)):=(ah.cell (Zrx _ _ k0)).trans k0;obtain⟨vX,vY⟩:=jU.2;replace eG:=Zrr eG;replace jU:=Zrr jU;(refine wpAnyH_ready (rs:=[8]) (by kernel_rfl) (by simp) ?_);(refine ZaW rfl (fun K hK=>?_))
    ((rw[if_pos (by rfl)]);go_simp;(go_at_call 84);refine qo.mono ?_;rintro e w6 ⟨rfl,bZ⟩;refine hK.out _ _ ⟨⟨(bZ.cell (Zrx _ _ vX)).trans vX,(bZ.cell (Zrx _ _ vY)).trans vY⟩,(bZ.cell (Zrx _ _ k5)).trans k5⟩ (fun aE=>?_))
    (clear hK K)
    (try simp only[Act.put,Zrs,Zrt,Zru]);have iV:=jU.out.next bZ;have qs:=qsub.out w6;have k6:w6.cell? ⟨b,o+Q*3,none⟩=some (.int .i64 (L':Nat)):=(bZ.cell (Zrx _ _ k5)).trans k5;obtain⟨vZ,vc⟩:=iV.2;replace iV:=Zrr iV;(refine wpAnyH_ready (rs:=[9]) (by kernel_rfl) (by simp) ?_);(refine ZaW rfl (fun K hK=>?_))
    ((rw[if_pos (by rfl)]);go_simp;(go_at_call 83);refine qs.mono ?_;rintro e w7 ⟨rfl,cq⟩;refine hK.out _ _ ⟨⟨(cq.cell (Zrx _ _ vZ)).trans vZ,(cq.cell (Zrx _ _ vc)).trans vc⟩,(cq.cell (Zrx _ _ k6)).trans k6⟩ (fun aE=>?_))
    (clear hK K)
    (try simp only[Act.put,Zrs,Zrt,Zru]);(refine wpAnyH_done (by kernel_rfl) ?_ _);have fS:=iV.out.next cq;have k7:w7.cell? ⟨b,o+Q*3,none⟩=some (.int .i64 (L':Nat)):=(cq.cell (Zrx _ _ k6)).trans k6;obtain⟨_,kr7,_⟩:=(ht.below fS.1).node hQ;rw[show t[Q]=(⟨(L':Nat),(R':Nat),yv⟩:VN) from (Zrw hy.out).2]at kr7;simp only at kr7;replace fS:=Zrr fS;clear aE qb1 qo qs ah bZ cq p0 p1 k0 k1 k2 k5 k6 vX vY vZ vc jU iV eG n0 tg hI
    cases hDv:D
    ·have bU:Hid (¬ L.Und t L' P):=Zrr (fun h=>by have:=hD.out.2 h;rw[hDv]at this;cases this)
     subst hDv;have lN:=fS.out.next (ZrE w7.heap.size w7).drew;obtain⟨k0,k1,k2⟩:=(ht.below lN.1).node hQ;rw[show t[Q]=(⟨(L':Nat),(R':Nat),yv⟩:VN) from (Zrw hy.out).2]at k0 k1 k2;simp only at k0 k1 k2;obtain⟨p0,p1⟩:=lN.2;replace lN:=Zrr lN;obtain⟨E,hE⟩:∃E:Bool,E=true↔L.Und t R' P:=⟨@decide _ (Classical.propDecidable _),@decide_eq_true_iff _ (Classical.propDecidable _)⟩;have qsub:=Zrr fun W=>Zgx S (ofS mr) E (hE.trans vB.out.symm) W
     have qof:=fun W v (hv:SlI W v mr)=>Zda mr v W hv (by omega)
     unfold ZbU at qof;replace qof:=Zrr qof;generalize lo (ofS mr)=m0 at *;generalize hi (ofS mr)=m1 at *;replace hE:=Zrr hE;go_wp2_with fail;(refine wp_region_held_drew (S:=(fun W=>(W.cell? ⟨px,0,none⟩=some (.int .u64 (lo S))∧W.cell? ⟨px,1,none⟩=some (.int .u64 (hi S)))∧W.cell? ⟨b,o+Q*3+1,none⟩=some (.int .i64 (R':Nat)))) (by kernel_rfl) ?_ (fun aE=>?_))
     ·exact⟨⟨p0,p1⟩,k1⟩
     (refine ZrR (i:=0) (v:=?_) rfl (by kernel_rfl) (fun _ _ _ h=>h) (Or.inl ⟨by rfl,?_⟩) (by assumption) ?_);rotate_left
     ·(intro w aB;(try dsimp only at aB);go_simp;first|done|with_reducible rfl)
     (try simp only[Act.put,Zrs,Zrt,Zru]);(refine ZrR (i:=1) (v:=?_) rfl (by kernel_rfl) (fun _ _ _ h=>h) (Or.inl ⟨by rfl,?_⟩) (by assumption) ?_);rotate_left
     ·(intro w aB;(try dsimp only at aB);go_simp;first|done|with_reducible rfl)
     (try simp only[Act.put,Zrs,Zrt,Zru]);(refine ZrR (i:=2) (v:=?_) rfl (by kernel_rfl) (fun _ _ _ h=>h) (Or.inl ⟨by rfl,?_⟩) (by assumption) ?_);rotate_left
     ·(intro w aB;(try dsimp only at aB);go_simp;first|done|with_reducible rfl)
     (try simp only[Act.put,Zrs,Zrt,Zru]);(refine ZrR (i:=3) (v:=?_) rfl (by kernel_rfl) (fun _ _ _ h=>h) (Or.inl ⟨by rfl,?_⟩) (by assumption) ?_);rotate_left
     ·(intro w aB;(try dsimp only at aB);go_simp;first|done|with_reducible rfl)
     (try simp only[Act.put,Zrs,Zrt,Zru]);(refine ZrR (i:=4) (v:=?_) rfl (by kernel_rfl) (fun _ _ _ h=>h) (Or.inl ⟨by rfl,?_⟩) (by assumption) ?_);rotate_left
     ·(intro w aB;(try dsimp only at aB);go_simp;first|done|with_reducible rfl)
     (try simp only[Act.put,Zrs,Zrt,Zru]);(refine ZrR (i:=5) (v:=?_) rfl (by kernel_rfl) (fun _ _ _ h=>h) (Or.inl ⟨by rfl,?_⟩) (by assumption) ?_);rotate_left
     ·(intro w aB;(try dsimp only at aB);go_simp;first|done|with_reducible rfl)
     (try simp only[Act.put,Zrs,Zrt,Zru]);(refine ZrR (i:=6) (v:=?_) rfl (by kernel_rfl) (fun _ _ _ h=>h) (Or.inl ⟨by rfl,?_⟩) (by assumption) ?_);rotate_left
     ·(intro w aB;(try dsimp only at aB);go_simp;first|done|with_reducible rfl)
     (try simp only[Act.put,Zrs,Zrt,Zru]);have qb1:=qr.out w7.drew lN.out.1;(refine wpAnyH_ready (rs:=[7]) (by kernel_rfl) (by simp) ?_);(refine ZaW rfl (fun K hK=>?_))
     ((rw[if_pos (by rfl)]);go_simp;(go_at_call 72);refine qb1.mono ?_;rintro e w5 ⟨v5,rfl,eG,ah⟩;refine hK.out _ _ ⟨⟨(ah.cell (Zrx _ _ p0)).trans p0,(ah.cell (Zrx _ _ p1)).trans p1⟩,(ah.cell (Zrx _ _ k1)).trans k1⟩ (fun aE=>?_))
     (clear hK K)
     (try simp only[Act.put,Zrs,Zrt,Zru]);have jU:=lN.out.next ah;have qo:=qof.out w5 v5 (Zbi eG);have k5:w5.cell? ⟨b,o+Q*3+1,none⟩=some (.int .i64 (R':Nat)):=(ah.cell (Zrx _ _ k1)).trans k1;obtain⟨vX,vY⟩:=jU.2;replace eG:=Zrr eG;replace jU:=Zrr jU;(refine wpAnyH_ready (rs:=[8]) (by kernel_rfl) (by simp) ?_);(refine ZaW rfl (fun K hK=>?_))
     ((rw[if_pos (by rfl)]);go_simp;(go_at_call 84);refine qo.mono ?_;rintro e w6 ⟨rfl,bZ⟩;refine hK.out _ _ ⟨⟨(bZ.cell (Zrx _ _ vX)).trans vX,(bZ.cell (Zrx _ _ vY)).trans vY⟩,(bZ.cell (Zrx _ _ k5)).trans k5⟩ (fun aE=>?_))
     (clear hK K)
     (try simp only[Act.put,Zrs,Zrt,Zru]);have iV:=jU.out.next bZ;have qs:=qsub.out w6;have k6:w6.cell? ⟨b,o+Q*3+1,none⟩=some (.int .i64 (R':Nat)):=(bZ.cell (Zrx _ _ k5)).trans k5;obtain⟨vZ,vc⟩:=iV.2;replace iV:=Zrr iV;(refine wpAnyH_ready (rs:=[9]) (by kernel_rfl) (by simp) ?_);(refine ZaW rfl (fun K hK=>?_))
     ((rw[if_pos (by rfl)]);go_simp;(go_at_call 83);refine qs.mono ?_;rintro e w8 ⟨rfl,qY⟩;refine hK.out _ _ ⟨⟨(qY.cell (Zrx _ _ vZ)).trans vZ,(qY.cell (Zrx _ _ vc)).trans vc⟩,(qY.cell (Zrx _ _ k6)).trans k6⟩ (fun aE=>?_))
     (clear hK K)
     (try simp only[Act.put,Zrs,Zrt,Zru]);(refine wpAnyH_done (by kernel_rfl) ?_ _);have xS:=iV.out.next qY;obtain⟨_,kr8,_⟩:=(ht.below xS.1).node hQ;rw[show t[Q]=(⟨(L':Nat),(R':Nat),yv⟩:VN) from (Zrw hy.out).2]at kr8;simp only at kr8;replace xS:=Zrr xS;clear aE qb1 qo qs ah bZ qY p0 p1 k0 k1 k2 k5 k6 vX vY vZ vc jU iV eG lN fS k7 kr7
     cases hEv:E
     ·have kp:¬ L.Und t R' P:=fun h=>by have:=hE.out.2 h;rw[hEv]at this;cases this
      have qR:P=Q:=cy.out.resolve_right (fun h=>h.elim bU.out kp);subst hEv;replace qR:=Zrr qR;replace kp:=Zrr kp;go_wp2_with fail;go_ret;exact⟨by rw[qR.out];rfl,xS.out.1⟩
     ·have hUr:=Zrr (hE.out.1 hEv)
      subst hEv;go_wp2_with fail;go_roundw
      case rel=>exact⟨R',by omega,rfl,hUr,xS⟩
      case measure=>simp[intOf];omega
    ·have yB:=Zrr (hD.out.1 hDv)
     subst hDv;go_wp2_with fail;go_roundw
     case rel=>exact⟨L',by omega,rfl,yB,fS⟩
     case measure=>simp[intOf];omega
   ·have bF:yl= -1:=by simp only[Zai,ZrK,ZrN]at aI;exact aI.1.1
    subst bF;have qR:P=Q:=hU.out.leaf hC.out.chk hy aI;replace qR:=Zrr qR;clear aI hy;go_wp2_with fail;go_ret;exact⟨by rw[qR.out];rfl,hI.out.1⟩
end Go.Proofs.YtemnmcfmabamcaaGreatDoor
