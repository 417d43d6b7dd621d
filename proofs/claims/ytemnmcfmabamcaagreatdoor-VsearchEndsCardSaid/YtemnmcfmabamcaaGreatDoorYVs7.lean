import Derived.Test.YtemnmcfmabamcaaGreatDoorYVs6
set_option linter.unusedSimpArgs false
set_option linter.unusedVariables false
set_option maxRecDepth 100000
set_option maxHeartbeats 4000000
namespace Go.Proofs.YtemnmcfmabamcaaGreatDoor
open Go Go.RowKit Go.Shelf
theorem Zc0.turn{t:List VN}{φ:L.Asg→Bool}{sb r:Nat}{w w':World}(h:Zc0 t φ sb r w){blk:Nat}{c0:Array Value}{ty:TypeId}{f0:Nat × Nat}(hk:w.heap[blk]? =some (.cells c0 ty f0))(h1:ty≠ZaN)(h2:ty≠Zbd)(h3:ty≠ZaD)(h4:ty≠78)(hg:Zdm<blk∧gTz<blk)
  (hs:∀(k:Nat) (o:Obj),k≠blk→w.heap[k]? =some o→w'.heap[k]? =some o):Zc0 t φ sb r w':=by
 obtain⟨B,k,s,rfl,hS,hv⟩:=h.st;obtain⟨B',hB,hR,hS',_⟩:=hS.here;have tm:=hR.grownT hk h1 h2 h3 h4 ⟨by omega,by omega⟩ hs;exact⟨⟨B',k,s,hB,⟨⟨B',tm,Stp.refl _ _ _⟩,hS.room,hS.tree⟩,hv⟩⟩
theorem Zc0.row{t:List VN}{φ:L.Asg→Bool}{sb r:Nat}{w w':World}(h:Zc0 t φ sb r w){N sz n:Nat}{ty:TypeId}{v:Value}{xs:List Value}(ho:w.ownsRow N ty sz v n xs)(hg:w.grownBy w' v.ownBlock)(h1:ty≠ZaN)(h2:ty≠Zbd)(h3:ty≠ZaD)(h4:ty≠78)(hN:Zdm<N∧gTz<N):Zc0 t φ sb r w':=by
 cases hv:v.ownBlock with
 | none =>
   rw[hv]at hg;exact h.below ⟨hg.os,hg.tape,hg.output,hg.size,fun k hk=>hg.block k hk (fun e=>by cases e)⟩
 | some g =>
   obtain⟨_,c,hc⟩:=Zap ho hv;have eE:=Zay ho hv;rw[hv]at hg;refine h.turn hc h1 h2 h3 h4 ⟨by omega,by omega⟩ fun k o aJ hk=>?_
   rw[hg.block k (Zrv hk).1 (fun e=>aJ (Option.some.inj e))];exact hk
abbrev stC(sb r sz:Nat):Array Value:=#[.pointer (some ⟨sb,0,none⟩),.int .i64 (r:Nat),.int .i64 (sz:Nat)]
def ZaB (l:List Int)(f:List Bool)(T:L.Tr)(i:Nat):Nat→L.Tr × Nat × Nat
 | 0=>(T,L.sizeTr T l f,0)
 | k+1=>L.bestK l f T i (k+1) (ZaB l f T i k)
theorem Zfh(l:List Int)(f:List Bool)(T:L.Tr)(i:Nat):ZaB l f T i 3=L.bestT l f T i:=rfl
structure BeI (wa:World) (T:L.Tr) (φ:L.Asg→Bool) (l:List Int) (sb r i x k:Nat) (ei r':Nat) (w:World):Prop where
 bel:Below wa.heap.size wa w
 bst:Zhq (ZaB l (L.tabO l φ) T i k).1 φ ei r' w
 ok:ZbI (ZaB l (L.tabO l φ) T i k).1 l
 b0:w.heap[x]? =some (.cells (stC sb r (L.sizeTr T l (L.tabO l φ))) 90 (0,0))
 b1:w.heap[x+1]? =some (.cells #[.pointer none,.int .i64 0,.int .i64 0] 90 (0,0))
 b2:w.heap[x+1+1]? =some (.cells (stC ei r' (ZaB l (L.tabO l φ) T i k).2.1) 90 (0,0))
section
variable {wa w w':World}{T:L.Tr}{φ:L.Asg→Bool}{l:List Int}{sb r i x k ei r':Nat}
theorem BeI.below(h:BeI wa T φ l sb r i x k ei r' w)(hb:Below w.heap.size w w'):BeI wa T φ l sb r i x k ei r' w':=by
 have hs:∀(g:Nat) (o:Obj),w.heap[g]? =some o→w'.heap[g]? =some o:=fun g o hg=>(hb.block g (Zrv hg).1).trans hg
 exact⟨h.bel.trans (hb.mono h.bel.size),h.bst.below hb,h.ok,hs _ _ h.b0,hs _ _ h.b1,hs _ _ h.b2⟩
theorem BeI.same(h:BeI wa T φ l sb r i x k ei r' w)(e:ZaB l (L.tabO l φ) T i (k+1)=ZaB l (L.tabO l φ) T i k):BeI wa T φ l sb r i x (k+1) ei r' w :=
 ⟨h.bel,by rw[e];exact h.bst,by rw[e];exact h.ok,h.b0,h.b1,by rw[e];exact h.b2⟩
theorem ZcB(h:L.mvT (k+1) i T 0=none)(f:List Bool):ZaB l f T i (k+1)=ZaB l f T i k:=by
 show L.bestK _ _ _ _ _ _=_
 unfold L.bestK;rw[h]
theorem ZdU{U:L.Tr}(h:L.mvT (k+1) i T 0=some U)(f:List Bool)(aD:¬ L.sizeTr U l f<(ZaB l f T i k).2.1):ZaB l f T i (k+1)=ZaB l f T i k:=by
 show L.bestK _ _ _ _ _ _=_
 unfold L.bestK;rw[h];exact if_neg aD
theorem Zc2{U:L.Tr}(h:L.mvT (k+1) i T 0=some U)(f:List Bool)(aD:L.sizeTr U l f<(ZaB l f T i k).2.1):ZaB l f T i (k+1)=(U,L.sizeTr U l f,k+1):=by
 show L.bestK _ _ _ _ _ _=_
 unfold L.bestK;rw[h];exact if_pos aD
theorem ZeC{N g:Nat}(h:Below N wa w)(hg:N≤g)(a b c:Value):Below N wa (((w.setCell ⟨g,0,none⟩ a).setCell ⟨g,1,none⟩ b).setCell ⟨g,2,none⟩ c):=((h.setCell hg _).setCell hg _).setCell hg _
theorem ZbQ{g k:Nat}(a b c:Value)(hk:k≠g):(((w.setCell ⟨g,0,none⟩ a).setCell ⟨g,1,none⟩ b).setCell ⟨g,2,none⟩ c).heap[k]? =w.heap[k]?:=by
 rw[ZcD _ _ hk,ZcD _ _ hk,ZcD _ _ hk]
theorem BeI.take(h:BeI wa T φ l sb r i x k ei r' w){U:L.Tr}{sbU rU:Nat}(hm:L.mvT (k+1) i T 0=some U)(hU:ZbI U l)(hS:Zhq U φ sbU rU w)(aD:L.sizeTr U l (L.tabO l φ)<(ZaB l (L.tabO l φ) T i k).2.1)(hx:wa.heap.size≤x)(hg:Zdm<wa.heap.size∧gTz<wa.heap.size) :
  BeI wa T φ l sb r i x (k+1) sbU rU (((w.setCell ⟨x+1+1,0,none⟩ (.pointer (some ⟨sbU,0,none⟩))).setCell ⟨x+1+1,1,none⟩ (.int .i64 (rU:Nat))).setCell ⟨x+1+1,2,none⟩ (.int .i64 (L.sizeTr U l (L.tabO l φ):Nat))):=by
 have e:=Zc2 (l:=l) hm (L.tabO l φ) aD;refine⟨ZeC h.bel (by omega) _ _ _,?_,by rw[e];exact hU,(ZbQ _ _ _ (by omega)).trans h.b0,(ZbQ _ _ _ (by omega)).trans h.b1,by rw[e];exact Ze0 h.b2 _ _ _⟩;rw[e];exact hS.turn h.b2 (by decide) (by decide) (by decide) (by decide) ⟨by omega,by omega⟩ fun g o aJ ho=>(ZbQ _ _ _ aJ).trans ho
end
theorem Zg7(W:World):((Instr.index 136 Zcm (.int .i64 0)).run Tryz.prog W= .ok (.agg #[.int .i64 1,.func (.func 62) #[] #[]]) W)∧((Instr.index 136 Zcm (.int .i64 1)).run Tryz.prog W= .ok (.agg #[.int .i64 2,.func (.func 63) #[] #[]]) W)∧((Instr.index 136 Zcm (.int .i64 2)).run Tryz.prog W= .ok (.agg #[.int .i64 3,.func (.func 64) #[] #[]]) W):=by
 refine⟨?_,?_,?_⟩ <;> first|rfl|kernel_rfl
theorem ZeR{w:World}{k:Nat}{x y:Value}{t:TypeId}(h:w.heap[k]? =some (.cells #[x,y] t (0,0))):w.cell? ⟨k,0,none⟩=some x∧w.cell? ⟨k,1,none⟩=some y:=by
 refine⟨?_,?_⟩ <;> simp[World.cell?,h]
theorem Zre(w:World)(kd:Int)(f:Nat):∃w1,w1=w.alloc (.cells #[.int .i64 kd,.func (.func f) #[] #[]] 135)∧Below w.heap.size w w1∧w1.heap[w.heap.size]? =some (.cells #[.int .i64 kd,.func (.func f) #[] #[]] 135 (0,0)) :=
 ⟨_,rfl,(ZrE _ _).alloc (ZrQ _) _,Zrz _ _⟩
theorem Zkj{T:L.Tr}{φ:L.Asg→Bool}{l:List Int}{sb r i:Nat}{w:World}(h:Zhq T φ sb r w)(hT:ZbI T l)(hz:ZaY w)(hp:Zaz w)(hi:i≤1000) :
  Calls Tryz.prog 43 #[.agg (stC sb r (L.sizeTr T l (L.tabO l φ))),.int .i64 (i:Nat)] w fun e w'=>∃ei r':Nat,e= .returned (.tuple #[.agg (stC ei r' (L.bestT l (L.tabO l φ) T i).2.1),.int .i64 ((L.bestT l (L.tabO l φ) T i).2.2:Nat)]) ∧
   Zhq (L.bestT l (L.tabO l φ) T i).1 φ ei r' w'∧Below w.heap.size w w':=by
 rw[←Zfh];unfold stC;obtain⟨sz,ac⟩:∃sz,sz=L.sizeTr T l (L.tabO l φ):=⟨_,rfl⟩;rw[←ac];replace ac:=Zrr ac;have ev:Hid (Zdm<w.heap.size∧gTz<w.heap.size):=Zrr ⟨hp.lt,hz.lt'⟩;obtain⟨x,hx⟩:∃x,w.heap.size=x:=⟨_,rfl⟩;obtain⟨w3,jR⟩:∃w3,w3=((w.alloc (.cells #[.pointer (some ⟨sb,0,none⟩),.int .i64 (r:Nat),.int .i64 (sz:Nat)] 90)).alloc (.cells #[.pointer none,.int .i64 0,.int .i64 0] 90)).alloc (.cells #[.pointer (some ⟨sb,0,none⟩),.int .i64 (r:Nat),.int .i64 (sz:Nat)] 90):=⟨_,rfl⟩;obtain⟨aU,h30,h31,h32,aR⟩:=Zic w _ _ _ _ _ _ hx jR;have q1:=ZkN w3;unfold Zcm at q1
 go_enter Tryz.func43,Tryz.ntmps43
 go_wp2_with fail;rw[←jR];refine q1.mono ?_;rintro e w2 ⟨rfl,aL⟩;have hxx:x<w3.heap.size∧x+1<w3.heap.size∧x+1+1<w3.heap.size:=by omega
 have h0:Hid (BeI w T φ l sb r i x 0 sb r w2):=Zrr ⟨aU.trans (aL.mono aU.size),h.below (aU.trans (aL.mono aU.size)),hT,by rw[←ac.out];exact(aL.block _ hxx.1).trans h30,(aL.block _ hxx.2.1).trans h31,by show w2.heap[x+1+1]? =some (.cells (stC sb r (L.sizeTr T l (L.tabO l φ))) _ _);rw[←ac.out];exact(aL.block _ hxx.2.2).trans h32⟩;replace hx:=Zrr hx;clear q1 aL hxx aU h30 h31 h32 aR jR;go_wp2_with fail
 go_loopw [7,16] (fun kv iv wr=>∃(k ei r':Nat),k≤3∧iv= .int .i64 (k:Nat)∧kv= .int .i64 ((ZaB l (L.tabO l φ) T i k).2.2:Nat)∧Hid (BeI w T φ l sb r i x k ei r' wr)) (fun _ iv _=>3 - (intOf iv).toNat)
 case atStart=>exact⟨0,sb,r,by omega,rfl,rfl,h0⟩
 case round =>
  clear h0;obtain⟨k,ei,r',hk,rfl,rfl,hI⟩:=hrel
  by_cases aD:k<3
  ·obtain rfl|rfl|rfl:k=0∨k=1∨k=2:=by omega
   ·
    have yt:=fun W=>(Zg7 W).1
    unfold Zcm at yt;have hK:∀(c:Array Value) (w:World),(callFunc 62 c).run Tryz.prog w= .ok (.enter 62 c) w:=fun c w=>by simp[go_sem,Tryz.func62]
    obtain⟨w4,mE,aw,dO⟩:=Zre wr 1 62;have en:=hI.out.below aw;have m0:w4.cell? ⟨wr.heap.size,0,none⟩=some (.int .i64 1):=by rw[World.cell?,dO];rfl
    have m1:w4.cell? ⟨wr.heap.size,1,none⟩=some (.func (.func 62) #[] #[]):=by rw[World.cell?,dO];rfl
    obtain⟨e0,e1,e2⟩:=Za5 en.b0;have q5:=(h.below en.bel).right hT (hz.same (en.bel.block _ hz.lt')) (hp.same (en.bel.block _ hp.lt)) i;have ks:x+1+1<wr.heap.size:=(Zrv hI.out.b2).1;obtain⟨mb,qA⟩:∃mb,wr.heap.size=mb:=⟨_,rfl⟩;rw[qA]at m0 m1 dO ks;rw[mE]at e0 e1 m0 m1;replace en:=Zrr en;clear e2;replace dO:=Zrr dO;replace aw:=Zrr aw;clear hI;go_wp2_with fail
    try simp only[qA]
    rw[←mE];refine q5.mono ?_;rintro e w5 ⟨ah,⟨cz,rfl⟩|⟨U,sbU,rU,hU,rfl,kH⟩⟩
    ·have aA:Hid (BeI w T φ l sb r i x (0+1) ei r' w5):=Zrr ((en.out.below ah).same (ZcB cz _))
     have bW:(ZaB l (L.tabO l φ) T i (0+1)).2.2=(ZaB l (L.tabO l φ) T i 0).2.2:=by rw[ZcB cz]
     replace bW:=Zrr bW;clear q5 en m0 m1 e0 e1;go_wp2_with fail;go_roundw
     case rel=>exact⟨0+1,ei,r',by omega,by go_num,by rw[bW.out],aA⟩
     case measure=>simp[intOf]
    ·have ec:ZbI U l:=by
      obtain⟨g1,g2⟩:=L.mvT_perm _ _ _ hU;exact hT.perm g1 g2
     have q6:=Zcf kH ec;have jU:=Zrr (en.out.below ah);have nK:=Zrr ((ah.block mb (Zrv dO.out).1).trans dO.out);replace hU:=Zrr hU;obtain⟨sU,eC⟩:∃sU,sU=L.sizeTr U l (L.tabO l φ):=⟨_,rfl⟩;rw[←eC]at q6;replace eC:=Zrr eC;replace kH:=Zrr kH;replace ec:=Zrr ec;clear q5 en dO m0 m1 e0 e1 ah;go_wp2_with fail;refine q6.mono ?_;rintro e w6 ⟨rfl,bZ⟩;have iV:=jU.out.below bZ;have fd:=kH.out.below bZ;have ol:=(bZ.block mb (Zrv nK.out).1).trans nK.out;obtain⟨yb,jD⟩:∃yb,w6.heap.size=yb:=⟨_,rfl⟩;obtain⟨w7,fQ⟩:∃w7,w7=w6.alloc (.cells #[.pointer (some ⟨sbU,0,none⟩),.int .i64 (rU:Nat),.int .i64 (sU:Nat)] 90):=⟨_,rfl⟩;have cq:Below w6.heap.size w6 w7:=by rw[fQ];exact(ZrE _ _).alloc (ZrQ _) _
     have j8:w7.heap[yb]? =some (.cells #[.pointer (some ⟨sbU,0,none⟩),.int .i64 (rU:Nat),.int .i64 (sU:Nat)] 90 (0,0)):=by rw[fQ,←jD];exact Zrz _ _
     have fS:=iV.below cq;have fT:=fd.below cq;have iM:=(cq.block mb (Zrv ol).1).trans ol;obtain⟨y0,y1,y2⟩:=Za5 j8;obtain⟨z0,z1,z2⟩:=Za5 fS.b2;have zB:x+1+1<yb:=by rw[←jD];exact(Zrv iV.b2).1
     obtain⟨bs,fk⟩:∃bs,bs=(ZaB l (L.tabO l φ) T i 0).2.1:=⟨_,rfl⟩;rw[←fk]at z2;replace fk:=Zrr fk;replace fS:=Zrr fS;replace fT:=Zrr fT;replace j8:=Zrr j8;replace iM:=Zrr iM;replace cq:=Zrr cq;clear q6 jU iV fd nK ol bZ z0 z1 y0 y1 kH;rw[fQ]at y2 z2
     by_cases hlts:sU<bs
     ·have dls:decide ((sU:Int)<(bs:Int))=true:=ZrI (by omega)
      go_wp2_with fail
      try simp only[jD]
      try rw[←fQ]
      obtain⟨sK,y7⟩:∃sK,sK=w7:=⟨_,rfl⟩;clear fQ y2 z2;(refine wp_region_held_drew (S:=(fun W=>W.heap[yb]? =some (.cells #[.pointer (some ⟨sbU,0,none⟩),.int .i64 (rU:Nat),.int .i64 (sU:Nat)] 90 (0,0))∧W.heap[mb]? =some (.cells #[.int .i64 1,.func (.func 62) #[] #[]] 135 (0,0)))) (by kernel_rfl) ?_ (fun aE=>?_))
      ·exact⟨j8.out,iM.out⟩
      (refine ZrR (i:=0) (v:=?_) rfl (by kernel_rfl) (fun _ _ _ h=>h) (Or.inl ⟨by rfl,?_⟩) (by assumption) ?_);rotate_left
      ·(intro w aB;(try dsimp only at aB);obtain⟨dR,bX⟩:=aB;obtain⟨y0,y1,y2⟩:=Za5 dR;obtain⟨m0,m1⟩:=ZeR bX;go_simp;first|done|with_reducible rfl)
      (try simp only[Act.put,Zrs,Zrt,Zru]);(refine ZrR (i:=1) (v:=?_) rfl (by kernel_rfl) (fun _ _ _ h=>h) (Or.inl ⟨by rfl,?_⟩) (by assumption) ?_);rotate_left
      ·(intro w aB;(try dsimp only at aB);obtain⟨dR,bX⟩:=aB;obtain⟨y0,y1,y2⟩:=Za5 dR;obtain⟨m0,m1⟩:=ZeR bX;go_simp;first|done|with_reducible rfl)
      (try simp only[Act.put,Zrs,Zrt,Zru]);(refine ZrR (i:=2) (v:=?_) rfl (by kernel_rfl) (fun _ _ _ h=>h) (Or.inl ⟨by rfl,?_⟩) (by assumption) ?_);rotate_left
      ·(intro w aB;(try dsimp only at aB);obtain⟨dR,bX⟩:=aB;obtain⟨y0,y1,y2⟩:=Za5 dR;obtain⟨m0,m1⟩:=ZeR bX;go_simp;first|done|with_reducible rfl)
      (try simp only[Act.put,Zrs,Zrt,Zru]);have dT:=fS.out.b2;obtain⟨z0,z1,z2⟩:=Za5 dT;have f0:w7.frozen? ⟨x+1+1,0,none⟩=false:=by simp[World.frozen?,dT]
      have f1:w7.frozen? ⟨x+1+1,1,none⟩=false:=by simp[World.frozen?,dT]
      have f2:w7.frozen? ⟨x+1+1,2,none⟩=false:=by simp[World.frozen?,dT]
      have p6:mb≠x+1+1:=by omega
      replace dT:=Zrr dT;(refine wpAnyH_ready (rs:=[3]) (by kernel_rfl) (by simp) ?_);(refine ZaW rfl (fun K hK=>?_))
      ((rw[if_pos (by rfl)]);go_simp;(refine hK.out _ _ ⟨(ZbQ _ _ _ (by omega)).trans j8.out,(ZbQ _ _ _ p6).trans iM.out⟩ (fun aE=>?_)))
      (clear hK K)
      (try simp only[Act.put,Zrs,Zrt,Zru]);(refine ZrR (i:=4) (v:=?_) rfl (by kernel_rfl) (fun _ _ _ h=>h) (Or.inl ⟨by rfl,?_⟩) (by assumption) ?_);rotate_left
      ·(intro w aB;(try dsimp only at aB);obtain⟨dR,bX⟩:=aB;obtain⟨y0,y1,y2⟩:=Za5 dR;obtain⟨m0,m1⟩:=ZeR bX;go_simp;first|done|with_reducible rfl)
      (try simp only[Act.put,Zrs,Zrt,Zru]);(refine wpAnyH_done (by kernel_rfl) ?_ _)
      have aA:Hid (BeI w T φ l sb r i x (0+1) sbU rU (((w7.setCell ⟨x+1+1,0,none⟩ (.pointer (some ⟨sbU,0,none⟩))).setCell ⟨x+1+1,1,none⟩ (.int .i64 (rU:Nat))).setCell ⟨x+1+1,2,none⟩ (.int .i64 (sU:Nat))).drew):=Zrr (by
       rw[eC.out];refine BeI.below ?_ (ZrE _ _).drew;exact fS.out.take hU.out ec.out fT.out (by rw[←eC.out,←fk.out];exact hlts) (by rw[←hx.out];exact ZrQ _) ev.out)
      have bW:(ZaB l (L.tabO l φ) T i (0+1)).2.2=0+1:=by rw[Zc2 hU.out _ (by rw[←eC.out,←fk.out];exact hlts)]
      replace bW:=Zrr bW;clear aE j8 iM fS fT z0 z1 z2 f0 f1 f2;go_wp2_with fail;go_roundw
      case rel=>exact⟨0+1,sbU,rU,by omega,by go_num,by rw[bW.out];rfl,aA⟩
      case measure=>simp[intOf]
     ·have dls:decide ((sU:Int)<(bs:Int))=false:=ZrH (by omega)
      have bN:ZaB l (L.tabO l φ) T i (0+1)=ZaB l (L.tabO l φ) T i 0:=ZdU hU.out _ (by rw[←eC.out,←fk.out];exact hlts);have aA:Hid (BeI w T φ l sb r i x (0+1) ei r' w7):=Zrr (fS.out.same bN);have bW:=Zrr (congrArg (fun b=>b.2.2) bN);go_wp2_with fail
      try simp only[jD]
      try rw[←fQ]
      go_roundw
      case rel=>exact⟨0+1,ei,r',by omega,by go_num,by rw[bW.out],aA⟩
      case measure=>simp[intOf]
   ·
    have yt:=fun W=>(Zg7 W).2.1
    unfold Zcm at yt;have hK:∀(c:Array Value) (w:World),(callFunc 63 c).run Tryz.prog w= .ok (.enter 63 c) w:=fun c w=>by simp[go_sem,Tryz.func63]
    obtain⟨w4,mE,aw,dO⟩:=Zre wr 2 63;have en:=hI.out.below aw;have m0:w4.cell? ⟨wr.heap.size,0,none⟩=some (.int .i64 2):=by rw[World.cell?,dO];rfl
    have m1:w4.cell? ⟨wr.heap.size,1,none⟩=some (.func (.func 63) #[] #[]):=by rw[World.cell?,dO];rfl
    obtain⟨e0,e1,e2⟩:=Za5 en.b0;have q5:=(h.below en.bel).left hT (hz.same (en.bel.block _ hz.lt')) (hp.same (en.bel.block _ hp.lt)) i;have ks:x+1+1<wr.heap.size:=(Zrv hI.out.b2).1;obtain⟨mb,qA⟩:∃mb,wr.heap.size=mb:=⟨_,rfl⟩;rw[qA]at m0 m1 dO ks;rw[mE]at e0 e1 m0 m1;replace en:=Zrr en;clear e2;replace dO:=Zrr dO;replace aw:=Zrr aw;clear hI;go_wp2_with fail
    try simp only[qA]
    rw[←mE];refine q5.mono ?_;rintro e w5 ⟨ah,⟨cz,rfl⟩|⟨U,sbU,rU,hU,rfl,kH⟩⟩
    ·have aA:Hid (BeI w T φ l sb r i x (1+1) ei r' w5):=Zrr ((en.out.below ah).same (ZcB cz _))
     have bW:(ZaB l (L.tabO l φ) T i (1+1)).2.2=(ZaB l (L.tabO l φ) T i 1).2.2:=by rw[ZcB cz]
     replace bW:=Zrr bW;clear q5 en m0 m1 e0 e1;go_wp2_with fail;go_roundw
     case rel=>exact⟨1+1,ei,r',by omega,by go_num,by rw[bW.out],aA⟩
     case measure=>simp[intOf]
    ·have ec:ZbI U l:=by
      obtain⟨g1,g2⟩:=L.mvT_perm _ _ _ hU;exact hT.perm g1 g2
     have q6:=Zcf kH ec;have jU:=Zrr (en.out.below ah);have nK:=Zrr ((ah.block mb (Zrv dO.out).1).trans dO.out);replace hU:=Zrr hU;obtain⟨sU,eC⟩:∃sU,sU=L.sizeTr U l (L.tabO l φ):=⟨_,rfl⟩;rw[←eC]at q6;replace eC:=Zrr eC;replace kH:=Zrr kH;replace ec:=Zrr ec;clear q5 en dO m0 m1 e0 e1 ah;go_wp2_with fail;refine q6.mono ?_;rintro e w6 ⟨rfl,bZ⟩;have iV:=jU.out.below bZ;have fd:=kH.out.below bZ;have ol:=(bZ.block mb (Zrv nK.out).1).trans nK.out;obtain⟨yb,jD⟩:∃yb,w6.heap.size=yb:=⟨_,rfl⟩;obtain⟨w7,fQ⟩:∃w7,w7=w6.alloc (.cells #[.pointer (some ⟨sbU,0,none⟩),.int .i64 (rU:Nat),.int .i64 (sU:Nat)] 90):=⟨_,rfl⟩;have cq:Below w6.heap.size w6 w7:=by rw[fQ];exact(ZrE _ _).alloc (ZrQ _) _
     have j8:w7.heap[yb]? =some (.cells #[.pointer (some ⟨sbU,0,none⟩),.int .i64 (rU:Nat),.int .i64 (sU:Nat)] 90 (0,0)):=by rw[fQ,←jD];exact Zrz _ _
     have fS:=iV.below cq;have fT:=fd.below cq;have iM:=(cq.block mb (Zrv ol).1).trans ol;obtain⟨y0,y1,y2⟩:=Za5 j8;obtain⟨z0,z1,z2⟩:=Za5 fS.b2;have zB:x+1+1<yb:=by rw[←jD];exact(Zrv iV.b2).1
     obtain⟨bs,fk⟩:∃bs,bs=(ZaB l (L.tabO l φ) T i 1).2.1:=⟨_,rfl⟩;rw[←fk]at z2;replace fk:=Zrr fk;replace fS:=Zrr fS;replace fT:=Zrr fT;replace j8:=Zrr j8;replace iM:=Zrr iM;replace cq:=Zrr cq;clear q6 jU iV fd nK ol bZ z0 z1 y0 y1 kH;rw[fQ]at y2 z2
     by_cases hlts:sU<bs
     ·have dls:decide ((sU:Int)<(bs:Int))=true:=ZrI (by omega)
      go_wp2_with fail
      try simp only[jD]
      try rw[←fQ]
      obtain⟨sK,y7⟩:∃sK,sK=w7:=⟨_,rfl⟩;clear fQ y2 z2;(refine wp_region_held_drew (S:=(fun W=>W.heap[yb]? =some (.cells #[.pointer (some ⟨sbU,0,none⟩),.int .i64 (rU:Nat),.int .i64 (sU:Nat)] 90 (0,0))∧W.heap[mb]? =some (.cells #[.int .i64 2,.func (.func 63) #[] #[]] 135 (0,0)))) (by kernel_rfl) ?_ (fun aE=>?_))
      ·exact⟨j8.out,iM.out⟩
      (refine ZrR (i:=0) (v:=?_) rfl (by kernel_rfl) (fun _ _ _ h=>h) (Or.inl ⟨by rfl,?_⟩) (by assumption) ?_);rotate_left
      ·(intro w aB;(try dsimp only at aB);obtain⟨dR,bX⟩:=aB;obtain⟨y0,y1,y2⟩:=Za5 dR;obtain⟨m0,m1⟩:=ZeR bX;go_simp;first|done|with_reducible rfl)
      (try simp only[Act.put,Zrs,Zrt,Zru]);(refine ZrR (i:=1) (v:=?_) rfl (by kernel_rfl) (fun _ _ _ h=>h) (Or.inl ⟨by rfl,?_⟩) (by assumption) ?_);rotate_left
      ·(intro w aB;(try dsimp only at aB);obtain⟨dR,bX⟩:=aB;obtain⟨y0,y1,y2⟩:=Za5 dR;obtain⟨m0,m1⟩:=ZeR bX;go_simp;first|done|with_reducible rfl)
      (try simp only[Act.put,Zrs,Zrt,Zru]);(refine ZrR (i:=2) (v:=?_) rfl (by kernel_rfl) (fun _ _ _ h=>h) (Or.inl ⟨by rfl,?_⟩) (by assumption) ?_);rotate_left
      ·(intro w aB;(try dsimp only at aB);obtain⟨dR,bX⟩:=aB;obtain⟨y0,y1,y2⟩:=Za5 dR;obtain⟨m0,m1⟩:=ZeR bX;go_simp;first|done|with_reducible rfl)
      (try simp only[Act.put,Zrs,Zrt,Zru]);have dT:=fS.out.b2;obtain⟨z0,z1,z2⟩:=Za5 dT;have f0:w7.frozen? ⟨x+1+1,0,none⟩=false:=by simp[World.frozen?,dT]
      have f1:w7.frozen? ⟨x+1+1,1,none⟩=false:=by simp[World.frozen?,dT]
      have f2:w7.frozen? ⟨x+1+1,2,none⟩=false:=by simp[World.frozen?,dT]
      have p6:mb≠x+1+1:=by omega
      replace dT:=Zrr dT;(refine wpAnyH_ready (rs:=[3]) (by kernel_rfl) (by simp) ?_);(refine ZaW rfl (fun K hK=>?_))
      ((rw[if_pos (by rfl)]);go_simp;(refine hK.out _ _ ⟨(ZbQ _ _ _ (by omega)).trans j8.out,(ZbQ _ _ _ p6).trans iM.out⟩ (fun aE=>?_)))
      (clear hK K)
      (try simp only[Act.put,Zrs,Zrt,Zru]);(refine ZrR (i:=4) (v:=?_) rfl (by kernel_rfl) (fun _ _ _ h=>h) (Or.inl ⟨by rfl,?_⟩) (by assumption) ?_);rotate_left
      ·(intro w aB;(try dsimp only at aB);obtain⟨dR,bX⟩:=aB;obtain⟨y0,y1,y2⟩:=Za5 dR;obtain⟨m0,m1⟩:=ZeR bX;go_simp;first|done|with_reducible rfl)
      (try simp only[Act.put,Zrs,Zrt,Zru]);(refine wpAnyH_done (by kernel_rfl) ?_ _)
      have aA:Hid (BeI w T φ l sb r i x (1+1) sbU rU (((w7.setCell ⟨x+1+1,0,none⟩ (.pointer (some ⟨sbU,0,none⟩))).setCell ⟨x+1+1,1,none⟩ (.int .i64 (rU:Nat))).setCell ⟨x+1+1,2,none⟩ (.int .i64 (sU:Nat))).drew):=Zrr (by
       rw[eC.out];refine BeI.below ?_ (ZrE _ _).drew;exact fS.out.take hU.out ec.out fT.out (by rw[←eC.out,←fk.out];exact hlts) (by rw[←hx.out];exact ZrQ _) ev.out)
      have bW:(ZaB l (L.tabO l φ) T i (1+1)).2.2=1+1:=by rw[Zc2 hU.out _ (by rw[←eC.out,←fk.out];exact hlts)]
      replace bW:=Zrr bW;clear aE j8 iM fS fT z0 z1 z2 f0 f1 f2;go_wp2_with fail;go_roundw
      case rel=>exact⟨1+1,sbU,rU,by omega,by go_num,by rw[bW.out];rfl,aA⟩
      case measure=>simp[intOf]
     ·have dls:decide ((sU:Int)<(bs:Int))=false:=ZrH (by omega)
      have bN:ZaB l (L.tabO l φ) T i (1+1)=ZaB l (L.tabO l φ) T i 1:=ZdU hU.out _ (by rw[←eC.out,←fk.out];exact hlts);have aA:Hid (BeI w T φ l sb r i x (1+1) ei r' w7):=Zrr (fS.out.same bN);have bW:=Zrr (congrArg (fun b=>b.2.2) bN);go_wp2_with fail
      try simp only[jD]
      try rw[←fQ]
      go_roundw
      case rel=>exact⟨1+1,ei,r',by omega,by go_num,by rw[bW.out],aA⟩
      case measure=>simp[intOf]
   ·
    have yt:=fun W=>(Zg7 W).2.2
    unfold Zcm at yt;have hK:∀(c:Array Value) (w:World),(callFunc 64 c).run Tryz.prog w= .ok (.enter 64 c) w:=fun c w=>by simp[go_sem,Tryz.func64]
    obtain⟨w4,mE,aw,dO⟩:=Zre wr 3 64;have en:=hI.out.below aw;have m0:w4.cell? ⟨wr.heap.size,0,none⟩=some (.int .i64 3):=by rw[World.cell?,dO];rfl
    have m1:w4.cell? ⟨wr.heap.size,1,none⟩=some (.func (.func 64) #[] #[]):=by rw[World.cell?,dO];rfl
    obtain⟨e0,e1,e2⟩:=Za5 en.b0;have q5:=(h.below en.bel).swap hT (hz.same (en.bel.block _ hz.lt')) (hp.same (en.bel.block _ hp.lt)) i;have ks:x+1+1<wr.heap.size:=(Zrv hI.out.b2).1;obtain⟨mb,qA⟩:∃mb,wr.heap.size=mb:=⟨_,rfl⟩;rw[qA]at m0 m1 dO ks;rw[mE]at e0 e1 m0 m1;replace en:=Zrr en;clear e2;replace dO:=Zrr dO;replace aw:=Zrr aw;clear hI;go_wp2_with fail
    try simp only[qA]
    rw[←mE];refine q5.mono ?_;rintro e w5 ⟨ah,⟨cz,rfl⟩|⟨U,sbU,rU,hU,rfl,kH⟩⟩
    ·have aA:Hid (BeI w T φ l sb r i x (2+1) ei r' w5):=Zrr ((en.out.below ah).same (ZcB cz _))
     have bW:(ZaB l (L.tabO l φ) T i (2+1)).2.2=(ZaB l (L.tabO l φ) T i 2).2.2:=by rw[ZcB cz]
     replace bW:=Zrr bW;clear q5 en m0 m1 e0 e1;go_wp2_with fail;go_roundw
     case rel=>exact⟨2+1,ei,r',by omega,by go_num,by rw[bW.out],aA⟩
     case measure=>simp[intOf]
    ·have ec:ZbI U l:=by
      obtain⟨g1,g2⟩:=L.mvT_perm _ _ _ hU;exact hT.perm g1 g2
     have q6:=Zcf kH ec;have jU:=Zrr (en.out.below ah);have nK:=Zrr ((ah.block mb (Zrv dO.out).1).trans dO.out);replace hU:=Zrr hU;obtain⟨sU,eC⟩:∃sU,sU=L.sizeTr U l (L.tabO l φ):=⟨_,rfl⟩;rw[←eC]at q6;replace eC:=Zrr eC;replace kH:=Zrr kH;replace ec:=Zrr ec;clear q5 en dO m0 m1 e0 e1 ah;go_wp2_with fail;refine q6.mono ?_;rintro e w6 ⟨rfl,bZ⟩;have iV:=jU.out.below bZ;have fd:=kH.out.below bZ;have ol:=(bZ.block mb (Zrv nK.out).1).trans nK.out;obtain⟨yb,jD⟩:∃yb,w6.heap.size=yb:=⟨_,rfl⟩;obtain⟨w7,fQ⟩:∃w7,w7=w6.alloc (.cells #[.pointer (some ⟨sbU,0,none⟩),.int .i64 (rU:Nat),.int .i64 (sU:Nat)] 90):=⟨_,rfl⟩;have cq:Below w6.heap.size w6 w7:=by rw[fQ];exact(ZrE _ _).alloc (ZrQ _) _
     have j8:w7.heap[yb]? =some (.cells #[.pointer (some ⟨sbU,0,none⟩),.int .i64 (rU:Nat),.int .i64 (sU:Nat)] 90 (0,0)):=by rw[fQ,←jD];exact Zrz _ _
     have fS:=iV.below cq;have fT:=fd.below cq;have iM:=(cq.block mb (Zrv ol).1).trans ol;obtain⟨y0,y1,y2⟩:=Za5 j8;obtain⟨z0,z1,z2⟩:=Za5 fS.b2;have zB:x+1+1<yb:=by rw[←jD];exact(Zrv iV.b2).1
     obtain⟨bs,fk⟩:∃bs,bs=(ZaB l (L.tabO l φ) T i 2).2.1:=⟨_,rfl⟩;rw[←fk]at z2;replace fk:=Zrr fk;replace fS:=Zrr fS;replace fT:=Zrr fT;replace j8:=Zrr j8;replace iM:=Zrr iM;replace cq:=Zrr cq;clear q6 jU iV fd nK ol bZ z0 z1 y0 y1 kH;rw[fQ]at y2 z2
     by_cases hlts:sU<bs
     ·have dls:decide ((sU:Int)<(bs:Int))=true:=ZrI (by omega)
      go_wp2_with fail
      try simp only[jD]
      try rw[←fQ]
      obtain⟨sK,y7⟩:∃sK,sK=w7:=⟨_,rfl⟩;clear fQ y2 z2;(refine wp_region_held_drew (S:=(fun W=>W.heap[yb]? =some (.cells #[.pointer (some ⟨sbU,0,none⟩),.int .i64 (rU:Nat),.int .i64 (sU:Nat)] 90 (0,0))∧W.heap[mb]? =some (.cells #[.int .i64 3,.func (.func 64) #[] #[]] 135 (0,0)))) (by kernel_rfl) ?_ (fun aE=>?_))
      ·exact⟨j8.out,iM.out⟩
      (refine ZrR (i:=0) (v:=?_) rfl (by kernel_rfl) (fun _ _ _ h=>h) (Or.inl ⟨by rfl,?_⟩) (by assumption) ?_);rotate_left
      ·(intro w aB;(try dsimp only at aB);obtain⟨dR,bX⟩:=aB;obtain⟨y0,y1,y2⟩:=Za5 dR;obtain⟨m0,m1⟩:=ZeR bX;go_simp;first|done|with_reducible rfl)
      (try simp only[Act.put,Zrs,Zrt,Zru]);(refine ZrR (i:=1) (v:=?_) rfl (by kernel_rfl) (fun _ _ _ h=>h) (Or.inl ⟨by rfl,?_⟩) (by assumption) ?_);rotate_left
      ·(intro w aB;(try dsimp only at aB);obtain⟨dR,bX⟩:=aB;obtain⟨y0,y1,y2⟩:=Za5 dR;obtain⟨m0,m1⟩:=ZeR bX;go_simp;first|done|with_reducible rfl)
      (try simp only[Act.put,Zrs,Zrt,Zru]);(refine ZrR (i:=2) (v:=?_) rfl (by kernel_rfl) (fun _ _ _ h=>h) (Or.inl ⟨by rfl,?_⟩) (by assumption) ?_);rotate_left
      ·(intro w aB;(try dsimp only at aB);obtain⟨dR,bX⟩:=aB;obtain⟨y0,y1,y2⟩:=Za5 dR;obtain⟨m0,m1⟩:=ZeR bX;go_simp;first|done|with_reducible rfl)
      (try simp only[Act.put,Zrs,Zrt,Zru]);have dT:=fS.out.b2;obtain⟨z0,z1,z2⟩:=Za5 dT;have f0:w7.frozen? ⟨x+1+1,0,none⟩=false:=by simp[World.frozen?,dT]
      have f1:w7.frozen? ⟨x+1+1,1,none⟩=false:=by simp[World.frozen?,dT]
      have f2:w7.frozen? ⟨x+1+1,2,none⟩=false:=by simp[World.frozen?,dT]
      have p6:mb≠x+1+1:=by omega
      replace dT:=Zrr dT;(refine wpAnyH_ready (rs:=[3]) (by kernel_rfl) (by simp) ?_);(refine ZaW rfl (fun K hK=>?_))
      ((rw[if_pos (by rfl)]);go_simp;(refine hK.out _ _ ⟨(ZbQ _ _ _ (by omega)).trans j8.out,(ZbQ _ _ _ p6).trans iM.out⟩ (fun aE=>?_)))
      (clear hK K)
      (try simp only[Act.put,Zrs,Zrt,Zru]);(refine ZrR (i:=4) (v:=?_) rfl (by kernel_rfl) (fun _ _ _ h=>h) (Or.inl ⟨by rfl,?_⟩) (by assumption) ?_);rotate_left
      ·(intro w aB;(try dsimp only at aB);obtain⟨dR,bX⟩:=aB;obtain⟨y0,y1,y2⟩:=Za5 dR;obtain⟨m0,m1⟩:=ZeR bX;go_simp;first|done|with_reducible rfl)
      (try simp only[Act.put,Zrs,Zrt,Zru]);(refine wpAnyH_done (by kernel_rfl) ?_ _)
      have aA:Hid (BeI w T φ l sb r i x (2+1) sbU rU (((w7.setCell ⟨x+1+1,0,none⟩ (.pointer (some ⟨sbU,0,none⟩))).setCell ⟨x+1+1,1,none⟩ (.int .i64 (rU:Nat))).setCell ⟨x+1+1,2,none⟩ (.int .i64 (sU:Nat))).drew):=Zrr (by
       rw[eC.out];refine BeI.below ?_ (ZrE _ _).drew;exact fS.out.take hU.out ec.out fT.out (by rw[←eC.out,←fk.out];exact hlts) (by rw[←hx.out];exact ZrQ _) ev.out)
      have bW:(ZaB l (L.tabO l φ) T i (2+1)).2.2=2+1:=by rw[Zc2 hU.out _ (by rw[←eC.out,←fk.out];exact hlts)]
      replace bW:=Zrr bW;clear aE j8 iM fS fT z0 z1 z2 f0 f1 f2;go_wp2_with fail;go_roundw
      case rel=>exact⟨2+1,sbU,rU,by omega,by go_num,by rw[bW.out];rfl,aA⟩
      case measure=>simp[intOf]
     ·have dls:decide ((sU:Int)<(bs:Int))=false:=ZrH (by omega)
      have bN:ZaB l (L.tabO l φ) T i (2+1)=ZaB l (L.tabO l φ) T i 2:=ZdU hU.out _ (by rw[←eC.out,←fk.out];exact hlts);have aA:Hid (BeI w T φ l sb r i x (2+1) ei r' w7):=Zrr (fS.out.same bN);have bW:=Zrr (congrArg (fun b=>b.2.2) bN);go_wp2_with fail
      try simp only[jD]
      try rw[←fQ]
      go_roundw
      case rel=>exact⟨2+1,ei,r',by omega,by go_num,by rw[bW.out],aA⟩
      case measure=>simp[intOf]
  ·obtain rfl:k=3:=by omega
   obtain⟨oT,aM,rO,b0,b1,b2⟩:=hI.out;have hN:w.heap.size≤x+1:=by have:=hx.out;omega
   have aa:Hid (Zhq (ZaB l (L.tabO l φ) T i 3).1 φ ei r' ((((wr.setCell ⟨x+1,0,none⟩ (.pointer (some ⟨ei,0,none⟩))).setCell ⟨x+1,1,none⟩ (.int .i64 (r':Nat))).setCell ⟨x+1,2,none⟩ (.int .i64 ((ZaB l (L.tabO l φ) T i 3).2.1:Nat))))∧Below w.heap.size w ((((wr.setCell ⟨x+1,0,none⟩ (.pointer (some ⟨ei,0,none⟩))).setCell ⟨x+1,1,none⟩ (.int .i64 (r':Nat))).setCell ⟨x+1,2,none⟩ (.int .i64 ((ZaB l (L.tabO l φ) T i 3).2.1:Nat))))) :=
    Zrr ⟨aM.turn b1 (by decide) (by decide) (by decide) (by decide) ⟨by have:=ev.out;omega,by have:=ev.out;omega⟩ (fun g o aJ ho=>(ZbQ _ _ _ aJ).trans ho),ZeC oT hN _ _ _⟩
   obtain⟨z0,z1,z2⟩:=Za5 b1;obtain⟨e0,e1,e2⟩:=Za5 b2;have f0:wr.frozen? ⟨x+1,0,none⟩=false:=by simp[World.frozen?,b1]
   have f1:wr.frozen? ⟨x+1,1,none⟩=false:=by simp[World.frozen?,b1]
   have f2:wr.frozen? ⟨x+1,2,none⟩=false:=by simp[World.frozen?,b1]
   have gy:=Ze0 b1 (.pointer (some ⟨ei,0,none⟩)) (.int .i64 (r':Nat)) (.int .i64 ((ZaB l (L.tabO l φ) T i 3).2.1:Nat));obtain⟨g0,g1,g2⟩:=Za5 gy;replace gy:=Zrr gy;replace b0:=Zrr b0;replace b1:=Zrr b1;replace b2:=Zrr b2;clear hI aM oT;go_wp2_with fail;refine bodyPost_ret (v:=.tuple #[.agg #[.pointer (some ⟨ei,0,none⟩),.int .i64 (r':Nat),.int .i64 ((ZaB l (L.tabO l φ) T i 3).2.1:Nat)],.int .i64 ((ZaB l (L.tabO l φ) T i 3).2.2:Nat)]) (by simp[results,Tryz.results43,go_sem,g0,g1,g2]) rfl ⟨ei,r',rfl,aa.out⟩
end Go.Proofs.YtemnmcfmabamcaaGreatDoor
