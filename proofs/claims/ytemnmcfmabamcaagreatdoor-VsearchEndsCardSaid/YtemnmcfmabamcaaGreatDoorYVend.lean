import Derived.Test.YtemnmcfmabamcaaGreatDoorYVs14
set_option linter.unusedSimpArgs false
set_option linter.unusedVariables false
set_option maxRecDepth 100000
set_option maxHeartbeats 40000000
namespace Go.Proofs.YtemnmcfmabamcaaGreatDoor
open Go Go.RowKit Go.Shelf
theorem Zmt{w:World}{ty:TypeId}{N n:Nat}{v:Value}{ms:List (Nat × Nat)}(h:w.ownsRow N ty 2 v n (ZbL ms))(hn:n=ms.length):Znv w v ms:=by
 subst hn;rcases ZaT h with ⟨e,h0⟩|⟨g,cp,rfl⟩
 ·exact⟨none,0,by rw[h0];exact e,.inl (List.eq_nil_of_length_eq_zero h0)⟩
 ·refine⟨_,cp,rfl,.inr ⟨g,rfl,(Zap h rfl).1,fun j hj=>?_⟩⟩
  obtain⟨h1,h2⟩:=ZfH ms j hj;exact⟨by rw[h.cellAt (j*2) (by omega),h1],by rw[h.cellAt (j*2+1) (by omega),h2]⟩
theorem Zk9{t:List VN}{bts:Nat}{p:Int}(w:World)(ba:Option Addr)(cap:Nat)(hT:ZaY w)(hP:Zaz w)(h:t=[]∨∃b o,ba=some ⟨b,o,none⟩∧Zag w b o t)(qg:bts<65536)(hp:-9223372036854775808≤p∧p≤9223372036854775807) :
  Calls Tryz.prog 3 #[.agg #[.slice ba t.length cap,.int .u16 (bts:Nat),.int .i64 p]] w fun e w'=>e= .returned (.bool true)∧Below w.heap.size w w':=by
 have hw:∀w',Below w.heap.size w w'→Calls Tryz.prog 12 #[] w' fun e w''=>e= .returned (.bool true)∧Below w'.heap.size w' w'':=fun w' hx=>Zjk w' (hT.same (hx.block _ hT.lt')) (hP.same (hx.block _ hP.lt))
 obtain⟨w0,lI,aW,c0,c1,c2⟩:=ZgN w ba t.length cap bts p;obtain⟨xb,iI⟩:∃xb,w.heap.size=xb:=⟨_,rfl⟩;rw[iI]at c0 c1 c2;have ql:=Zmc (w:=w0) (ba:=ba) (cap:=cap) (bits:=bts) (p:=p) (h.imp id fun ⟨b,o,e,ht⟩=>⟨b,o,e,ht.ext aW⟩);have da:=aW.below;replace hw:=Zrr hw
 cases hf:ZnW t
 ·rw[hf]at ql
  go_enter Tryz.func3,Tryz.ntmps3
  go_wp2_with fail
  try simp only[iI]
  rw[←lI];refine ql.mono ?_;rintro e w1 ⟨rfl,aK⟩;have b1:=da.trans (aK.below.mono da.size);have q:=hw.out w1 b1;clear ql;go_wp2_with fail;refine q.mono ?_;rintro e w2 ⟨rfl,aL⟩;go_wp2_with fail;go_ret;exact⟨rfl,b1.trans (aL.mono b1.size)⟩
 ·rw[hf]at ql
  obtain⟨T,l,tc,t7,iw,cE,cK,hIT,uA⟩:=Zpx hf;obtain⟨b,o,rfl,ht⟩:=Zm5 tc h;clear h hf
  go_enter Tryz.func3,Tryz.ntmps3
  go_wp2_with fail
  try simp only[iI]
  rw[←lI];refine ql.mono ?_;rintro e w1 ⟨rfl,aK⟩;have b1:=da.trans (aK.below.mono da.size);have z0:=aK.cell c0;have z1:=aK.cell c1;have z2:=aK.cell c2;have qs:=ZmY (cap:=cap) (p:=p) (hT.same (b1.block _ hT.lt')) (hP.same (b1.block _ hP.lt)) (ht.below b1) tc t7 qg iw;obtain⟨φ,hφ⟩:∃φ,φ=mdφ l bts (2 ^ l.length):=⟨_,rfl⟩;rw[←hφ]at qs;clear ql c0 c1 c2;go_wp2_with fail;refine qs.mono ?_;rintro e w2 ⟨sb,r,rfl,gL,aL⟩;have b2:=b1.trans (aL.mono b1.size);have d0:=(aL.cell (Zrx _ _ z0)).trans z0;have d1:=(aL.cell (Zrx _ _ z1)).trans z1;have d2:=(aL.cell (Zrx _ _ z2)).trans z2;replace hφ:=Zrr hφ;replace lI:=Zrr lI;replace iI:=Zrr iI;clear qs z0 z1 z2 aL aK b1 da aW;have q3:=gL.text;have zc:=fun W (hb:Below w.heap.size w W)=>Zgk (bits:=bts) (p:=p) (cap:=cap) (ht.below hb) (Zam tc).1 (by omega) iw cE qg
  obtain⟨X,hX⟩:∃X,X=Zco (Zle t φ):=⟨_,rfl⟩;rw[ZfX,←hX]at q3;have hXX:=Zj2 X;replace hX:=Zrr hX;replace zc:=Zrr zc;go_wp2_with fail;refine q3.mono ?_;rintro e w3 ⟨rfl,aU⟩;have b3:=b2.trans (aU.mono b2.size);have cj:=gL.below aU;have e0:=(aU.cell (Zrx _ _ d0)).trans d0;have e1:=(aU.cell (Zrx _ _ d1)).trans d1;have e2:=(aU.cell (Zrx _ _ d2)).trans d2;clear q3 d0 d1 d2 gL
  by_cases lH:0≤p∧p≤100
  ·obtain⟨k,rfl⟩:∃k:Nat,p=k:=⟨p.toNat,by omega⟩
   have dp0:decide ((k:Int)<0)=false:=ZrH (by omega);have dp1:decide ((k:Int) > 100)=false:=ZrH (by omega);have dp1':decide ((100:Int)<(k:Int))=false:=ZrH (by omega);have q4:=ZgA (k:=k) cj hIT uA (hT.same (b3.block _ hT.lt')) (hP.same (b3.block _ hP.lt)) (by omega);have hF:=ZqR cK bts;rw[←hφ.out]at hF;have rS:=fun (W:World) (hb:Below w.heap.size w W) (vf:Value) (hf:TabAt W vf (L.tabO l φ))=>Zjb (bts:=bts) (k:=k) (c:=cap) (l:=l) (T:=T) (F:=L.tabO l φ) (by rw[hφ.out]) (ht.below hb) hIT (by omega) uA hf (by omega)
   unfold ZdT at q4;unfold Zpd at rS
   have yZ:(L.searchT l (L.tabO l φ) (T.post 0).length k (T,[])).2.length≤1000:=by
    have h1:=ZfS l (L.tabO l φ) (T.post 0).length k (T,[]);have h2:k*(T.post 0).length≤100*7:=Nat.mul_le_mul (by omega) uA.len;simp only[List.length_nil]at h1;omega
   obtain⟨E,hE⟩:∃E,E=L.searchT l (L.tabO l φ) (T.post 0).length k (T,[]):=⟨_,rfl⟩;rw[←hE]at q4 yZ;simp only[←hE]at rS;rw[←hF]at zc;replace hE:=Zrr hE;replace hF:=Zrr hF;replace rS:=Zrr rS;have eS:=Zrr cj;clear cj;go_wp2_with fail;refine q4.mono ?_;rintro e w4 ⟨sb4,r4,v4,rfl,kK,nO,an,aw⟩;have b4:=b3.trans (aw.mono b3.size);have sL:=Zmt an rfl;have f0:=(aw.cell (Zrx _ _ e0)).trans e0;have f1:=(aw.cell (Zrx _ _ e1)).trans e1;have f2:=(aw.cell (Zrx _ _ e2)).trans e2;have mZ:=Zrx _ _ f0;obtain⟨m4,dO⟩:∃m4,m4=E.2.length:=⟨_,rfl⟩
   obtain⟨ba4,cp4,rfl,qP⟩:∃ba4 cp4,v4= .slice ba4 m4 cp4∧Znv w4 (.slice ba4 m4 cp4) E.2:=by
    obtain⟨a,c,e,h⟩:=sL;exact⟨a,c,by rw[dO];exact e,⟨a,c,by rw[dO],h⟩⟩
   rw[←dO]at yZ
   have hF4:Hid (∀W,Below w4.heap.size w4 W→W.cell? ⟨xb,0,none⟩=some (.slice (some ⟨b,o,none⟩) t.length cap)∧W.cell? ⟨xb,1,none⟩=some (.int .u16 (bts:Nat))∧W.cell? ⟨xb,2,none⟩=some (.int .i64 (k:Nat))):=Zrr fun W hb =>
    ⟨(hb.cell (show (⟨xb,0,none⟩:Addr).block<_ from mZ)).trans f0,(hb.cell (show (⟨xb,1,none⟩:Addr).block<_ from mZ)).trans f1,(hb.cell (show (⟨xb,2,none⟩:Addr).block<_ from mZ)).trans f2⟩
   have zd:=Zrr fun W (hb:Below w4.heap.size w4 W)=>zc.out W (b4.trans (hb.mono b4.size))
   have hqr4:=Zrr fun W (hb:Below w4.heap.size w4 W)=>rS.out W (b4.trans (hb.mono b4.size))
   have sN:=Zrr (eS.out.below aw);replace dO:=Zrr dO;replace kK:=Zrr kK;replace qP:=Zrr qP;clear q4 sL an e0 e1 e2 eS zc rS;go_wp2_with fail;(refine wp_region_held_drew (S:=(fun W=>Below w4.heap.size w4 W)) (by kernel_rfl) ?_ (fun aE=>?_))
   ·exact(ZrE _ w4).drew
   (refine ZrR (i:=0) (v:=?_) rfl (by kernel_rfl) (fun _ _ _ h=>h) (Or.inl ⟨by rfl,?_⟩) (by assumption) ?_);rotate_left
   ·(intro w aB;(try dsimp only at aB);go_simp;first|done|with_reducible rfl)
   (try simp only[Act.put,Zrs,Zrt,Zru]);(refine ZrR (i:=1) (v:=?_) rfl (by kernel_rfl) (fun _ _ _ h=>h) (Or.inl ⟨by rfl,?_⟩) (by assumption) ?_);rotate_left
   ·(intro w aB;(try dsimp only at aB);(obtain⟨g0,g1,g2⟩:=hF4.out w aB);go_simp;first|done|with_reducible rfl)
   (try simp only[Act.put,Zrs,Zrt,Zru]);(refine ZrR (i:=2) (v:=?_) rfl (by kernel_rfl) (fun _ _ _ h=>h) (Or.inl ⟨by rfl,?_⟩) (by assumption) ?_);rotate_left
   ·(intro w aB;(try dsimp only at aB);(obtain⟨g0,g1,g2⟩:=hF4.out w aB);go_simp;first|done|with_reducible rfl)
   (try simp only[Act.put,Zrs,Zrt,Zru]);(refine ZrR (i:=4) (v:=?_) rfl (by kernel_rfl) (fun _ _ _ h=>h) (Or.inl ⟨by rfl,?_⟩) (by assumption) ?_);rotate_left
   ·(intro w aB;(try dsimp only at aB);go_simp;first|done|with_reducible rfl)
   (try simp only[Act.put,Zrs,Zrt,Zru]);(refine ZrR (i:=5) (v:=?_) rfl (by kernel_rfl) (fun _ _ _ h=>h) (Or.inl ⟨by rfl,?_⟩) (by assumption) ?_);rotate_left
   ·(intro w aB;(try dsimp only at aB);(obtain⟨g0,g1,g2⟩:=hF4.out w aB);go_simp;first|done|with_reducible rfl)
   (try simp only[Act.put,Zrs,Zrt,Zru]);(refine wpAnyH_ready (rs:=[3]) (by kernel_rfl) (by simp) ?_);(refine ZaW rfl (fun K hK=>?_))
   ((rw[if_pos (by rfl)]);go_simp;(go_at_call 17);refine(zd.out _ aE).mono ?_;intro e w5 qC;obtain⟨g5,c5,ln5,rfl,tK,ah⟩:=qC.outs;refine hK.out _ _ (aE.trans (ah.mono aE.size)) (fun aE=>?_))
   (clear hK K)
   (try simp only[Act.put,Zrs,Zrt,Zru]);(refine wpAnyH_ready (rs:=[6]) (by kernel_rfl) (by simp) ?_);(refine ZaW rfl (fun K hK=>?_))
   ((rw[if_pos (by rfl)]);go_simp;(go_at_call 16);refine(hqr4.out _ aE _ tK).mono ?_;rintro e w6 ⟨g6,o6,cp6,v6,rfl,lS⟩;refine hK.out _ _ (aE.trans (lS.bel.mono aE.size)) (fun aE=>?_))
   (clear hK K)
   (try simp only[Act.put,Zrs,Zrt,Zru]);(refine ZrR (i:=7) (v:=?_) rfl (by kernel_rfl) (fun _ _ _ h=>h) (Or.inl ⟨by rfl,?_⟩) (by assumption) ?_);rotate_left
   ·(intro w aB;(try dsimp only at aB);go_simp;first|done|with_reducible rfl)
   (try simp only[Act.put,Zrs,Zrt,Zru]);(refine ZrR (i:=8) (v:=?_) rfl (by kernel_rfl) (fun _ _ _ h=>h) (Or.inl ⟨by rfl,?_⟩) (by assumption) ?_);rotate_left
   ·(intro w aB;(try dsimp only at aB);go_simp;first|done|with_reducible rfl)
   (try simp only[Act.put,Zrs,Zrt,Zru]);(refine ZrR (i:=9) (v:=?_) rfl (by kernel_rfl) (fun _ _ _ h=>h) (Or.inl ⟨by rfl,?_⟩) (by assumption) ?_);rotate_left
   ·(intro w aB;(try dsimp only at aB);go_simp;first|done|with_reducible rfl)
   (try simp only[Act.put,Zrs,Zrt,Zru]);(refine ZrR (i:=10) (v:=?_) rfl (by kernel_rfl) (fun _ _ _ h=>h) (Or.inl ⟨by rfl,?_⟩) (by assumption) ?_);rotate_left
   ·(intro w aB;(try dsimp only at aB);go_simp;first|done|with_reducible rfl)
   (try simp only[Act.put,Zrs,Zrt,Zru]);(refine ZrR (i:=11) (v:=?_) rfl (by kernel_rfl) (fun _ _ _ h=>h) (Or.inl ⟨by rfl,?_⟩) (by assumption) ?_);rotate_left
   ·(intro w aB;(try dsimp only at aB);go_simp;first|done|with_reducible rfl)
   (try simp only[Act.put,Zrs,Zrt,Zru]);(refine wpAnyH_done (by kernel_rfl) ?_ _);have b6:=b4.trans (aE.mono b4.size);have lZ:=aE;have hMr:=Zmt lS.row rfl
   obtain⟨ba6,cq6,rfl,x8⟩:∃ba6 cq6,v6= .slice ba6 m4 cq6∧Znv w6 (.slice ba6 m4 cq6) E.2:=by
    obtain⟨a,c,e,h⟩:=hMr;exact⟨a,c,by rw[dO.out];exact e,⟨a,c,by rw[dO.out],h⟩⟩
   have vF:=Zrr lS.tree;have oO:=Zrr (kK.out.below lZ);have sO:=Zrr (sN.out.below lZ);have x6:=Zrr (qP.out.below lZ);have x9:=Zrr x8;have q7:=oO.out.tree;have n7:=nO.len;obtain⟨n,hn⟩:∃n,n=(E.1.post 0).length:=⟨_,rfl⟩;rw[←hn]at q7 n7 ⊢;replace hn:=Zrr hn;replace lZ:=Zrr lZ;clear hMr x8 lS qC kK sN qP f0 f1 f2 aE ah tK;go_wp2_with fail;refine q7.mono ?_;rintro e w7 ⟨g7,c7,rfl,_,ht7,cq⟩;have b7:=b6.trans (cq.mono b6.size);have q8:=Znf w7 (some ⟨g7,0,none⟩) (some ⟨g6,o6,none⟩) c7 cp6 (.inr ⟨g7,0,rfl,ht7⟩) (.inr ⟨g6,o6,rfl,vF.out.below cq⟩) (by have:=nO.len;omega);rw[←hn.out,ZrI rfl]at q8;clear q7 ht7;go_wp2_with fail;refine q8.mono ?_;rintro e w8 ⟨rfl,rq⟩;have b8:=b7.trans (rq.below.mono b7.size);have gN:=cq.trans (rq.below.mono cq.size);have htr8:=Zrr (vF.out.below gN);have xt:=Zrr (oO.out.below gN);have xo:=Zrr (sO.out.below gN);have hM48:=Zrr (x6.out.below gN);have hMr8:=Zrr (x9.out.below gN);have h0:Hid (Below w8.heap.size w8 w8):=Zrr (ZrE _ _);clear q8 vF oO sO x6 x9 cq rq;go_wp2_with fail
   go_loopw [99] (fun iv wr=>∃j:Nat,j≤m4∧iv= .int .i64 (j:Nat)∧Hid (Below w8.heap.size w8 wr)) (fun iv _=>m4 - (intOf iv).toNat)
   case atStart=>exact⟨0,by omega,rfl,h0⟩
   case round =>
    clear h0;obtain⟨j,hj,rfl,hI⟩:=hrel
    by_cases aD:j<m4
    ·have dlt:decide ((j:Int)<(m4:Int))=true:=ZrI (by omega)
     have db:j<E.2.length:=by have:=dO.out;omega
     obtain⟨g9,c9,e9,_,hc9⟩:=(hM48.out.below hI.out).some (by omega);obtain⟨gr,cr,er,_,hcr⟩:=(hMr8.out.below hI.out).some (by omega);injection e9 with e91 e92 e93
     injection er with e51 e52 e53
     subst e91;subst e51;clear e92 e93 e52 e53;obtain⟨k0,k1⟩:=hc9 j db;obtain⟨l0,l1⟩:=hcr j db;generalize E.2[j]=pr at *;obtain⟨x1,x2⟩:=pr;simp only at k0 k1 l0 l1;have j0:(0:Int)≤j:=by omega
     have j1:(j:Int)<m4:=by omega
     have aK:((x1:Int) !=(x1:Int))=false:=by simp
     have aO:((x2:Int) !=(x2:Int))=false:=by simp
     clear hc9 hcr;go_wp2_with fail;(refine wp_region_held_drew (S:=(fun W=>Below w8.heap.size w8 W∧(W.cell? ⟨g9,j*2,none⟩=some (.int .i64 (x1:Nat))∧W.cell? ⟨g9,j*2+1,none⟩=some (.int .i64 (x2:Nat)))∧W.cell? ⟨gr,j*2,none⟩=some (.int .i64 (x1:Nat))∧W.cell? ⟨gr,j*2+1,none⟩=some (.int .i64 (x2:Nat)))) (by kernel_rfl) ?_ (fun aE=>?_))
     ·exact⟨hI.out.drew,⟨k0,k1⟩,l0,l1⟩
     clear k0 k1 l0 l1;(refine ZrR (i:=0) (v:=?_) rfl (by kernel_rfl) (fun _ _ _ h=>h) (Or.inl ⟨by rfl,?_⟩) (by assumption) ?_);rotate_left
     ·(intro w aB;(try dsimp only at aB);go_simp;first|done|with_reducible rfl)
     (try simp only[Act.put,Zrs,Zrt,Zru]);(refine ZrR (i:=1) (v:=?_) rfl (by kernel_rfl) (fun _ _ _ h=>h) (Or.inl ⟨by rfl,?_⟩) (by assumption) ?_);rotate_left
     ·(intro w aB;(try dsimp only at aB);go_simp;first|done|with_reducible rfl)
     (try simp only[Act.put,Zrs,Zrt,Zru]);(refine ZrR (i:=2) (v:=?_) rfl (by kernel_rfl) (fun _ _ _ h=>h) (Or.inl ⟨by rfl,?_⟩) (by assumption) ?_);rotate_left
     ·(intro w aB;(try dsimp only at aB);go_simp;first|done|with_reducible rfl)
     (try simp only[Act.put,Zrs,Zrt,Zru]);(refine ZrR (i:=3) (v:=?_) rfl (by kernel_rfl) (fun _ _ _ h=>h) (Or.inl ⟨by rfl,?_⟩) (by assumption) ?_);rotate_left
     ·(intro w aB;(try dsimp only at aB);go_simp;first|done|with_reducible rfl)
     (try simp only[Act.put,Zrs,Zrt,Zru]);(refine ZrR (i:=4) (v:=?_) rfl (by kernel_rfl) (fun _ _ _ h=>h) (Or.inl ⟨by rfl,?_⟩) (by assumption) ?_);rotate_left
     ·(intro w aB;(try dsimp only at aB);(obtain⟨g0,⟨g1,g2⟩,g3,g4⟩:=aB);go_simp;first|done|with_reducible rfl)
     (try simp only[Act.put,Zrs,Zrt,Zru]);(refine ZrR (i:=5) (v:=?_) rfl (by kernel_rfl) (fun _ _ _ h=>h) (Or.inl ⟨by rfl,?_⟩) (by assumption) ?_);rotate_left
     ·(intro w aB;(try dsimp only at aB);go_simp;first|done|with_reducible rfl)
     (try simp only[Act.put,Zrs,Zrt,Zru]);(refine ZrR (i:=6) (v:=?_) rfl (by kernel_rfl) (fun _ _ _ h=>h) (Or.inl ⟨by rfl,?_⟩) (by assumption) ?_);rotate_left
     ·(intro w aB;(try dsimp only at aB);go_simp;first|done|with_reducible rfl)
     (try simp only[Act.put,Zrs,Zrt,Zru]);(refine ZrR (i:=7) (v:=?_) rfl (by kernel_rfl) (fun _ _ _ h=>h) (Or.inl ⟨by rfl,?_⟩) (by assumption) ?_);rotate_left
     ·(intro w aB;(try dsimp only at aB);go_simp;first|done|with_reducible rfl)
     (try simp only[Act.put,Zrs,Zrt,Zru]);(refine ZrR (i:=8) (v:=?_) rfl (by kernel_rfl) (fun _ _ _ h=>h) (Or.inl ⟨by rfl,?_⟩) (by assumption) ?_);rotate_left
     ·(intro w aB;(try dsimp only at aB);go_simp;first|done|with_reducible rfl)
     (try simp only[Act.put,Zrs,Zrt,Zru]);(refine ZrR (i:=9) (v:=?_) rfl (by kernel_rfl) (fun _ _ _ h=>h) (Or.inl ⟨by rfl,?_⟩) (by assumption) ?_);rotate_left
     ·(intro w aB;(try dsimp only at aB);(obtain⟨g0,⟨g1,g2⟩,g3,g4⟩:=aB);go_simp;first|done|with_reducible rfl)
     (try simp only[Act.put,Zrs,Zrt,Zru]);(refine ZrR (i:=10) (v:=?_) rfl (by kernel_rfl) (fun _ _ _ h=>h) (Or.inl ⟨by rfl,?_⟩) (by assumption) ?_);rotate_left
     ·(intro w aB;(try dsimp only at aB);go_simp;first|done|with_reducible rfl)
     (try simp only[Act.put,Zrs,Zrt,Zru]);(refine ZrR (i:=11) (v:=?_) rfl (by kernel_rfl) (fun _ _ _ h=>h) (Or.inl ⟨by rfl,?_⟩) (by assumption) ?_);rotate_left
     ·(intro w aB;(try dsimp only at aB);go_simp;first|done|with_reducible rfl)
     (try simp only[Act.put,Zrs,Zrt,Zru]);(refine ZrR (i:=12) (v:=?_) rfl (by kernel_rfl) (fun _ _ _ h=>h) (Or.inl ⟨by rfl,?_⟩) (by assumption) ?_);rotate_left
     ·(intro w aB;(try dsimp only at aB);go_simp;first|done|with_reducible rfl)
     (try simp only[Act.put,Zrs,Zrt,Zru]);(refine ZrR (i:=13) (v:=?_) rfl (by kernel_rfl) (fun _ _ _ h=>h) (Or.inl ⟨by rfl,?_⟩) (by assumption) ?_);rotate_left
     ·(intro w aB;(try dsimp only at aB);go_simp;first|done|with_reducible rfl)
     (try simp only[Act.put,Zrs,Zrt,Zru]);(refine ZrR (i:=14) (v:=?_) rfl (by kernel_rfl) (fun _ _ _ h=>h) (Or.inl ⟨by rfl,?_⟩) (by assumption) ?_);rotate_left
     ·(intro w aB;(try dsimp only at aB);go_simp;first|done|with_reducible rfl)
     (try simp only[Act.put,Zrs,Zrt,Zru]);(refine ZrR (i:=15) (v:=?_) rfl (by kernel_rfl) (fun _ _ _ h=>h) (Or.inl ⟨by rfl,?_⟩) (by assumption) ?_);rotate_left
     ·(intro w aB;(try dsimp only at aB);go_simp;first|done|with_reducible rfl)
     (try simp only[Act.put,Zrs,Zrt,Zru]);(refine ZrR (i:=16) (v:=?_) rfl (by kernel_rfl) (fun _ _ _ h=>h) (Or.inl ⟨by rfl,?_⟩) (by assumption) ?_);rotate_left
     ·(intro w aB;(try dsimp only at aB);(obtain⟨g0,⟨g1,g2⟩,g3,g4⟩:=aB);go_simp;first|done|with_reducible rfl)
     (try simp only[Act.put,Zrs,Zrt,Zru]);(refine ZrR (i:=17) (v:=?_) rfl (by kernel_rfl) (fun _ _ _ h=>h) (Or.inl ⟨by rfl,?_⟩) (by assumption) ?_);rotate_left
     ·(intro w aB;(try dsimp only at aB);go_simp;first|done|with_reducible rfl)
     (try simp only[Act.put,Zrs,Zrt,Zru]);(refine ZrR (i:=18) (v:=?_) rfl (by kernel_rfl) (fun _ _ _ h=>h) (Or.inl ⟨by rfl,?_⟩) (by assumption) ?_);rotate_left
     ·(intro w aB;(try dsimp only at aB);go_simp;first|done|with_reducible rfl)
     (try simp only[Act.put,Zrs,Zrt,Zru]);(refine ZrR (i:=19) (v:=?_) rfl (by kernel_rfl) (fun _ _ _ h=>h) (Or.inl ⟨by rfl,?_⟩) (by assumption) ?_);rotate_left
     ·(intro w aB;(try dsimp only at aB);go_simp;first|done|with_reducible rfl)
     (try simp only[Act.put,Zrs,Zrt,Zru]);(refine ZrR (i:=20) (v:=?_) rfl (by kernel_rfl) (fun _ _ _ h=>h) (Or.inl ⟨by rfl,?_⟩) (by assumption) ?_);rotate_left
     ·(intro w aB;(try dsimp only at aB);go_simp;first|done|with_reducible rfl)
     (try simp only[Act.put,Zrs,Zrt,Zru]);(refine ZrR (i:=21) (v:=?_) rfl (by kernel_rfl) (fun _ _ _ h=>h) (Or.inl ⟨by rfl,?_⟩) (by assumption) ?_);rotate_left
     ·(intro w aB;(try dsimp only at aB);(obtain⟨g0,⟨g1,g2⟩,g3,g4⟩:=aB);go_simp;first|done|with_reducible rfl)
     (try simp only[Act.put,Zrs,Zrt,Zru]);(refine ZrR (i:=22) (v:=?_) rfl (by kernel_rfl) (fun _ _ _ h=>h) (Or.inl ⟨by rfl,?_⟩) (by assumption) ?_);rotate_left
     ·(intro w aB;(try dsimp only at aB);go_simp;first|done|with_reducible rfl)
     (try simp only[Act.put,Zrs,Zrt,Zru]);(refine ZrR (i:=23) (v:=?_) rfl (by kernel_rfl) (fun _ _ _ h=>h) (Or.inl ⟨by rfl,?_⟩) (by assumption) ?_);rotate_left
     ·(intro w aB;(try dsimp only at aB);go_simp;first|done|with_reducible rfl)
     (try simp only[Act.put,Zrs,Zrt,Zru]);(refine wpAnyH_done (by kernel_rfl) ?_ _);have aA:Hid (Below w8.heap.size w8 wr.drew):=Zrr aE.1;clear aE;go_wp2_with fail;go_roundw
     case rel=>exact⟨j+1,by omega,by go_num,aA⟩
     case measure=>simp[intOf];omega
    ·have dlt:decide ((j:Int)<(m4:Int))=false:=ZrH (by omega)
     have bw:=b8.trans (hI.out.mono b8.size);have qX:Below w4.heap.size w4 wr:=lZ.out.trans ((gN.trans (hI.out.mono gN.size)).mono lZ.out.size);have oP:=xt.out.below hI.out;have sP:=xo.out.below hI.out;have qa:=oP.text;have qb:=fun (W:World) (hb:Below wr.heap.size wr W)=>(oP.below hb).size nO.sbl nO.root
     have qc:=fun (W:World) (hb:Below wr.heap.size wr W)=>(sP.below hb).text
     have vH:=htr8.out.below hI.out
     have qd:=fun (W:World) (hb:Below wr.heap.size wr W) (vf:Value) (hf:SlB W vf (L.tabO l φ))=>by
      have:=ZmM nO bts (c:=cp6) (vH.below hb) (vf:=vf) (by rw[←hφ.out];exact hf);rw[←hφ.out,←hn.out]at this;exact this
     have qe:=fun (W:World) (hb:Below wr.heap.size wr W) (vf:Value) (hf:TabAt W vf (L.tabO l φ))=>by
      have:=ZfP nO bts (c:=cp6) (vH.below hb) (vf:=vf) (by rw[←hφ.out];exact hf);rw[←hφ.out,←hn.out]at this;exact this
     have rT:=fun (W:World) (hb:Below wr.heap.size wr W)=>zd.out W (qX.trans (hb.mono qX.size))
     have hFr:=fun (W:World) (hb:Below wr.heap.size wr W)=>hF4.out W (qX.trans (hb.mono qX.size))
     rw[ZfX,←hX.out]at qc;rw[ZfX]at qa;obtain⟨Y,hY⟩:∃Y,Y=Zco (Zle (E.1.post 0) φ):=⟨_,rfl⟩;rw[←hY]at qa qd;obtain⟨sE,pQ⟩:∃sE,sE=L.sizeTr E.1 l (L.tabO l φ):=⟨_,rfl⟩;rw[←pQ]at qb qe;have hYY:=Zj2 Y;have r8:((sE:Int) ==(sE:Int))=true:=by simp
     replace hY:=Zrr hY;replace pQ:=Zrr pQ;replace qb:=Zrr qb;replace qc:=Zrr qc;replace qd:=Zrr qd;replace qe:=Zrr qe;replace rT:=Zrr rT;replace hFr:=Zrr hFr;clear oP sP vH hI;go_wp2_with fail;refine qa.mono ?_;rintro e wa ⟨rfl,fg⟩;have tT:=qb.out wa fg;clear qa;go_wp2_with fail;refine tT.mono ?_;rintro e wb ⟨rfl,iK⟩;have wZ:=fg.trans (iK.mono fg.size);have qc':=qc.out wb wZ;clear tT;go_wp2_with fail;refine qc'.mono ?_;rintro e wc ⟨rfl,uG⟩;have hrc:=wZ.trans (uG.mono wZ.size);have qt1:=rT.out wc hrc;obtain⟨x0,x1,x2⟩:=hFr.out wc hrc;clear qc';go_wp2_with fail;refine qt1.mono ?_;intro e wd hrd;obtain⟨gd,cd,lnd,rfl,htd,fD⟩:=hrd.outs;have uw:=hrc.trans (fD.mono hrc.size);have qd':=qd.out wd uw _ htd.slB;clear qt1 x0 x1 x2 hrd;go_wp2_with fail;refine qd'.mono ?_;rintro e we ⟨rfl,gk⟩;have ls:=uw.trans (gk.mono uw.size);have qt2:=rT.out we ls;obtain⟨x0,x1,x2⟩:=hFr.out we ls;clear qd';go_wp2_with fail;refine qt2.mono ?_;intro e wf hrf;obtain⟨gf,cf,lnf,rfl,htf,hbf⟩:=hrf.outs;have ux:=ls.trans (hbf.mono ls.size);have qe':=qe.out wf ux _ htf;clear qt2 x0 x1 x2 hrf;go_wp2_with fail;refine qe'.mono ?_;rintro e wg ⟨rfl,hbg⟩;have hrg:=ux.trans (hbg.mono ux.size);have bg:=bw.trans (hrg.mono bw.size);have q:=hw.out wg bg;clear qe';go_wp2_with fail;refine q.mono ?_;rintro e wh ⟨rfl,hbh⟩;go_wp2_with fail;go_ret;exact⟨rfl,bg.trans (hbh.mono bg.size)⟩
  ·have qs:=Zjc cj p (by omega)
   unfold Zln at qs;clear cj
   by_cases h3:p<0
   ·have dq3:decide (p<0)=true:=ZrI h3
    go_wp2_with fail;refine qs.mono ?_;rintro e w4 ⟨rfl,aw⟩;have b4:=b3.trans (aw.mono b3.size);have f2:=(aw.cell (Zrx _ _ e2)).trans e2;have q:=hw.out w4 b4;clear qs;go_wp2_with fail;refine q.mono ?_;rintro e w5 ⟨rfl,ah⟩;go_wp2_with fail;go_ret;exact⟨rfl,b4.trans (ah.mono b4.size)⟩
   ·have dq3:decide (p<0)=false:=ZrH h3
    have h4:100<p:=by omega
    have dq4:decide (p > 100)=true:=ZrI h4;have dq4':decide ((100:Int)<p)=true:=ZrI h4;go_wp2_with fail;refine qs.mono ?_;rintro e w4 ⟨rfl,aw⟩;have b4:=b3.trans (aw.mono b3.size);have f2:=(aw.cell (Zrx _ _ e2)).trans e2;have q:=hw.out w4 b4;clear qs;go_wp2_with fail;refine q.mono ?_;rintro e w5 ⟨rfl,ah⟩;go_wp2_with fail;go_ret;exact⟨rfl,b4.trans (ah.mono b4.size)⟩
end Go.Proofs.YtemnmcfmabamcaaGreatDoor
