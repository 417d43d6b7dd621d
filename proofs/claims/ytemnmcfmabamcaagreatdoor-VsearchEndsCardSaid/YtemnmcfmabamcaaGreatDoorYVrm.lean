import Derived.Test.YtemnmcfmabamcaaGreatDoorYVch
set_option linter.unusedSimpArgs false
set_option linter.unusedVariables false
set_option maxRecDepth 100000
set_option maxHeartbeats 4000000
namespace Go.Proofs.YtemnmcfmabamcaaGreatDoor
open Go Go.RowKit Go.Shelf
theorem ZjA{w0:World}{t:List VN}{b o c at':Nat}{kd:Int}(ht:Zag w0 b o t)(hc:Zae t=0){i:Nat}{T:L.Tr}(h:L.IsT L.idc t i T):¬ L.Und t i at'→ZcZ w0 t b o c (at':Nat) kd i T:=by
 induction h with
 | leaf h1 h2=>intro _;exact Zpp ht h1 h2
 | @node i a b' y l r h1 h2 h3 h4 g1 g2 ih1 ih2 =>
   intro hn;obtain⟨ka,kb⟩:=L.Und.kid hc h1 h2 h3 h4;have aJ:((i:Nat):Int)≠(at':Nat):=fun e=>hn ((show i=at' by omega) ▸ .refl)
   exact Ziw ht h1 h2 h3 h4 aJ (ih1 fun h=>hn (ka.trans h)) (ih2 fun h=>hn (kb.trans h))
theorem Zq8{w0:World}{t:List VN}{b o c at' kd:Nat}(ht:Zag w0 b o t)(hc:Zae t=0){i:Nat}{T U:L.Tr}(h:L.Mv t kd at' i T U):L.IsT L.idc t i T→ZcZ w0 t b o c (at':Nat) (kd:Nat) i U:=by
 induction h with
 | @here T U hr =>
   intro hT
   cases hr with
   | right x y z =>
     cases hT with
     | @node _ a b' n _ _ h1 h2 h3 h4 g1 g2 =>
       cases g1 with
       | @node _ p q m _ _ k1 k2 k3 k4 j1 j2=>exact ZnL ht h1 h2 h3 h4 k1 k3 k4 j1 j2 g2
   | left x y z =>
     cases hT with
     | @node _ a b' n _ _ h1 h2 h3 h4 g1 g2 =>
       cases g2 with
       | @node _ p q m _ _ k1 k2 k3 k4 j1 j2=>exact Zpq ht h1 h2 h3 h4 k1 k3 k4 g1 j1 j2
   | swap x y =>
     cases hT with
     | @node _ a b' n _ _ h1 h2 h3 h4 g1 g2 =>
       obtain⟨ha,hb,_⟩:=L.isT_inner hc h1 h2 h3 h4;exact Zpr ht h1 h2 h3 h4 (ZjA ht hc g1 (fun h=>by have:=h.le hc;omega)) (ZjA ht hc g2 (fun h=>by have:=h.le hc;omega))
 | @left i a b' y l r l' e1 e2 e3 hm ih =>
   intro hT
   cases hT with
   | @node _ a2 b2 y2 _ _ h1 h2 h3 h4 g1 g2 =>
     rw[e1]at h1
     cases h1
     have dt:y.left=a2:=h3;have fB:y.right=b2:=h4;obtain rfl:a2=a:=by omega
     obtain rfl:b2=b':=by omega
     obtain⟨ha,hb,_⟩:=L.isT_inner hc e1 h2 e2 e3;have hu:=hm.und hc g1;have fE:=hu.le hc;exact Ziw ht e1 h2 e2 e3 (by omega) (ih g1) (ZjA ht hc g2 fun h=>L.Und.apart hc e1 h2 e2 e3 hu h)
 | @right i a b' y l r r' e1 e2 e3 hm ih =>
   intro hT
   cases hT with
   | @node _ a2 b2 y2 _ _ h1 h2 h3 h4 g1 g2 =>
     rw[e1]at h1
     cases h1
     have dt:y.left=a2:=h3;have fB:y.right=b2:=h4;obtain rfl:a2=a:=by omega
     obtain rfl:b2=b':=by omega
     obtain⟨ha,hb,_⟩:=L.isT_inner hc e1 h2 e2 e3;have hu:=hm.und hc g2;have fE:=hu.le hc;exact Ziw ht e1 h2 e2 e3 (by omega) (ZjA ht hc g1 fun h=>L.Und.apart hc e1 h2 e2 e3 h hu) (ih g2)
theorem ZlB{t:List VN}(hc:Zae t=0){kd:Nat}(dE:kd=1∨kd=2∨kd=3){i:Int}(h:ZdW kd t i=true):∃(n:Nat) (T U:L.Tr),i=n∧n<t.length∧L.IsT L.idc t (t.length - 1) T∧L.Mv t kd n (t.length - 1) T U:=by
 have bC:ZaC t i=true:=by
  unfold ZdW at h;simp only[ZrK]at h;exact h.1
 obtain⟨n,y,rfl,hy,bF⟩:=ZaV bC;have bU:=(Zrw hy).1;obtain⟨a,b,y1,y2,_⟩:=L.inner_ok hc hy bF;rcases dE with rfl|rfl|rfl
 ·unfold ZdW at h
  rw[if_pos rfl,Zd3 hy,ZrK]at h;obtain⟨low,z,lj,hz,dC⟩:=ZaV h.2;obtain⟨p,q,z1,z2,_⟩:=L.inner_ok hc hz dC;obtain rfl:a=low:=by omega
  obtain⟨T,U,hT,_,hM⟩:=L.moved hc (L.right_ok hc hy bF y1 y2 hz dC z1 z2) bU;exact⟨n,T,U,rfl,bU,hT,hM⟩
 ·unfold ZdW at h
  rw[if_neg (by decide),if_pos rfl,Zd4 hy,ZrK]at h;obtain⟨low,z,lj,hz,dC⟩:=ZaV h.2;obtain⟨p,q,z1,z2,_⟩:=L.inner_ok hc hz dC;obtain rfl:b=low:=by omega
  obtain⟨T,U,hT,_,hM⟩:=L.moved hc (L.left_ok hc hy bF y1 y2 hz dC z1 z2) bU;exact⟨n,T,U,rfl,bU,hT,hM⟩
 ·obtain⟨T,U,hT,_,hM⟩:=L.moved hc (L.swap_ok hc hy bF) bU
  exact⟨n,T,U,rfl,bU,hT,hM⟩
theorem Zc9{t:List VN}(w:World)(b o cap:Nat)(ht:Zag w b o t)(i:Int):Calls Tryz.prog 130 #[.slice (some ⟨b,o,none⟩) t.length cap,.int .i64 i] w fun e w'=>e= .returned (.bool (ZaC t i))∧Ext w w':=by
 by_cases h0:0≤i
 ·have d0:decide (i≥0)=true:=ZrI h0
  by_cases h1:i<t.length
  ·have d1:decide (i<(t.length:Int))=true:=ZrI h1
   obtain⟨n,rfl⟩:∃n:Nat,i=n:=⟨i.toNat,by omega⟩;obtain⟨n0,n1,n2⟩:=ht.node (k:=n) (by omega);have hq:=Za7 (t[n]'(by omega)) w
   have bC:ZaC t n= !Zai (t[n]'(by omega)):=by
    unfold ZaC;rw[ZrI h0,ZrI h1,Int.toNat_natCast,ZrG,Zry (by omega)];rfl
   rw[bC];generalize t[n]'(by omega)=y at *;clear bC
   go_enter Tryz.func130,Tryz.ntmps130
   go_wp2_with fail;refine hq.mono ?_;rintro e w1 ⟨rfl,aK⟩;clear hq;go_wp2_with fail;go_ret;exact⟨rfl,aK⟩
  ·have d1:decide (i<(t.length:Int))=false:=ZrH h1
   have bC:ZaC t i=false:=by unfold ZaC;rw[ZrH h1];simp
   rw[bC]
   go_enter Tryz.func130,Tryz.ntmps130
   go_wp2_with fail;go_ret;exact⟨rfl,Ext.refl _⟩
 ·have d0:decide (i≥0)=false:=ZrH h0
  have bC:ZaC t i=false:=by unfold ZaC;rw[ZrH h0];simp
  rw[bC]
  go_enter Tryz.func130,Tryz.ntmps130
  go_wp2_with fail;go_ret;exact⟨rfl,Ext.refl _⟩
theorem Zix{w:World}{t:List VN}{b o c n kd:Nat}{T U:L.Tr}(ht:Zag w b o t)(hc:Zae t=0)(hT:L.IsT L.idc t (t.length - 1) T)(hM:L.Mv t kd n (t.length - 1) T U) :
  Calls Tryz.prog 131 #[.slice (some ⟨b,o,none⟩) t.length c,.int .i64 ((t.length - 1:Nat):Int),.int .i64 (n:Nat),.int .i64 (kd:Nat),.slice none 0 0] w fun e w'=>∃g cp,e= .returned (.slice (some ⟨g,0,none⟩) (U.post 0).length cp)∧Zag w' g 0 (U.post 0)∧w.heap.size≤g∧Below w.heap.size w w':=by
 have eH:=(Zam hc).2.1;have ac:=hT.size_le hc;have q:=Zq8 (c:=c) ht hc hM hT [] (.slice none 0 0) w (ZrE _ _) (World.ownsRow_nil _ _ _ _) (by simp only[List.length_nil];rw[hM.size];omega);refine q.mono ?_;rintro e w' ⟨g,cp,rfl,hR,hB,_⟩;have dQ:=L.Tr.post_len U 0;simp only[List.nil_append,List.length_nil,Nat.zero_add]at hR;rw[←dQ]at hR;obtain⟨g',fR,e',jb,hg⟩:=Zha hR (by rw[dQ];exact U.pos)
 cases e'
 exact⟨g,cp,by rw[List.length_nil,Nat.zero_add,dQ],jb,hg,hB⟩
theorem Zk0{w:World}{t:List VN}{b o cap:Nat}{i:Int}(ht:Zag w b o t)(hc:Zae t=0):Calls Tryz.prog 107 #[.slice (some ⟨b,o,none⟩) t.length cap,.int .i64 i] w (Zbo 1 t i w):=by
 have eH:=(Zam hc).2.1;have t0:=(Zam hc).1;have q1:=Zdv w (some ⟨b,o,none⟩) cap (.inr ⟨b,o,rfl,ht⟩) (by omega);rw[hc]at q1;have q2:=fun (z:Int) W (hb:Below w.heap.size w W)=>Zc9 W b o cap (ht.below hb) z
 have rp:IntKind.i64.wrap ((t.length:Int) - 1)=((t.length - 1:Nat):Int):=by rw[IntWalk.i64_in _ (by omega)];omega
 have kS:((t.length - 1:Nat):Int)=(t.length:Int) - 1:=by omega
 replace q2:=Zrr q2
 cases bV:ZdW 1 t i
 ·have aq:=bV
  unfold ZdW at aq;replace bV:=Zrr bV;replace hc:=Zrr hc
  cases bC:ZaC t i
  ·clear aq
   go_enter Tryz.func107,Tryz.ntmps107
   go_wp2_with fail;refine q1.mono ?_;rintro e w1 ⟨rfl,aK⟩;have b1:=aK.below;have cZ:=q2.out i w1 b1;rw[bC]at cZ;clear q1;go_wp2_with fail;refine cZ.mono ?_;rintro e w2 ⟨rfl,aO⟩;clear cZ;go_wp2_with fail;go_ret2;exact⟨b1.trans (aO.below.mono b1.size),.inl ⟨bV.out,rfl⟩⟩
  ·obtain⟨n,y,rfl,hy,bF⟩:=ZaV bC
   rw[bC,Bool.true_and]at aq;rw[if_pos rfl,Zd3 hy]at aq;have bU:=(Zrw hy).1;have ak:=fun W (hb:Below w.heap.size w W)=>(ht.below hb).node bU
   rw[(Zrw hy).2]at ak;have g0:(0:Int)≤n:=by omega
   have g1:(n:Int)<t.length:=by omega
   obtain⟨yl,yr,yv⟩:=y;simp only at ak aq;replace ak:=Zrr ak;replace hy:=Zrr hy;replace bF:=Zrr bF;replace aq:=Zrr aq
   go_enter Tryz.func107,Tryz.ntmps107
   go_wp2_with fail;refine q1.mono ?_;rintro e w1 ⟨rfl,aK⟩;have b1:=aK.below;have cZ:=q2.out (n:Nat) w1 b1;rw[bC]at cZ;clear q1;go_wp2_with fail;refine cZ.mono ?_;rintro e w2 ⟨rfl,aO⟩;have b2:=b1.trans (aO.below.mono b1.size);obtain⟨m0,m1,m2⟩:=ak.out w2 b2;have q3:=q2.out yl w2 b2;rw[aq.out]at q3;clear cZ;go_wp2_with fail;refine q3.mono ?_;rintro e w3 ⟨rfl,aR⟩;clear q3;go_wp2_with fail;go_ret2;exact⟨b2.trans (aR.below.mono b2.size),.inl ⟨bV.out,rfl⟩⟩
 ·obtain⟨n,T,U,rfl,bU,hT,hM⟩:=ZlB hc (by decide) bV
  have bC:ZaC t (n:Nat)=true:=by
   unfold ZdW at bV;simp only[ZrK]at bV;exact bV.1
  obtain⟨n',y,e',hy,bF⟩:=ZaV bC;obtain rfl:n'=n:=by omega
  have aq:=bV;unfold ZdW at aq;rw[bC,Bool.true_and]at aq;rw[if_pos rfl,Zd3 hy]at aq;have ak:=fun W (hb:Below w.heap.size w W)=>(ht.below hb).node bU
  rw[(Zrw hy).2]at ak;have g0:(0:Int)≤n':=by omega
  have g1:(n':Int)<t.length:=by omega
  have qc:=fun W (hb:Below w.heap.size w W)=>Zix (c:=cap) (ht.below hb) hc hT hM
  rw[kS]at qc;obtain⟨yl,yr,yv⟩:=y;simp only at ak;simp only at aq;replace aq:=Zrr aq;replace ak:=Zrr ak;replace hy:=Zrr hy;replace bF:=Zrr bF;replace bV:=Zrr bV;replace hc:=Zrr hc;replace qc:=Zrr qc;replace hT:=Zrr hT;replace hM:=Zrr hM;clear e'
  go_enter Tryz.func107,Tryz.ntmps107
  go_wp2_with fail;refine q1.mono ?_;rintro e w1 ⟨rfl,aK⟩;have b1:=aK.below;have cZ:=q2.out (n':Nat) w1 b1;rw[bC]at cZ;clear q1;go_wp2_with fail;refine cZ.mono ?_;rintro e w2 ⟨rfl,aO⟩;have b2:=b1.trans (aO.below.mono b1.size);obtain⟨m0,m1,m2⟩:=ak.out w2 b2;have q3:=q2.out yl w2 b2;rw[aq.out]at q3;clear cZ;go_wp2_with fail;refine q3.mono ?_;rintro e w3 ⟨rfl,aR⟩;have b3:=b2.trans (aR.below.mono b2.size);have q4:=qc.out w3 b3;clear q3;go_wp2_with fail;refine q4.mono ?_;rintro e w4 ⟨g,cp,rfl,jb,hg,aw⟩;replace jb:=Zrr jb;clear q4;go_wp2_with fail;go_ret2;exact⟨b3.trans (aw.mono b3.size),.inr ⟨bV.out,n',T,U,g,cp,rfl,bU,hT.out,hM.out,rfl,jb.out,ZrC b3.size hg⟩⟩
theorem ZmJ{w:World}{t:List VN}{b o cap:Nat}{i:Int}(ht:Zag w b o t)(hc:Zae t=0):Calls Tryz.prog 108 #[.slice (some ⟨b,o,none⟩) t.length cap,.int .i64 i] w (Zbo 2 t i w):=by
 have eH:=(Zam hc).2.1;have t0:=(Zam hc).1;have q1:=Zdv w (some ⟨b,o,none⟩) cap (.inr ⟨b,o,rfl,ht⟩) (by omega);rw[hc]at q1;have q2:=fun (z:Int) W (hb:Below w.heap.size w W)=>Zc9 W b o cap (ht.below hb) z
 have rp:IntKind.i64.wrap ((t.length:Int) - 1)=((t.length - 1:Nat):Int):=by rw[IntWalk.i64_in _ (by omega)];omega
 have kS:((t.length - 1:Nat):Int)=(t.length:Int) - 1:=by omega
 replace q2:=Zrr q2
 cases bV:ZdW 2 t i
 ·have aq:=bV
  unfold ZdW at aq;replace bV:=Zrr bV;replace hc:=Zrr hc
  cases bC:ZaC t i
  ·clear aq
   go_enter Tryz.func108,Tryz.ntmps108
   go_wp2_with fail;refine q1.mono ?_;rintro e w1 ⟨rfl,aK⟩;have b1:=aK.below;have cZ:=q2.out i w1 b1;rw[bC]at cZ;clear q1;go_wp2_with fail;refine cZ.mono ?_;rintro e w2 ⟨rfl,aO⟩;clear cZ;go_wp2_with fail;go_ret2;exact⟨b1.trans (aO.below.mono b1.size),.inl ⟨bV.out,rfl⟩⟩
  ·obtain⟨n,y,rfl,hy,bF⟩:=ZaV bC
   rw[bC,Bool.true_and]at aq;rw[if_neg (by decide),if_pos rfl,Zd4 hy]at aq;have bU:=(Zrw hy).1;have ak:=fun W (hb:Below w.heap.size w W)=>(ht.below hb).node bU
   rw[(Zrw hy).2]at ak;have g0:(0:Int)≤n:=by omega
   have g1:(n:Int)<t.length:=by omega
   obtain⟨yl,yr,yv⟩:=y;simp only at ak aq;replace ak:=Zrr ak;replace hy:=Zrr hy;replace bF:=Zrr bF;replace aq:=Zrr aq
   go_enter Tryz.func108,Tryz.ntmps108
   go_wp2_with fail;refine q1.mono ?_;rintro e w1 ⟨rfl,aK⟩;have b1:=aK.below;have cZ:=q2.out (n:Nat) w1 b1;rw[bC]at cZ;clear q1;go_wp2_with fail;refine cZ.mono ?_;rintro e w2 ⟨rfl,aO⟩;have b2:=b1.trans (aO.below.mono b1.size);obtain⟨m0,m1,m2⟩:=ak.out w2 b2;have q3:=q2.out yr w2 b2;rw[aq.out]at q3;clear cZ;go_wp2_with fail;refine q3.mono ?_;rintro e w3 ⟨rfl,aR⟩;clear q3;go_wp2_with fail;go_ret2;exact⟨b2.trans (aR.below.mono b2.size),.inl ⟨bV.out,rfl⟩⟩
 ·obtain⟨n,T,U,rfl,bU,hT,hM⟩:=ZlB hc (by decide) bV
  have bC:ZaC t (n:Nat)=true:=by
   unfold ZdW at bV;simp only[ZrK]at bV;exact bV.1
  obtain⟨n',y,e',hy,bF⟩:=ZaV bC;obtain rfl:n'=n:=by omega
  have aq:=bV;unfold ZdW at aq;rw[bC,Bool.true_and]at aq;rw[if_neg (by decide),if_pos rfl,Zd4 hy]at aq;have ak:=fun W (hb:Below w.heap.size w W)=>(ht.below hb).node bU
  rw[(Zrw hy).2]at ak;have g0:(0:Int)≤n':=by omega
  have g1:(n':Int)<t.length:=by omega
  have qc:=fun W (hb:Below w.heap.size w W)=>Zix (c:=cap) (ht.below hb) hc hT hM
  rw[kS]at qc;obtain⟨yl,yr,yv⟩:=y;simp only at ak;simp only at aq;replace aq:=Zrr aq;replace ak:=Zrr ak;replace hy:=Zrr hy;replace bF:=Zrr bF;replace bV:=Zrr bV;replace hc:=Zrr hc;replace qc:=Zrr qc;replace hT:=Zrr hT;replace hM:=Zrr hM;clear e'
  go_enter Tryz.func108,Tryz.ntmps108
  go_wp2_with fail;refine q1.mono ?_;rintro e w1 ⟨rfl,aK⟩;have b1:=aK.below;have cZ:=q2.out (n':Nat) w1 b1;rw[bC]at cZ;clear q1;go_wp2_with fail;refine cZ.mono ?_;rintro e w2 ⟨rfl,aO⟩;have b2:=b1.trans (aO.below.mono b1.size);obtain⟨m0,m1,m2⟩:=ak.out w2 b2;have q3:=q2.out yr w2 b2;rw[aq.out]at q3;clear cZ;go_wp2_with fail;refine q3.mono ?_;rintro e w3 ⟨rfl,aR⟩;have b3:=b2.trans (aR.below.mono b2.size);have q4:=qc.out w3 b3;clear q3;go_wp2_with fail;refine q4.mono ?_;rintro e w4 ⟨g,cp,rfl,jb,hg,aw⟩;replace jb:=Zrr jb;clear q4;go_wp2_with fail;go_ret2;exact⟨b3.trans (aw.mono b3.size),.inr ⟨bV.out,n',T,U,g,cp,rfl,bU,hT.out,hM.out,rfl,jb.out,ZrC b3.size hg⟩⟩
theorem ZmL{w:World}{t:List VN}{b o cap:Nat}{i:Int}(ht:Zag w b o t)(hc:Zae t=0):Calls Tryz.prog 109 #[.slice (some ⟨b,o,none⟩) t.length cap,.int .i64 i] w (Zbo 3 t i w):=by
 have eH:=(Zam hc).2.1;have t0:=(Zam hc).1;have q1:=Zdv w (some ⟨b,o,none⟩) cap (.inr ⟨b,o,rfl,ht⟩) (by omega);rw[hc]at q1;have q2:=fun (z:Int) W (hb:Below w.heap.size w W)=>Zc9 W b o cap (ht.below hb) z
 have rp:IntKind.i64.wrap ((t.length:Int) - 1)=((t.length - 1:Nat):Int):=by rw[IntWalk.i64_in _ (by omega)];omega
 have kS:((t.length - 1:Nat):Int)=(t.length:Int) - 1:=by omega
 replace q2:=Zrr q2
 cases bV:ZdW 3 t i
 ·have aq:=bV
  unfold ZdW at aq;replace bV:=Zrr bV;replace hc:=Zrr hc
  cases bC:ZaC t i
  ·clear aq
   go_enter Tryz.func109,Tryz.ntmps109
   go_wp2_with fail;refine q1.mono ?_;rintro e w1 ⟨rfl,aK⟩;have b1:=aK.below;have cZ:=q2.out i w1 b1;rw[bC]at cZ;clear q1;go_wp2_with fail;refine cZ.mono ?_;rintro e w2 ⟨rfl,aO⟩;clear cZ;go_wp2_with fail;go_ret2;exact⟨b1.trans (aO.below.mono b1.size),.inl ⟨bV.out,rfl⟩⟩
  ·simp[bC]at aq
 ·obtain⟨n,T,U,rfl,bU,hT,hM⟩:=ZlB hc (by decide) bV
  have bC:ZaC t (n:Nat)=true:=by
   unfold ZdW at bV;simp only[ZrK]at bV;exact bV.1
  obtain⟨n',y,e',hy,bF⟩:=ZaV bC;obtain rfl:n'=n:=by omega
  have aq:=bV;unfold ZdW at aq;rw[bC,Bool.true_and]at aq;clear aq;have ak:=fun W (hb:Below w.heap.size w W)=>(ht.below hb).node bU
  rw[(Zrw hy).2]at ak;have g0:(0:Int)≤n':=by omega
  have g1:(n':Int)<t.length:=by omega
  have qc:=fun W (hb:Below w.heap.size w W)=>Zix (c:=cap) (ht.below hb) hc hT hM
  rw[kS]at qc;obtain⟨yl,yr,yv⟩:=y;simp only at ak;replace ak:=Zrr ak;replace hy:=Zrr hy;replace bF:=Zrr bF;replace bV:=Zrr bV;replace hc:=Zrr hc;replace qc:=Zrr qc;replace hT:=Zrr hT;replace hM:=Zrr hM;clear e'
  go_enter Tryz.func109,Tryz.ntmps109
  go_wp2_with fail;refine q1.mono ?_;rintro e w1 ⟨rfl,aK⟩;have b1:=aK.below;have cZ:=q2.out (n':Nat) w1 b1;rw[bC]at cZ;clear q1;go_wp2_with fail;refine cZ.mono ?_;rintro e w2 ⟨rfl,aO⟩;have b2:=b1.trans (aO.below.mono b1.size);obtain⟨m0,m1,m2⟩:=ak.out w2 b2;have b3:=b2;have q4:=qc.out w2 b3;clear cZ;go_wp2_with fail;refine q4.mono ?_;rintro e w4 ⟨g,cp,rfl,jb,hg,aw⟩;replace jb:=Zrr jb;clear q4;go_wp2_with fail;go_ret2;exact⟨b3.trans (aw.mono b3.size),.inr ⟨bV.out,n',T,U,g,cp,rfl,bU,hT.out,hM.out,rfl,jb.out,ZrC b3.size hg⟩⟩
end Go.Proofs.YtemnmcfmabamcaaGreatDoor
