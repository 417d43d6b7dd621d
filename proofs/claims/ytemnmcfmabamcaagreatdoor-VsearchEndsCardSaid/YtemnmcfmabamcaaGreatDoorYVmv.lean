import Derived.Test.YtemnmcfmabamcaaGreatDoorYVpost2
set_option linter.unusedSimpArgs false
set_option linter.unusedVariables false
set_option maxRecDepth 100000
set_option maxHeartbeats 4000000
namespace Go.Proofs.YtemnmcfmabamcaaGreatDoor
open Go Go.RowKit Go.Shelf
def ZqZ (t:List VN)(i:Int):Int:=(t.getD i.toNat ⟨0,0,0⟩).left
def Zq0 (t:List VN)(i:Int):Int:=(t.getD i.toNat ⟨0,0,0⟩).right
def ZdW (kd:Nat)(t:List VN)(i:Int):Bool:=ZaC t i && (if kd=1 then ZaC t (ZqZ t i) else if kd=2 then ZaC t (Zq0 t i) else true)
def Zbo (kd:Nat)(t:List VN)(i:Int)(w:World)(e:Ending)(w':World):Prop :=
 Below w.heap.size w w'∧((ZdW kd t i=false∧e= .returned (.tuple #[.slice none 0 0,.int .i64 1])) ∨
  (ZdW kd t i=true∧∃(n:Nat) (T U:L.Tr) (g cap:Nat),i=n∧n<t.length∧L.IsT L.idc t (t.length - 1) T∧L.Mv t kd n (t.length - 1) T U ∧
    e= .returned (.tuple #[.slice (some ⟨g,0,none⟩) (U.post 0).length cap,.int .i64 0])∧Zag w' g 0 (U.post 0)∧w.heap.size≤g))
theorem Zd3{t:List VN}{n:Nat}{y:VN}(h:t[n]? =some y):ZqZ t n=y.left:=by
 unfold ZqZ;rw[Int.toNat_natCast,ZrG,h];rfl
theorem Zd4{t:List VN}{n:Nat}{y:VN}(h:t[n]? =some y):Zq0 t n=y.right:=by
 unfold Zq0;rw[Int.toNat_natCast,ZrG,h];rfl
theorem ZfK{w:World}{t:List VN}{b o cap fc n kd:Nat}{caps:Array Value}{chg:Nat→VN→VN}(ht:Zag w b o t)(hc:Zae t=0)(cw:Zge w t fc caps chg)(hk:L.ChOK t kd n chg)(hn:n<t.length) :
  Calls Tryz.prog 123 #[.slice (some ⟨b,o,none⟩) t.length cap,.func (.func fc) #[] caps] w fun e w'=>∃T U g cp,e= .returned (.slice (some ⟨g,0,none⟩) (U.post 0).length cp)∧L.IsT L.idc t (t.length - 1) T∧L.Mv t kd n (t.length - 1) T U∧Zag w' g 0 (U.post 0)∧w.heap.size≤g∧Below w.heap.size w w':=by
 obtain⟨T,U,hT,hU,hM⟩:=L.moved hc hk hn;have eH:=(Zam hc).2.1;have ac:=hT.size_le hc;refine(Zhd ht cw hU (by rw[hM.size];omega) eH).mono ?_;rintro e w' ⟨v,rfl,g,cp,rfl,h1,h2,h3⟩;exact⟨T,U,g,cp,rfl,hT,hM,h1,h2,h3⟩
theorem Zng{w:World}{t:List VN}{b o cap:Nat}{i:Int}(ht:Zag w b o t)(hc:Zae t=0):Calls Tryz.prog 97 #[.slice (some ⟨b,o,none⟩) t.length cap,.int .i64 i] w (Zbo 3 t i w):=by
 have nL:∀(fn:Fn) (first cap:Array Value) (w:World),(Instr.makeFunc fn first cap).run Tryz.prog w= .ok (.func fn first cap) w:=fun _ _ _ _=>rfl
 have aF:=(ZrE w.heap.size w).alloc (ZrQ _) (.cells #[.int .i64 i] 3);have al:=Zrz w (.cells #[.int .i64 i] 3);have h0:(w.alloc (.cells #[.int .i64 i] 3)).cell? ⟨w.heap.size,0,none⟩=some (.int .i64 i):=by rw[World.cell?,al];rfl
 have q1:=ZbJ (w.alloc (.cells #[.int .i64 i] 3)) (some ⟨b,o,none⟩) cap (.inr ⟨b,o,rfl,ht.below aF⟩);rw[hc]at q1;replace aF:=Zrr aF;clear al;have ep:ZdW 3 t i=ZaC t i:=by simp[ZdW]
 go_enter Tryz.func97,Tryz.ntmps97
 go_wp2_with fail;generalize eJ:w.alloc (.cells #[.int .i64 i] 3)=w1 at *;clear eJ;refine q1.mono ?_;rintro e w2 ⟨rfl,aO⟩;have aL:=aF.out.trans (aO.below.mono aF.out.size);have c2:=aO.cell h0;have q2:=Zfy w2 b o cap (ht.below aL) i;clear q1;replace aL:=Zrr aL
 cases bC:ZaC t i
 ·rw[bC]at q2
  go_wp2_with fail;refine q2.mono ?_;rintro e w3 ⟨rfl,aR⟩;clear q2;go_wp2_with fail;go_ret2;exact⟨aL.out.trans (aR.below.mono aL.out.size),.inl ⟨by rw[ep,bC],rfl⟩⟩
 ·rw[bC]at q2
  obtain⟨n,y,rfl,hy,bF⟩:=ZaV bC;go_wp2_with fail;refine q2.mono ?_;rintro e w3 ⟨rfl,aR⟩;have aU:=aL.out.trans (aR.below.mono aL.out.size);have q3:=ZfK (cap:=cap) (ht.below aU) hc (Zox (t:=t) (aR.cell c2)) (L.swap_ok hc hy bF) (Zrw hy).1;replace aU:=Zrr aU;clear q2;go_wp2_with fail;refine q3.mono ?_;rintro e w4 ⟨T,U,g,cp,rfl,hT,hM,h1,h2,h3⟩;clear q3;replace h1:=Zrr h1;replace h3:=Zrr h3;go_wp2_with fail;go_ret2;exact⟨aU.out.trans (h3.out.mono aU.out.size),.inr ⟨by rw[ep,bC],n,T,U,g,cp,rfl,(Zrw hy).1,hT,hM,rfl,h1.out,ZrC aU.out.size h2⟩⟩
theorem Zk8{w:World}{t:List VN}{b o cap:Nat}{i:Int}(ht:Zag w b o t)(hc:Zae t=0):Calls Tryz.prog 94 #[.slice (some ⟨b,o,none⟩) t.length cap,.int .i64 i] w (Zbo 1 t i w):=by
 have nL:∀(fn:Fn) (first cap:Array Value) (w:World),(Instr.makeFunc fn first cap).run Tryz.prog w= .ok (.func fn first cap) w:=fun _ _ _ _=>rfl
 obtain⟨aF,aW,aK⟩:=Zbf w #[.slice (some ⟨b,o,none⟩) t.length cap] #[.int .i64 i] 23 3;obtain⟨w1,eJ⟩:∃w1,w1=(w.alloc (.cells #[.slice (some ⟨b,o,none⟩) t.length cap] 23)).alloc (.cells #[.int .i64 i] 3):=⟨_,rfl⟩;rw[←eJ]at aF aW aK;generalize hx:w.heap.size=x at *;have h0:w1.cell? ⟨x,0,none⟩=some (.slice (some ⟨b,o,none⟩) t.length cap):=by rw[World.cell?,aW];rfl
 have h1:w1.cell? ⟨x+1,0,none⟩=some (.int .i64 i):=by rw[World.cell?,aK];rfl
 have lY:Below w.heap.size w w1:=by rw[hx];exact aF
 have dB:=ht.below lY;have gQ:=Zrr fun (W:World) (hW:Ext w1 W)=>ZbJ W (some ⟨b,o,none⟩) cap (.inr ⟨b,o,rfl,dB.ext hW⟩)
 rw[hc]at gQ;have l9:=Zrr fun (z:Int) (W:World) (hW:Ext w1 W)=>Zfy W b o cap (dB.ext hW) z
 have ep:ZdW 1 t i=(ZaC t i && ZaC t (ZqZ t i)):=by simp[ZdW]
 replace eJ:=Zrr eJ;replace aF:=Zrr lY;replace ep:=Zrr ep;clear lY aW aK;replace hx:=Zrr hx
 cases bC:ZaC t i
 ·have F1:=Zrr fun (W:World) (hW:Ext w1 W)=>And.intro (hW.cell h0) (hW.cell h1)
  go_enter Tryz.func94,Tryz.ntmps94
  go_wp2_with fail;simp only[hx.out];rw[←eJ.out]
  (refine Zaf (by kernel_rfl) (by kernel_rfl) ?_
   repeat (refine wpQuiet_step (fun K hK=>?_)
           go_simp
           first
            | (refine hK _ ?_;clear hK K)
            | (replace hK:=Zrr hK
               apply Exists.intro
               refine⟨fun wq hq=>?_,hK.out _ ?_⟩
               ·(obtain⟨f1,f2⟩:=F1.out wq hq)
                go_simp
                first
                 | done
                 | rfl
                 | exact⟨rfl,rfl⟩
                 | first|(refine(gQ.out wq hq).mono ?_;rintro e w' ⟨rfl,bn⟩;exact⟨rfl,hq.trans bn⟩)|(refine(l9.out _ wq hq).mono ?_;rintro e w' ⟨rfl,bn⟩;exact⟨rfl,hq.trans bn⟩)
               clear hK K))
   refine wpQuiet_nil ?_)
  intro w2 bS;go_wp2_with fail;go_ret2;exact⟨aF.out.trans (bS.below.mono aF.out.size),.inl ⟨by rw[ep.out,bC];rfl,rfl⟩⟩
 ·obtain⟨n,y,rfl,hy,bF⟩:=ZaV bC
  have bU:=(Zrw hy).1;obtain⟨m0,m1,m2⟩:=dB.node bU;rw[(Zrw hy).2]at m0 m1 m2;have nH:=Zd3 hy;rw[nH]at ep;have g0:(0:Int)≤n:=by omega
  have g1:(n:Int)<t.length:=by omega
  have F1:=Zrr fun (W:World) (hW:Ext w1 W)=>And.intro (hW.cell h0) (And.intro (hW.cell h1) (hW.cell m0))
  cases hin2:ZaC t y.left
  ·go_enter Tryz.func94,Tryz.ntmps94
   go_wp2_with fail;simp only[hx.out];rw[←eJ.out]
   (refine Zaf (by kernel_rfl) (by kernel_rfl) ?_
    repeat (refine wpQuiet_step (fun K hK=>?_)
            go_simp
            first
             | (refine hK _ ?_;clear hK K)
             | (replace hK:=Zrr hK
                apply Exists.intro
                refine⟨fun wq hq=>?_,hK.out _ ?_⟩
                ·(obtain⟨f1,f2,f3⟩:=F1.out wq hq)
                 go_simp
                 first
                  | done
                  | rfl
                  | exact⟨rfl,rfl⟩
                  | first|(refine(gQ.out wq hq).mono ?_;rintro e w' ⟨rfl,bn⟩;exact⟨rfl,hq.trans bn⟩)|(refine(l9.out _ wq hq).mono ?_;rintro e w' ⟨rfl,bn⟩;exact⟨rfl,hq.trans bn⟩)
                clear hK K))
    refine wpQuiet_nil ?_)
   intro w2 bS;go_wp2_with fail;go_ret2;exact⟨aF.out.trans (bS.below.mono aF.out.size),.inl ⟨by rw[ep.out,bC,hin2];rfl,rfl⟩⟩
  ·obtain⟨low,z,lj,hz,dC⟩:=ZaV hin2
   obtain⟨a,bb,z1,z2,_⟩:=L.inner_ok hc hz dC;obtain⟨l',c,y1,y2,_⟩:=L.inner_ok hc hy bF;obtain rfl:l'=low:=by omega
   rw[y1]at hin2
   go_enter Tryz.func94,Tryz.ntmps94
   go_wp2_with fail;simp only[hx.out];rw[←eJ.out]
   (refine Zaf (by kernel_rfl) (by kernel_rfl) ?_
    repeat (refine wpQuiet_step (fun K hK=>?_)
            go_simp
            first
             | (refine hK _ ?_;clear hK K)
             | (replace hK:=Zrr hK
                apply Exists.intro
                refine⟨fun wq hq=>?_,hK.out _ ?_⟩
                ·(obtain⟨f1,f2,f3⟩:=F1.out wq hq)
                 go_simp
                 first
                  | done
                  | rfl
                  | exact⟨rfl,rfl⟩
                  | first|(refine(gQ.out wq hq).mono ?_;rintro e w' ⟨rfl,bn⟩;exact⟨rfl,hq.trans bn⟩)|(refine(l9.out _ wq hq).mono ?_;rintro e w' ⟨rfl,bn⟩;exact⟨rfl,hq.trans bn⟩)
                clear hK K))
    refine wpQuiet_nil ?_)
   intro w2 bS;obtain⟨f1,f2,f3⟩:=F1.out w2 bS;have f4:=bS.cell m1;have f5:=bS.cell m2;rw[y1]at f3;rw[y2]at f4;obtain⟨aU,aR,gz⟩:=Zbf w2 #[.int .i64 (l':Nat)] #[.int .i64 (l':Nat),.int .i64 (c:Nat),.int .i64 y.var] 3 78;have vO:=((Ext.refl w2).alloc (.cells #[.int .i64 (l':Nat)] 3)).alloc (.cells #[.int .i64 (l':Nat),.int .i64 (c:Nat),.int .i64 y.var] 78);have k0:=vO.cell f1;have k1:=vO.cell f2;obtain⟨w5,nh⟩:∃w5,w5=(w2.alloc (.cells #[.int .i64 (l':Nat)] 3)).alloc (.cells #[.int .i64 (l':Nat),.int .i64 (c:Nat),.int .i64 y.var] 78):=⟨_,rfl⟩;rw[←nh]at aU aR gz k0 k1;have k2:w5.cell? ⟨w2.heap.size,0,none⟩=some (.int .i64 (l':Nat)):=by rw[World.cell?,aR];rfl
   have k3:w5.cell? ⟨w2.heap.size+1,1,none⟩=some (.int .i64 (c:Nat)):=by rw[World.cell?,gz];rfl
   have ah:=aF.out.trans ((bS.below.trans (aU.mono bS.size)).mono aF.out.size);have q3:=ZfK (cap:=cap) (ht.below ah) hc (ZmH (cap:=cap) (ht.below ah) k1 k0 k2 k3 hz z1 z2) (L.right_ok hc hy bF y1 y2 hz dC z1 z2) bU;replace ah:=Zrr ah;have f1a:=((Ext.refl w2).alloc (.cells #[.int .i64 (l':Nat)] 3)).cell f1;have f2a:=((Ext.refl w2).alloc (.cells #[.int .i64 (l':Nat)] 3)).cell f2;have f3a:=((Ext.refl w2).alloc (.cells #[.int .i64 (l':Nat)] 3)).cell f3;have f4a:=((Ext.refl w2).alloc (.cells #[.int .i64 (l':Nat)] 3)).cell f4;have f5a:=((Ext.refl w2).alloc (.cells #[.int .i64 (l':Nat)] 3)).cell f5;have f1b:=vO.cell f1;clear k0 k1 k2 k3 aR gz aU;go_wp2_with fail;rw[←nh];refine q3.mono ?_;rintro e w6 ⟨T,U,g,cp,rfl,hT,hM,dI,dJ,dt⟩;clear q3;replace dI:=Zrr dI;replace dt:=Zrr dt;go_wp2_with fail;go_ret2;exact⟨ah.out.trans (dt.out.mono ah.out.size),.inr ⟨by rw[ep.out,bC,y1,hin2];rfl,n,T,U,g,cp,rfl,bU,hT,hM,rfl,dI.out,ZrC ah.out.size dJ⟩⟩
theorem Zne{w:World}{t:List VN}{b o cap:Nat}{i:Int}(ht:Zag w b o t)(hc:Zae t=0):Calls Tryz.prog 96 #[.slice (some ⟨b,o,none⟩) t.length cap,.int .i64 i] w (Zbo 2 t i w):=by
 have nL:∀(fn:Fn) (first cap:Array Value) (w:World),(Instr.makeFunc fn first cap).run Tryz.prog w= .ok (.func fn first cap) w:=fun _ _ _ _=>rfl
 obtain⟨aF,aW,aK⟩:=Zbf w #[.slice (some ⟨b,o,none⟩) t.length cap] #[.int .i64 i] 23 3;obtain⟨w1,eJ⟩:∃w1,w1=(w.alloc (.cells #[.slice (some ⟨b,o,none⟩) t.length cap] 23)).alloc (.cells #[.int .i64 i] 3):=⟨_,rfl⟩;rw[←eJ]at aF aW aK;generalize hx:w.heap.size=x at *;have h0:w1.cell? ⟨x,0,none⟩=some (.slice (some ⟨b,o,none⟩) t.length cap):=by rw[World.cell?,aW];rfl
 have h1:w1.cell? ⟨x+1,0,none⟩=some (.int .i64 i):=by rw[World.cell?,aK];rfl
 have lY:Below w.heap.size w w1:=by rw[hx];exact aF
 have dB:=ht.below lY;have gQ:=Zrr fun (W:World) (hW:Ext w1 W)=>ZbJ W (some ⟨b,o,none⟩) cap (.inr ⟨b,o,rfl,dB.ext hW⟩)
 rw[hc]at gQ;have l9:=Zrr fun (z:Int) (W:World) (hW:Ext w1 W)=>Zfy W b o cap (dB.ext hW) z
 have ep:ZdW 2 t i=(ZaC t i && ZaC t (Zq0 t i)):=by simp[ZdW]
 replace eJ:=Zrr eJ;replace aF:=Zrr lY;replace ep:=Zrr ep;clear lY aW aK;replace hx:=Zrr hx
 cases bC:ZaC t i
 ·have F1:=Zrr fun (W:World) (hW:Ext w1 W)=>And.intro (hW.cell h0) (hW.cell h1)
  go_enter Tryz.func96,Tryz.ntmps96
  go_wp2_with fail;simp only[hx.out];rw[←eJ.out]
  (refine Zaf (by kernel_rfl) (by kernel_rfl) ?_
   repeat (refine wpQuiet_step (fun K hK=>?_)
           go_simp
           first
            | (refine hK _ ?_;clear hK K)
            | (replace hK:=Zrr hK
               apply Exists.intro
               refine⟨fun wq hq=>?_,hK.out _ ?_⟩
               ·(obtain⟨f1,f2⟩:=F1.out wq hq)
                go_simp
                first
                 | done
                 | rfl
                 | exact⟨rfl,rfl⟩
                 | first|(refine(gQ.out wq hq).mono ?_;rintro e w' ⟨rfl,bn⟩;exact⟨rfl,hq.trans bn⟩)|(refine(l9.out _ wq hq).mono ?_;rintro e w' ⟨rfl,bn⟩;exact⟨rfl,hq.trans bn⟩)
               clear hK K))
   refine wpQuiet_nil ?_)
  intro w2 bS;go_wp2_with fail;go_ret2;exact⟨aF.out.trans (bS.below.mono aF.out.size),.inl ⟨by rw[ep.out,bC];rfl,rfl⟩⟩
 ·obtain⟨n,y,rfl,hy,bF⟩:=ZaV bC
  have bU:=(Zrw hy).1;obtain⟨m0,m1,m2⟩:=dB.node bU;rw[(Zrw hy).2]at m0 m1 m2;have nH:=Zd4 hy;rw[nH]at ep;have g0:(0:Int)≤n:=by omega
  have g1:(n:Int)<t.length:=by omega
  have F1:=Zrr fun (W:World) (hW:Ext w1 W)=>And.intro (hW.cell h0) (And.intro (hW.cell h1) (hW.cell m1))
  cases hin2:ZaC t y.right
  ·go_enter Tryz.func96,Tryz.ntmps96
   go_wp2_with fail;simp only[hx.out];rw[←eJ.out]
   (refine Zaf (by kernel_rfl) (by kernel_rfl) ?_
    repeat (refine wpQuiet_step (fun K hK=>?_)
            go_simp
            first
             | (refine hK _ ?_;clear hK K)
             | (replace hK:=Zrr hK
                apply Exists.intro
                refine⟨fun wq hq=>?_,hK.out _ ?_⟩
                ·(obtain⟨f1,f2,f3⟩:=F1.out wq hq)
                 go_simp
                 first
                  | done
                  | rfl
                  | exact⟨rfl,rfl⟩
                  | first|(refine(gQ.out wq hq).mono ?_;rintro e w' ⟨rfl,bn⟩;exact⟨rfl,hq.trans bn⟩)|(refine(l9.out _ wq hq).mono ?_;rintro e w' ⟨rfl,bn⟩;exact⟨rfl,hq.trans bn⟩)
                clear hK K))
    refine wpQuiet_nil ?_)
   intro w2 bS;go_wp2_with fail;go_ret2;exact⟨aF.out.trans (bS.below.mono aF.out.size),.inl ⟨by rw[ep.out,bC,hin2];rfl,rfl⟩⟩
  ·obtain⟨low,z,lj,hz,dC⟩:=ZaV hin2
   obtain⟨bb,c,z1,z2,_⟩:=L.inner_ok hc hz dC;obtain⟨a,l',y1,y2,_⟩:=L.inner_ok hc hy bF;obtain rfl:l'=low:=by omega
   rw[y2]at hin2
   go_enter Tryz.func96,Tryz.ntmps96
   go_wp2_with fail;simp only[hx.out];rw[←eJ.out]
   (refine Zaf (by kernel_rfl) (by kernel_rfl) ?_
    repeat (refine wpQuiet_step (fun K hK=>?_)
            go_simp
            first
             | (refine hK _ ?_;clear hK K)
             | (replace hK:=Zrr hK
                apply Exists.intro
                refine⟨fun wq hq=>?_,hK.out _ ?_⟩
                ·(obtain⟨f1,f2,f3⟩:=F1.out wq hq)
                 go_simp
                 first
                  | done
                  | rfl
                  | exact⟨rfl,rfl⟩
                  | first|(refine(gQ.out wq hq).mono ?_;rintro e w' ⟨rfl,bn⟩;exact⟨rfl,hq.trans bn⟩)|(refine(l9.out _ wq hq).mono ?_;rintro e w' ⟨rfl,bn⟩;exact⟨rfl,hq.trans bn⟩)
                clear hK K))
    refine wpQuiet_nil ?_)
   intro w2 bS;obtain⟨f1,f2,f3⟩:=F1.out w2 bS;have f4:=bS.cell m0;have f5:=bS.cell m2;rw[y2]at f3;rw[y1]at f4;obtain⟨aU,aR,gz⟩:=Zbf w2 #[.int .i64 (l':Nat)] #[.int .i64 (a:Nat),.int .i64 (l':Nat),.int .i64 y.var] 3 78;have vO:=((Ext.refl w2).alloc (.cells #[.int .i64 (l':Nat)] 3)).alloc (.cells #[.int .i64 (a:Nat),.int .i64 (l':Nat),.int .i64 y.var] 78);have k0:=vO.cell f1;have k1:=vO.cell f2;obtain⟨w5,nh⟩:∃w5,w5=(w2.alloc (.cells #[.int .i64 (l':Nat)] 3)).alloc (.cells #[.int .i64 (a:Nat),.int .i64 (l':Nat),.int .i64 y.var] 78):=⟨_,rfl⟩;rw[←nh]at aU aR gz k0 k1;have k2:w5.cell? ⟨w2.heap.size,0,none⟩=some (.int .i64 (l':Nat)):=by rw[World.cell?,aR];rfl
   have k3:w5.cell? ⟨w2.heap.size+1,0,none⟩=some (.int .i64 (a:Nat)):=by rw[World.cell?,gz];rfl
   have ah:=aF.out.trans ((bS.below.trans (aU.mono bS.size)).mono aF.out.size);have q3:=ZfK (cap:=cap) (ht.below ah) hc (Zn5 (cap:=cap) (ht.below ah) k1 k0 k2 k3 hz z1 z2) (L.left_ok hc hy bF y1 y2 hz dC z1 z2) bU;replace ah:=Zrr ah;have f1a:=((Ext.refl w2).alloc (.cells #[.int .i64 (l':Nat)] 3)).cell f1;have f2a:=((Ext.refl w2).alloc (.cells #[.int .i64 (l':Nat)] 3)).cell f2;have f3a:=((Ext.refl w2).alloc (.cells #[.int .i64 (l':Nat)] 3)).cell f3;have f4a:=((Ext.refl w2).alloc (.cells #[.int .i64 (l':Nat)] 3)).cell f4;have f5a:=((Ext.refl w2).alloc (.cells #[.int .i64 (l':Nat)] 3)).cell f5;have f1b:=vO.cell f1;clear k0 k1 k2 k3 aR gz aU;go_wp2_with fail;rw[←nh];refine q3.mono ?_;rintro e w6 ⟨T,U,g,cp,rfl,hT,hM,dI,dJ,dt⟩;clear q3;replace dI:=Zrr dI;replace dt:=Zrr dt;go_wp2_with fail;go_ret2;exact⟨ah.out.trans (dt.out.mono ah.out.size),.inr ⟨by rw[ep.out,bC,y2,hin2];rfl,n,T,U,g,cp,rfl,bU,hT,hM,rfl,dI.out,ZrC ah.out.size dJ⟩⟩
end Go.Proofs.YtemnmcfmabamcaaGreatDoor
