import Derived.Test.YtemnmcfmabamcaaGreatDoorYVref
set_option linter.unusedSimpArgs false
set_option linter.unusedVariables false
set_option maxRecDepth 100000
set_option maxHeartbeats 8000000
namespace Go.Proofs.YtemnmcfmabamcaaGreatDoor
open Go Go.RowKit Go.Shelf
def Zfb (w0:World)(out:List VN)(U:L.Tr)(wr:World)(v:Value)(e:Ending)(w':World):Prop :=
 ∃g cp,e= .returned (.slice (some ⟨g,0,none⟩) (out.length+U.size) cp)∧w'.ownsRow w0.heap.size 78 3 (.slice (some ⟨g,0,none⟩) (out.length+U.size) cp) (out++U.post out.length).length (Zal (out++U.post out.length))∧Below w0.heap.size w0 w'∧ZaJ wr v w' (.slice (some ⟨g,0,none⟩) (out.length+U.size) cp)
def ZcZ (w0:World)(t:List VN)(b o c:Nat)(at' kd:Int)(i:Nat)(U:L.Tr):Prop:=∀(out:List VN) (v:Value) (wr:World),Below w0.heap.size w0 wr→wr.ownsRow w0.heap.size 78 3 v out.length (Zal out)→out.length+U.size≤255 →
 Calls Tryz.prog 131 #[.slice (some ⟨b,o,none⟩) t.length c,.int .i64 (i:Int),.int .i64 at',.int .i64 kd,v] wr (Zfb w0 out U wr v)
theorem ZbN(out:List VN)(T:L.Tr)(k:Nat):(out++T.post k).length=out.length+T.size:=by rw[ZrB,L.Tr.post_len]
theorem Zpp{w0:World}{t:List VN}{b o c i:Nat}{at' kd:Int}{y:VN}(ht:Zag w0 b o t)(h1:t[i]? =some y)(h2:Zai y=true):ZcZ w0 t b o c at' kd i (.leaf y.var):=by
 intro out v wr hB hR ac;obtain⟨hi,hy⟩:=Zrw h1;obtain⟨n0,n1,n2⟩:=(ht.below hB).node hi;rw[hy]at n0 n1 n2;obtain⟨iv,dN,cP,cI,dM⟩:=info_parts Zcn;obtain⟨yl,yr,yv⟩:=y;simp only at n0 n1 n2;have jn:yl= -1∧yr= -1:=by simp only[Zai,ZrK,ZrN]at h2;exact h2.1
 have aF:=(ZrE wr.heap.size wr).alloc (ZrQ _) (.cells #[.int .i64 yl,.int .i64 yr,.int .i64 yv] 78);have aC:=Zrz wr (.cells #[.int .i64 yl,.int .i64 yr,.int .i64 yv] 78);have ew:(0:Int)≤i:=by omega
 have jx:(i:Int)<t.length:=by omega
 have aI:=fun W=>Za7 ⟨yl,yr,yv⟩ W
 rw[h2]at aI;have ax:=Zrr (hB.trans (aF.mono hB.size));have aQ:=Zrr (hR.alloc (.cells #[.int .i64 yl,.int .i64 yr,.int .i64 yv] 78));obtain⟨k0,k1,k2⟩:=Za5 aC;have dh:=Zrr (ZaJ.below v aF);clear aF;replace aC:=Zrr aC;replace jn:=Zrr jn;obtain⟨nl,bU⟩:∃nl,nl=out.length:=⟨_,rfl⟩;have iH:nl+1≤255:=by rw[bU];exact ac
 replace bU:=Zrr bU;replace hR:=Zrr hR;clear h1 h2 ac hy
 go_enter Tryz.func131,Tryz.ntmps131
 go_wp2_with fail;generalize eJ:wr.alloc (.cells #[.int .i64 yl,.int .i64 yr,.int .i64 yv] 78)=w1 at *;clear eJ;generalize wr.heap.size=p at *;refine(aI _).mono ?_;rintro e w2 ⟨rfl,aO⟩;clear aI n0 n1 n2;have aS:=aO.below;have ay:=ax.out.trans (aS.mono ax.out.size);have bA:=Zaa aQ.out (fun _ hg=>aS.block _ (Zap aQ.out hg).1);have rx:=aO.cell k0;have dS:=aO.cell k1;have eD:=aO.cell k2;have eU:=(ZrE w2.heap.size w2).alloc (ZrQ _) (.cells #[.int .i64 yl,.int .i64 yr,.int .i64 yv] 78);have lM:=ay.trans (eU.mono ay.size);have cU:=bA.alloc (.cells #[.int .i64 yl,.int .i64 yr,.int .i64 yv] 78);have aH:∀u∈[Value.int .i64 yl,.int .i64 yr,.int .i64 yv],u.oneCell'=true:=by simp[Value.oneCell']
 have aG:=World.news_of_block (cs:=#[.int .i64 yl,.int .i64 yr,.int .i64 yv]) (t:=78) (fr:=(0,0)) (Zrz w2 (.cells #[.int .i64 yl,.int .i64 yr,.int .i64 yv] 78));have gL:=Zrr (dh.out.trans ((ZaJ.below v aS).trans (ZaJ.below v eU)));have io:=ay.size;rw[←bU.out]at cU;replace lM:=Zrr lM;clear eU aS ay bA k0 k1 k2
 go_wp2_with (at_builtin;(refine wpList_append_lies _ rfl _ _ 23 rfl w0.heap.size 78 iv _ 3 24 Tryz.underlying23 dN cP cI dM rfl (by decide) _ nl (Zal out) rfl cU ⟨w2.heap.size,0,none⟩ 1 1 [.int .i64 yl,.int .i64 yr,.int .i64 yv] rfl rfl aG aH (by omega) (by unfold maxLen;omega) (by omega) (by simp <;> omega) _ rfl ?_;intro g7 gK w7 bh cm bQ _))
 have dA:=cU;rw[bU.out]at bh dA;have aP:=ZcP (x:=⟨yl,yr,yv⟩) lM.out dA bh cm bQ;go_ret;refine⟨g7,gK,?_,?_,aP.1,?_⟩
 ·rw[bU.out];rfl
 ·have:=aP.2.1
  obtain⟨rfl,rfl⟩:=jn.out;exact this
 ·exact gL.out.trans aP.2.2
theorem Ziw{w0:World}{t:List VN}{b o c i a b':Nat}{at' kd:Int}{y:VN}{U V:L.Tr}(ht:Zag w0 b o t)(h1:t[i]? =some y)(h2:Zai y=false)(h3:y.left=a)(h4:y.right=b')(aJ:(i:Int)≠at')(hl:ZcZ w0 t b o c at' kd a U)(hr:ZcZ w0 t b o c at' kd b' V):ZcZ w0 t b o c at' kd i (.node U V):=by
 intro out v wr hB hR ac;obtain⟨hi,hy⟩:=Zrw h1;obtain⟨n0,n1,n2⟩:=(ht.below hB).node hi;rw[hy]at n0 n1 n2;obtain⟨iv,dN,cP,cI,dM⟩:=info_parts Zcn;obtain⟨yl,yr,yv⟩:=y;simp only at n0 n1 n2 h3 h4;subst h3 h4;have yy:=U.pos;have hrp:=V.pos;have iH:out.length+(U.size+V.size+1)≤255:=ac;have dne:((i:Int) ==at')=false:=by simpa using aJ
 have aF:=(ZrE wr.heap.size wr).alloc (ZrQ _) (.cells #[.int .i64 (a:Nat),.int .i64 (b':Nat),.int .i64 yv] 78);have aC:=Zrz wr (.cells #[.int .i64 (a:Nat),.int .i64 (b':Nat),.int .i64 yv] 78);have ew:(0:Int)≤i:=by omega
 have jx:(i:Int)<t.length:=by omega
 have aI:=fun W=>Za7 ⟨(a:Nat),(b':Nat),yv⟩ W
 rw[h2]at aI;have ax:=Zrr (hB.trans (aF.mono hB.size));have aQ:=Zrr (hR.alloc (.cells #[.int .i64 (a:Nat),.int .i64 (b':Nat),.int .i64 yv] 78));have gI:v.ownBlock≠some wr.heap.size:=fun e=>by have:=(Zap hR e).1;omega
 obtain⟨k0,k1,k2⟩:=Za5 aC;have dh:=Zrr (ZaJ.below v aF);clear aF;replace aC:=Zrr aC;replace hR:=Zrr hR;replace gI:=Zrr gI;replace hy:=Zrr hy;clear h1 h2;replace aJ:=Zrr aJ
 go_enter Tryz.func131,Tryz.ntmps131
 go_wp2_with fail;generalize eJ:wr.alloc (.cells #[.int .i64 (a:Nat),.int .i64 (b':Nat),.int .i64 yv] 78)=w1 at *;clear eJ;generalize wr.heap.size=p at *;refine(aI _).mono ?_;rintro e w2 ⟨rfl,aO⟩;clear aI n0 n1 n2;have aS:=aO.below;have ay:=ax.out.trans (aS.mono ax.out.size);have bA:=Zaa aQ.out (fun _ hg=>aS.block _ (Zap aQ.out hg).1);have rx:=aO.cell k0;have dS:=aO.cell k1;have eD:=aO.cell k2;have ae:=(aS.block p (Zrv aC.out).1).trans aC.out;have eQ:=Zrr (dh.out.trans (ZaJ.below v aS));clear k0 k1 k2 ax aQ aC;have ql:=hl out v w2 ay bA (by omega);replace ae:=Zrr ae;clear aS ay bA;go_wp2_with fail;refine ql.mono ?_;rintro e w3 ⟨gl,cl,rfl,cX,eI,cj⟩;have fh:=(cj.block p (Zrv ae.out).1 gI.out).trans ae.out;have cF:(out++(U).post out.length).length=out.length+(U).size:=ZbN _ _ _;have qr:=hr (out++(U).post out.length) (.slice (some ⟨gl,0,none⟩) (out.length+(U).size) cl) w3 eI cX (by rw[cF];omega);unfold Zfb at qr;rw[cF]at qr;have fX:IntKind.i64.wrap (((out.length+(U).size:Nat):Int) - 1)=((out.length+(U).size - 1:Nat):Int):=by rw[IntWalk.i64_in _ (by omega)];omega
 have bS:IntKind.i64.wrap (((out.length+(U).size+(V).size:Nat):Int) - 1)=((out.length+(U).size+(V).size - 1:Nat):Int):=by rw[IntWalk.i64_in _ (by omega)];omega
 obtain⟨zl,dC⟩:∃z:Int,z=((out.length+(U).size - 1:Nat):Int):=⟨_,rfl⟩;obtain⟨zr,iz⟩:∃z:Int,z=((out.length+(U).size+(V).size - 1:Nat):Int):=⟨_,rfl⟩;rw[←dC]at fX;rw[←iz]at bS;obtain⟨bY,am⟩:∃o6,o6=out++(U).post out.length++(V).post (out.length+(U).size):=⟨_,rfl⟩;have cE:bY.length=out.length+(U).size+(V).size:=by rw[am,ZrB,cF,L.Tr.post_len]
 rw[←am]at qr;have eS:=Zrr (eQ.out.trans cj);obtain⟨n3,eo⟩:∃n3,n3=out.length+(U).size:=⟨_,rfl⟩;rw[←eo]at fX bS qr eS cE;rw[←eo];obtain⟨n6,lE⟩:∃n6,n6=n3+(V).size:=⟨_,rfl⟩;rw[←lE]at bS qr cE;have zG:n6+1≤255:=by omega
 obtain⟨k0,k1,k2⟩:=Za5 fh;replace dC:=Zrr dC;replace iz:=Zrr iz;replace am:=Zrr am;replace cF:=Zrr cF;replace cE:=Zrr cE;replace eo:=Zrr eo;replace lE:=Zrr lE;clear ql cX eI cj fh rx dS eD ac iH;go_wp2_with fail;refine qr.mono ?_;rintro e w6 ⟨gr,cr,rfl,du,ej,gM⟩;have dq0:=(ZrE w6.heap.size w6).alloc (ZrQ _) (.cells #[.int .i64 zl,.int .i64 zr,.int .i64 0] 78)
 have iT:=ej.trans (dq0.mono ej.size);have cU:=du.alloc (.cells #[.int .i64 zl,.int .i64 zr,.int .i64 0] 78);have aH:∀u∈[Value.int .i64 zl,.int .i64 zr,.int .i64 0],u.oneCell'=true:=by simp[Value.oneCell']
 have aG:=World.news_of_block (cs:=#[.int .i64 zl,.int .i64 zr,.int .i64 0]) (t:=78) (fr:=(0,0)) (Zrz w6 (.cells #[.int .i64 zl,.int .i64 zr,.int .i64 0] 78));have gL:=Zrr ((eS.out.trans gM).trans (ZaJ.below _ dq0));have io:=ej.size;rw[cE.out]at cU;replace iT:=Zrr iT;clear dq0 ej gM du qr k0 k1 k2 ae
 go_wp2_with (at_builtin;(refine wpList_append_lies _ rfl _ _ 23 rfl w0.heap.size 78 iv _ 3 24 Tryz.underlying23 dN cP cI dM rfl (by decide) _ n6 (Zal bY) rfl cU ⟨w6.heap.size,0,none⟩ 1 1 [.int .i64 zl,.int .i64 zr,.int .i64 0] rfl rfl aG aH (by omega) (by unfold maxLen;omega) (by omega) (by simp <;> omega) _ rfl ?_;intro g7 gK w7 bh cm bQ _))
 have dA:=cU;rw[←cE.out]at bh dA;have aP:=ZcP (x:=⟨zl,zr,0⟩) iT.out dA bh cm bQ;go_ret;have ft:out.length+(L.Tr.node (U) (V)).size=bY.length+1:=by rw[cE.out,lE.out,eo.out];simp only[L.Tr.size];omega
 have dD:out++(L.Tr.node (U) (V)).post out.length=bY++[⟨zl,zr,0⟩]:=by
  rw[am.out,dC.out,iz.out];simp[L.Tr.post]
 unfold Zfb;rw[ft,dD];have kI:=gL.out;rw[←cE.out]at kI;refine⟨g7,gK,?_,aP.2.1,aP.1,kI.trans aP.2.2⟩;rw[cE.out];rfl
theorem Zpr{w0:World}{t:List VN}{b o c i a b':Nat}{y:VN}{U V:L.Tr}(ht:Zag w0 b o t)(h1:t[i]? =some y)(h2:Zai y=false)(h3:y.left=a)(h4:y.right=b')(hl:ZcZ w0 t b o c i 3 a U)(hr:ZcZ w0 t b o c i 3 b' V):ZcZ w0 t b o c i 3 i (.node V U):=by
 intro out v wr hB hR ac;obtain⟨hi,hy⟩:=Zrw h1;obtain⟨n0,n1,n2⟩:=(ht.below hB).node hi;rw[hy]at n0 n1 n2;obtain⟨iv,dN,cP,cI,dM⟩:=info_parts Zcn;obtain⟨yl,yr,yv⟩:=y;simp only at n0 n1 n2 h3 h4;subst h3 h4;have yy:=U.pos;have hrp:=V.pos;have iH:out.length+(V.size+U.size+1)≤255:=ac;have dne:((i:Int) ==(i:Int))=true:=by simp
 have aF:=(ZrE wr.heap.size wr).alloc (ZrQ _) (.cells #[.int .i64 (a:Nat),.int .i64 (b':Nat),.int .i64 yv] 78);have aC:=Zrz wr (.cells #[.int .i64 (a:Nat),.int .i64 (b':Nat),.int .i64 yv] 78);have ew:(0:Int)≤i:=by omega
 have jx:(i:Int)<t.length:=by omega
 have aI:=fun W=>Za7 ⟨(a:Nat),(b':Nat),yv⟩ W
 rw[h2]at aI;have ax:=Zrr (hB.trans (aF.mono hB.size));have aQ:=Zrr (hR.alloc (.cells #[.int .i64 (a:Nat),.int .i64 (b':Nat),.int .i64 yv] 78));have gI:v.ownBlock≠some wr.heap.size:=fun e=>by have:=(Zap hR e).1;omega
 obtain⟨k0,k1,k2⟩:=Za5 aC;have dh:=Zrr (ZaJ.below v aF);clear aF;replace aC:=Zrr aC;replace hR:=Zrr hR;replace gI:=Zrr gI;replace hy:=Zrr hy;clear h1 h2
 go_enter Tryz.func131,Tryz.ntmps131
 go_wp2_with fail;generalize eJ:wr.alloc (.cells #[.int .i64 (a:Nat),.int .i64 (b':Nat),.int .i64 yv] 78)=w1 at *;clear eJ;generalize wr.heap.size=p at *;refine(aI _).mono ?_;rintro e w2 ⟨rfl,aO⟩;clear aI n0 n1 n2;have aS:=aO.below;have ay:=ax.out.trans (aS.mono ax.out.size);have bA:=Zaa aQ.out (fun _ hg=>aS.block _ (Zap aQ.out hg).1);have rx:=aO.cell k0;have dS:=aO.cell k1;have eD:=aO.cell k2;have ae:=(aS.block p (Zrv aC.out).1).trans aC.out;have eQ:=Zrr (dh.out.trans (ZaJ.below v aS));clear k0 k1 k2 ax aQ aC;have ql:=hr out v w2 ay bA (by omega);replace ae:=Zrr ae;clear aS ay bA;go_wp2_with fail;refine ql.mono ?_;rintro e w3 ⟨gl,cl,rfl,cX,eI,cj⟩;have fh:=(cj.block p (Zrv ae.out).1 gI.out).trans ae.out;have cF:(out++(V).post out.length).length=out.length+(V).size:=ZbN _ _ _;have qr:=hl (out++(V).post out.length) (.slice (some ⟨gl,0,none⟩) (out.length+(V).size) cl) w3 eI cX (by rw[cF];omega);unfold Zfb at qr;rw[cF]at qr;have fX:IntKind.i64.wrap (((out.length+(V).size:Nat):Int) - 1)=((out.length+(V).size - 1:Nat):Int):=by rw[IntWalk.i64_in _ (by omega)];omega
 have bS:IntKind.i64.wrap (((out.length+(V).size+(U).size:Nat):Int) - 1)=((out.length+(V).size+(U).size - 1:Nat):Int):=by rw[IntWalk.i64_in _ (by omega)];omega
 obtain⟨zl,dC⟩:∃z:Int,z=((out.length+(V).size - 1:Nat):Int):=⟨_,rfl⟩;obtain⟨zr,iz⟩:∃z:Int,z=((out.length+(V).size+(U).size - 1:Nat):Int):=⟨_,rfl⟩;rw[←dC]at fX;rw[←iz]at bS;obtain⟨bY,am⟩:∃o6,o6=out++(V).post out.length++(U).post (out.length+(V).size):=⟨_,rfl⟩;have cE:bY.length=out.length+(V).size+(U).size:=by rw[am,ZrB,cF,L.Tr.post_len]
 rw[←am]at qr;have eS:=Zrr (eQ.out.trans cj);obtain⟨n3,eo⟩:∃n3,n3=out.length+(V).size:=⟨_,rfl⟩;rw[←eo]at fX bS qr eS cE;rw[←eo];obtain⟨n6,lE⟩:∃n6,n6=n3+(U).size:=⟨_,rfl⟩;rw[←lE]at bS qr cE;have zG:n6+1≤255:=by omega
 obtain⟨k0,k1,k2⟩:=Za5 fh;replace dC:=Zrr dC;replace iz:=Zrr iz;replace am:=Zrr am;replace cF:=Zrr cF;replace cE:=Zrr cE;replace eo:=Zrr eo;replace lE:=Zrr lE;clear ql cX eI cj fh rx dS eD ac iH;go_wp2_with fail;refine qr.mono ?_;rintro e w6 ⟨gr,cr,rfl,du,ej,gM⟩;have dq0:=(ZrE w6.heap.size w6).alloc (ZrQ _) (.cells #[.int .i64 zl,.int .i64 zr,.int .i64 0] 78)
 have iT:=ej.trans (dq0.mono ej.size);have cU:=du.alloc (.cells #[.int .i64 zl,.int .i64 zr,.int .i64 0] 78);have aH:∀u∈[Value.int .i64 zl,.int .i64 zr,.int .i64 0],u.oneCell'=true:=by simp[Value.oneCell']
 have aG:=World.news_of_block (cs:=#[.int .i64 zl,.int .i64 zr,.int .i64 0]) (t:=78) (fr:=(0,0)) (Zrz w6 (.cells #[.int .i64 zl,.int .i64 zr,.int .i64 0] 78));have gL:=Zrr ((eS.out.trans gM).trans (ZaJ.below _ dq0));have io:=ej.size;rw[cE.out]at cU;replace iT:=Zrr iT;clear dq0 ej gM du qr k0 k1 k2 ae
 go_wp2_with (at_builtin;(refine wpList_append_lies _ rfl _ _ 23 rfl w0.heap.size 78 iv _ 3 24 Tryz.underlying23 dN cP cI dM rfl (by decide) _ n6 (Zal bY) rfl cU ⟨w6.heap.size,0,none⟩ 1 1 [.int .i64 zl,.int .i64 zr,.int .i64 0] rfl rfl aG aH (by omega) (by unfold maxLen;omega) (by omega) (by simp <;> omega) _ rfl ?_;intro g7 gK w7 bh cm bQ _))
 have dA:=cU;rw[←cE.out]at bh dA;have aP:=ZcP (x:=⟨zl,zr,0⟩) iT.out dA bh cm bQ;go_ret;have ft:out.length+(L.Tr.node (V) (U)).size=bY.length+1:=by rw[cE.out,lE.out,eo.out];simp only[L.Tr.size];omega
 have dD:out++(L.Tr.node (V) (U)).post out.length=bY++[⟨zl,zr,0⟩]:=by
  rw[am.out,dC.out,iz.out];simp[L.Tr.post]
 unfold Zfb;rw[ft,dD];have kI:=gL.out;rw[←cE.out]at kI;refine⟨g7,gK,?_,aP.2.1,aP.1,kI.trans aP.2.2⟩;rw[cE.out];rfl
theorem ZnL{w0:World}{t:List VN}{b o c i a b' pl pr:Nat}{y z:VN}{P Q R:L.Tr}(ht:Zag w0 b o t)(h1:t[i]? =some y)(h2:Zai y=false)(h3:y.left=a)(h4:y.right=b')(hz:t[a]? =some z)(dC:z.left=pl)(iz:z.right=pr)(hP:L.IsT L.idc t pl P)(hQ:L.IsT L.idc t pr Q)(xj:L.IsT L.idc t b' R):ZcZ w0 t b o c i 1 i (.node P (.node Q R)):=by
 intro out v wr hB hR ac;obtain⟨hi,hy⟩:=Zrw h1;obtain⟨n0,n1,n2⟩:=(ht.below hB).node hi;rw[hy]at n0 n1 n2;obtain⟨iv,dN,cP,cI,dM⟩:=info_parts Zcn;obtain⟨yl,yr,yv⟩:=y;simp only at n0 n1 n2 h3 h4;subst h3 h4;have hPp:=P.pos;have hQp:=Q.pos;have hRp:=R.pos;have iH:out.length+(P.size+Q.size+R.size+2)≤255:=by simp only[L.Tr.size]at ac;omega
 have dne:((i:Int) ==(i:Int))=true:=by simp
 have lP:=fun out v wr hB hR hs=>Zd7 (c:=c) ht P pl out v wr hP hB hR hs
 have lQ:=fun out v wr hB hR hs=>Zd7 (c:=c) ht Q pr out v wr hQ hB hR hs
 have lR:=fun out v wr hB hR hs=>Zd7 (c:=c) ht R b' out v wr xj hB hR hs
 obtain⟨hzi,vV⟩:=Zrw hz;have mz:=fun W (hW:Below w0.heap.size w0 W)=>(ht.below hW).node hzi
 rw[vV]at mz;obtain⟨zl',zr',sH⟩:=z;simp only at mz dC iz;subst dC iz;have lh:(0:Int)≤(a:Nat):=by omega
 have li:((a:Nat):Int)<t.length:=by omega
 have aF:=(ZrE wr.heap.size wr).alloc (ZrQ _) (.cells #[.int .i64 (a:Nat),.int .i64 (b':Nat),.int .i64 yv] 78);have aC:=Zrz wr (.cells #[.int .i64 (a:Nat),.int .i64 (b':Nat),.int .i64 yv] 78);have ew:(0:Int)≤i:=by omega
 have jx:(i:Int)<t.length:=by omega
 have aI:=fun W=>Za7 ⟨(a:Nat),(b':Nat),yv⟩ W
 rw[h2]at aI;have ax:=Zrr (hB.trans (aF.mono hB.size));have aQ:=Zrr (hR.alloc (.cells #[.int .i64 (a:Nat),.int .i64 (b':Nat),.int .i64 yv] 78));have gI:v.ownBlock≠some wr.heap.size:=fun e=>by have:=(Zap hR e).1;omega
 obtain⟨k0,k1,k2⟩:=Za5 aC;have dh:=Zrr (ZaJ.below v aF);clear aF;replace aC:=Zrr aC;replace hR:=Zrr hR;replace gI:=Zrr gI;replace hy:=Zrr hy;clear h1 h2;replace hz:=Zrr hz;replace vV:=Zrr vV;replace mz:=Zrr mz;replace lP:=Zrr lP;replace lQ:=Zrr lQ;replace lR:=Zrr lR;clear hP hQ xj
 go_enter Tryz.func131,Tryz.ntmps131
 go_wp2_with fail;generalize eJ:wr.alloc (.cells #[.int .i64 (a:Nat),.int .i64 (b':Nat),.int .i64 yv] 78)=w1 at *;clear eJ;generalize wr.heap.size=p at *;refine(aI _).mono ?_;rintro e w2 ⟨rfl,aO⟩;clear aI n0 n1 n2;have aS:=aO.below;have ay:=ax.out.trans (aS.mono ax.out.size);have bA:=Zaa aQ.out (fun _ hg=>aS.block _ (Zap aQ.out hg).1);have rx:=aO.cell k0;have dS:=aO.cell k1;have eD:=aO.cell k2;have ae:=(aS.block p (Zrv aC.out).1).trans aC.out;have eQ:=Zrr (dh.out.trans (ZaJ.below v aS));clear k0 k1 k2 ax aQ aC;have eU:=(ZrE w2.heap.size w2).alloc (ZrQ _) (.cells #[.int .i64 (pl:Nat),.int .i64 (pr:Nat),.int .i64 sH] 78);have uO:=Zrz w2 (.cells #[.int .i64 (pl:Nat),.int .i64 (pr:Nat),.int .i64 sH] 78);have sC:=Zrr ((eU.block p (Zrv ae).1).trans ae);have sD:=Zrr uO;have yv0:Hid (v.ownBlock≠some w2.heap.size):=Zrr (fun e=>by have:=(Zap bA e).1;omega);have xv0:=gI;obtain⟨m0,m1,m2⟩:=mz.out w2 ay;have n8:=Zrr (ay.trans (eU.mono ay.size));have xg:=Zrr (bA.alloc (.cells #[.int .i64 (pl:Nat),.int .i64 (pr:Nat),.int .i64 sH] 78));have kJ:=Zrr (eQ.out.trans (ZaJ.below v eU));obtain⟨mF,ox⟩:∃x,x=out:=⟨_,rfl⟩;obtain⟨n0,nM⟩:∃n,n=out.length:=⟨_,rfl⟩;have eM:Hid (mF.length=n0):=Zrr (by rw[ox,nM]);rw[←ox]at xg;rw[←nM]at iH;replace ox:=Zrr ox;replace nM:=Zrr nM;obtain⟨vg,vh,_⟩:=Za5 sC.out;obtain⟨sF,sG,_⟩:=Za5 sD.out;clear aS ay bA eU ac dh eQ gI ae;have dh:=kJ;clear kJ;go_wp2_with fail;generalize hWx:w2.alloc (.cells #[.int .i64 (pl:Nat),.int .i64 (pr:Nat),.int .i64 sH] 78)=ww0 at *;clear hWx m0 m1 m2 uO;generalize w2.heap.size=p2 at *;have q1:=lP.out mF v ww0 n8.out xg.out (by rw[eM.out];omega);obtain⟨n1,ll⟩:∃n,n=n0+(P).size:=⟨_,rfl⟩;obtain⟨mG,dX⟩:∃x,x=mF++(P).post n0:=⟨_,rfl⟩;rw[eM.out,←ll,←dX]at q1;have fN:Hid (mG.length=n1):=Zrr (by rw[dX,ZbN,eM.out,ll]);have ey:n1≤n0+(P).size∧n0+(P).size≤n1:=by omega
 have hnb1:n1≤255∧0<n1:=by omega
 obtain⟨z1,aj⟩:∃z:Int,z=((n1 - 1:Nat):Int):=⟨_,rfl⟩;have fX:IntKind.i64.wrap ((n1:Int) - 1)=z1:=by rw[IntWalk.i64_in _ (by omega),aj];omega
 replace ll:=Zrr ll;replace dX:=Zrr dX;replace aj:=Zrr aj;go_wp2_with fail;refine q1.mono ?_;rintro e ww1 ⟨g1,c1,rfl,aQ,ax,cC⟩;have tt:=Zrr (dh.out.trans cC);clear q1;clear vg vh;have xA:=Zrr ((cC.block p (Zrv sC.out).1 xv0.out).trans sC.out)
 have xv1:Hid ((Value.slice (some ⟨g1,0,none⟩) n1 c1).ownBlock≠some p):=Zrr (fun e=>by
  rcases cC.row p e with e'|e'
  ·exact xv0.out e'
  ·have:=(Zrv sC.out).1;omega)
 obtain⟨vg,vh,_⟩:=Za5 xA.out;clear sF sG;have xB:=Zrr ((cC.block p2 (Zrv sD.out).1 yv0.out).trans sD.out)
 have yv1:Hid ((Value.slice (some ⟨g1,0,none⟩) n1 c1).ownBlock≠some p2):=Zrr (fun e=>by
  rcases cC.row p2 e with e'|e'
  ·exact yv0.out e'
  ·have:=(Zrv sD.out).1;omega)
 obtain⟨sF,sG,_⟩:=Za5 xB.out;replace aQ:=Zrr aQ;replace ax:=Zrr ax;clear cC;have q2:=lQ.out mG (.slice (some ⟨g1,0,none⟩) n1 c1) ww1 ax.out aQ.out (by rw[fN.out];omega);obtain⟨n2,kl⟩:∃n,n=n1+(Q).size:=⟨_,rfl⟩;obtain⟨mH,aV⟩:∃x,x=mG++(Q).post n1:=⟨_,rfl⟩;rw[fN.out,←kl,←aV]at q2;have iE:Hid (mH.length=n2):=Zrr (by rw[aV,ZbN,fN.out,kl]);have ug:n2≤n1+(Q).size∧n1+(Q).size≤n2:=by omega
 have om:n2≤255∧0<n2:=by omega
 obtain⟨z2,av⟩:∃z:Int,z=((n2 - 1:Nat):Int):=⟨_,rfl⟩;have bS:IntKind.i64.wrap ((n2:Int) - 1)=z2:=by rw[IntWalk.i64_in _ (by omega),av];omega
 replace kl:=Zrr kl;replace aV:=Zrr aV;replace av:=Zrr av;go_wp2_with fail;refine q2.mono ?_;rintro e wx ⟨g2,c2,rfl,bA,ay,bB⟩;have eQ:=Zrr (tt.out.trans bB);clear q2;clear vg vh;have xb2:=Zrr ((bB.block p (Zrv xA.out).1 xv1.out).trans xA.out)
 have xv2:Hid ((Value.slice (some ⟨g2,0,none⟩) n2 c2).ownBlock≠some p):=Zrr (fun e=>by
  rcases bB.row p e with e'|e'
  ·exact xv1.out e'
  ·have:=(Zrv xA.out).1;omega)
 obtain⟨vg,vh,_⟩:=Za5 xb2.out;replace bA:=Zrr bA;replace ay:=Zrr ay;clear bB;have q3:=lR.out mH (.slice (some ⟨g2,0,none⟩) n2 c2) wx ay.out bA.out (by rw[iE.out];omega);obtain⟨n3,eo⟩:∃n,n=n2+(R).size:=⟨_,rfl⟩;obtain⟨mI,au⟩:∃x,x=mH++(R).post n2:=⟨_,rfl⟩;rw[iE.out,←eo,←au]at q3;have nI:Hid (mI.length=n3):=Zrr (by rw[au,ZbN,iE.out,eo]);have hle3:n3≤n2+(R).size∧n2+(R).size≤n3:=by omega
 have hnb3:n3≤255∧0<n3:=by omega
 obtain⟨z3,iR⟩:∃z:Int,z=((n3 - 1:Nat):Int):=⟨_,rfl⟩;have jR:IntKind.i64.wrap ((n3:Int) - 1)=z3:=by rw[IntWalk.i64_in _ (by omega),iR];omega
 replace eo:=Zrr eo;replace au:=Zrr au;replace iR:=Zrr iR;go_wp2_with fail;refine q3.mono ?_;rintro e wy ⟨g3,c3,rfl,cX,eI,fL⟩;have cj:=Zrr (eQ.out.trans fL);clear q3;replace cX:=Zrr cX;replace eI:=Zrr eI;clear fL;have ha4:=(ZrE wy.heap.size wy).alloc (ZrQ _) (.cells #[.int .i64 z2,.int .i64 z3,.int .i64 0] 78);have hB4a:=Zrr (eI.out.trans (ha4.mono eI.out.size));have pO:=cX.out.alloc (.cells #[.int .i64 z2,.int .i64 z3,.int .i64 0] 78);have zi:=Zrr pO;rw[nI.out]at pO;have zU:∀u∈[Value.int .i64 z2,.int .i64 z3,.int .i64 0],u.oneCell'=true:=by simp[Value.oneCell']
 have uo:=World.news_of_block (cs:=#[.int .i64 z2,.int .i64 z3,.int .i64 0]) (t:=78) (fr:=(0,0)) (Zrz wy (.cells #[.int .i64 z2,.int .i64 z3,.int .i64 0] 78));have mB:=eI.out.size;have mx:=Zrr (cj.out.trans (ZaJ.below _ ha4));obtain⟨n4,cJ⟩:∃n,n=n3+1:=⟨_,rfl⟩;have hle4:n4≤n3+1∧n3+1≤n4:=by omega
 have hnb4:n4≤255∧0<n4:=by omega
 obtain⟨z4,ru⟩:∃z:Int,z=((n4 - 1:Nat):Int):=⟨_,rfl⟩;have mE:IntKind.i64.wrap ((n4:Int) - 1)=z4:=by rw[IntWalk.i64_in _ (by omega),ru];omega
 obtain⟨mJ,an⟩:∃x,x=mI++[(⟨z2,z3,0⟩:VN)]:=⟨_,rfl⟩;have mY:Hid (mJ.length=n4):=Zrr (by rw[an,ZrB,nI.out,cJ];rfl);replace cJ:=Zrr cJ;replace an:=Zrr an;replace ru:=Zrr ru
 go_wp2_with (at_builtin;first
  | (refine wpList_append_lies _ rfl _ _ 23 rfl w0.heap.size 78 iv _ 3 24 Tryz.underlying23 dN cP cI dM rfl (by decide) _ n3 (Zal mI) rfl pO ⟨wy.heap.size,0,none⟩ 1 1 [.int .i64 z2,.int .i64 z3,.int .i64 0] rfl rfl uo zU (by omega) (by unfold maxLen;omega) (by omega) (by simp <;> omega) _ rfl ?_;intro g4 c4 sB bh cm bQ _;rw[←nI.out]at bh;have aP:=ZcP (x:=⟨z2,z3,0⟩) hB4a.out zi.out bh cm bQ;rw[←an.out,nI.out,←cJ.out]at aP;rw[←cJ.out];have fC:=Zrr aP.1;have gY:=Zrr aP.2.1;have hS4':=aP.2.2;have kK:=Zrr (mx.out.trans hS4');clear bh cm bQ aP
     have yG:=(ZrE sB.heap.size sB).alloc (ZrQ _) (.cells #[.int .i64 z1,.int .i64 z4,.int .i64 0] 78);have ta:=Zrr (fC.out.trans (yG.mono fC.out.size));have im:=gY.out.alloc (.cells #[.int .i64 z1,.int .i64 z4,.int .i64 0] 78);have pP:=Zrr im;rw[mY.out]at im;have pC:∀u∈[Value.int .i64 z1,.int .i64 z4,.int .i64 0],u.oneCell'=true:=by simp[Value.oneCell']
     have lq:=World.news_of_block (cs:=#[.int .i64 z1,.int .i64 z4,.int .i64 0]) (t:=78) (fr:=(0,0)) (Zrz sB (.cells #[.int .i64 z1,.int .i64 z4,.int .i64 0] 78));have mC:=fC.out.size;have kL:=Zrr (kK.out.trans (ZaJ.below _ yG));obtain⟨n5,iF⟩:∃n,n=n4+1:=⟨_,rfl⟩;have hle5:n5≤n4+1∧n4+1≤n5:=by omega
     have hnb5:n5≤255∧0<n5:=by omega
     obtain⟨z5,vR⟩:∃z:Int,z=((n5 - 1:Nat):Int):=⟨_,rfl⟩;have rk:IntKind.i64.wrap ((n5:Int) - 1)=z5:=by rw[IntWalk.i64_in _ (by omega),vR];omega
     obtain⟨jA,eG⟩:∃x,x=mJ++[(⟨z1,z4,0⟩:VN)]:=⟨_,rfl⟩;have wQ:Hid (jA.length=n5):=Zrr (by rw[eG,ZrB,mY.out,iF];rfl);replace iF:=Zrr iF;replace eG:=Zrr eG;replace vR:=Zrr vR)
  | (refine wpList_append_lies _ rfl _ _ 23 rfl w0.heap.size 78 iv _ 3 24 Tryz.underlying23 dN cP cI dM rfl (by decide) _ n4 (Zal mJ) rfl im ⟨sB.heap.size,0,none⟩ 1 1 [.int .i64 z1,.int .i64 z4,.int .i64 0] rfl rfl lq pC (by omega) (by unfold maxLen;omega) (by omega) (by simp <;> omega) _ rfl ?_;intro g5 c5 ww5 bh cm bQ _;rw[←mY.out]at bh;have aP:=ZcP (x:=⟨z1,z4,0⟩) ta.out pP.out bh cm bQ;rw[←eG.out,mY.out,←iF.out]at aP;rw[←iF.out];have kC:=Zrr aP.1;have gZ:=Zrr aP.2.1;have to:=aP.2.2;have tu:=Zrr (kL.out.trans to);clear bh cm bQ aP))
 go_ret;have a0:=nM.out;have a1:=ll.out;have a2:=kl.out;have a3:=eo.out;have a4:=cJ.out;have a5:=iF.out;have b0:=ox.out;have b1:=dX.out;have b2:=aV.out;have b3:=au.out;have b4:=an.out;have b5:=eG.out;have d1:=aj.out;have d2:=av.out;have d3:=iR.out;have d4:=ru.out;have ft:out.length+(L.Tr.size (L.Tr.node P (L.Tr.node Q R)))=n5:=by simp only[L.Tr.size];omega
 have dD:out++L.Tr.post (L.Tr.node P (L.Tr.node Q R)) out.length=jA:=by
  rw[b5,b4,b3,b2,b1,b0,d1,d2,d3,d4];simp only[L.Tr.post,L.Tr.size,List.append_assoc,List.cons_append,List.nil_append];rw[a4,a3,a2,a1,a0];rw[show out.length+P.size+(Q.size+R.size+1) - 1=out.length+P.size+Q.size+R.size+1 - 1 by omega]
 unfold Zfb;rw[ft,dD];have r5:=gZ.out;exact⟨g5,c5,rfl,by rw[wQ.out]at r5 ⊢;exact r5,kC.out,tu.out⟩
theorem Zpq{w0:World}{t:List VN}{b o c i a b' pl pr:Nat}{y z:VN}{P Q R:L.Tr}(ht:Zag w0 b o t)(h1:t[i]? =some y)(h2:Zai y=false)(h3:y.left=a)(h4:y.right=b')(hz:t[b']? =some z)(dC:z.left=pl)(iz:z.right=pr)(hP:L.IsT L.idc t a P)(hQ:L.IsT L.idc t pl Q)(xj:L.IsT L.idc t pr R):ZcZ w0 t b o c i 2 i (.node (.node P Q) R):=by
 intro out v wr hB hR ac;obtain⟨hi,hy⟩:=Zrw h1;obtain⟨n0,n1,n2⟩:=(ht.below hB).node hi;rw[hy]at n0 n1 n2;obtain⟨iv,dN,cP,cI,dM⟩:=info_parts Zcn;obtain⟨yl,yr,yv⟩:=y;simp only at n0 n1 n2 h3 h4;subst h3 h4;have hPp:=P.pos;have hQp:=Q.pos;have hRp:=R.pos;have iH:out.length+(P.size+Q.size+R.size+2)≤255:=by simp only[L.Tr.size]at ac;omega
 have dne:((i:Int) ==(i:Int))=true:=by simp
 have lP:=fun out v wr hB hR hs=>Zd7 (c:=c) ht P a out v wr hP hB hR hs
 have lQ:=fun out v wr hB hR hs=>Zd7 (c:=c) ht Q pl out v wr hQ hB hR hs
 have lR:=fun out v wr hB hR hs=>Zd7 (c:=c) ht R pr out v wr xj hB hR hs
 obtain⟨hzi,vV⟩:=Zrw hz;have mz:=fun W (hW:Below w0.heap.size w0 W)=>(ht.below hW).node hzi
 rw[vV]at mz;obtain⟨zl',zr',sH⟩:=z;simp only at mz dC iz;subst dC iz;have lh:(0:Int)≤(b':Nat):=by omega
 have li:((b':Nat):Int)<t.length:=by omega
 have aF:=(ZrE wr.heap.size wr).alloc (ZrQ _) (.cells #[.int .i64 (a:Nat),.int .i64 (b':Nat),.int .i64 yv] 78);have aC:=Zrz wr (.cells #[.int .i64 (a:Nat),.int .i64 (b':Nat),.int .i64 yv] 78);have ew:(0:Int)≤i:=by omega
 have jx:(i:Int)<t.length:=by omega
 have aI:=fun W=>Za7 ⟨(a:Nat),(b':Nat),yv⟩ W
 rw[h2]at aI;have ax:=Zrr (hB.trans (aF.mono hB.size));have aQ:=Zrr (hR.alloc (.cells #[.int .i64 (a:Nat),.int .i64 (b':Nat),.int .i64 yv] 78));have gI:v.ownBlock≠some wr.heap.size:=fun e=>by have:=(Zap hR e).1;omega
 obtain⟨k0,k1,k2⟩:=Za5 aC;have dh:=Zrr (ZaJ.below v aF);clear aF;replace aC:=Zrr aC;replace hR:=Zrr hR;replace gI:=Zrr gI;replace hy:=Zrr hy;clear h1 h2;replace hz:=Zrr hz;replace vV:=Zrr vV;replace mz:=Zrr mz;replace lP:=Zrr lP;replace lQ:=Zrr lQ;replace lR:=Zrr lR;clear hP hQ xj
 go_enter Tryz.func131,Tryz.ntmps131
 go_wp2_with fail;generalize eJ:wr.alloc (.cells #[.int .i64 (a:Nat),.int .i64 (b':Nat),.int .i64 yv] 78)=w1 at *;clear eJ;generalize wr.heap.size=p at *;refine(aI _).mono ?_;rintro e w2 ⟨rfl,aO⟩;clear aI n0 n1 n2;have aS:=aO.below;have ay:=ax.out.trans (aS.mono ax.out.size);have bA:=Zaa aQ.out (fun _ hg=>aS.block _ (Zap aQ.out hg).1);have rx:=aO.cell k0;have dS:=aO.cell k1;have eD:=aO.cell k2;have ae:=(aS.block p (Zrv aC.out).1).trans aC.out;have eQ:=Zrr (dh.out.trans (ZaJ.below v aS));clear k0 k1 k2 ax aQ aC;have eU:=(ZrE w2.heap.size w2).alloc (ZrQ _) (.cells #[.int .i64 (pl:Nat),.int .i64 (pr:Nat),.int .i64 sH] 78);have uO:=Zrz w2 (.cells #[.int .i64 (pl:Nat),.int .i64 (pr:Nat),.int .i64 sH] 78);have sC:=Zrr ((eU.block p (Zrv ae).1).trans ae);have sD:=Zrr uO;have yv0:Hid (v.ownBlock≠some w2.heap.size):=Zrr (fun e=>by have:=(Zap bA e).1;omega);have xv0:=gI;obtain⟨m0,m1,m2⟩:=mz.out w2 ay;have n8:=Zrr (ay.trans (eU.mono ay.size));have xg:=Zrr (bA.alloc (.cells #[.int .i64 (pl:Nat),.int .i64 (pr:Nat),.int .i64 sH] 78));have kJ:=Zrr (eQ.out.trans (ZaJ.below v eU));obtain⟨mF,ox⟩:∃x,x=out:=⟨_,rfl⟩;obtain⟨n0,nM⟩:∃n,n=out.length:=⟨_,rfl⟩;have eM:Hid (mF.length=n0):=Zrr (by rw[ox,nM]);rw[←ox]at xg;rw[←nM]at iH;replace ox:=Zrr ox;replace nM:=Zrr nM;obtain⟨vg,vh,_⟩:=Za5 sC.out;obtain⟨sF,sG,_⟩:=Za5 sD.out;clear aS ay bA eU ac dh eQ gI ae;have dh:=kJ;clear kJ;go_wp2_with fail;generalize hWx:w2.alloc (.cells #[.int .i64 (pl:Nat),.int .i64 (pr:Nat),.int .i64 sH] 78)=ww0 at *;clear hWx m0 m1 m2 uO;generalize w2.heap.size=p2 at *;have q1:=lP.out mF v ww0 n8.out xg.out (by rw[eM.out];omega);obtain⟨n1,ll⟩:∃n,n=n0+(P).size:=⟨_,rfl⟩;obtain⟨mG,dX⟩:∃x,x=mF++(P).post n0:=⟨_,rfl⟩;rw[eM.out,←ll,←dX]at q1;have fN:Hid (mG.length=n1):=Zrr (by rw[dX,ZbN,eM.out,ll]);have ey:n1≤n0+(P).size∧n0+(P).size≤n1:=by omega
 have hnb1:n1≤255∧0<n1:=by omega
 obtain⟨z1,aj⟩:∃z:Int,z=((n1 - 1:Nat):Int):=⟨_,rfl⟩;have fX:IntKind.i64.wrap ((n1:Int) - 1)=z1:=by rw[IntWalk.i64_in _ (by omega),aj];omega
 replace ll:=Zrr ll;replace dX:=Zrr dX;replace aj:=Zrr aj;go_wp2_with fail;refine q1.mono ?_;rintro e ww1 ⟨g1,c1,rfl,aQ,ax,cC⟩;have tt:=Zrr (dh.out.trans cC);clear q1;clear vg vh;have xA:=Zrr ((cC.block p (Zrv sC.out).1 xv0.out).trans sC.out)
 have xv1:Hid ((Value.slice (some ⟨g1,0,none⟩) n1 c1).ownBlock≠some p):=Zrr (fun e=>by
  rcases cC.row p e with e'|e'
  ·exact xv0.out e'
  ·have:=(Zrv sC.out).1;omega)
 obtain⟨vg,vh,_⟩:=Za5 xA.out;clear sF sG;have xB:=Zrr ((cC.block p2 (Zrv sD.out).1 yv0.out).trans sD.out)
 have yv1:Hid ((Value.slice (some ⟨g1,0,none⟩) n1 c1).ownBlock≠some p2):=Zrr (fun e=>by
  rcases cC.row p2 e with e'|e'
  ·exact yv0.out e'
  ·have:=(Zrv sD.out).1;omega)
 obtain⟨sF,sG,_⟩:=Za5 xB.out;replace aQ:=Zrr aQ;replace ax:=Zrr ax;clear cC;have q2:=lQ.out mG (.slice (some ⟨g1,0,none⟩) n1 c1) ww1 ax.out aQ.out (by rw[fN.out];omega);obtain⟨n2,kl⟩:∃n,n=n1+(Q).size:=⟨_,rfl⟩;obtain⟨mH,aV⟩:∃x,x=mG++(Q).post n1:=⟨_,rfl⟩;rw[fN.out,←kl,←aV]at q2;have iE:Hid (mH.length=n2):=Zrr (by rw[aV,ZbN,fN.out,kl]);have ug:n2≤n1+(Q).size∧n1+(Q).size≤n2:=by omega
 have om:n2≤255∧0<n2:=by omega
 obtain⟨z2,av⟩:∃z:Int,z=((n2 - 1:Nat):Int):=⟨_,rfl⟩;have bS:IntKind.i64.wrap ((n2:Int) - 1)=z2:=by rw[IntWalk.i64_in _ (by omega),av];omega
 replace kl:=Zrr kl;replace aV:=Zrr aV;replace av:=Zrr av;go_wp2_with fail;refine q2.mono ?_;rintro e wx ⟨g2,c2,rfl,bA,ay,bB⟩;have eQ:=Zrr (tt.out.trans bB);clear q2;clear sF sG;have yb2:=Zrr ((bB.block p2 (Zrv xB.out).1 yv1.out).trans xB.out)
 have yv2:Hid ((Value.slice (some ⟨g2,0,none⟩) n2 c2).ownBlock≠some p2):=Zrr (fun e=>by
  rcases bB.row p2 e with e'|e'
  ·exact yv1.out e'
  ·have:=(Zrv xB.out).1;omega)
 obtain⟨sF,sG,_⟩:=Za5 yb2.out;replace bA:=Zrr bA;replace ay:=Zrr ay;clear bB;have ha3:=(ZrE wx.heap.size wx).alloc (ZrQ _) (.cells #[.int .i64 z1,.int .i64 z2,.int .i64 0] 78);have hB3a:=Zrr (ay.out.trans (ha3.mono ay.out.size));have pN:=bA.out.alloc (.cells #[.int .i64 z1,.int .i64 z2,.int .i64 0] 78);have zh:=Zrr pN;rw[iE.out]at pN;have zT:∀u∈[Value.int .i64 z1,.int .i64 z2,.int .i64 0],u.oneCell'=true:=by simp[Value.oneCell']
 have un:=World.news_of_block (cs:=#[.int .i64 z1,.int .i64 z2,.int .i64 0]) (t:=78) (fr:=(0,0)) (Zrz wx (.cells #[.int .i64 z1,.int .i64 z2,.int .i64 0] 78));have iu:=ay.out.size;have xw:=Zrr (eQ.out.trans (ZaJ.below _ ha3));obtain⟨n3,eo⟩:∃n,n=n2+1:=⟨_,rfl⟩;have hle3:n3≤n2+1∧n2+1≤n3:=by omega
 have hnb3:n3≤255∧0<n3:=by omega
 obtain⟨z3,iR⟩:∃z:Int,z=((n3 - 1:Nat):Int):=⟨_,rfl⟩;have jR:IntKind.i64.wrap ((n3:Int) - 1)=z3:=by rw[IntWalk.i64_in _ (by omega),iR];omega
 obtain⟨mI,au⟩:∃x,x=mH++[(⟨z1,z2,0⟩:VN)]:=⟨_,rfl⟩;have nI:Hid (mI.length=n3):=Zrr (by rw[au,ZrB,iE.out,eo];rfl);replace eo:=Zrr eo;replace au:=Zrr au;replace iR:=Zrr iR
 go_wp2_with (at_builtin;first
  | (refine wpList_append_lies _ rfl _ _ 23 rfl w0.heap.size 78 iv _ 3 24 Tryz.underlying23 dN cP cI dM rfl (by decide) _ n2 (Zal mH) rfl pN ⟨wx.heap.size,0,none⟩ 1 1 [.int .i64 z1,.int .i64 z2,.int .i64 0] rfl rfl un zT (by omega) (by unfold maxLen;omega) (by omega) (by simp <;> omega) _ rfl ?_;intro g3 c3 wy bh cm bQ _;rw[←iE.out]at bh;have aP:=ZcP (x:=⟨z1,z2,0⟩) hB3a.out zh.out bh cm bQ;rw[←au.out,iE.out,←eo.out]at aP;rw[←eo.out];have eI:=Zrr aP.1;have cX:=Zrr aP.2.1;have xm:=aP.2.2;have cj:=Zrr (xw.out.trans xm);clear bh cm bQ aP
     have fL:=(ZaJ.below (.slice (some ⟨g2,0,none⟩) n2 c2) ha3).trans xm;clear sF sG;have yb3:=Zrr ((fL.block p2 (Zrv yb2.out).1 yv2.out).trans yb2.out)
     have yv3:Hid ((Value.slice (some ⟨g3,0,none⟩) n3 c3).ownBlock≠some p2):=Zrr (fun e=>by
      rcases fL.row p2 e with e'|e'
      ·exact yv2.out e'
      ·have:=(Zrv yb2.out).1;omega)
     obtain⟨sF,sG,_⟩:=Za5 yb3.out))
 have q4:=lR.out mI (.slice (some ⟨g3,0,none⟩) n3 c3) wy eI.out cX.out (by rw[nI.out];omega);obtain⟨n4,cJ⟩:∃n,n=n3+(R).size:=⟨_,rfl⟩;obtain⟨mJ,an⟩:∃x,x=mI++(R).post n3:=⟨_,rfl⟩;rw[nI.out,←cJ,←an]at q4;have mY:Hid (mJ.length=n4):=Zrr (by rw[an,ZbN,nI.out,cJ]);have hle4:n4≤n3+(R).size∧n3+(R).size≤n4:=by omega
 have hnb4:n4≤255∧0<n4:=by omega
 obtain⟨z4,ru⟩:∃z:Int,z=((n4 - 1:Nat):Int):=⟨_,rfl⟩;have mE:IntKind.i64.wrap ((n4:Int) - 1)=z4:=by rw[IntWalk.i64_in _ (by omega),ru];omega
 replace cJ:=Zrr cJ;replace an:=Zrr an;replace ru:=Zrr ru;go_wp2_with fail;refine q4.mono ?_;rintro e sB ⟨g4,c4,rfl,gY,fC,dK⟩;have kK:=Zrr (cj.out.trans dK);clear q4;replace gY:=Zrr gY;replace fC:=Zrr fC;clear dK;have yG:=(ZrE sB.heap.size sB).alloc (ZrQ _) (.cells #[.int .i64 z3,.int .i64 z4,.int .i64 0] 78);have ta:=Zrr (fC.out.trans (yG.mono fC.out.size));have im:=gY.out.alloc (.cells #[.int .i64 z3,.int .i64 z4,.int .i64 0] 78);have pP:=Zrr im;rw[mY.out]at im;have pC:∀u∈[Value.int .i64 z3,.int .i64 z4,.int .i64 0],u.oneCell'=true:=by simp[Value.oneCell']
 have lq:=World.news_of_block (cs:=#[.int .i64 z3,.int .i64 z4,.int .i64 0]) (t:=78) (fr:=(0,0)) (Zrz sB (.cells #[.int .i64 z3,.int .i64 z4,.int .i64 0] 78));have mC:=fC.out.size;have kL:=Zrr (kK.out.trans (ZaJ.below _ yG));obtain⟨n5,iF⟩:∃n,n=n4+1:=⟨_,rfl⟩;have hle5:n5≤n4+1∧n4+1≤n5:=by omega
 have hnb5:n5≤255∧0<n5:=by omega
 obtain⟨z5,vR⟩:∃z:Int,z=((n5 - 1:Nat):Int):=⟨_,rfl⟩;have rk:IntKind.i64.wrap ((n5:Int) - 1)=z5:=by rw[IntWalk.i64_in _ (by omega),vR];omega
 obtain⟨jA,eG⟩:∃x,x=mJ++[(⟨z3,z4,0⟩:VN)]:=⟨_,rfl⟩;have wQ:Hid (jA.length=n5):=Zrr (by rw[eG,ZrB,mY.out,iF];rfl);replace iF:=Zrr iF;replace eG:=Zrr eG;replace vR:=Zrr vR
 go_wp2_with (at_builtin;(refine wpList_append_lies _ rfl _ _ 23 rfl w0.heap.size 78 iv _ 3 24 Tryz.underlying23 dN cP cI dM rfl (by decide) _ n4 (Zal mJ) rfl im ⟨sB.heap.size,0,none⟩ 1 1 [.int .i64 z3,.int .i64 z4,.int .i64 0] rfl rfl lq pC (by omega) (by unfold maxLen;omega) (by omega) (by simp <;> omega) _ rfl ?_;intro g5 c5 ww5 bh cm bQ _;rw[←mY.out]at bh;have aP:=ZcP (x:=⟨z3,z4,0⟩) ta.out pP.out bh cm bQ;rw[←eG.out,mY.out,←iF.out]at aP;rw[←iF.out];have kC:=Zrr aP.1;have gZ:=Zrr aP.2.1;have to:=aP.2.2;have tu:=Zrr (kL.out.trans to);clear bh cm bQ aP))
 go_ret;have a0:=nM.out;have a1:=ll.out;have a2:=kl.out;have a3:=eo.out;have a4:=cJ.out;have a5:=iF.out;have b0:=ox.out;have b1:=dX.out;have b2:=aV.out;have b3:=au.out;have b4:=an.out;have b5:=eG.out;have d1:=aj.out;have d2:=av.out;have d3:=iR.out;have d4:=ru.out;have ft:out.length+(L.Tr.size (L.Tr.node (L.Tr.node P Q) R))=n5:=by simp only[L.Tr.size];omega
 have dD:out++L.Tr.post (L.Tr.node (L.Tr.node P Q) R) out.length=jA:=by
  rw[b5,b4,b3,b2,b1,b0,d1,d2,d3,d4];simp only[L.Tr.post,L.Tr.size,List.append_assoc,List.cons_append,List.nil_append];rw[a4,a3,a2,a1,a0];rw[show out.length+(P.size+Q.size+1)=out.length+P.size+Q.size+1 by omega]
 unfold Zfb;rw[ft,dD];have r5:=gZ.out;exact⟨g5,c5,rfl,by rw[wQ.out]at r5 ⊢;exact r5,kC.out,tu.out⟩
end Go.Proofs.YtemnmcfmabamcaaGreatDoor
