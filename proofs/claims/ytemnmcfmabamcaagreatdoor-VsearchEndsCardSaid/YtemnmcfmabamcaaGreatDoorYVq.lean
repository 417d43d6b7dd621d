import Derived.Test.YtemnmcfmabamcaaGreatDoorYVs6
set_option linter.unusedSimpArgs false
set_option linter.unusedVariables false
set_option maxRecDepth 100000
set_option maxHeartbeats 4000000
namespace Go.Proofs.YtemnmcfmabamcaaGreatDoor
open Go Go.RowKit Go.Shelf
theorem Zqt(X:ByteArray):(X ==X)=true:=by
 obtain⟨d⟩:=X
 show (d ==d)=true
 exact beq_self_eq_true d
theorem Zqu(X:ByteArray):(X !=X)=false:=by rw[bne,Zqt];rfl
structure PaI (w:World) (S:ByteArray) (bs:List UInt8) (fin:L.PSt) (pos:Nat) (st:L.PSt) (vt vo:Value) (wr:World):Prop where
 bel:Below w.heap.size w wr
 it:wr.heap[w.heap.size]? =some (.stringIter S pos)
 rt:wr.ownsRow (w.heap.size+1) 78 3 vt st.t.length (Zal st.t)
 ro:wr.ownsRow (w.heap.size+1) 3 1 vo st.op.length (st.op.map ZbP)
 run:L.pRun (bs.drop pos) st=some fin
 le:pos≤bs.length
 small:st.t.length≤pos∧st.op.length≤pos∧st.nu<10000
section
variable {w:World}{S:ByteArray}{bs:List UInt8}{fin:L.PSt}{pos:Nat}{st:L.PSt}{vt vo:Value}{wr:World}
theorem PaI.iter(h:PaI w S bs fin pos st vt vo wr)(hp:pos<bs.length):Below w.heap.size w (wr.iterAt w.heap.size S (pos+1))∧(wr.iterAt w.heap.size S (pos+1)).heap[w.heap.size]? =some (.stringIter S (pos+1)) ∧
  (wr.iterAt w.heap.size S (pos+1)).ownsRow (w.heap.size+1) 78 3 vt st.t.length (Zal st.t)∧(wr.iterAt w.heap.size S (pos+1)).ownsRow (w.heap.size+1) 3 1 vo st.op.length (st.op.map ZbP):=by
 refine⟨Lib.below_iterAt h.bel (ZrQ _) S (pos+1),Lib.iterAt_heap wr _ S pos (pos+1) h.it,Zaa h.rt (fun k hk=>Lib.iterAt_other wr _ k S _ ?_),Zaa h.ro (fun k hk=>Lib.iterAt_other wr _ k S _ ?_)⟩
 ·have:=Zay h.rt hk;omega
 ·have:=Zay h.ro hk;omega
end
theorem Zmu{w:World}{N n g cap:Nat}{e:TypeId}{xs:List Value}(h:w.ownsRow N e 1 (.slice (some ⟨g,0,none⟩) n cap) n xs){j:Nat}{u:Value}(hj:xs[j]? =some u):w.cell? ⟨g,j,none⟩=some u:=by
 have:=h.cells (g:=g) rfl j u hj
 rwa [Addr.add_lit,Nat.zero_add]at this
theorem ZaT{w:World}{N sz n:Nat}{e:TypeId}{v:Value}{xs:List Value}(h:w.ownsRow N e sz v n xs):(v= .slice none 0 0∧n=0)∨∃g cp,v= .slice (some ⟨g,0,none⟩) n cp:=by
 obtain⟨_,⟨h1,h0⟩|⟨g,cap,cur,h2,_⟩⟩:=h
 ·exact .inl ⟨h1,h0⟩
 ·exact .inr ⟨g,cap,h2⟩
theorem ZaM{w W1 W2:World}{S:ByteArray}{pos n m szx szr:Nat}{e e':TypeId}{v u:Value}{xs ys:List Value}(ob:Obj)(hb:Below w.heap.size w W1)(rB:W1.heap[w.heap.size]? =some (.stringIter S pos))(hx:W1.ownsRow (w.heap.size+1) e szx v n xs)(hr:W1.ownsRow (w.heap.size+1) e' szr u m ys)(aJ:e≠e')
  (hg:(W1.alloc ob).grownBy W2 u.ownBlock):Below w.heap.size w W2∧W2.heap[w.heap.size]? =some (.stringIter S pos)∧W2.ownsRow (w.heap.size+1) e szx v n xs:=by
 have lV:∀k,k<W1.heap.size→(W1.alloc ob).heap[k]? =W1.heap[k]?:=fun k hk=>Lib.alloc_old W1 ob k hk
 have aD:=(Zrv rB).1;have uz:(W1.alloc ob).heap.size=W1.heap.size+1:=by simp
 have aM:∀k,k<W1.heap.size→some k≠u.ownBlock→W2.heap[k]? =W1.heap[k]?:=fun k hk hn=>(hg.block k (by omega) hn).trans (lV k hk)
 refine⟨Below.grown (hb.alloc (by omega) ob) hg (by omega) (fun k hk=>?_),(aM _ aD fun hk=>?_).trans rB,Zaa hx fun k hk=>aM k (Zap hx hk).1 fun bW=>?_⟩
 ·have:=Zay hr hk;omega
 ·have:=Zay hr hk.symm;omega
 ·obtain⟨_,c1,h1⟩:=Zap hx hk
  obtain⟨_,c2,h2⟩:=Zap hr bW.symm;rw[h1]at h2;simp at h2;exact aJ h2.2
theorem ZoV{w W1 W2:World}{S:ByteArray}{pos n szx:Nat}{e:TypeId}{v:Value}{xs:List Value}(ob:Obj)(hb:Below w.heap.size w W1)(rB:W1.heap[w.heap.size]? =some (.stringIter S pos))(hx:W1.ownsRow (w.heap.size+1) e szx v n xs)
  (hg:(W1.alloc ob).grownBy W2 none):Below w.heap.size w W2∧W2.heap[w.heap.size]? =some (.stringIter S pos)∧W2.ownsRow (w.heap.size+1) e szx v n xs:=by
 have aD:=(Zrv rB).1;have uz:(W1.alloc ob).heap.size=W1.heap.size+1:=by simp
 have aM:∀k,k<W1.heap.size→W2.heap[k]? =W1.heap[k]?:=fun k hk=>(hg.block k (by omega) (by simp)).trans (Lib.alloc_old W1 ob k hk)
 exact⟨Below.grown (hb.alloc (by omega) ob) hg (by omega) (fun k hk=>by cases hk),(aM _ aD).trans rB,Zaa hx fun k hk=>aM k (Zap hx hk).1⟩
theorem ZpV{bs:List UInt8}{pos:Nat}{st fin:L.PSt}(hp:pos<bs.length)(h:L.pRun (bs.drop pos) st=some fin):∃st',L.pStep bs[pos] (bs.drop (pos+1)) st=some st'∧L.pRun (bs.drop (pos+1)) st'=some fin:=by
 rw[List.drop_eq_getElem_cons hp,L.pRun,Option.bind_eq_some_iff]at h;exact h
theorem ZkU{w:World}{bs:List UInt8}{S:ByteArray}{t:List VN}{T:L.Tr}(hS:S=⟨bs.toArray⟩)(oQ:∀c∈bs,c.toNat<128)(fk:bs.length≤1024)(bM:L.pRun bs ⟨[],[],0⟩=some ⟨t,[t.length - 1],0⟩)(hc:Zae t=0)(hT:L.IsT L.idc t (t.length - 1) T)(gq:L.prT T=bs)(hP:Zaz w) :
  Calls Tryz.prog 25 #[.string S] w fun e w'=>∃g cap,e= .returned (.tuple #[.slice (some ⟨g,0,none⟩) t.length cap,.int .i64 0])∧w.heap.size≤g∧Zag w' g 0 t∧Below w.heap.size w w':=by
 have ac:S.size=bs.length:=by rw[hS];simp[ByteArray.size]
 have fo:Hid (∀(i:Nat) (h:i<bs.length) (h':i<S.size),S[i]'h'=bs[i]):=Zrr (by subst hS;exact fun i h h'=>rfl);have hgt:decide ((S.size:Int) > 1024)=false:=ZrH (by omega);have hgt2:decide (1024<S.size)=false:=ZrH (by omega);have hgt3:S.size≤1024:=by omega
 have t0:=(Zam hc).1
 have hI0:Hid (PaI w S bs ⟨t,[t.length - 1],0⟩ 0 ⟨[],[],0⟩ (.slice none 0 0) (.slice none 0 0) (w.alloc (.stringIter S 0))):=Zrr {
  bel:=(ZrE _ _).alloc (ZrQ _) _
  it:=Zrz w _
  rt:=⟨rfl,.inl ⟨rfl,rfl⟩⟩
  ro:=⟨rfl,.inl ⟨rfl,rfl⟩⟩
  run:=by rw[List.drop_zero];exact bM
  le:=Nat.zero_le _
  small:=⟨ZrQ _,ZrQ _,by decide⟩ }
 replace hS:=Zrr hS;replace ac:=Zrr ac;obtain⟨i0,bz,bH,aj,av⟩:=info_parts Zdn;obtain⟨iv,dN,cP,cI,dM⟩:=info_parts Zcn
 go_enter Tryz.func25,Tryz.ntmps25
 go_wp2_with fail
 go_loopw [4,5,6] (fun vt vo nv wr=>∃(pos:Nat) (st:L.PSt),nv= .int .i64 (st.nu:Nat)∧Hid (PaI w S bs ⟨t,[t.length - 1],0⟩ pos st vt vo wr)) (fun _ _ _ wr=>S.size - wr.iterPos w.heap.size)
 case atStart=>exact⟨0,⟨[],[],0⟩,rfl,hI0⟩
 case round =>
  clear hI0;obtain⟨pos,st,rfl,hI⟩:=hrel
  by_cases hp:pos<bs.length
  ·have cH:pos<S.size:=by rw[ac.out];exact hp
   obtain⟨st',aM,cV⟩:=ZpV hp hI.out.run;have wF:=oQ _ (ZrM hp);have eN:=fun ty=>Lib.run_next_ascii_at (P:=Tryz.prog) wr w.heap.size S pos ty hI.out.it cH (by rw[fo.out pos hp cH];exact wF)
   rw[fo.out pos hp cH]at eN;have fw:=hI.out.small;have eW:=hI.out.it;obtain⟨k1,k2,k3,k4⟩:=hI.out.iter hp;have nU:=aM;unfold L.pStep at aM;generalize bs[pos]=c at *;generalize bE:bs.drop (pos+1)=rest at *
   by_cases hd:L.digB c=true∧st.nu<1000
   ·rw[if_pos hd]at aM
    obtain⟨ya,hnu⟩:=hd;unfold L.digB at ya;simp only[ZrK,ZrN]at ya;generalize c.toNat=n at *;have d1:decide ((n:Int)≥48)=true:=ZrI (by omega);have kw:decide (48≤n)=true:=ZrI (by omega);have d2:decide ((n:Int)≤57)=true:=ZrI (by omega);have oI:decide (n≤57)=true:=ZrI (by omega);have d3:decide ((st.nu:Int)<1000)=true:=ZrI (by omega);have mn:decide (st.nu<1000)=true:=ZrI (by omega);obtain⟨dd,hdd⟩:∃dd,dd=n - 48:=⟨_,rfl⟩;rw[←hdd]at aM;have e1:(n:Int) - 48=(dd:Int):=by omega
    have w1:IntKind.i32.wrap (dd:Int)=(dd:Int):=by unfold IntKind.wrap;simp[IntKind.bits,IntKind.signed];omega
    have w2:IntKind.i64.wrap (dd:Int)=(dd:Int):=IntWalk.i64_in _ (by omega);have w3:IntKind.i64.wrap (10*(st.nu:Int))=10*(st.nu:Int):=IntWalk.i64_in _ (by omega);obtain⟨m,hm⟩:∃m,m=10*st.nu+dd:=⟨_,rfl⟩;rw[←hm]at aM;have e2:10*(st.nu:Int)+(dd:Int)=(m:Int):=by omega
    have w4:IntKind.i64.wrap (m:Int)=(m:Int):=IntWalk.i64_in _ (by omega);have qA:m<10000:=by omega
    replace hm:=Zrr hm;replace hdd:=Zrr hdd;have w5:IntKind.i64.wrap ((pos:Int)+1)=(pos:Int)+1:=IntWalk.i64_in _ (by omega)
    by_cases aZ:pos+1=bs.length
    ·have ls:rest=[]:=by rw[←bE,aZ,List.drop_length]
     rw[ls]at aM cV;rw[if_pos (by rfl)]at aM;have hq:((pos:Int)+1 ==(S.size:Int))=true:=by rw[beq_iff_eq,ac.out];omega
     obtain rfl:=Option.some.inj aM;have cG:Hid (L.pRun (bs.drop (pos+1)) ⟨st.t++[⟨-1,-1,(m:Nat)⟩],st.op++[st.t.length],0⟩=some ⟨t,[t.length - 1],0⟩):=Zrr (by rw[bE,ls];exact cV);clear nU cV aM ls;have kZ:Hid True:=Zrr trivial;rcases ZaT k4 with ⟨rfl,iF⟩|⟨go,co,rfl⟩
     ·replace iF:=Zrr iF
      rcases ZaT k3 with ⟨rfl,cJ⟩|⟨gt,ct,rfl⟩
      ·replace cJ:=Zrr cJ
       have cY:st.t.length≤1024:=by omega
       generalize wr.iterAt w.heap.size S (pos+1)=W1 at *;have nc:w.heap.size+1≤W1.heap.size:=by have:=(Zrv k2).1;omega
       have dY:=k4.alloc (.cells #[.int .i64 0] 3);have dS:=Zrr k1;have eD:=Zrr k2;have gC:=Zrr k3;have gJ:=Zrr k4;clear k1 k2 k3 k4 hI
       go_wp2_with (at_builtin;(refine wpList_append_own _ rfl _ _ 76 rfl (w.heap.size+1) 3 i0 (.int .i64 0) 1 8 Tryz.underlying76 bz bH aj av rfl (by decide) _ _ _ rfl dY ⟨W1.heap.size,0,none⟩ 1 1 [.int .i64 0] rfl rfl (Zao _ _ _ _ rfl) (by simp[Value.oneCell']) (by unfold maxLen;omega) (by omega) (by simp;omega) ?_;intro v2 w2 aV cD _;obtain⟨g1,g2,g3⟩:=ZaM _ dS.out eD.out gC.out gJ.out (by decide) cD;replace aV:=Zrr aV;replace g1:=Zrr g1;replace g2:=Zrr g2;replace g3:=Zrr g3;clear cD dY))
       refine(ZaE _ _).mono ?_;rintro e w3 ⟨rfl,aR⟩;have h1:=g1.out.trans (aR.below.mono g1.out.size);have h2:w3.heap[w.heap.size]? =_:=(aR.below.block _ (Zrv g2.out).1).trans g2.out;have h3:=Zaa g3.out (fun k hk=>aR.below.block k (Zap g3.out hk).1);have h4:=Zaa aV.out (fun k hk=>aR.below.block k (Zap aV.out hk).1);have df:=h3.alloc (.cells #[.int .i64 (-1),.int .i64 (-1),.int .i64 (m:Nat)] 78);have aG:=World.news_of_block (cs:=#[.int .i64 (-1),.int .i64 (-1),.int .i64 (m:Nat)]) (t:=78) (fr:=(0,0)) (Zrz w3 (.cells #[.int .i64 (-1),.int .i64 (-1),.int .i64 (m:Nat)] 78));have aH:∀u∈[Value.int .i64 (-1),.int .i64 (-1),.int .i64 (m:Nat)],u.oneCell'=true:=by simp[Value.oneCell']
       have oN:w.heap.size+1≤w3.heap.size:=by have:=(Zrv h2).1;omega
       have dI:=Zrr h1;have dJ:=Zrr h2;have dt:=Zrr h3;have fB:=Zrr h4;clear h1 h2 h3 h4 g1 g2 g3 aV aR
       go_wp2_with (at_builtin;(refine wpList_append_own _ rfl _ _ 23 rfl (w.heap.size+1) 78 iv (.agg #[.int .i64 0,.int .i64 0,.int .i64 0]) 3 24 Tryz.underlying23 dN cP cI dM rfl (by decide) _ _ _ rfl df ⟨w3.heap.size,0,none⟩ 1 1 [.int .i64 (-1),.int .i64 (-1),.int .i64 (m:Nat)] rfl rfl aG aH (by unfold maxLen;omega) (by omega) (by simp;omega) ?_;intro v4 w4 an cB _;obtain⟨g1,g2,g3⟩:=ZaM _ dI.out dJ.out fB.out dt.out (by decide) cB;have aA:Hid (PaI w S bs ⟨t,[t.length - 1],0⟩ (pos+1) ⟨st.t++[⟨-1,-1,(m:Nat)⟩],st.op++[st.t.length],0⟩ v4 v2 w4):=Zrr ⟨g1,g2,Zak an (by simp) (by rw[Zat]),Zak g3 (by simp) (by simp[ZbP,cJ.out]),cG.out,hp,⟨by simp;omega,by simp;omega,show 0<10000 by decide⟩⟩))
       clear cB an g1 g2 g3 df aG aH;go_wp2_with fail;go_roundw
       case rel=>exact⟨pos+1,⟨st.t++[⟨-1,-1,(m:Nat)⟩],st.op++[st.t.length],0⟩,rfl,aA⟩
       case measure=>simp only[World.iterPos,aA.out.it,eW];omega
      ·skip
       have cY:st.t.length≤1024:=by omega
       generalize wr.iterAt w.heap.size S (pos+1)=W1 at *;have nc:w.heap.size+1≤W1.heap.size:=by have:=(Zrv k2).1;omega
       have dY:=k4.alloc (.cells #[.int .i64 (st.t.length:Nat)] 3);have dS:=Zrr k1;have eD:=Zrr k2;have gC:=Zrr k3;have gJ:=Zrr k4;clear k1 k2 k3 k4 hI
       go_wp2_with (at_builtin;(refine wpList_append_own _ rfl _ _ 76 rfl (w.heap.size+1) 3 i0 (.int .i64 0) 1 8 Tryz.underlying76 bz bH aj av rfl (by decide) _ _ _ rfl dY ⟨W1.heap.size,0,none⟩ 1 1 [.int .i64 (st.t.length:Nat)] rfl rfl (Zao _ _ _ _ rfl) (by simp[Value.oneCell']) (by unfold maxLen;omega) (by omega) (by simp;omega) ?_;intro v2 w2 aV cD _;obtain⟨g1,g2,g3⟩:=ZaM _ dS.out eD.out gC.out gJ.out (by decide) cD;replace aV:=Zrr aV;replace g1:=Zrr g1;replace g2:=Zrr g2;replace g3:=Zrr g3;clear cD dY))
       refine(ZaE _ _).mono ?_;rintro e w3 ⟨rfl,aR⟩;have h1:=g1.out.trans (aR.below.mono g1.out.size);have h2:w3.heap[w.heap.size]? =_:=(aR.below.block _ (Zrv g2.out).1).trans g2.out;have h3:=Zaa g3.out (fun k hk=>aR.below.block k (Zap g3.out hk).1);have h4:=Zaa aV.out (fun k hk=>aR.below.block k (Zap aV.out hk).1);have df:=h3.alloc (.cells #[.int .i64 (-1),.int .i64 (-1),.int .i64 (m:Nat)] 78);have aG:=World.news_of_block (cs:=#[.int .i64 (-1),.int .i64 (-1),.int .i64 (m:Nat)]) (t:=78) (fr:=(0,0)) (Zrz w3 (.cells #[.int .i64 (-1),.int .i64 (-1),.int .i64 (m:Nat)] 78));have aH:∀u∈[Value.int .i64 (-1),.int .i64 (-1),.int .i64 (m:Nat)],u.oneCell'=true:=by simp[Value.oneCell']
       have oN:w.heap.size+1≤w3.heap.size:=by have:=(Zrv h2).1;omega
       have dI:=Zrr h1;have dJ:=Zrr h2;have dt:=Zrr h3;have fB:=Zrr h4;clear h1 h2 h3 h4 g1 g2 g3 aV aR
       go_wp2_with (at_builtin;(refine wpList_append_own _ rfl _ _ 23 rfl (w.heap.size+1) 78 iv (.agg #[.int .i64 0,.int .i64 0,.int .i64 0]) 3 24 Tryz.underlying23 dN cP cI dM rfl (by decide) _ _ _ rfl df ⟨w3.heap.size,0,none⟩ 1 1 [.int .i64 (-1),.int .i64 (-1),.int .i64 (m:Nat)] rfl rfl aG aH (by unfold maxLen;omega) (by omega) (by simp;omega) ?_;intro v4 w4 an cB _;obtain⟨g1,g2,g3⟩:=ZaM _ dI.out dJ.out fB.out dt.out (by decide) cB;have aA:Hid (PaI w S bs ⟨t,[t.length - 1],0⟩ (pos+1) ⟨st.t++[⟨-1,-1,(m:Nat)⟩],st.op++[st.t.length],0⟩ v4 v2 w4):=Zrr ⟨g1,g2,Zak an (by simp) (by rw[Zat]),Zak g3 (by simp) (by simp[ZbP,kZ.out]),cG.out,hp,⟨by simp;omega,by simp;omega,show 0<10000 by decide⟩⟩))
       clear cB an g1 g2 g3 df aG aH;go_wp2_with fail;go_roundw
       case rel=>exact⟨pos+1,⟨st.t++[⟨-1,-1,(m:Nat)⟩],st.op++[st.t.length],0⟩,rfl,aA⟩
       case measure=>simp only[World.iterPos,aA.out.it,eW];omega
     ·rcases ZaT k3 with ⟨rfl,cJ⟩|⟨gt,ct,rfl⟩
      ·replace cJ:=Zrr cJ
       have cY:st.t.length≤1024:=by omega
       generalize wr.iterAt w.heap.size S (pos+1)=W1 at *;have nc:w.heap.size+1≤W1.heap.size:=by have:=(Zrv k2).1;omega
       have dY:=k4.alloc (.cells #[.int .i64 0] 3);have dS:=Zrr k1;have eD:=Zrr k2;have gC:=Zrr k3;have gJ:=Zrr k4;clear k1 k2 k3 k4 hI
       go_wp2_with (at_builtin;(refine wpList_append_own _ rfl _ _ 76 rfl (w.heap.size+1) 3 i0 (.int .i64 0) 1 8 Tryz.underlying76 bz bH aj av rfl (by decide) _ _ _ rfl dY ⟨W1.heap.size,0,none⟩ 1 1 [.int .i64 0] rfl rfl (Zao _ _ _ _ rfl) (by simp[Value.oneCell']) (by unfold maxLen;omega) (by omega) (by simp;omega) ?_;intro v2 w2 aV cD _;obtain⟨g1,g2,g3⟩:=ZaM _ dS.out eD.out gC.out gJ.out (by decide) cD;replace aV:=Zrr aV;replace g1:=Zrr g1;replace g2:=Zrr g2;replace g3:=Zrr g3;clear cD dY))
       refine(ZaE _ _).mono ?_;rintro e w3 ⟨rfl,aR⟩;have h1:=g1.out.trans (aR.below.mono g1.out.size);have h2:w3.heap[w.heap.size]? =_:=(aR.below.block _ (Zrv g2.out).1).trans g2.out;have h3:=Zaa g3.out (fun k hk=>aR.below.block k (Zap g3.out hk).1);have h4:=Zaa aV.out (fun k hk=>aR.below.block k (Zap aV.out hk).1);have df:=h3.alloc (.cells #[.int .i64 (-1),.int .i64 (-1),.int .i64 (m:Nat)] 78);have aG:=World.news_of_block (cs:=#[.int .i64 (-1),.int .i64 (-1),.int .i64 (m:Nat)]) (t:=78) (fr:=(0,0)) (Zrz w3 (.cells #[.int .i64 (-1),.int .i64 (-1),.int .i64 (m:Nat)] 78));have aH:∀u∈[Value.int .i64 (-1),.int .i64 (-1),.int .i64 (m:Nat)],u.oneCell'=true:=by simp[Value.oneCell']
       have oN:w.heap.size+1≤w3.heap.size:=by have:=(Zrv h2).1;omega
       have dI:=Zrr h1;have dJ:=Zrr h2;have dt:=Zrr h3;have fB:=Zrr h4;clear h1 h2 h3 h4 g1 g2 g3 aV aR
       go_wp2_with (at_builtin;(refine wpList_append_own _ rfl _ _ 23 rfl (w.heap.size+1) 78 iv (.agg #[.int .i64 0,.int .i64 0,.int .i64 0]) 3 24 Tryz.underlying23 dN cP cI dM rfl (by decide) _ _ _ rfl df ⟨w3.heap.size,0,none⟩ 1 1 [.int .i64 (-1),.int .i64 (-1),.int .i64 (m:Nat)] rfl rfl aG aH (by unfold maxLen;omega) (by omega) (by simp;omega) ?_;intro v4 w4 an cB _;obtain⟨g1,g2,g3⟩:=ZaM _ dI.out dJ.out fB.out dt.out (by decide) cB;have aA:Hid (PaI w S bs ⟨t,[t.length - 1],0⟩ (pos+1) ⟨st.t++[⟨-1,-1,(m:Nat)⟩],st.op++[st.t.length],0⟩ v4 v2 w4):=Zrr ⟨g1,g2,Zak an (by simp) (by rw[Zat]),Zak g3 (by simp) (by simp[ZbP,cJ.out]),cG.out,hp,⟨by simp;omega,by simp;omega,show 0<10000 by decide⟩⟩))
       clear cB an g1 g2 g3 df aG aH;go_wp2_with fail;go_roundw
       case rel=>exact⟨pos+1,⟨st.t++[⟨-1,-1,(m:Nat)⟩],st.op++[st.t.length],0⟩,rfl,aA⟩
       case measure=>simp only[World.iterPos,aA.out.it,eW];omega
      ·skip
       have cY:st.t.length≤1024:=by omega
       generalize wr.iterAt w.heap.size S (pos+1)=W1 at *;have nc:w.heap.size+1≤W1.heap.size:=by have:=(Zrv k2).1;omega
       have dY:=k4.alloc (.cells #[.int .i64 (st.t.length:Nat)] 3);have dS:=Zrr k1;have eD:=Zrr k2;have gC:=Zrr k3;have gJ:=Zrr k4;clear k1 k2 k3 k4 hI
       go_wp2_with (at_builtin;(refine wpList_append_own _ rfl _ _ 76 rfl (w.heap.size+1) 3 i0 (.int .i64 0) 1 8 Tryz.underlying76 bz bH aj av rfl (by decide) _ _ _ rfl dY ⟨W1.heap.size,0,none⟩ 1 1 [.int .i64 (st.t.length:Nat)] rfl rfl (Zao _ _ _ _ rfl) (by simp[Value.oneCell']) (by unfold maxLen;omega) (by omega) (by simp;omega) ?_;intro v2 w2 aV cD _;obtain⟨g1,g2,g3⟩:=ZaM _ dS.out eD.out gC.out gJ.out (by decide) cD;replace aV:=Zrr aV;replace g1:=Zrr g1;replace g2:=Zrr g2;replace g3:=Zrr g3;clear cD dY))
       refine(ZaE _ _).mono ?_;rintro e w3 ⟨rfl,aR⟩;have h1:=g1.out.trans (aR.below.mono g1.out.size);have h2:w3.heap[w.heap.size]? =_:=(aR.below.block _ (Zrv g2.out).1).trans g2.out;have h3:=Zaa g3.out (fun k hk=>aR.below.block k (Zap g3.out hk).1);have h4:=Zaa aV.out (fun k hk=>aR.below.block k (Zap aV.out hk).1);have df:=h3.alloc (.cells #[.int .i64 (-1),.int .i64 (-1),.int .i64 (m:Nat)] 78);have aG:=World.news_of_block (cs:=#[.int .i64 (-1),.int .i64 (-1),.int .i64 (m:Nat)]) (t:=78) (fr:=(0,0)) (Zrz w3 (.cells #[.int .i64 (-1),.int .i64 (-1),.int .i64 (m:Nat)] 78));have aH:∀u∈[Value.int .i64 (-1),.int .i64 (-1),.int .i64 (m:Nat)],u.oneCell'=true:=by simp[Value.oneCell']
       have oN:w.heap.size+1≤w3.heap.size:=by have:=(Zrv h2).1;omega
       have dI:=Zrr h1;have dJ:=Zrr h2;have dt:=Zrr h3;have fB:=Zrr h4;clear h1 h2 h3 h4 g1 g2 g3 aV aR
       go_wp2_with (at_builtin;(refine wpList_append_own _ rfl _ _ 23 rfl (w.heap.size+1) 78 iv (.agg #[.int .i64 0,.int .i64 0,.int .i64 0]) 3 24 Tryz.underlying23 dN cP cI dM rfl (by decide) _ _ _ rfl df ⟨w3.heap.size,0,none⟩ 1 1 [.int .i64 (-1),.int .i64 (-1),.int .i64 (m:Nat)] rfl rfl aG aH (by unfold maxLen;omega) (by omega) (by simp;omega) ?_;intro v4 w4 an cB _;obtain⟨g1,g2,g3⟩:=ZaM _ dI.out dJ.out fB.out dt.out (by decide) cB;have aA:Hid (PaI w S bs ⟨t,[t.length - 1],0⟩ (pos+1) ⟨st.t++[⟨-1,-1,(m:Nat)⟩],st.op++[st.t.length],0⟩ v4 v2 w4):=Zrr ⟨g1,g2,Zak an (by simp) (by rw[Zat]),Zak g3 (by simp) (by simp[ZbP,kZ.out]),cG.out,hp,⟨by simp;omega,by simp;omega,show 0<10000 by decide⟩⟩))
       clear cB an g1 g2 g3 df aG aH;go_wp2_with fail;go_roundw
       case rel=>exact⟨pos+1,⟨st.t++[⟨-1,-1,(m:Nat)⟩],st.op++[st.t.length],0⟩,rfl,aA⟩
       case measure=>simp only[World.iterPos,aA.out.it,eW];omega
    ·have gH:pos+1<bs.length:=by omega
     have hq:((pos:Int)+1 ==(S.size:Int))=false:=by rw[beq_eq_false_iff_ne,ac.out];omega
     have ls:rest=bs[pos+1] :: bs.drop (pos+1+1):=by rw[←bE,List.drop_eq_getElem_cons gH]
     have cD:=fo.out (pos+1) gH (by rw[ac.out];exact gH);rw[ls]at aM cV;generalize bs[pos+1]=c2 at *;generalize bs.drop (pos+1+1)=rest2 at *
     cases hdg:L.digB c2
     ·have hef:L.endB (c2 :: rest2)=true:=by simp[L.endB,hdg]
      rw[if_pos hef]at aM
      have cz:c2.toNat<48∨57<c2.toNat:=by
       unfold L.digB at hdg;simp only[Bool.and_eq_false_iff,decide_eq_false_iff_not]at hdg;omega
      have i0':(0:Int)≤(pos:Int)+1:=by omega
      have i1:(pos:Int)+1<(S.size:Int):=by rw[ac.out];omega
      have i2:pos+1<S.size:=by rw[ac.out];omega
      have zJ:(decide ((c2.toNat:Int)<48) || decide ((c2.toNat:Int) > 57))=true:=by
       rw[Bool.or_eq_true,decide_eq_true_iff,decide_eq_true_iff];omega
      by_cases h48:c2.toNat<48
      ·have f1:decide ((c2.toNat:Int)<48)=true:=ZrI (by omega)
       have f1':decide (c2.toNat<48)=true:=ZrI h48;clear zJ cz;obtain rfl:=Option.some.inj aM;have cG:Hid (L.pRun (bs.drop (pos+1)) ⟨st.t++[⟨-1,-1,(m:Nat)⟩],st.op++[st.t.length],0⟩=some ⟨t,[t.length - 1],0⟩):=Zrr (by rw[bE,ls];exact cV);clear nU cV aM ls;have kZ:Hid True:=Zrr trivial;rcases ZaT k4 with ⟨rfl,iF⟩|⟨go,co,rfl⟩
       ·replace iF:=Zrr iF
        rcases ZaT k3 with ⟨rfl,cJ⟩|⟨gt,ct,rfl⟩
        ·replace cJ:=Zrr cJ
         have cY:st.t.length≤1024:=by omega
         generalize wr.iterAt w.heap.size S (pos+1)=W1 at *;have nc:w.heap.size+1≤W1.heap.size:=by have:=(Zrv k2).1;omega
         have dY:=k4.alloc (.cells #[.int .i64 0] 3);have dS:=Zrr k1;have eD:=Zrr k2;have gC:=Zrr k3;have gJ:=Zrr k4;clear k1 k2 k3 k4 hI
         go_wp2_with (at_builtin;(refine wpList_append_own _ rfl _ _ 76 rfl (w.heap.size+1) 3 i0 (.int .i64 0) 1 8 Tryz.underlying76 bz bH aj av rfl (by decide) _ _ _ rfl dY ⟨W1.heap.size,0,none⟩ 1 1 [.int .i64 0] rfl rfl (Zao _ _ _ _ rfl) (by simp[Value.oneCell']) (by unfold maxLen;omega) (by omega) (by simp;omega) ?_;intro v2 w2 aV cD _;obtain⟨g1,g2,g3⟩:=ZaM _ dS.out eD.out gC.out gJ.out (by decide) cD;replace aV:=Zrr aV;replace g1:=Zrr g1;replace g2:=Zrr g2;replace g3:=Zrr g3;clear cD dY))
         refine(ZaE _ _).mono ?_;rintro e w3 ⟨rfl,aR⟩;have h1:=g1.out.trans (aR.below.mono g1.out.size);have h2:w3.heap[w.heap.size]? =_:=(aR.below.block _ (Zrv g2.out).1).trans g2.out;have h3:=Zaa g3.out (fun k hk=>aR.below.block k (Zap g3.out hk).1);have h4:=Zaa aV.out (fun k hk=>aR.below.block k (Zap aV.out hk).1);have df:=h3.alloc (.cells #[.int .i64 (-1),.int .i64 (-1),.int .i64 (m:Nat)] 78);have aG:=World.news_of_block (cs:=#[.int .i64 (-1),.int .i64 (-1),.int .i64 (m:Nat)]) (t:=78) (fr:=(0,0)) (Zrz w3 (.cells #[.int .i64 (-1),.int .i64 (-1),.int .i64 (m:Nat)] 78));have aH:∀u∈[Value.int .i64 (-1),.int .i64 (-1),.int .i64 (m:Nat)],u.oneCell'=true:=by simp[Value.oneCell']
         have oN:w.heap.size+1≤w3.heap.size:=by have:=(Zrv h2).1;omega
         have dI:=Zrr h1;have dJ:=Zrr h2;have dt:=Zrr h3;have fB:=Zrr h4;clear h1 h2 h3 h4 g1 g2 g3 aV aR
         go_wp2_with (at_builtin;(refine wpList_append_own _ rfl _ _ 23 rfl (w.heap.size+1) 78 iv (.agg #[.int .i64 0,.int .i64 0,.int .i64 0]) 3 24 Tryz.underlying23 dN cP cI dM rfl (by decide) _ _ _ rfl df ⟨w3.heap.size,0,none⟩ 1 1 [.int .i64 (-1),.int .i64 (-1),.int .i64 (m:Nat)] rfl rfl aG aH (by unfold maxLen;omega) (by omega) (by simp;omega) ?_;intro v4 w4 an cB _;obtain⟨g1,g2,g3⟩:=ZaM _ dI.out dJ.out fB.out dt.out (by decide) cB;have aA:Hid (PaI w S bs ⟨t,[t.length - 1],0⟩ (pos+1) ⟨st.t++[⟨-1,-1,(m:Nat)⟩],st.op++[st.t.length],0⟩ v4 v2 w4):=Zrr ⟨g1,g2,Zak an (by simp) (by rw[Zat]),Zak g3 (by simp) (by simp[ZbP,cJ.out]),cG.out,hp,⟨by simp;omega,by simp;omega,show 0<10000 by decide⟩⟩))
         clear cB an g1 g2 g3 df aG aH;go_wp2_with fail;go_roundw
         case rel=>exact⟨pos+1,⟨st.t++[⟨-1,-1,(m:Nat)⟩],st.op++[st.t.length],0⟩,rfl,aA⟩
         case measure=>simp only[World.iterPos,aA.out.it,eW];omega
        ·skip
         have cY:st.t.length≤1024:=by omega
         generalize wr.iterAt w.heap.size S (pos+1)=W1 at *;have nc:w.heap.size+1≤W1.heap.size:=by have:=(Zrv k2).1;omega
         have dY:=k4.alloc (.cells #[.int .i64 (st.t.length:Nat)] 3);have dS:=Zrr k1;have eD:=Zrr k2;have gC:=Zrr k3;have gJ:=Zrr k4;clear k1 k2 k3 k4 hI
         go_wp2_with (at_builtin;(refine wpList_append_own _ rfl _ _ 76 rfl (w.heap.size+1) 3 i0 (.int .i64 0) 1 8 Tryz.underlying76 bz bH aj av rfl (by decide) _ _ _ rfl dY ⟨W1.heap.size,0,none⟩ 1 1 [.int .i64 (st.t.length:Nat)] rfl rfl (Zao _ _ _ _ rfl) (by simp[Value.oneCell']) (by unfold maxLen;omega) (by omega) (by simp;omega) ?_;intro v2 w2 aV cD _;obtain⟨g1,g2,g3⟩:=ZaM _ dS.out eD.out gC.out gJ.out (by decide) cD;replace aV:=Zrr aV;replace g1:=Zrr g1;replace g2:=Zrr g2;replace g3:=Zrr g3;clear cD dY))
         refine(ZaE _ _).mono ?_;rintro e w3 ⟨rfl,aR⟩;have h1:=g1.out.trans (aR.below.mono g1.out.size);have h2:w3.heap[w.heap.size]? =_:=(aR.below.block _ (Zrv g2.out).1).trans g2.out;have h3:=Zaa g3.out (fun k hk=>aR.below.block k (Zap g3.out hk).1);have h4:=Zaa aV.out (fun k hk=>aR.below.block k (Zap aV.out hk).1);have df:=h3.alloc (.cells #[.int .i64 (-1),.int .i64 (-1),.int .i64 (m:Nat)] 78);have aG:=World.news_of_block (cs:=#[.int .i64 (-1),.int .i64 (-1),.int .i64 (m:Nat)]) (t:=78) (fr:=(0,0)) (Zrz w3 (.cells #[.int .i64 (-1),.int .i64 (-1),.int .i64 (m:Nat)] 78));have aH:∀u∈[Value.int .i64 (-1),.int .i64 (-1),.int .i64 (m:Nat)],u.oneCell'=true:=by simp[Value.oneCell']
         have oN:w.heap.size+1≤w3.heap.size:=by have:=(Zrv h2).1;omega
         have dI:=Zrr h1;have dJ:=Zrr h2;have dt:=Zrr h3;have fB:=Zrr h4;clear h1 h2 h3 h4 g1 g2 g3 aV aR
         go_wp2_with (at_builtin;(refine wpList_append_own _ rfl _ _ 23 rfl (w.heap.size+1) 78 iv (.agg #[.int .i64 0,.int .i64 0,.int .i64 0]) 3 24 Tryz.underlying23 dN cP cI dM rfl (by decide) _ _ _ rfl df ⟨w3.heap.size,0,none⟩ 1 1 [.int .i64 (-1),.int .i64 (-1),.int .i64 (m:Nat)] rfl rfl aG aH (by unfold maxLen;omega) (by omega) (by simp;omega) ?_;intro v4 w4 an cB _;obtain⟨g1,g2,g3⟩:=ZaM _ dI.out dJ.out fB.out dt.out (by decide) cB;have aA:Hid (PaI w S bs ⟨t,[t.length - 1],0⟩ (pos+1) ⟨st.t++[⟨-1,-1,(m:Nat)⟩],st.op++[st.t.length],0⟩ v4 v2 w4):=Zrr ⟨g1,g2,Zak an (by simp) (by rw[Zat]),Zak g3 (by simp) (by simp[ZbP,kZ.out]),cG.out,hp,⟨by simp;omega,by simp;omega,show 0<10000 by decide⟩⟩))
         clear cB an g1 g2 g3 df aG aH;go_wp2_with fail;go_roundw
         case rel=>exact⟨pos+1,⟨st.t++[⟨-1,-1,(m:Nat)⟩],st.op++[st.t.length],0⟩,rfl,aA⟩
         case measure=>simp only[World.iterPos,aA.out.it,eW];omega
       ·rcases ZaT k3 with ⟨rfl,cJ⟩|⟨gt,ct,rfl⟩
        ·replace cJ:=Zrr cJ
         have cY:st.t.length≤1024:=by omega
         generalize wr.iterAt w.heap.size S (pos+1)=W1 at *;have nc:w.heap.size+1≤W1.heap.size:=by have:=(Zrv k2).1;omega
         have dY:=k4.alloc (.cells #[.int .i64 0] 3);have dS:=Zrr k1;have eD:=Zrr k2;have gC:=Zrr k3;have gJ:=Zrr k4;clear k1 k2 k3 k4 hI
         go_wp2_with (at_builtin;(refine wpList_append_own _ rfl _ _ 76 rfl (w.heap.size+1) 3 i0 (.int .i64 0) 1 8 Tryz.underlying76 bz bH aj av rfl (by decide) _ _ _ rfl dY ⟨W1.heap.size,0,none⟩ 1 1 [.int .i64 0] rfl rfl (Zao _ _ _ _ rfl) (by simp[Value.oneCell']) (by unfold maxLen;omega) (by omega) (by simp;omega) ?_;intro v2 w2 aV cD _;obtain⟨g1,g2,g3⟩:=ZaM _ dS.out eD.out gC.out gJ.out (by decide) cD;replace aV:=Zrr aV;replace g1:=Zrr g1;replace g2:=Zrr g2;replace g3:=Zrr g3;clear cD dY))
         refine(ZaE _ _).mono ?_;rintro e w3 ⟨rfl,aR⟩;have h1:=g1.out.trans (aR.below.mono g1.out.size);have h2:w3.heap[w.heap.size]? =_:=(aR.below.block _ (Zrv g2.out).1).trans g2.out;have h3:=Zaa g3.out (fun k hk=>aR.below.block k (Zap g3.out hk).1);have h4:=Zaa aV.out (fun k hk=>aR.below.block k (Zap aV.out hk).1);have df:=h3.alloc (.cells #[.int .i64 (-1),.int .i64 (-1),.int .i64 (m:Nat)] 78);have aG:=World.news_of_block (cs:=#[.int .i64 (-1),.int .i64 (-1),.int .i64 (m:Nat)]) (t:=78) (fr:=(0,0)) (Zrz w3 (.cells #[.int .i64 (-1),.int .i64 (-1),.int .i64 (m:Nat)] 78));have aH:∀u∈[Value.int .i64 (-1),.int .i64 (-1),.int .i64 (m:Nat)],u.oneCell'=true:=by simp[Value.oneCell']
         have oN:w.heap.size+1≤w3.heap.size:=by have:=(Zrv h2).1;omega
         have dI:=Zrr h1;have dJ:=Zrr h2;have dt:=Zrr h3;have fB:=Zrr h4;clear h1 h2 h3 h4 g1 g2 g3 aV aR
         go_wp2_with (at_builtin;(refine wpList_append_own _ rfl _ _ 23 rfl (w.heap.size+1) 78 iv (.agg #[.int .i64 0,.int .i64 0,.int .i64 0]) 3 24 Tryz.underlying23 dN cP cI dM rfl (by decide) _ _ _ rfl df ⟨w3.heap.size,0,none⟩ 1 1 [.int .i64 (-1),.int .i64 (-1),.int .i64 (m:Nat)] rfl rfl aG aH (by unfold maxLen;omega) (by omega) (by simp;omega) ?_;intro v4 w4 an cB _;obtain⟨g1,g2,g3⟩:=ZaM _ dI.out dJ.out fB.out dt.out (by decide) cB;have aA:Hid (PaI w S bs ⟨t,[t.length - 1],0⟩ (pos+1) ⟨st.t++[⟨-1,-1,(m:Nat)⟩],st.op++[st.t.length],0⟩ v4 v2 w4):=Zrr ⟨g1,g2,Zak an (by simp) (by rw[Zat]),Zak g3 (by simp) (by simp[ZbP,cJ.out]),cG.out,hp,⟨by simp;omega,by simp;omega,show 0<10000 by decide⟩⟩))
         clear cB an g1 g2 g3 df aG aH;go_wp2_with fail;go_roundw
         case rel=>exact⟨pos+1,⟨st.t++[⟨-1,-1,(m:Nat)⟩],st.op++[st.t.length],0⟩,rfl,aA⟩
         case measure=>simp only[World.iterPos,aA.out.it,eW];omega
        ·skip
         have cY:st.t.length≤1024:=by omega
         generalize wr.iterAt w.heap.size S (pos+1)=W1 at *;have nc:w.heap.size+1≤W1.heap.size:=by have:=(Zrv k2).1;omega
         have dY:=k4.alloc (.cells #[.int .i64 (st.t.length:Nat)] 3);have dS:=Zrr k1;have eD:=Zrr k2;have gC:=Zrr k3;have gJ:=Zrr k4;clear k1 k2 k3 k4 hI
         go_wp2_with (at_builtin;(refine wpList_append_own _ rfl _ _ 76 rfl (w.heap.size+1) 3 i0 (.int .i64 0) 1 8 Tryz.underlying76 bz bH aj av rfl (by decide) _ _ _ rfl dY ⟨W1.heap.size,0,none⟩ 1 1 [.int .i64 (st.t.length:Nat)] rfl rfl (Zao _ _ _ _ rfl) (by simp[Value.oneCell']) (by unfold maxLen;omega) (by omega) (by simp;omega) ?_;intro v2 w2 aV cD _;obtain⟨g1,g2,g3⟩:=ZaM _ dS.out eD.out gC.out gJ.out (by decide) cD;replace aV:=Zrr aV;replace g1:=Zrr g1;replace g2:=Zrr g2;replace g3:=Zrr g3;clear cD dY))
         refine(ZaE _ _).mono ?_;rintro e w3 ⟨rfl,aR⟩;have h1:=g1.out.trans (aR.below.mono g1.out.size);have h2:w3.heap[w.heap.size]? =_:=(aR.below.block _ (Zrv g2.out).1).trans g2.out;have h3:=Zaa g3.out (fun k hk=>aR.below.block k (Zap g3.out hk).1);have h4:=Zaa aV.out (fun k hk=>aR.below.block k (Zap aV.out hk).1);have df:=h3.alloc (.cells #[.int .i64 (-1),.int .i64 (-1),.int .i64 (m:Nat)] 78);have aG:=World.news_of_block (cs:=#[.int .i64 (-1),.int .i64 (-1),.int .i64 (m:Nat)]) (t:=78) (fr:=(0,0)) (Zrz w3 (.cells #[.int .i64 (-1),.int .i64 (-1),.int .i64 (m:Nat)] 78));have aH:∀u∈[Value.int .i64 (-1),.int .i64 (-1),.int .i64 (m:Nat)],u.oneCell'=true:=by simp[Value.oneCell']
         have oN:w.heap.size+1≤w3.heap.size:=by have:=(Zrv h2).1;omega
         have dI:=Zrr h1;have dJ:=Zrr h2;have dt:=Zrr h3;have fB:=Zrr h4;clear h1 h2 h3 h4 g1 g2 g3 aV aR
         go_wp2_with (at_builtin;(refine wpList_append_own _ rfl _ _ 23 rfl (w.heap.size+1) 78 iv (.agg #[.int .i64 0,.int .i64 0,.int .i64 0]) 3 24 Tryz.underlying23 dN cP cI dM rfl (by decide) _ _ _ rfl df ⟨w3.heap.size,0,none⟩ 1 1 [.int .i64 (-1),.int .i64 (-1),.int .i64 (m:Nat)] rfl rfl aG aH (by unfold maxLen;omega) (by omega) (by simp;omega) ?_;intro v4 w4 an cB _;obtain⟨g1,g2,g3⟩:=ZaM _ dI.out dJ.out fB.out dt.out (by decide) cB;have aA:Hid (PaI w S bs ⟨t,[t.length - 1],0⟩ (pos+1) ⟨st.t++[⟨-1,-1,(m:Nat)⟩],st.op++[st.t.length],0⟩ v4 v2 w4):=Zrr ⟨g1,g2,Zak an (by simp) (by rw[Zat]),Zak g3 (by simp) (by simp[ZbP,kZ.out]),cG.out,hp,⟨by simp;omega,by simp;omega,show 0<10000 by decide⟩⟩))
         clear cB an g1 g2 g3 df aG aH;go_wp2_with fail;go_roundw
         case rel=>exact⟨pos+1,⟨st.t++[⟨-1,-1,(m:Nat)⟩],st.op++[st.t.length],0⟩,rfl,aA⟩
         case measure=>simp only[World.iterPos,aA.out.it,eW];omega
      ·have f1:decide ((c2.toNat:Int)<48)=false:=ZrH (by omega)
       have f1':decide (c2.toNat<48)=false:=ZrH h48;have f2:decide ((c2.toNat:Int) > 57)=true:=ZrI (by omega);have f2':decide (57<c2.toNat)=true:=ZrI (by omega);clear zJ;obtain rfl:=Option.some.inj aM;have cG:Hid (L.pRun (bs.drop (pos+1)) ⟨st.t++[⟨-1,-1,(m:Nat)⟩],st.op++[st.t.length],0⟩=some ⟨t,[t.length - 1],0⟩):=Zrr (by rw[bE,ls];exact cV);clear nU cV aM ls;have kZ:Hid True:=Zrr trivial;rcases ZaT k4 with ⟨rfl,iF⟩|⟨go,co,rfl⟩
       ·replace iF:=Zrr iF
        rcases ZaT k3 with ⟨rfl,cJ⟩|⟨gt,ct,rfl⟩
        ·replace cJ:=Zrr cJ
         have cY:st.t.length≤1024:=by omega
         generalize wr.iterAt w.heap.size S (pos+1)=W1 at *;have nc:w.heap.size+1≤W1.heap.size:=by have:=(Zrv k2).1;omega
         have dY:=k4.alloc (.cells #[.int .i64 0] 3);have dS:=Zrr k1;have eD:=Zrr k2;have gC:=Zrr k3;have gJ:=Zrr k4;clear k1 k2 k3 k4 hI
         go_wp2_with (at_builtin;(refine wpList_append_own _ rfl _ _ 76 rfl (w.heap.size+1) 3 i0 (.int .i64 0) 1 8 Tryz.underlying76 bz bH aj av rfl (by decide) _ _ _ rfl dY ⟨W1.heap.size,0,none⟩ 1 1 [.int .i64 0] rfl rfl (Zao _ _ _ _ rfl) (by simp[Value.oneCell']) (by unfold maxLen;omega) (by omega) (by simp;omega) ?_;intro v2 w2 aV cD _;obtain⟨g1,g2,g3⟩:=ZaM _ dS.out eD.out gC.out gJ.out (by decide) cD;replace aV:=Zrr aV;replace g1:=Zrr g1;replace g2:=Zrr g2;replace g3:=Zrr g3;clear cD dY))
         refine(ZaE _ _).mono ?_;rintro e w3 ⟨rfl,aR⟩;have h1:=g1.out.trans (aR.below.mono g1.out.size);have h2:w3.heap[w.heap.size]? =_:=(aR.below.block _ (Zrv g2.out).1).trans g2.out;have h3:=Zaa g3.out (fun k hk=>aR.below.block k (Zap g3.out hk).1);have h4:=Zaa aV.out (fun k hk=>aR.below.block k (Zap aV.out hk).1);have df:=h3.alloc (.cells #[.int .i64 (-1),.int .i64 (-1),.int .i64 (m:Nat)] 78);have aG:=World.news_of_block (cs:=#[.int .i64 (-1),.int .i64 (-1),.int .i64 (m:Nat)]) (t:=78) (fr:=(0,0)) (Zrz w3 (.cells #[.int .i64 (-1),.int .i64 (-1),.int .i64 (m:Nat)] 78));have aH:∀u∈[Value.int .i64 (-1),.int .i64 (-1),.int .i64 (m:Nat)],u.oneCell'=true:=by simp[Value.oneCell']
         have oN:w.heap.size+1≤w3.heap.size:=by have:=(Zrv h2).1;omega
         have dI:=Zrr h1;have dJ:=Zrr h2;have dt:=Zrr h3;have fB:=Zrr h4;clear h1 h2 h3 h4 g1 g2 g3 aV aR
         go_wp2_with (at_builtin;(refine wpList_append_own _ rfl _ _ 23 rfl (w.heap.size+1) 78 iv (.agg #[.int .i64 0,.int .i64 0,.int .i64 0]) 3 24 Tryz.underlying23 dN cP cI dM rfl (by decide) _ _ _ rfl df ⟨w3.heap.size,0,none⟩ 1 1 [.int .i64 (-1),.int .i64 (-1),.int .i64 (m:Nat)] rfl rfl aG aH (by unfold maxLen;omega) (by omega) (by simp;omega) ?_;intro v4 w4 an cB _;obtain⟨g1,g2,g3⟩:=ZaM _ dI.out dJ.out fB.out dt.out (by decide) cB;have aA:Hid (PaI w S bs ⟨t,[t.length - 1],0⟩ (pos+1) ⟨st.t++[⟨-1,-1,(m:Nat)⟩],st.op++[st.t.length],0⟩ v4 v2 w4):=Zrr ⟨g1,g2,Zak an (by simp) (by rw[Zat]),Zak g3 (by simp) (by simp[ZbP,cJ.out]),cG.out,hp,⟨by simp;omega,by simp;omega,show 0<10000 by decide⟩⟩))
         clear cB an g1 g2 g3 df aG aH;go_wp2_with fail;go_roundw
         case rel=>exact⟨pos+1,⟨st.t++[⟨-1,-1,(m:Nat)⟩],st.op++[st.t.length],0⟩,rfl,aA⟩
         case measure=>simp only[World.iterPos,aA.out.it,eW];omega
        ·skip
         have cY:st.t.length≤1024:=by omega
         generalize wr.iterAt w.heap.size S (pos+1)=W1 at *;have nc:w.heap.size+1≤W1.heap.size:=by have:=(Zrv k2).1;omega
         have dY:=k4.alloc (.cells #[.int .i64 (st.t.length:Nat)] 3);have dS:=Zrr k1;have eD:=Zrr k2;have gC:=Zrr k3;have gJ:=Zrr k4;clear k1 k2 k3 k4 hI
         go_wp2_with (at_builtin;(refine wpList_append_own _ rfl _ _ 76 rfl (w.heap.size+1) 3 i0 (.int .i64 0) 1 8 Tryz.underlying76 bz bH aj av rfl (by decide) _ _ _ rfl dY ⟨W1.heap.size,0,none⟩ 1 1 [.int .i64 (st.t.length:Nat)] rfl rfl (Zao _ _ _ _ rfl) (by simp[Value.oneCell']) (by unfold maxLen;omega) (by omega) (by simp;omega) ?_;intro v2 w2 aV cD _;obtain⟨g1,g2,g3⟩:=ZaM _ dS.out eD.out gC.out gJ.out (by decide) cD;replace aV:=Zrr aV;replace g1:=Zrr g1;replace g2:=Zrr g2;replace g3:=Zrr g3;clear cD dY))
         refine(ZaE _ _).mono ?_;rintro e w3 ⟨rfl,aR⟩;have h1:=g1.out.trans (aR.below.mono g1.out.size);have h2:w3.heap[w.heap.size]? =_:=(aR.below.block _ (Zrv g2.out).1).trans g2.out;have h3:=Zaa g3.out (fun k hk=>aR.below.block k (Zap g3.out hk).1);have h4:=Zaa aV.out (fun k hk=>aR.below.block k (Zap aV.out hk).1);have df:=h3.alloc (.cells #[.int .i64 (-1),.int .i64 (-1),.int .i64 (m:Nat)] 78);have aG:=World.news_of_block (cs:=#[.int .i64 (-1),.int .i64 (-1),.int .i64 (m:Nat)]) (t:=78) (fr:=(0,0)) (Zrz w3 (.cells #[.int .i64 (-1),.int .i64 (-1),.int .i64 (m:Nat)] 78));have aH:∀u∈[Value.int .i64 (-1),.int .i64 (-1),.int .i64 (m:Nat)],u.oneCell'=true:=by simp[Value.oneCell']
         have oN:w.heap.size+1≤w3.heap.size:=by have:=(Zrv h2).1;omega
         have dI:=Zrr h1;have dJ:=Zrr h2;have dt:=Zrr h3;have fB:=Zrr h4;clear h1 h2 h3 h4 g1 g2 g3 aV aR
         go_wp2_with (at_builtin;(refine wpList_append_own _ rfl _ _ 23 rfl (w.heap.size+1) 78 iv (.agg #[.int .i64 0,.int .i64 0,.int .i64 0]) 3 24 Tryz.underlying23 dN cP cI dM rfl (by decide) _ _ _ rfl df ⟨w3.heap.size,0,none⟩ 1 1 [.int .i64 (-1),.int .i64 (-1),.int .i64 (m:Nat)] rfl rfl aG aH (by unfold maxLen;omega) (by omega) (by simp;omega) ?_;intro v4 w4 an cB _;obtain⟨g1,g2,g3⟩:=ZaM _ dI.out dJ.out fB.out dt.out (by decide) cB;have aA:Hid (PaI w S bs ⟨t,[t.length - 1],0⟩ (pos+1) ⟨st.t++[⟨-1,-1,(m:Nat)⟩],st.op++[st.t.length],0⟩ v4 v2 w4):=Zrr ⟨g1,g2,Zak an (by simp) (by rw[Zat]),Zak g3 (by simp) (by simp[ZbP,kZ.out]),cG.out,hp,⟨by simp;omega,by simp;omega,show 0<10000 by decide⟩⟩))
         clear cB an g1 g2 g3 df aG aH;go_wp2_with fail;go_roundw
         case rel=>exact⟨pos+1,⟨st.t++[⟨-1,-1,(m:Nat)⟩],st.op++[st.t.length],0⟩,rfl,aA⟩
         case measure=>simp only[World.iterPos,aA.out.it,eW];omega
       ·rcases ZaT k3 with ⟨rfl,cJ⟩|⟨gt,ct,rfl⟩
        ·replace cJ:=Zrr cJ
         have cY:st.t.length≤1024:=by omega
         generalize wr.iterAt w.heap.size S (pos+1)=W1 at *;have nc:w.heap.size+1≤W1.heap.size:=by have:=(Zrv k2).1;omega
         have dY:=k4.alloc (.cells #[.int .i64 0] 3);have dS:=Zrr k1;have eD:=Zrr k2;have gC:=Zrr k3;have gJ:=Zrr k4;clear k1 k2 k3 k4 hI
         go_wp2_with (at_builtin;(refine wpList_append_own _ rfl _ _ 76 rfl (w.heap.size+1) 3 i0 (.int .i64 0) 1 8 Tryz.underlying76 bz bH aj av rfl (by decide) _ _ _ rfl dY ⟨W1.heap.size,0,none⟩ 1 1 [.int .i64 0] rfl rfl (Zao _ _ _ _ rfl) (by simp[Value.oneCell']) (by unfold maxLen;omega) (by omega) (by simp;omega) ?_;intro v2 w2 aV cD _;obtain⟨g1,g2,g3⟩:=ZaM _ dS.out eD.out gC.out gJ.out (by decide) cD;replace aV:=Zrr aV;replace g1:=Zrr g1;replace g2:=Zrr g2;replace g3:=Zrr g3;clear cD dY))
         refine(ZaE _ _).mono ?_;rintro e w3 ⟨rfl,aR⟩;have h1:=g1.out.trans (aR.below.mono g1.out.size);have h2:w3.heap[w.heap.size]? =_:=(aR.below.block _ (Zrv g2.out).1).trans g2.out;have h3:=Zaa g3.out (fun k hk=>aR.below.block k (Zap g3.out hk).1);have h4:=Zaa aV.out (fun k hk=>aR.below.block k (Zap aV.out hk).1);have df:=h3.alloc (.cells #[.int .i64 (-1),.int .i64 (-1),.int .i64 (m:Nat)] 78);have aG:=World.news_of_block (cs:=#[.int .i64 (-1),.int .i64 (-1),.int .i64 (m:Nat)]) (t:=78) (fr:=(0,0)) (Zrz w3 (.cells #[.int .i64 (-1),.int .i64 (-1),.int .i64 (m:Nat)] 78));have aH:∀u∈[Value.int .i64 (-1),.int .i64 (-1),.int .i64 (m:Nat)],u.oneCell'=true:=by simp[Value.oneCell']
         have oN:w.heap.size+1≤w3.heap.size:=by have:=(Zrv h2).1;omega
         have dI:=Zrr h1;have dJ:=Zrr h2;have dt:=Zrr h3;have fB:=Zrr h4;clear h1 h2 h3 h4 g1 g2 g3 aV aR
         go_wp2_with (at_builtin;(refine wpList_append_own _ rfl _ _ 23 rfl (w.heap.size+1) 78 iv (.agg #[.int .i64 0,.int .i64 0,.int .i64 0]) 3 24 Tryz.underlying23 dN cP cI dM rfl (by decide) _ _ _ rfl df ⟨w3.heap.size,0,none⟩ 1 1 [.int .i64 (-1),.int .i64 (-1),.int .i64 (m:Nat)] rfl rfl aG aH (by unfold maxLen;omega) (by omega) (by simp;omega) ?_;intro v4 w4 an cB _;obtain⟨g1,g2,g3⟩:=ZaM _ dI.out dJ.out fB.out dt.out (by decide) cB;have aA:Hid (PaI w S bs ⟨t,[t.length - 1],0⟩ (pos+1) ⟨st.t++[⟨-1,-1,(m:Nat)⟩],st.op++[st.t.length],0⟩ v4 v2 w4):=Zrr ⟨g1,g2,Zak an (by simp) (by rw[Zat]),Zak g3 (by simp) (by simp[ZbP,cJ.out]),cG.out,hp,⟨by simp;omega,by simp;omega,show 0<10000 by decide⟩⟩))
         clear cB an g1 g2 g3 df aG aH;go_wp2_with fail;go_roundw
         case rel=>exact⟨pos+1,⟨st.t++[⟨-1,-1,(m:Nat)⟩],st.op++[st.t.length],0⟩,rfl,aA⟩
         case measure=>simp only[World.iterPos,aA.out.it,eW];omega
        ·skip
         have cY:st.t.length≤1024:=by omega
         generalize wr.iterAt w.heap.size S (pos+1)=W1 at *;have nc:w.heap.size+1≤W1.heap.size:=by have:=(Zrv k2).1;omega
         have dY:=k4.alloc (.cells #[.int .i64 (st.t.length:Nat)] 3);have dS:=Zrr k1;have eD:=Zrr k2;have gC:=Zrr k3;have gJ:=Zrr k4;clear k1 k2 k3 k4 hI
         go_wp2_with (at_builtin;(refine wpList_append_own _ rfl _ _ 76 rfl (w.heap.size+1) 3 i0 (.int .i64 0) 1 8 Tryz.underlying76 bz bH aj av rfl (by decide) _ _ _ rfl dY ⟨W1.heap.size,0,none⟩ 1 1 [.int .i64 (st.t.length:Nat)] rfl rfl (Zao _ _ _ _ rfl) (by simp[Value.oneCell']) (by unfold maxLen;omega) (by omega) (by simp;omega) ?_;intro v2 w2 aV cD _;obtain⟨g1,g2,g3⟩:=ZaM _ dS.out eD.out gC.out gJ.out (by decide) cD;replace aV:=Zrr aV;replace g1:=Zrr g1;replace g2:=Zrr g2;replace g3:=Zrr g3;clear cD dY))
         refine(ZaE _ _).mono ?_;rintro e w3 ⟨rfl,aR⟩;have h1:=g1.out.trans (aR.below.mono g1.out.size);have h2:w3.heap[w.heap.size]? =_:=(aR.below.block _ (Zrv g2.out).1).trans g2.out;have h3:=Zaa g3.out (fun k hk=>aR.below.block k (Zap g3.out hk).1);have h4:=Zaa aV.out (fun k hk=>aR.below.block k (Zap aV.out hk).1);have df:=h3.alloc (.cells #[.int .i64 (-1),.int .i64 (-1),.int .i64 (m:Nat)] 78);have aG:=World.news_of_block (cs:=#[.int .i64 (-1),.int .i64 (-1),.int .i64 (m:Nat)]) (t:=78) (fr:=(0,0)) (Zrz w3 (.cells #[.int .i64 (-1),.int .i64 (-1),.int .i64 (m:Nat)] 78));have aH:∀u∈[Value.int .i64 (-1),.int .i64 (-1),.int .i64 (m:Nat)],u.oneCell'=true:=by simp[Value.oneCell']
         have oN:w.heap.size+1≤w3.heap.size:=by have:=(Zrv h2).1;omega
         have dI:=Zrr h1;have dJ:=Zrr h2;have dt:=Zrr h3;have fB:=Zrr h4;clear h1 h2 h3 h4 g1 g2 g3 aV aR
         go_wp2_with (at_builtin;(refine wpList_append_own _ rfl _ _ 23 rfl (w.heap.size+1) 78 iv (.agg #[.int .i64 0,.int .i64 0,.int .i64 0]) 3 24 Tryz.underlying23 dN cP cI dM rfl (by decide) _ _ _ rfl df ⟨w3.heap.size,0,none⟩ 1 1 [.int .i64 (-1),.int .i64 (-1),.int .i64 (m:Nat)] rfl rfl aG aH (by unfold maxLen;omega) (by omega) (by simp;omega) ?_;intro v4 w4 an cB _;obtain⟨g1,g2,g3⟩:=ZaM _ dI.out dJ.out fB.out dt.out (by decide) cB;have aA:Hid (PaI w S bs ⟨t,[t.length - 1],0⟩ (pos+1) ⟨st.t++[⟨-1,-1,(m:Nat)⟩],st.op++[st.t.length],0⟩ v4 v2 w4):=Zrr ⟨g1,g2,Zak an (by simp) (by rw[Zat]),Zak g3 (by simp) (by simp[ZbP,kZ.out]),cG.out,hp,⟨by simp;omega,by simp;omega,show 0<10000 by decide⟩⟩))
         clear cB an g1 g2 g3 df aG aH;go_wp2_with fail;go_roundw
         case rel=>exact⟨pos+1,⟨st.t++[⟨-1,-1,(m:Nat)⟩],st.op++[st.t.length],0⟩,rfl,aA⟩
         case measure=>simp only[World.iterPos,aA.out.it,eW];omega
     ·have hef:L.endB (c2 :: rest2)=false:=by simp[L.endB,hdg]
      rw[if_neg (by rw[hef];simp)]at aM;obtain rfl:=Option.some.inj aM;unfold L.digB at hdg;simp only[ZrK,ZrN]at hdg;have aA:Hid (PaI w S bs ⟨t,[t.length - 1],0⟩ (pos+1) ⟨st.t,st.op,m⟩ u4 u5 (wr.iterAt w.heap.size S (pos+1))):=Zrr ⟨k1,k2,k3,k4,by rw[bE,ls];exact cV,hp,⟨by show st.t.length≤_;omega,by show st.op.length≤_;omega,qA⟩⟩;have i0:(0:Int)≤(pos:Int)+1:=by omega
      have i1:(pos:Int)+1<(S.size:Int):=by rw[ac.out];omega
      have i2:pos+1<S.size:=by rw[ac.out];omega
      clear hI k1 k2 k3 k4 nU cV;go_wp2_with fail;go_roundw
      case rel=>exact⟨pos+1,⟨st.t,st.op,m⟩,rfl,aA⟩
      case measure=>simp only[World.iterPos,aA.out.it,eW];omega
   ·rw[if_neg hd]at aM
    by_cases vr:c=41
    ·rw[if_pos vr]at aM
     subst vr;simp only[show (41:UInt8).toNat=41 from rfl]at eN;have h2:¬ st.op.length<2:=fun h=>by rw[if_pos h]at aM;cases aM
     rw[if_neg h2]at aM;obtain rfl:=Option.some.inj aM;clear aM nU
     obtain⟨go,co,rfl⟩:∃g cp,u5= .slice (some ⟨g,0,none⟩) st.op.length cp:=by
      rcases ZaT k4 with ⟨_,h0⟩|h
      ·omega
      ·exact h
     obtain⟨A,hA⟩:∃A,A=st.op.getD (st.op.length - 2) 0:=⟨_,rfl⟩;obtain⟨B,hB⟩:∃B,B=st.op.getD (st.op.length - 1) 0:=⟨_,rfl⟩
     have oC:(st.op.map ZbP)[st.op.length - 2]? =some (.int .i64 (A:Nat)):=by
      rw[List.getElem?_map,Zry (by omega),hA,ZrG,Zry (by omega)];rfl
     have iI:(st.op.map ZbP)[st.op.length - 1]? =some (.int .i64 (B:Nat)):=by
      rw[List.getElem?_map,Zry (by omega),hB,ZrG,Zry (by omega)];rfl
     have ca:=Zmu k4 oC;have cb:=Zmu k4 iI;rw[←hA,←hB]at cV;have cG:=Zrr cV;have hcut:Hid (st.op.take (st.op.length - 2)++[st.t.length]=st.op.take (st.op.length - 2)++[st.t.length]):=Zrr rfl;clear cV oC iI;replace hA:=Zrr hA;replace hB:=Zrr hB;obtain⟨p2,gH⟩:∃p,p=st.op.length - 2:=⟨_,rfl⟩;obtain⟨p1,gG⟩:∃p,p=st.op.length - 1:=⟨_,rfl⟩;rw[←gH]at ca;rw[←gG]at cb;have zV:st.op.length≤1024:=by omega
     obtain⟨nn,lG⟩:∃nn,nn=st.op.length:=⟨_,rfl⟩;have e1:(nn:Int) - 2=(p2:Int):=by omega
     have e2:(nn:Int) - 1=(p1:Int):=by omega
     have w1:IntKind.i64.wrap (p2:Int)=(p2:Int):=IntWalk.i64_in _ (by omega);have w2:IntKind.i64.wrap (p1:Int)=(p1:Int):=IntWalk.i64_in _ (by omega);have i1:(0:Int)≤p2:=by omega
     have i2:(p2:Int)<nn:=by omega
     have i3:(0:Int)≤p1:=by omega
     have i4:(p1:Int)<nn:=by omega
     have d2:decide ((nn:Int)<2)=false:=ZrH (by omega);have oI:decide (nn<2)=false:=ZrH (by omega);have jp:2≤nn∧nn≤1024:=by omega
     rw[←lG]at k4 ⊢;replace lG:=Zrr lG;replace gH:=Zrr gH;replace gG:=Zrr gG
     have hcap:nn≤co:=by
      obtain⟨_,⟨h0,_⟩|⟨_,_,_,e,_,_,h,_⟩⟩:=k4
      ·cases h0
      ·cases e;exact h
     have hp2n:p2≤nn:=by omega
     have cY:st.t.length≤1024:=by omega
     generalize wr.iterAt w.heap.size S (pos+1)=W1 at *;have nc:w.heap.size+1≤W1.heap.size:=by have:=(Zrv k2).1;omega
     have dS:Hid (Below w.heap.size w W1.drew):=Zrr (k1.trans ((ZrE W1.heap.size W1).drew.mono k1.size));have eD:Hid (W1.drew.heap[w.heap.size]? =some (.stringIter S (pos+1))):=Zrr k2;have gC:Hid (W1.drew.ownsRow (w.heap.size+1) 78 3 u4 st.t.length (Zal st.t)):=Zrr k3;have gJ:Hid (W1.drew.ownsRow (w.heap.size+1) 3 1 (.slice (some ⟨go,0,none⟩) nn co) nn (st.op.map ZbP)):=Zrr k4;have df:=gC.out.alloc (.cells #[.int .i64 (A:Nat),.int .i64 (B:Nat),.int .i64 0] 78);have aG:=World.news_of_block (cs:=#[.int .i64 (A:Nat),.int .i64 (B:Nat),.int .i64 0]) (t:=78) (fr:=(0,0)) (Zrz W1.drew (.cells #[.int .i64 (A:Nat),.int .i64 (B:Nat),.int .i64 0] 78));have aH:∀u∈[Value.int .i64 (A:Nat),.int .i64 (B:Nat),.int .i64 0],u.oneCell'=true:=by simp[Value.oneCell']
     clear k1 k2 k4 hI h2 hd;rcases ZaT k3 with ⟨rfl,cJ⟩|⟨gt,ct,rfl⟩
     ·replace cJ:=Zrr cJ
      clear k3;go_wp2_with fail;(refine wp_region_held_drew (S:=(fun _=>True)) (by kernel_rfl) ?_ (fun aE=>?_))
      ·trivial
      have hT:True:=trivial;(refine ZrR (i:=0) (v:=?_) rfl (by kernel_rfl) (fun _ _ _ h=>h) (Or.inl ⟨by rfl,?_⟩) (by assumption) ?_);rotate_left
      ·(intro w aB;(try dsimp only at aB);go_simp;first|done|with_reducible rfl)
      (try simp only[Act.put,Zrs,Zrt,Zru]);(refine ZrR (i:=1) (v:=?_) rfl (by kernel_rfl) (fun _ _ _ h=>h) (Or.inl ⟨by rfl,?_⟩) (by assumption) ?_);rotate_left
      ·(intro w aB;(try dsimp only at aB);go_simp;first|done|with_reducible rfl)
      (try simp only[Act.put,Zrs,Zrt,Zru]);(refine ZrR (i:=2) (v:=?_) rfl (by kernel_rfl) (fun _ _ _ h=>h) (Or.inl ⟨by rfl,?_⟩) (by assumption) ?_);rotate_left
      ·(intro w aB;(try dsimp only at aB);go_simp;first|done|with_reducible rfl)
      (try simp only[Act.put,Zrs,Zrt,Zru]);(refine ZrR (i:=3) (v:=?_) rfl (by kernel_rfl) (fun _ _ _ h=>h) (Or.inl ⟨by rfl,?_⟩) (by assumption) ?_);rotate_left
      ·(intro w aB;(try dsimp only at aB);go_simp;first|done|with_reducible rfl)
      (try simp only[Act.put,Zrs,Zrt,Zru]);(refine ZrR (i:=4) (v:=?_) rfl (by kernel_rfl) (fun _ _ _ h=>h) (Or.inl ⟨by rfl,?_⟩) (by assumption) ?_);rotate_left
      ·(intro w aB;(try dsimp only at aB);go_simp;first|done|with_reducible rfl)
      (try simp only[Act.put,Zrs,Zrt,Zru]);(refine ZrR (i:=6) (v:=?_) rfl (by kernel_rfl) (fun _ _ _ h=>h) (Or.inl ⟨by rfl,?_⟩) (by assumption) ?_);rotate_left
      ·(intro w aB;(try dsimp only at aB);go_simp;first|done|with_reducible rfl)
      (try simp only[Act.put,Zrs,Zrt,Zru]);(refine ZrR (i:=7) (v:=?_) rfl (by kernel_rfl) (fun _ _ _ h=>h) (Or.inl ⟨by rfl,?_⟩) (by assumption) ?_);rotate_left
      ·(intro w aB;(try dsimp only at aB);go_simp;first|done|with_reducible rfl)
      (try simp only[Act.put,Zrs,Zrt,Zru]);(refine ZrR (i:=8) (v:=?_) rfl (by kernel_rfl) (fun _ _ _ h=>h) (Or.inl ⟨by rfl,?_⟩) (by assumption) ?_);rotate_left
      ·(intro w aB;(try dsimp only at aB);go_simp;first|done|with_reducible rfl)
      (try simp only[Act.put,Zrs,Zrt,Zru]);(refine ZrR (i:=9) (v:=?_) rfl (by kernel_rfl) (fun _ _ _ h=>h) (Or.inl ⟨by rfl,?_⟩) (by assumption) ?_);rotate_left
      ·(intro w aB;(try dsimp only at aB);go_simp;first|done|with_reducible rfl)
      (try simp only[Act.put,Zrs,Zrt,Zru]);clear hT;(refine wpAnyH_ready (rs:=[5,10]) (by kernel_rfl) (by simp) ?_);(refine ZlG rfl rfl (fun K hK=>?_) (fun K hK=>?_));(rw[if_pos (by rfl)]);go_simp;(refine hK.out _ _ trivial (fun hT=>?_))
      (clear hT hK K)
      (try simp only[Act.put,Zrs,Zrt,Zru]);(refine wpAnyH_ready (rs:=[10]) (by kernel_rfl) (by simp) ?_);(refine ZaW rfl (fun K hK=>?_));(rw[if_pos (by rfl)]);go_simp;(refine hK.out _ _ trivial (fun hT=>?_))
      (clear hT hK K)
      (try simp only[Act.put,Zrs,Zrt,Zru]);refine ?hRest1;rotate_left;(rw[if_pos (by rfl)]);go_simp;(refine hK.out _ _ trivial (fun hT=>?_))
      (clear hT hK K)
      (try simp only[Act.put,Zrs,Zrt,Zru]);(refine wpAnyH_ready (rs:=[5]) (by kernel_rfl) (by simp) ?_);(refine ZaW rfl (fun K hK=>?_));(rw[if_pos (by rfl)]);go_simp;(refine hK.out _ _ trivial (fun hT=>?_))
      (clear hT hK K)
      (try simp only[Act.put,Zrs,Zrt,Zru]);exact ?hRest1;have hT:True:=trivial;(refine ZrR (i:=11) (v:=?_) rfl (by kernel_rfl) (fun _ _ _ h=>h) (Or.inl ⟨by rfl,?_⟩) (by assumption) ?_);rotate_left
      ·(intro w aB;(try dsimp only at aB);go_simp;first|done|with_reducible rfl)
      (try simp only[Act.put,Zrs,Zrt,Zru]);clear hT;(refine wpAnyH_ready (rs:=[12]) (by kernel_rfl) (by simp) ?_);(refine ZaW rfl (fun K hK=>?_))
      ((rw[if_pos (by rfl)]);go_simp;(refine hK.out _ _ trivial (fun hT=>?_));clear hT)
      (clear hK K)
      (try simp only[Act.put,Zrs,Zrt,Zru]);(refine wpAnyH_ready (rs:=[13]) (by kernel_rfl) (by simp) ?_);(refine ZaW rfl (fun K hK=>?_))
      ((rw[if_pos (by rfl)]);refine wp_append_own _ _ _ 23 rfl (w.heap.size+1) 78 iv (.agg #[.int .i64 0,.int .i64 0,.int .i64 0]) 3 24 Tryz.underlying23 dN cP cI dM rfl (by decide) _ _ _ rfl df ⟨W1.heap.size,0,none⟩ 1 1 [.int .i64 (A:Nat),.int .i64 (B:Nat),.int .i64 0] rfl rfl aG aH (by unfold maxLen;omega) (by omega) (by simp;omega) ?_;intro v10 jB e8 gR _;(refine hK.out _ _ trivial (fun hT=>?_));clear hT)
      (clear hK K)
      (try simp only[Act.put,Zrs,Zrt,Zru]);obtain⟨g1,g2,g3⟩:=ZaM _ dS.out eD.out gJ.out gC.out (by decide) gR;have hT:True:=trivial;(refine ZrR (i:=14) (v:=?_) rfl (by kernel_rfl) (fun _ _ _ h=>h) (Or.inl ⟨by rfl,?_⟩) (by assumption) ?_);rotate_left
      ·(intro w aB;(try dsimp only at aB);go_simp;first|done|with_reducible rfl)
      (try simp only[Act.put,Zrs,Zrt,Zru]);clear hT;(refine wpAnyH_done (by kernel_rfl) ?_ _)
      obtain⟨t6,c10,rfl⟩:∃g cp,v10= .slice (some ⟨g,0,none⟩) (st.t.length+1) cp:=by
       rcases ZaT e8 with ⟨_,h0⟩|h
       ·omega
       ·exact h
      obtain⟨tl,eH⟩:∃tl,tl=st.t.length:=⟨_,rfl⟩;rw[←eH]at e8 ⊢;have htlb:tl≤1024:=by omega
      have e5:(tl:Int)+1 - 1=(tl:Int):=by omega
      have w5:IntKind.i64.wrap (tl:Int)=(tl:Int):=IntWalk.i64_in _ (by omega);have dw:(p2:Int)≤co:=by omega
      have fM:p2≤co:=by omega
      have pB:∀b,some (⟨go,0,none⟩:Addr)=some b→∀j u,((st.op.take p2).map ZbP)[j]? =some u→(jB.alloc (.cells #[.int .i64 (tl:Nat)] 3)).cell? (b.add j)=some u:=fun b hb j u hj=>by
       obtain rfl:=Option.some.inj hb
       have hju:(st.op.map ZbP)[j]? =some u:=by
        rw[List.map_take]at hj;rw[List.getElem?_take]at hj
        split at hj
        ·exact hj
        ·cases hj
       exact(g3.alloc (.cells #[.int .i64 (tl:Nat)] 3)).cells (g:=go) rfl j u hju
      have zO:((st.op.take p2).map ZbP).length=p2*1:=by rw[List.length_map,List.length_take];have:=lG.out;omega
      have hN10:w.heap.size+1≤jB.heap.size:=by have:=(Zrv g2).1;omega
      have g1':=Zrr g1;have vj:=Zrr g2;have oy:=Zrr e8;replace eH:=Zrr eH;clear gR df aG aH g1 g2 g3 e8 dS eD gC gJ
      go_wp2_with (at_builtin;(refine wpList_append_grows _ rfl _ _ 76 rfl 3 i0 (.int .i64 0) 1 8 Tryz.underlying76 bz bH aj av rfl (by decide) (some ⟨go,0,none⟩) p2 p2 ((st.op.take p2).map ZbP) rfl (fun h=>by cases h) zO pB ⟨jB.heap.size,0,none⟩ 1 1 [.int .i64 (tl:Nat)] rfl rfl (Zao _ _ _ _ rfl) (by simp[Value.oneCell']) (by omega) (by unfold maxLen;omega) (by omega) ?_;intro v12 tX oz o7;obtain⟨q1,q2,q3⟩:=ZoV _ g1'.out vj.out oy.out o7;have aA:Hid (PaI w S bs ⟨t,[t.length - 1],0⟩ (pos+1) ⟨st.t++[⟨(A:Nat),(B:Nat),0⟩],st.op.take (st.op.length - 2)++[st.t.length],st.nu⟩ (.slice (some ⟨t6,0,none⟩) (tl+1) c10) v12 tX):=Zrr ⟨q1,q2,Zak q3 (by simp[eH.out]) (by rw[Zat]),Zak (Zd6 oz (by simp;omega)) (by simp[List.length_take];have:=lG.out;have:=gH.out;omega) (by rw[gH.out,eH.out];simp[ZbP]),(by rw[bE];exact cG.out),hp,⟨by simp;omega,by simp[List.length_take];omega,by show st.nu<10000;omega⟩⟩))
      clear o7 oz q1 q2 q3 pB zO;go_wp2_with fail;go_roundw
      case rel=>exact⟨pos+1,⟨st.t++[⟨(A:Nat),(B:Nat),0⟩],st.op.take (st.op.length - 2)++[st.t.length],st.nu⟩,rfl,aA⟩
      case measure=>simp only[World.iterPos,aA.out.it,eW];omega
     ·clear k3
      go_wp2_with fail;(refine wp_region_held_drew (S:=(fun _=>True)) (by kernel_rfl) ?_ (fun aE=>?_))
      ·trivial
      have hT:True:=trivial;(refine ZrR (i:=0) (v:=?_) rfl (by kernel_rfl) (fun _ _ _ h=>h) (Or.inl ⟨by rfl,?_⟩) (by assumption) ?_);rotate_left
      ·(intro w aB;(try dsimp only at aB);go_simp;first|done|with_reducible rfl)
      (try simp only[Act.put,Zrs,Zrt,Zru]);(refine ZrR (i:=1) (v:=?_) rfl (by kernel_rfl) (fun _ _ _ h=>h) (Or.inl ⟨by rfl,?_⟩) (by assumption) ?_);rotate_left
      ·(intro w aB;(try dsimp only at aB);go_simp;first|done|with_reducible rfl)
      (try simp only[Act.put,Zrs,Zrt,Zru]);(refine ZrR (i:=2) (v:=?_) rfl (by kernel_rfl) (fun _ _ _ h=>h) (Or.inl ⟨by rfl,?_⟩) (by assumption) ?_);rotate_left
      ·(intro w aB;(try dsimp only at aB);go_simp;first|done|with_reducible rfl)
      (try simp only[Act.put,Zrs,Zrt,Zru]);(refine ZrR (i:=3) (v:=?_) rfl (by kernel_rfl) (fun _ _ _ h=>h) (Or.inl ⟨by rfl,?_⟩) (by assumption) ?_);rotate_left
      ·(intro w aB;(try dsimp only at aB);go_simp;first|done|with_reducible rfl)
      (try simp only[Act.put,Zrs,Zrt,Zru]);(refine ZrR (i:=4) (v:=?_) rfl (by kernel_rfl) (fun _ _ _ h=>h) (Or.inl ⟨by rfl,?_⟩) (by assumption) ?_);rotate_left
      ·(intro w aB;(try dsimp only at aB);go_simp;first|done|with_reducible rfl)
      (try simp only[Act.put,Zrs,Zrt,Zru]);(refine ZrR (i:=6) (v:=?_) rfl (by kernel_rfl) (fun _ _ _ h=>h) (Or.inl ⟨by rfl,?_⟩) (by assumption) ?_);rotate_left
      ·(intro w aB;(try dsimp only at aB);go_simp;first|done|with_reducible rfl)
      (try simp only[Act.put,Zrs,Zrt,Zru]);(refine ZrR (i:=7) (v:=?_) rfl (by kernel_rfl) (fun _ _ _ h=>h) (Or.inl ⟨by rfl,?_⟩) (by assumption) ?_);rotate_left
      ·(intro w aB;(try dsimp only at aB);go_simp;first|done|with_reducible rfl)
      (try simp only[Act.put,Zrs,Zrt,Zru]);(refine ZrR (i:=8) (v:=?_) rfl (by kernel_rfl) (fun _ _ _ h=>h) (Or.inl ⟨by rfl,?_⟩) (by assumption) ?_);rotate_left
      ·(intro w aB;(try dsimp only at aB);go_simp;first|done|with_reducible rfl)
      (try simp only[Act.put,Zrs,Zrt,Zru]);(refine ZrR (i:=9) (v:=?_) rfl (by kernel_rfl) (fun _ _ _ h=>h) (Or.inl ⟨by rfl,?_⟩) (by assumption) ?_);rotate_left
      ·(intro w aB;(try dsimp only at aB);go_simp;first|done|with_reducible rfl)
      (try simp only[Act.put,Zrs,Zrt,Zru]);clear hT;(refine wpAnyH_ready (rs:=[5,10]) (by kernel_rfl) (by simp) ?_);(refine ZlG rfl rfl (fun K hK=>?_) (fun K hK=>?_));(rw[if_pos (by rfl)]);go_simp;(refine hK.out _ _ trivial (fun hT=>?_))
      (clear hT hK K)
      (try simp only[Act.put,Zrs,Zrt,Zru]);(refine wpAnyH_ready (rs:=[10]) (by kernel_rfl) (by simp) ?_);(refine ZaW rfl (fun K hK=>?_));(rw[if_pos (by rfl)]);go_simp;(refine hK.out _ _ trivial (fun hT=>?_))
      (clear hT hK K)
      (try simp only[Act.put,Zrs,Zrt,Zru]);refine ?hRest2;rotate_left;(rw[if_pos (by rfl)]);go_simp;(refine hK.out _ _ trivial (fun hT=>?_))
      (clear hT hK K)
      (try simp only[Act.put,Zrs,Zrt,Zru]);(refine wpAnyH_ready (rs:=[5]) (by kernel_rfl) (by simp) ?_);(refine ZaW rfl (fun K hK=>?_));(rw[if_pos (by rfl)]);go_simp;(refine hK.out _ _ trivial (fun hT=>?_))
      (clear hT hK K)
      (try simp only[Act.put,Zrs,Zrt,Zru]);exact ?hRest2;have hT:True:=trivial;(refine ZrR (i:=11) (v:=?_) rfl (by kernel_rfl) (fun _ _ _ h=>h) (Or.inl ⟨by rfl,?_⟩) (by assumption) ?_);rotate_left
      ·(intro w aB;(try dsimp only at aB);go_simp;first|done|with_reducible rfl)
      (try simp only[Act.put,Zrs,Zrt,Zru]);clear hT;(refine wpAnyH_ready (rs:=[12]) (by kernel_rfl) (by simp) ?_);(refine ZaW rfl (fun K hK=>?_))
      ((rw[if_pos (by rfl)]);go_simp;(refine hK.out _ _ trivial (fun hT=>?_));clear hT)
      (clear hK K)
      (try simp only[Act.put,Zrs,Zrt,Zru]);(refine wpAnyH_ready (rs:=[13]) (by kernel_rfl) (by simp) ?_);(refine ZaW rfl (fun K hK=>?_))
      ((rw[if_pos (by rfl)]);refine wp_append_own _ _ _ 23 rfl (w.heap.size+1) 78 iv (.agg #[.int .i64 0,.int .i64 0,.int .i64 0]) 3 24 Tryz.underlying23 dN cP cI dM rfl (by decide) _ _ _ rfl df ⟨W1.heap.size,0,none⟩ 1 1 [.int .i64 (A:Nat),.int .i64 (B:Nat),.int .i64 0] rfl rfl aG aH (by unfold maxLen;omega) (by omega) (by simp;omega) ?_;intro v10 jB e8 gR _;(refine hK.out _ _ trivial (fun hT=>?_));clear hT)
      (clear hK K)
      (try simp only[Act.put,Zrs,Zrt,Zru]);obtain⟨g1,g2,g3⟩:=ZaM _ dS.out eD.out gJ.out gC.out (by decide) gR;have hT:True:=trivial;(refine ZrR (i:=14) (v:=?_) rfl (by kernel_rfl) (fun _ _ _ h=>h) (Or.inl ⟨by rfl,?_⟩) (by assumption) ?_);rotate_left
      ·(intro w aB;(try dsimp only at aB);go_simp;first|done|with_reducible rfl)
      (try simp only[Act.put,Zrs,Zrt,Zru]);clear hT;(refine wpAnyH_done (by kernel_rfl) ?_ _)
      obtain⟨t6,c10,rfl⟩:∃g cp,v10= .slice (some ⟨g,0,none⟩) (st.t.length+1) cp:=by
       rcases ZaT e8 with ⟨_,h0⟩|h
       ·omega
       ·exact h
      obtain⟨tl,eH⟩:∃tl,tl=st.t.length:=⟨_,rfl⟩;rw[←eH]at e8 ⊢;have htlb:tl≤1024:=by omega
      have e5:(tl:Int)+1 - 1=(tl:Int):=by omega
      have w5:IntKind.i64.wrap (tl:Int)=(tl:Int):=IntWalk.i64_in _ (by omega);have dw:(p2:Int)≤co:=by omega
      have fM:p2≤co:=by omega
      have pB:∀b,some (⟨go,0,none⟩:Addr)=some b→∀j u,((st.op.take p2).map ZbP)[j]? =some u→(jB.alloc (.cells #[.int .i64 (tl:Nat)] 3)).cell? (b.add j)=some u:=fun b hb j u hj=>by
       obtain rfl:=Option.some.inj hb
       have hju:(st.op.map ZbP)[j]? =some u:=by
        rw[List.map_take]at hj;rw[List.getElem?_take]at hj
        split at hj
        ·exact hj
        ·cases hj
       exact(g3.alloc (.cells #[.int .i64 (tl:Nat)] 3)).cells (g:=go) rfl j u hju
      have zO:((st.op.take p2).map ZbP).length=p2*1:=by rw[List.length_map,List.length_take];have:=lG.out;omega
      have hN10:w.heap.size+1≤jB.heap.size:=by have:=(Zrv g2).1;omega
      have g1':=Zrr g1;have vj:=Zrr g2;have oy:=Zrr e8;replace eH:=Zrr eH;clear gR df aG aH g1 g2 g3 e8 dS eD gC gJ
      go_wp2_with (at_builtin;(refine wpList_append_grows _ rfl _ _ 76 rfl 3 i0 (.int .i64 0) 1 8 Tryz.underlying76 bz bH aj av rfl (by decide) (some ⟨go,0,none⟩) p2 p2 ((st.op.take p2).map ZbP) rfl (fun h=>by cases h) zO pB ⟨jB.heap.size,0,none⟩ 1 1 [.int .i64 (tl:Nat)] rfl rfl (Zao _ _ _ _ rfl) (by simp[Value.oneCell']) (by omega) (by unfold maxLen;omega) (by omega) ?_;intro v12 tX oz o7;obtain⟨q1,q2,q3⟩:=ZoV _ g1'.out vj.out oy.out o7;have aA:Hid (PaI w S bs ⟨t,[t.length - 1],0⟩ (pos+1) ⟨st.t++[⟨(A:Nat),(B:Nat),0⟩],st.op.take (st.op.length - 2)++[st.t.length],st.nu⟩ (.slice (some ⟨t6,0,none⟩) (tl+1) c10) v12 tX):=Zrr ⟨q1,q2,Zak q3 (by simp[eH.out]) (by rw[Zat]),Zak (Zd6 oz (by simp;omega)) (by simp[List.length_take];have:=lG.out;have:=gH.out;omega) (by rw[gH.out,eH.out];simp[ZbP]),(by rw[bE];exact cG.out),hp,⟨by simp;omega,by simp[List.length_take];omega,by show st.nu<10000;omega⟩⟩))
      clear o7 oz q1 q2 q3 pB zO;go_wp2_with fail;go_roundw
      case rel=>exact⟨pos+1,⟨st.t++[⟨(A:Nat),(B:Nat),0⟩],st.op.take (st.op.length - 2)++[st.t.length],st.nu⟩,rfl,aA⟩
      case measure=>simp only[World.iterPos,aA.out.it,eW];omega
    ·rw[if_neg vr]at aM
     have fM:c=40∨c=32:=by
      by_cases h:c=40∨c=32
      ·exact h
      ·rw[if_neg h]at aM;cases aM
     rw[if_pos fM]at aM;obtain rfl:=Option.some.inj aM;have aA:Hid (PaI w S bs ⟨t,[t.length - 1],0⟩ (pos+1) st u4 u5 (wr.iterAt w.heap.size S (pos+1))):=Zrr ⟨k1,k2,k3,k4,by rw[bE];exact cV,hp,by omega⟩;clear hI k1 k2 k3 k4 nU cV hd vr;rcases fM with rfl|rfl
     ·simp only[show (40:UInt8).toNat=40 from rfl]at eN
      go_wp2_with fail;go_roundw
      case rel=>exact⟨pos+1,st,rfl,aA⟩
      case measure=>simp only[World.iterPos,aA.out.it,eW];omega
     ·simp only[show (32:UInt8).toNat=32 from rfl]at eN
      go_wp2_with fail;go_roundw
      case rel=>exact⟨pos+1,st,rfl,aA⟩
      case measure=>simp only[World.iterPos,aA.out.it,eW];omega
  ·have cH:¬ pos<S.size:=by rw[ac.out];exact hp
   have eN:=fun ty=>Lib.run_next_end_at (P:=Tryz.prog) wr w.heap.size S pos ty hI.out.it cH
   have hpe:pos=bs.length:=by have:=hI.out.le;omega
   have hrn:=hI.out.run;rw[hpe,List.drop_length,L.pRun]at hrn;obtain rfl:=Option.some.inj hrn
   obtain⟨g,cp,rfl,hg⟩:∃g cp,u4= .slice (some ⟨g,0,none⟩) t.length cp∧w.heap.size+1≤g:=by
    have h1:=hI.out.rt;obtain⟨_,⟨_,h0⟩|⟨g,cap,cur,h2,h3,_⟩⟩:=h1
    ·have:t.length=0:=h0
     omega
    ·exact⟨g,cap,h2,h3⟩
   have mi:Zag wr g 0 t:=fun j u hj=>by have:=hI.out.rt.cells (g:=g) rfl j u hj;rwa [Addr.add_lit]at this
   have qp:=ZfN (cap:=cp) mi hc hT (by rw[gq];omega) (hP.same (hI.out.bel.block _ hP.lt));rw[gq,←hS.out]at qp;have oT:=Zrr hI.out.bel;replace mi:=Zrr mi;have hSS:(S !=S)=false:=Zqu S;clear hI;go_wp2_with fail;refine qp.mono ?_;rintro e w5 ⟨rfl,ah⟩;have aa:Hid (Zag w5 g 0 t∧Below w.heap.size w w5):=Zrr ⟨mi.out.below ah,oT.out.trans (ah.mono oT.out.size)⟩;clear qp ah;go_wp2_with fail;go_ret2;exact⟨g,cp,rfl,by omega,aa.out.1,aa.out.2⟩
theorem Zh2{T:L.Tr}{w:World}(hn:T.vars.Nodup)(hr:∀v∈T.vars,1≤v∧v≤128)(hs:T.size≤255)(hP:Zaz w) :
  Calls Tryz.prog 25 #[.string ⟨(L.prT T).toArray⟩] w fun e w'=>∃g cap,e= .returned (.tuple #[.slice (some ⟨g,0,none⟩) (T.post 0).length cap,.int .i64 0])∧w.heap.size≤g∧Zag w' g 0 (T.post 0)∧Below w.heap.size w w' :=
 ZkU rfl (L.prT_ascii T hr) (by have:=L.prT_len T;have:=T.size_vars;omega) (by rw[L.parse_print T hr,L.Tr.post_len]) (L.post_check hn hr hs) (L.isT_root hr) rfl hP
end Go.Proofs.YtemnmcfmabamcaaGreatDoor
