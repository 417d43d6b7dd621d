import Derived.Test.YtemnmcfmabamcaaGreatDoorYVrm
set_option linter.unusedSimpArgs false
set_option linter.unusedVariables false
set_option maxRecDepth 100000
set_option maxHeartbeats 8000000
section
namespace Go.Proofs.YtemnmcfmabamcaaGreatDoor
open Go Go.RowKit Go.Shelf
def ZeV (kd n:Nat)(T:L.Tr)(w:World)(e:Ending)(w':World):Prop:=Below w.heap.size w w'∧((L.mvT kd n T 0=none∧e= .returned (.tuple #[.slice none 0 0,.int .i64 1])) ∨
 ∃(U:L.Tr) (g cp:Nat),L.mvT kd n T 0=some U∧e= .returned (.tuple #[.slice (some ⟨g,0,none⟩) (U.post 0).length cp,.int .i64 0])∧Zag w' g 0 (U.post 0)∧w.heap.size≤g)
theorem ZmG{T:L.Tr}{l:List Int}(hT:ZbI T l){kd n:Nat}{w w':World}{e:Ending}(h:Zbo kd (T.post 0) (n:Nat) w e w'):ZeV kd n T w e w':=by
 obtain⟨hb,⟨hc,he⟩|⟨hc,n',T',U,g,cp,e1,e2,hT',hM,he,jb,eE⟩⟩:=h
 ·refine⟨hb,.inl ⟨?_,he⟩⟩
  cases hU:L.mvT kd n T 0 with
  | none=>rfl
  | some U =>
    have:=Zjz (L.mvT_can T U 0 [] [] (t:=T.post 0) (by simp) rfl hU);rw[hc]at this;cases this
 ·obtain rfl:n=n':=by omega
  obtain rfl:=hT'.uniq hT.root;exact⟨hb,.inr ⟨U,g,cp,(L.mvT_post _ _).2 hM,he,jb,eE⟩⟩
theorem Zja{T:L.Tr}{l:List Int}(hT:ZbI T l){w:World}{b o cap:Nat}(ht:Zag w b o (T.post 0))(n kd:Nat)(hk:1≤kd∧kd≤3) :
  Calls Tryz.prog 79 #[.slice (some ⟨b,o,none⟩) (T.post 0).length cap,.agg #[.int .i64 (n:Nat),.int .i64 (kd:Nat)]] w (ZeV kd n T w):=by
 have aF:=(ZrE w.heap.size w).alloc (ZrQ _) (.cells #[.int .i64 (n:Nat),.int .i64 (kd:Nat)] 46);have aK:=Zrz w (.cells #[.int .i64 (n:Nat),.int .i64 (kd:Nat)] 46);obtain⟨w1,fX⟩:∃w1,w1=w.alloc (.cells #[.int .i64 (n:Nat),.int .i64 (kd:Nat)] 46):=⟨_,rfl⟩;rw[←fX]at aF aK;have c0:w1.cell? ⟨w.heap.size,0,none⟩=some (.int .i64 (n:Nat)):=by rw[World.cell?,aK];rfl
 have c1:w1.cell? ⟨w.heap.size,1,none⟩=some (.int .i64 (kd:Nat)):=by rw[World.cell?,aK];rfl
 have dB:=ht.below aF;have q1:kd=1→Calls Tryz.prog 107 #[.slice (some ⟨b,o,none⟩) (T.post 0).length cap,.int .i64 (n:Nat)] w1 (Zbo kd (T.post 0) (n:Nat) w1):=fun e=>by rw[e];exact Zk0 dB hT.chk
 have q2:kd=2→Calls Tryz.prog 108 #[.slice (some ⟨b,o,none⟩) (T.post 0).length cap,.int .i64 (n:Nat)] w1 (Zbo kd (T.post 0) (n:Nat) w1):=fun e=>by rw[e];exact ZmJ dB hT.chk
 have q3:kd=3→Calls Tryz.prog 109 #[.slice (some ⟨b,o,none⟩) (T.post 0).length cap,.int .i64 (n:Nat)] w1 (Zbo kd (T.post 0) (n:Nat) w1):=fun e=>by rw[e];exact ZmL dB hT.chk
 have fin:∀(e:Ending) (w2:World),Zbo kd (T.post 0) (n:Nat) w1 e w2→ZeV kd n T w1 e w2∧ZeV kd n T w e w2:=fun e w2 h=>by
  obtain⟨g1,g2⟩:=ZmG hT h;exact⟨⟨g1,g2⟩,aF.trans (g1.mono aF.size),g2.imp id fun ⟨U,g,cp,a1,a2,a3,a4⟩=>⟨U,g,cp,a1,a2,a3,ZrC aF.size a4⟩⟩
 obtain⟨m,hm⟩:∃m,m=(T.post 0).length:=⟨_,rfl⟩;rw[←hm]at q1 q2 q3 ⊢;replace hm:=Zrr hm;replace fin:=Zrr fin;replace aF:=Zrr aF;replace dB:=Zrr dB;rw[fX]at c0 c1;clear aK;rcases (by omega:kd=1∨kd=2∨kd=3) with e|e|e
 ·have d1:((kd:Int) ==1)=true:=by rw[beq_iff_eq];omega
  replace q1:=q1 e;clear e q2 q3
  go_enter Tryz.func79,Tryz.ntmps79
  go_wp2_with fail
  try rw[←fX]
  refine q1.mono ?_;intro e w2 hr;obtain⟨uZ,hf⟩:=fin.out e w2 hr;replace hf:=Zrr hf;obtain⟨_,⟨_,rfl⟩|⟨_,_,_,_,rfl,_⟩⟩:=uZ
  all_goals
   clear q1 hr;go_wp2_with fail;go_ret2;exact hf.out
 ·have d1:((kd:Int) ==1)=false:=by rw[beq_eq_false_iff_ne];omega
  have d2:((kd:Int) ==2)=true:=by rw[beq_iff_eq];omega
  replace q2:=q2 e;clear e q1 q3
  go_enter Tryz.func79,Tryz.ntmps79
  go_wp2_with fail
  try rw[←fX]
  refine q2.mono ?_;intro e w2 hr;obtain⟨uZ,hf⟩:=fin.out e w2 hr;replace hf:=Zrr hf;obtain⟨_,⟨_,rfl⟩|⟨_,_,_,_,rfl,_⟩⟩:=uZ
  all_goals
   clear q2 hr;go_wp2_with fail;go_ret2;exact hf.out
 ·have d1:((kd:Int) ==1)=false:=by rw[beq_eq_false_iff_ne];omega
  have d2:((kd:Int) ==2)=false:=by rw[beq_eq_false_iff_ne];omega
  replace q3:=q3 e;clear e q1 q2
  go_enter Tryz.func79,Tryz.ntmps79
  go_wp2_with fail
  try rw[←fX]
  refine q3.mono ?_;intro e w2 hr;obtain⟨uZ,hf⟩:=fin.out e w2 hr;replace hf:=Zrr hf;obtain⟨_,⟨_,rfl⟩|⟨_,_,_,_,rfl,_⟩⟩:=uZ
  all_goals
   clear q3 hr;go_wp2_with fail;go_ret2;exact hf.out
theorem ZmC{T:L.Tr}{l:List Int}(hT:ZbI T l)(bts:Nat){F:List Bool}(hF:F=L.tabO l (mdφ l bts (2 ^ l.length))){w:World}{b o cap:Nat}{vf:Value}(ht:Zag w b o (T.post 0))(hf:TabAt w vf F)(i:Nat)(hi:i≤1000) :
  Calls Tryz.prog 45 #[.slice (some ⟨b,o,none⟩) (T.post 0).length cap,vf,.int .i64 (i:Nat),.int .i64 (L.sizeTr T l F:Nat)] w fun e w'=>∃g o' cp,e= .returned (.tuple #[.slice (some ⟨g,o',none⟩) ((L.bestT l F T i).1.post 0).length cp,.int .i64 ((L.bestT l F T i).2.1:Nat),.int .i64 ((L.bestT l F T i).2.2:Nat)])∧Zag w' g o' ((L.bestT l F T i).1.post 0)∧Below w.heap.size w w'∧(g=b∨w.heap.size≤g):=by
 rw[←Zfh]
 have qs:=fun (U:L.Tr) (hU:ZbI U l) (W:World) (hb:Below w.heap.size w W) (g c:Nat) (zx:Zag W g 0 (U.post 0))=>by
  have:=ZfP hU bts (c:=c) zx (vf:=vf) (by rw[←hF];exact hf.below hb);rw[←hF]at this;exact this
 have qm:=fun (kd:Nat) (hk:1≤kd∧kd≤3) (W:World) (hb:Below w.heap.size w W)=>Zja (cap:=cap) hT (ht.below hb) i kd hk
 obtain⟨m,hm⟩:∃m,m=(T.post 0).length:=⟨_,rfl⟩;obtain⟨sz,ac⟩:∃sz,sz=L.sizeTr T l F:=⟨_,rfl⟩;rw[←hm]at qm ⊢;rw[←ac];replace qs:=Zrr qs;replace qm:=Zrr qm;replace hf:=Zrr hf;have h0:Hid (m=((ZaB l F T i 0).1.post 0).length∧Zag w b o ((ZaB l F T i 0).1.post 0)∧Below w.heap.size w w∧(b=b∨w.heap.size≤b)):=Zrr ⟨hm,ht,ZrE _ _,.inl rfl⟩;have bH:Hid (sz=(ZaB l F T i 0).2.1):=Zrr ac;clear ht hm ac
 go_enter Tryz.func45,Tryz.ntmps45
 go_wp2_with fail
 go_loopw [3,11,12,13] (fun zv ov kv iv wr=>∃(k kd z c g o' cp m:Nat),Hid (kd=k+1)∧1≤kd∧kd≤4∧iv= .int .i64 (kd:Nat)∧zv= .int .i64 (z:Nat)∧kv= .int .i64 (c:Nat)∧ov= .slice (some ⟨g,o',none⟩) m cp∧Hid (z=(ZaB l F T i k).2.1)∧Hid (c=(ZaB l F T i k).2.2)∧Hid (m=((ZaB l F T i k).1.post 0).length∧Zag wr g o' ((ZaB l F T i k).1.post 0)∧Below w.heap.size w wr∧(g=b∨w.heap.size≤g))) (fun _ _ _ iv _=>4 - (intOf iv).toNat)
 case atStart=>exact⟨0,1,sz,0,b,o,cap,m,Zrr rfl,by omega,by omega,rfl,rfl,rfl,rfl,bH,Zrr rfl,Zrr ⟨h0.out.1,h0.out.2.1,h0.out.2.2.1,.inl rfl⟩⟩
 case round =>
  clear h0 bH;obtain⟨k,kd,z,c,g,o',cp,m',dE,li,yx,rfl,rfl,rfl,rfl,hz,hc,hI⟩:=hrel
  by_cases aD:kd≤3
  ·have dlt:decide ((kd:Int)≤3)=true:=ZrI (by omega)
   have q1:=qm.out kd ⟨li,aD⟩ wr hI.out.2.2.1;go_wp2_with fail;refine q1.mono ?_;rintro e w2 ⟨aL,⟨cz,rfl⟩|⟨U,gU,cpU,hU,rfl,zw,hgU⟩⟩
   ·have aA:Hid (ZaB l F T i (k+1)=ZaB l F T i k):=Zrr (ZcB (by rw[←dE.out];exact cz) F)
    have qO:Hid (m'=((ZaB l F T i k).1.post 0).length∧Zag w2 g o' ((ZaB l F T i k).1.post 0)∧Below w.heap.size w w2∧(g=b∨w.heap.size≤g)):=Zrr ⟨hI.out.1,hI.out.2.1.below aL,hI.out.2.2.1.trans (aL.mono hI.out.2.2.1.size),hI.out.2.2.2⟩;clear q1;go_wp2_with fail;go_roundw
    case rel=>exact⟨k+1,kd+1,z,c,g,o',cp,m',Zrr (by rw[dE.out]),by omega,by omega,by go_num,rfl,rfl,rfl,by rw[aA.out];exact hz,by rw[aA.out];exact hc,by rw[aA.out];exact qO⟩
    case measure=>simp[intOf];omega
   ·have ec:ZbI U l:=by
     obtain⟨g1,g2⟩:=L.mvT_perm _ _ _ hU;exact hT.perm g1 g2
    have qH:=hI.out.2.2.1.trans (aL.mono hI.out.2.2.1.size);have hgU2:w.heap.size≤gU:=ZrC hI.out.2.2.1.size hgU;have q2:=qs.out U ec w2 qH gU cpU zw;have q3:=fun W (hb:Below w2.heap.size w2 W)=>qs.out U ec W (qH.trans (hb.mono qH.size)) gU cpU (zw.below hb)
    have qO:Hid (m'=((ZaB l F T i k).1.post 0).length∧Zag w2 g o' ((ZaB l F T i k).1.post 0)∧Below w.heap.size w w2∧(g=b∨w.heap.size≤g)):=Zrr ⟨hI.out.1,hI.out.2.1.below aL,qH,hI.out.2.2.2⟩;obtain⟨sU,eC⟩:∃sU,sU=L.sizeTr U l F:=⟨_,rfl⟩;obtain⟨mU,hmU⟩:∃mU,mU=(U.post 0).length:=⟨_,rfl⟩;rw[←hmU]at q2 q3 ⊢;rw[←eC]at q2 q3;replace eC:=Zrr eC;replace hmU:=Zrr hmU;replace hU:=Zrr hU;replace zw:=Zrr zw;replace q3:=Zrr q3;clear q1 hI;go_wp2_with fail;refine q2.mono ?_;rintro e w3 ⟨rfl,aU⟩
    by_cases hlz:sU<z
    ·have dz:decide ((sU:Int)<(z:Int))=true:=ZrI (by omega)
     have q3':=q3.out w3 aU;have p7:Hid (ZaB l F T i (k+1)=(U,sU,kd)):=Zrr (by rw[Zc2 (by rw[←dE.out];exact hU.out) F (by rw[←eC.out,←hz.out];exact hlz),eC.out,dE.out]);clear q2;go_wp2_with fail;refine q3'.mono ?_;rintro e w4 ⟨rfl,aw⟩
     have en:Hid (mU=(U.post 0).length∧Zag w4 gU 0 (U.post 0)∧Below w.heap.size w w4∧(gU=b∨w.heap.size≤gU)):=Zrr (by
      have b3:=qO.out.2.2.1.trans (aU.mono qO.out.2.2.1.size);exact⟨hmU.out,(zw.out.below aU).below aw,b3.trans (aw.mono b3.size),.inr hgU2⟩)
     clear q3';go_wp2_with fail;go_roundw
     case rel=>exact⟨k+1,kd+1,sU,kd,gU,0,cpU,mU,Zrr (by rw[dE.out]),by omega,by omega,by go_num,rfl,rfl,rfl,by rw[p7.out];exact Zrr rfl,by rw[p7.out];exact Zrr rfl,by rw[p7.out];exact en⟩
     case measure=>simp[intOf];omega
    ·have dz:decide ((sU:Int)<(z:Int))=false:=ZrH (by omega)
     have uq:Hid (ZaB l F T i (k+1)=ZaB l F T i k):=Zrr (ZdU (by rw[←dE.out];exact hU.out) F (by rw[←eC.out,←hz.out];exact hlz));have hI3:Hid (m'=((ZaB l F T i k).1.post 0).length∧Zag w3 g o' ((ZaB l F T i k).1.post 0)∧Below w.heap.size w w3∧(g=b∨w.heap.size≤g)):=Zrr ⟨qO.out.1,qO.out.2.1.below aU,qO.out.2.2.1.trans (aU.mono qO.out.2.2.1.size),qO.out.2.2.2⟩;clear q2;go_wp2_with fail;go_roundw
     case rel=>exact⟨k+1,kd+1,z,c,g,o',cp,m',Zrr (by rw[dE.out]),by omega,by omega,by go_num,rfl,rfl,rfl,by rw[uq.out];exact hz,by rw[uq.out];exact hc,by rw[uq.out];exact hI3⟩
     case measure=>simp[intOf];omega
  ·have dlt:decide ((kd:Int)≤3)=false:=ZrH (by omega)
   have rD:k=3:=by have:=dE.out;omega
   go_wp2_with fail;go_ret3;subst rD;exact⟨g,o',cp,by rw[←hz.out,←hc.out,←hI.out.1];rfl,hI.out.2.1,hI.out.2.2.1,hI.out.2.2.2⟩
structure RsI (w0:World) (l:List Int) (s:L.Tr × List (Nat × Nat)) (g o:Nat) (v:Value) (w:World):Prop where
 bel:Below w0.heap.size w0 w
 tree:Zag w g o (s.1.post 0)
 ok:ZbI s.1 l
 row:w.ownsRow w0.heap.size 46 2 v s.2.length (ZbL s.2)
 lt:g<w.heap.size
 apart:∀k,v.ownBlock=some k→k≠g
def Zpd (T:L.Tr)(l:List Int)(F:List Bool)(k:Nat)(w:World)(e:Ending)(w':World):Prop:=∃(g o cp:Nat) (v:Value),e= .returned (.tuple #[.slice (some ⟨g,o,none⟩) ((L.searchT l F (T.post 0).length k (T,[])).1.post 0).length cp,v]) ∧
 RsI w l (L.searchT l F (T.post 0).length k (T,[])) g o v w'
section
variable {w0 w w':World}{l:List Int}{s:L.Tr × List (Nat × Nat)}{g o:Nat}{v:Value}
theorem RsI.below(h:RsI w0 l s g o v w)(hb:Below w.heap.size w w'):RsI w0 l s g o v w' :=
 ⟨h.bel.trans (hb.mono h.bel.size),h.tree.below hb,h.ok,Zaa h.row fun k hk=>hb.block k (Zap h.row hk).1,ZrD h.lt hb.size,h.apart⟩
theorem RsI.turn{U:L.Tr}{g' o':Nat}(h:RsI w0 l s g o v w)(hU:ZbI U l)(ht:Zag w g' o' (U.post 0))(aD:g'<w.heap.size)(hg:∀k,v.ownBlock=some k→k≠g'):RsI w0 l (U,s.2) g' o' v w :=
 ⟨h.bel,ht,hU,h.row,aD,hg⟩
theorem RsI.push{m:Nat × Nat}{gv cp:Nat}(h:RsI w0 l s g o v w)(hg:w.grownBy w' v.ownBlock)(ho:w'.ownsRow w0.heap.size 46 2 (.slice (some ⟨gv,0,none⟩) (s.2.length+1) cp) (s.2.length+1) (ZbL s.2++[.int .i64 (m.1:Nat),.int .i64 (m.2:Nat)]))(hgv:v.ownBlock=some gv∨gv=w.heap.size) :
  RsI w0 l (s.1,s.2++[m]) g o (.slice (some ⟨gv,0,none⟩) (s.2.length+1) cp) w':=by
 have aD:=h.lt;refine⟨Below.grown h.bel hg h.bel.size fun k e=>Zay h.row e,fun j u hj=>?_,h.ok,Zak ho (by simp) (ZcH _ _).symm,ZrD aD hg.size,fun k hk=>?_⟩
 ·rw[World.cell?_of_block (w:=w) (hg.block g aD (fun e=>h.apart g e.symm rfl))]
  exact h.tree j u hj
 ·obtain rfl:gv=k:=Option.some.inj hk
  rcases hgv with e|e
  ·exact h.apart gv e
  ·omega
end
theorem Zoq:(Tryz.prog.info? 46).map (fun i=>(i.zero,i.size,i.bytes))=some (some (.agg #[.int .i64 0,.int .i64 0]),2,16):=by kernel_rfl
theorem Zjb{t:List VN}{T:L.Tr}{l:List Int}{bts k b o c:Nat}{F:List Bool}(hF:F=L.tabO l (mdφ l bts (2 ^ l.length))){w:World}{vf:Value}(ht:Zag w b o t)(hI:L.IsT L.idc t (t.length - 1) T)(eH:t.length≤255)(hT:ZbI T l)(hf:TabAt w vf F)(hk:k≤100) :
  Calls Tryz.prog 16 #[.slice (some ⟨b,o,none⟩) t.length c,vf,.int .i64 (k:Nat)] w (Zpd T l F k w):=by
 have q1:=Zi6 (c:=c) ht hI eH (by have:=hT.small;omega)
 have qs:=fun (W:World) (hb:Below w.heap.size w W) (g c:Nat) (zx:Zag W g 0 (T.post 0))=>by
  have:=ZfP hT bts (c:=c) zx (vf:=vf) (by rw[←hF];exact hf.below hb);rw[←hF]at this;exact this
 have qb:=fun (U:L.Tr) (hU:ZbI U l) (W:World) (hb:Below w.heap.size w W) (g o c i:Nat) (hi:i≤1000) (zx:Zag W g o (U.post 0))=>ZmC hU bts hF (cap:=c) zx (hf.below hb) i hi
 have n7:=hT.len;unfold Zpd;obtain⟨n,hn⟩:∃n,n=(T.post 0).length:=⟨_,rfl⟩;have hn7:n≤7:=by omega
 rw[←hn]at q1 qs ⊢;obtain⟨E,hE⟩:∃E,E=L.searchT l F n k (T,[]):=⟨_,rfl⟩;rw[←hE];replace hn:=Zrr hn;replace hE:=Zrr hE;replace qs:=Zrr qs;replace qb:=Zrr qb;clear hf ht
 go_enter Tryz.func16,Tryz.ntmps16
 go_wp2_with fail;refine q1.mono ?_;rintro e w1 ⟨g1,c1,rfl,dB,jl,aF⟩;have q2:=qs.out w1 aF g1 c1 dB;obtain⟨sz,ac⟩:∃sz,sz=L.sizeTr T l F:=⟨_,rfl⟩;rw[←ac]at q2;replace ac:=Zrr ac
 have yz:g1<w1.heap.size:=by
  have:=Zrx w1 _ (dB.node (k:=0) (by rw[L.Tr.post_len];exact T.pos)).1;exact this
 have cC:Hid (RsI w l (T,[]) g1 0 (.slice none 0 0) w1):=Zrr ⟨aF,dB,hT,World.ownsRow_nil _ _ _ _,yz,fun k hk=>by cases hk⟩;clear q1 dB aF jl yz;go_wp2_with fail;refine q2.mono ?_;rintro e w2 ⟨rfl,aL⟩;have bB:Hid (RsI w l (T,[]) g1 0 (.slice none 0 0) w2):=Zrr (cC.out.below aL);clear q2 cC;go_wp2_with fail
 go_loopw [0,8,9,10] (fun tv zv mv iv wr=>∃(j:Nat) (s:L.Tr × List (Nat × Nat)) (g o cp m z:Nat) (ba:Option Addr) (bc:Nat),j≤k∧iv= .int .i64 (j:Nat)∧tv= .slice (some ⟨g,o,none⟩) n cp∧mv= .slice ba m bc∧zv= .int .i64 (z:Nat)∧Hid (m=s.2.length)∧Hid (z=L.sizeTr s.1 l F)∧Hid (n=(s.1.post 0).length)∧m≤7*j∧Hid (L.searchT l F n (k - j) s=E)∧Hid (RsI w l s g o (.slice ba m bc) wr)) (fun _ _ _ iv _=>k - (intOf iv).toNat)
 case atStart=>exact⟨0,(T,[]),g1,0,c1,0,sz,none,0,by omega,rfl,rfl,rfl,rfl,Zrr rfl,ac,hn,by omega,Zrr (by rw[hE.out,Nat.sub_zero]),bB⟩
 case round =>
  clear bB;obtain⟨j,s,g,o2,cp,m,z,ba,bc,hj,rfl,rfl,rfl,rfl,hm,hz,bN,cY,pL,hS⟩:=hrel
  by_cases aD:j<k
  ·have dlt:decide ((j:Int)<(k:Int))=true:=ZrI (by omega)
   have h0:Hid (RsI w l s g o2 (.slice ba m bc) wr):=hS;clear hS;go_wp2_with fail
   go_loopw [0,8,9,12] (fun tv zv mv iv wr=>∃(i:Nat) (s':L.Tr × List (Nat × Nat)) (g o cp m' z:Nat) (ba:Option Addr) (bc:Nat),i≤n∧iv= .int .i64 (i:Nat)∧tv= .slice (some ⟨g,o,none⟩) n cp∧mv= .slice ba m' bc∧zv= .int .i64 (z:Nat)∧Hid (m'=s'.2.length)∧Hid (z=L.sizeTr s'.1 l F)∧Hid (n=(s'.1.post 0).length)∧m'≤7*j+i∧Hid (s'=(List.range i).foldl (L.stepT l F) s)∧Hid (RsI w l s' g o (.slice ba m' bc) wr)) (fun _ _ _ iv _=>n - (intOf iv).toNat)
   case atStart=>exact⟨0,s,g,o2,cp,m,z,ba,bc,by omega,rfl,rfl,rfl,rfl,hm,hz,bN,by omega,Zrr rfl,h0⟩
   case round =>
    clear h0;obtain⟨i,s',g,o2,cp,m',z,ba,bc,hi,rfl,rfl,rfl,rfl,gS,hz,bN,jO,i7,hS⟩:=hrel
    by_cases sf:i<n
    ·have dli:decide ((i:Int)<(n:Int))=true:=ZrI (by omega)
     have tT:=qb.out s'.1 hS.out.ok wr hS.out.bel g o2 cp i (by omega) hS.out.tree;have gO:=L.bestT_ok l F s'.1 i;have ar:L.stepT l F s' i=if 0<(L.bestT l F s'.1 i).2.2 then ((L.bestT l F s'.1 i).1,s'.2++[(i,(L.bestT l F s'.1 i).2.2)]) else s':=rfl
     have nj:ZbI (L.bestT l F s'.1 i).1 l∧(L.bestT l F s'.1 i).1.size=s'.1.size:=by
      by_cases h0:0<(L.bestT l F s'.1 i).2.2
      ·obtain⟨_,g2,_⟩:=gO.some h0
       obtain⟨p1,p2⟩:=L.mvT_perm _ _ _ g2;exact⟨hS.out.ok.perm p1 p2,p2⟩
      ·rw[(gO.none (by omega)).1];exact⟨hS.out.ok,rfl⟩
     obtain⟨⟨U,sU,kd⟩,hb⟩:∃b,b=L.bestT l F s'.1 i:=⟨_,rfl⟩;rw[←hb]at tT gO ar nj;have eC:sU=L.sizeTr U l F:=gO.sz
     have dE:kd≤3:=by
      by_cases h0:0<kd
      ·exact(gO.some h0).1
      ·omega
     simp only at tT ar nj;have hnU:n=(U.post 0).length:=by rw[bN.out,L.Tr.post_len,L.Tr.post_len,nj.2]
     rw[←hz.out,←bN.out,←hnU]at tT;replace hnU:=Zrr hnU;replace eC:=Zrr eC;replace hb:=Zrr hb;replace ar:=Zrr ar;replace nj:=Zrr nj;clear gO;go_wp2_with fail;refine tT.mono ?_;rintro e w3 ⟨g3,o3,c3,rfl,nW,aU,bP⟩;have fL:=hS.out.below aU;have zg:∀k,(Value.slice ba m' bc).ownBlock=some k→k<wr.heap.size:=fun k hk=>(Zap hS.out.row hk).1
     clear tT hS
     by_cases lh:0<kd
     ·have dk:decide ((kd:Int) > 0)=true:=ZrI (by omega)
      have dk':decide ((0:Int)<(kd:Int))=true:=ZrI (by omega);have rH:g3<w3.heap.size:=Zrx w3 _ (nW.node (k:=0) (by rw[L.Tr.post_len];exact U.pos)).1
      have dK:=fL.turn nj.out.1 nW rH (fun k hk e=>by
       rcases bP with h|h
       ·exact fL.apart k hk (by omega)
       ·have:=zg k hk
        omega)
      obtain⟨iv,dN,cP,cI,dM⟩:=info_parts Zoq;have bO:=dK.below ((ZrE w3.heap.size w3).alloc (ZrQ _) (.cells #[.int .i64 (i:Nat),.int .i64 (kd:Nat)] 46));have dY:=Zak bO.row (show _=m' from gS.out.symm) rfl;obtain⟨yb,jD⟩:∃yb,w3.heap.size=yb:=⟨_,rfl⟩;have aG:=World.news_of_block (cs:=#[.int .i64 (i:Nat),.int .i64 (kd:Nat)]) (t:=46) (fr:=(0,0)) (w:=w3.alloc (.cells #[.int .i64 (i:Nat),.int .i64 (kd:Nat)] 46)) (B:=yb) (by rw[←jD];exact Zrz w3 (.cells #[.int .i64 (i:Nat),.int .i64 (kd:Nat)] 46));have aH:∀u∈[Value.int .i64 (i:Nat),.int .i64 (kd:Nat)],u.oneCell'=true:=by simp[Value.oneCell']
      have jt:w.heap.size≤(w3.alloc (.cells #[.int .i64 (i:Nat),.int .i64 (kd:Nat)] 46)).heap.size:=bO.bel.size;have hnU':Hid (n=(U.post 0).length):=hnU;replace bO:=Zrr bO;clear fL dK zg nW rH bP
      go_wp2_with (at_builtin;(refine wpList_append_lies _ rfl _ _ 37 rfl w.heap.size 46 iv _ 2 16 Tryz.underlying37 dN cP cI dM rfl (by decide) _ m' (ZbL s'.2) rfl dY ⟨yb,0,none⟩ 1 1 [.int .i64 (i:Nat),.int .i64 (kd:Nat)] rfl rfl aG aH (by omega) (by unfold maxLen;omega) (by omega) jt _ rfl ?_);intro g8 cp8 w9 pA wM yi _;have iA:=bO.out.push (m:=(i,kd)) (gv:=g8) (cp:=cp8) wM (by simp only[←gS.out];exact pA) yi;simp only[←gS.out]at iA;replace iA:=Zrr iA;clear wM pA yi dY aG jt bO)
      exact⟨⟨i+1,(U,s'.2++[(i,kd)]),g3,o3,c3,m'+1,sU,some ⟨g8,0,none⟩,cp8,by omega,rfl,rfl,rfl,rfl,Zrr (by rw[gS.out];simp),eC,hnU',by omega,Zrr (by rw[List.range_succ,List.foldl_append,←i7.out,List.foldl_cons,List.foldl_nil,ar.out,if_pos lh]),iA⟩,by simp[intOf];omega⟩
     ·have dk:decide ((kd:Int) > 0)=false:=ZrH (by omega)
      have dk':decide ((0:Int)<(kd:Int))=false:=ZrH (by omega);replace fL:=Zrr fL;clear nW aU bP;go_wp2_with fail;go_roundw
      case rel=>exact⟨i+1,s',g,o2,cp,m',z,ba,bc,by omega,by go_num,rfl,rfl,rfl,gS,hz,bN,by omega,Zrr (by rw[List.range_succ,List.foldl_append,←i7.out,List.foldl_cons,List.foldl_nil,ar.out,if_neg lh]),fL⟩
      case measure=>simp[intOf];omega
    ·have dli:decide ((i:Int)<(n:Int))=false:=ZrH (by omega)
     obtain rfl:i=n:=by omega
     have ij:s'=L.passT l F i s:=i7.out;have hkj:k - j=(k - (j+1))+1:=by omega
     have aH:=pL.out;rw[hkj]at aH;unfold L.searchT at aH;simp only[←ij]at aH;replace ij:=Zrr ij
     by_cases jy:m'=m
     ·have dmm:((m':Int) ==(m:Int))=true:=by rw[beq_iff_eq];omega
      have pQ:Hid (s'=E):=Zrr (by rw[if_pos (by have a:=gS.out;have b:=hm.out;omega)]at aH;exact aH);clear aH;subst jy;go_wp2_with fail;go_ret2;rw[←pQ.out];exact⟨g,o2,cp,_,by rw[←bN.out];rfl,hS.out⟩
     ·have dmm:((m':Int) ==(m:Int))=false:=by rw[beq_eq_false_iff_ne];omega
      have pM:Hid (L.searchT l F i (k - (j+1)) s'=E):=Zrr (by rw[if_neg (by have a:=gS.out;have b:=hm.out;omega)]at aH;exact aH);clear aH;go_wp2_with fail;go_roundw
      case rel=>exact⟨j+1,s',g,o2,cp,m',z,ba,bc,by omega,by go_num,rfl,rfl,rfl,gS,hz,bN,by omega,pM,hS⟩
      case measure=>simp[intOf];omega
  ·have dlt:decide ((j:Int)<(k:Int))=false:=ZrH (by omega)
   have pQ:Hid (s=E):=Zrr (by
    have:=pL.out;rw[show k - j=0 by omega]at this;exact this)
   go_wp2_with fail;go_ret2;rw[←pQ.out];exact⟨g,o2,cp,_,by rw[←bN.out];rfl,hS.out⟩
end Go.Proofs.YtemnmcfmabamcaaGreatDoor
end
