import Derived.Lib.AtoiErrMem
import Derived.Test.YtemnmcfmabamcaaGreatDoorYVpost2
set_option linter.unusedSimpArgs false
set_option linter.unusedVariables false
set_option maxRecDepth 100000
set_option maxHeartbeats 4000000
namespace Go.Proofs.YtemnmcfmabamcaaGreatDoor
open Go Go.RowKit Go.Shelf
theorem ZnF:((List.range 257).all fun k=>Lib.atoi (Lib.itoa ((k:Int) - 128)) ==some ((k:Int) - 128))=true:=by kernel_rfl
theorem ZnH(v:Int)(h:-128≤v∧v≤128):Lib.atoi (Lib.itoa v)=some v:=by
 have:=List.all_eq_true.1 ZnF (v+128).toNat (List.mem_range.2 (by omega));rw[show (((v+128).toNat:Int) - 128)=v by omega]at this;simpa using this
theorem ZnG(v:Int)(h:-128≤v∧v≤128)(w:World):Calls Tryz.prog 92 #[.string ⟨(Lib.itoa v).toArray⟩] w fun e w'=>e= .returned (.tuple #[.int .i64 v,.nilIface])∧Below w.heap.size w w':=by
 have hs:=(L.itoa_small v h).2;refine(Any.strconv_Atoi Tryz.laysAtoi ⟨(Lib.itoa v).toArray⟩ v (by simp[ByteArray.size];omega) (by simpa using ZnH v h) w).mono ?_;rintro e w' ⟨rfl,s,rfl⟩;exact⟨rfl,Lib.bytesWorld_below _ _ _⟩
structure OvC (wa:World) (u:List VN) (s:St) (sbk x o1 osb k:Nat) (so:St) (m:List (Nat × Nat)) (w:World):Prop where
 bel:Below wa.heap.size wa w
 bs:w.heap[x]? =some (.cells #[.pointer (some ⟨sbk,0,none⟩)] 28 (0,0))
 bo:w.heap[o1]? =some (.cells #[.pointer (some ⟨osb,0,none⟩)] 28 (0,0))
 be:w.heap[o1+1]? =some (.cells #[.int .i64 0] 31 (0,0))
 mp:ZaI Zad Zad w (o1+2) (asc m)
 bm:w.heap[o1+3]? =some (.cells #[.map (some (o1+2))] 62 (0,0))
 bt:w.heap[o1+4]? =some (.cells #[.func (.func 90) #[] #[.pointer (some ⟨o1+3,0,none⟩),.pointer (some ⟨o1+1,0,none⟩),.pointer (some ⟨x,0,none⟩),.pointer (some ⟨o1,0,none⟩),.pointer (some ⟨o1+4,0,none⟩)]] 124 (0,0))
 sp:∃B,B.sb=osb∧Rep B so w∧∀j∈B.mut,wa.heap.size≤j∧j≠o1+2
 room:L.Room so k
 tree:so.tree=u
 ok:∀a r,asc m a=some r→Val so r fun y=>L.sem s.nodes a y
 two:(asc m 0).isSome=true∧(asc m 1).isSome=true
 at_:wa.heap.size≤x∧wa.heap.size≤o1
 glob:Zdm<wa.heap.size∧gTz<wa.heap.size
def Zbl (w w':World):Prop:=w.heap.size≤w'.heap.size∧∀(k:Nat) (c:Array Value) (e:TypeId) (fz:Nat × Nat),w.heap[k]? =some (.cells c e fz)→e≠Zbd→e≠ZaD→e≠31→w'.heap[k]? =some (.cells c e fz)
theorem Zbl.refl(w:World):Zbl w w:=⟨ZrQ _,fun _ _ _ _ h _ _ _=>h⟩
theorem Zbl.trans{a b c:World}(h:Zbl a b)(k:Zbl b c):Zbl a c:=⟨ZrC h.1 k.1,fun i x e f hi h1 h2 h3=>k.2 i x e f (h.2 i x e f hi h1 h2 h3) h1 h2 h3⟩
theorem Zbl.below{w w':World}(h:Below w.heap.size w w'):Zbl w w':=⟨h.size,fun k _ _ _ hk _ _ _=>(h.block k (Zrv hk).1).trans hk⟩
section
variable {wa:World}{u:List VN}{s:St}{sbk x o1 osb k:Nat}{so:St}{m:List (Nat × Nat)}{w:World}
theorem OvC.next{w':World}(h:OvC wa u s sbk x o1 osb k so m w)(hb:Below w.heap.size w w'):OvC wa u s sbk x o1 osb k so m w':=by
 have hk:∀(j:Nat) (o:Obj),w.heap[j]? =some o→w'.heap[j]? =some o:=fun j o hj=>(hb.block j (Zrv hj).1).trans hj
 obtain⟨B,b1,b2,b3⟩:=h.sp
 exact { bel:=h.bel.trans (hb.mono h.bel.size),bs:=hk _ _ h.bs,bo:=hk _ _ h.bo,be:=hk _ _ h.be,mp:=h.mp.same (hb.block _ h.mp.lt),bm:=hk _ _ h.bm,bt:=hk _ _ h.bt,
         sp:=⟨B,b1,b2.below hb,b3⟩,room:=h.room,tree:=h.tree,ok:=h.ok,two:=h.two,at_:=h.at_,glob:=h.glob }
theorem OvC.ssAt(h:OvC wa u s sbk x o1 osb k so m w){B:Zar}(hR:Rep B so w):SS u B w k so w:=⟨⟨B,hR,Stp.refl _ _ _⟩,h.room,h.tree⟩
theorem OvC.did{w':World}{B:Zar}{p8:St}(h:OvC wa u s sbk x o1 osb k so m w)(hB:B.sb=osb)(hR:Rep B so w)(hm:∀j∈B.mut,wa.heap.size≤j∧j≠o1+2)(hS:SS u B w k p8 w')(hT:L.Step so p8) :
  OvC wa u s sbk x o1 osb k p8 m w'∧Zbl w w':=by
 obtain⟨B',tm,gL⟩:=hS.held;obtain⟨b1,b2,b3⟩:=Stp.behind (ZrE wa.heap.size w) (fun j hj=>(hm j hj).1) h.bel.size gL
 have aN:∀(j:Nat) (c:Array Value) (e:TypeId) (fz:Nat × Nat),w.heap[j]? =some (.cells c e fz)→e≠Zbd→e≠ZaD→w'.heap[j]? =some (.cells c e fz):=fun j c e fz hj h1 h2 =>
  (hS.block (Zrv hj).1 (hR.not_mut hj h1 h2)).trans hj
 have hmp:w'.heap[o1+2]? =w.heap[o1+2]?:=hS.block h.mp.lt (fun hj=>(hm _ hj).2 rfl)
 refine⟨{ bel:=h.bel.trans b1,bs:=aN _ _ _ _ h.bs (by decide) (by decide),bo:=aN _ _ _ _ h.bo (by decide) (by decide),be:=aN _ _ _ _ h.be (by decide) (by decide),mp:=h.mp.same hmp,bm:=aN _ _ _ _ h.bm (by decide) (by decide),bt:=aN _ _ _ _ h.bt (by decide) (by decide),
           sp:=⟨B',gL.sb.trans hB,tm,fun j hj=>⟨b2 j hj,fun e=>?_⟩⟩,room:=hS.room,tree:=hS.tree,ok:=fun a r ha=>(h.ok a r ha).step h.room.inv hT,two:=h.two,at_:=h.at_,glob:=h.glob },⟨hS.size,fun j c e fz hj h1 h2 _=>aN j c e fz hj h1 h2⟩⟩
 rcases gL.new j hj with h'|h'
 ·exact(hm j h').2 e
 ·have:=h.mp.lt;omega
theorem OvC.setE(h:OvC wa u s sbk x o1 osb k so m w):OvC wa u s sbk x o1 osb k so m (w.setCell ⟨o1+1,0,none⟩ (.int .i64 0))∧Zbl w (w.setCell ⟨o1+1,0,none⟩ (.int .i64 0)):=by
 have hg:=h.glob;have fU:=h.at_;have aJ:∀(j:Nat) (o:Obj),j≠o1+1→w.heap[j]? =some o→(w.setCell ⟨o1+1,0,none⟩ (.int .i64 0)).heap[j]? =some o:=fun j o hj hh=>(Below.heap_setCell _ _ _ _ (by simpa using hj)).trans hh
 have gk:(w.setCell ⟨o1+1,0,none⟩ (.int .i64 0)).heap[o1+1]? =some (.cells #[.int .i64 0] 31 (0,0)):=Zaj h.be 0 _;have hx:x≠o1+1:=fun e=>by have h1:=h.bs;rw[e,h.be]at h1;simp at h1
 obtain⟨B,b1,b2,b3⟩:=h.sp
 refine⟨{ bel:=h.bel.setCell (show wa.heap.size≤o1+1 by omega) _,bs:=aJ _ _ hx h.bs,bo:=aJ _ _ (by omega) h.bo,be:=gk,mp:=h.mp.same (Below.heap_setCell _ _ _ _ (by simp)),bm:=aJ _ _ (by omega) h.bm,bt:=aJ _ _ (by omega) h.bt,
           sp:=⟨B,b1,b2.grownT h.be (by decide) (by decide) (by decide) (by decide) ⟨by omega,by omega⟩ aJ,b3⟩,room:=h.room,tree:=h.tree,ok:=h.ok,two:=h.two,at_:=h.at_,glob:=h.glob },⟨by simp[World.setCell],fun j c e fz hj _ _ h3=>?_⟩⟩
 refine aJ j _ (fun e'=>?_) hj;rw[e',h.be]at hj;simp at hj;exact h3 hj.2.1.symm
theorem OvC.put{a r:Nat}(h:OvC wa u s sbk x o1 osb k so m w)(hv:Val so r fun y=>L.sem s.nodes a y) :
  (Instr.mapUpdate 62 (.map (some (o1+2))) (.int .i64 (a:Nat)) (.int .i64 (r:Nat))).run Tryz.prog w= .ok () (Zas 3 Tryz.prog w (o1+2) (Zad a) (Zad r)) ∧
  OvC wa u s sbk x o1 osb k so ((a,r) :: m) (Zas 3 Tryz.prog w (o1+2) (Zad a) (Zad r))∧Zbl w (Zas 3 Tryz.prog w (o1+2) (Zad a) (Zad r)):=by
 obtain⟨hp,hM⟩:=h.mp.putI a r;have hg:=h.glob;have fU:=h.at_;have bK:∀j,j≠o1+2→(Zas 3 Tryz.prog w (o1+2) (Zad a) (Zad r)).heap[j]? =w.heap[j]?:=fun j hj=>Zan _ _ _ _ _ j hj
 obtain⟨p1,p2,p3,_⟩:=Za6 (P:=Tryz.prog) 3 w (o1+2) (Zad a) (Zad r);have ac:(Zas 3 Tryz.prog w (o1+2) (Zad a) (Zad r)).heap.size=w.heap.size:=Zaw _ _ _ _ _;obtain⟨Lm,cl,hb,_⟩:=h.mp;have hx:x≠o1+2:=fun e=>by have h1:=h.bs;rw[e,hb]at h1;simp at h1
 obtain⟨B,b1,b2,b3⟩:=h.sp
 have hok':∀a' r',asc ((a,r) :: m) a'=some r'→Val so r' fun y=>L.sem s.nodes a' y:=fun a' r' ha=>by
  rw[ZaH]at ha;unfold upd at ha
  split at ha
  ·rename_i e
   cases ha
   rw[e];exact hv
  ·exact h.ok a' r' ha
 have htw':(asc ((a,r) :: m) 0).isSome=true∧(asc ((a,r) :: m) 1).isSome=true:=by
  obtain⟨h0,h1⟩:=h.two;rw[ZaH];unfold upd
  constructor <;> split <;> simp_all
 have eN:OvC wa u s sbk x o1 osb k so ((a,r) :: m) (Zas 3 Tryz.prog w (o1+2) (Zad a) (Zad r)):={ bel:=⟨p1.trans h.bel.os,p2.trans h.bel.tape,p3.trans h.bel.output,by rw[ac];exact h.bel.size,fun j hj=>(bK j (by omega)).trans (h.bel.block j hj)⟩,bs:=(bK _ hx).trans h.bs,bo:=(bK _ (by omega)).trans h.bo,be:=(bK _ (by omega)).trans h.be,mp:=hM,bm:=(bK _ (by omega)).trans h.bm,bt:=(bK _ (by omega)).trans h.bt,sp:=⟨B,b1,b2.offMap hb (fun hj=>(b3 _ hj).2 rfl) ⟨by omega,by omega⟩ bK,b3⟩,room:=h.room,tree:=h.tree,ok:=hok',two:=htw',at_:=h.at_,glob:=h.glob };exact⟨hp,eN,by rw[ac];exact ZrQ _,fun j c e fz hj _ _ _=>(bK j (fun e'=>by rw[e',hb]at hj;simp at hj)).trans hj⟩
theorem OvC.cells(h:OvC wa u s sbk x o1 osb k so m w):w.cell? ⟨x,0,none⟩=some (.pointer (some ⟨sbk,0,none⟩))∧w.cell? ⟨o1,0,none⟩=some (.pointer (some ⟨osb,0,none⟩))∧w.cell? ⟨o1+1,0,none⟩=some (.int .i64 0)∧w.frozen? ⟨o1+1,0,none⟩=false∧w.cell? ⟨o1+3,0,none⟩=some (.map (some (o1+2))) ∧
  w.cell? ⟨o1+4,0,none⟩=some (.func (.func 90) #[] #[.pointer (some ⟨o1+3,0,none⟩),.pointer (some ⟨o1+1,0,none⟩),.pointer (some ⟨x,0,none⟩),.pointer (some ⟨o1,0,none⟩),.pointer (some ⟨o1+4,0,none⟩)]):=by
 refine⟨?_,?_,?_,?_,?_,?_⟩
 ·rw[World.cell?,h.bs];rfl
 ·rw[World.cell?,h.bo];rfl
 ·rw[World.cell?,h.be];rfl
 ·simp[World.frozen?,h.be]
 ·rw[World.cell?,h.bm];rfl
 ·rw[World.cell?,h.bt];rfl
end
def Zq4 (wa:World)(u:List VN)(s:St)(sbk x o1 osb k a:Nat):Prop:=∀(so:St) (m:List (Nat × Nat)) (w:World),OvC wa u s sbk x o1 osb k so m w→a<s.nodes.length →
 Calls Tryz.prog 90 #[.int .i64 (a:Nat),.pointer (some ⟨o1+3,0,none⟩),.pointer (some ⟨o1+1,0,none⟩),.pointer (some ⟨x,0,none⟩),.pointer (some ⟨o1,0,none⟩),.pointer (some ⟨o1+4,0,none⟩)] w
  fun e w'=>∃r p8 m',e= .returned (.int .i64 (r:Nat))∧OvC wa u s sbk x o1 osb k p8 m' w'∧L.Step so p8∧(Val p8 r fun y=>L.sem s.nodes a y)∧Zbl w w'
def Zlk (wa:World)(u:List VN)(s:St)(sbk x o1 osb k:Nat)(n:Zac)(so:St)(w:World)(j r:Nat)(wr:World):Prop :=
 ∃p8 m',OvC wa u s sbk x o1 osb k p8 m' wr∧L.Step so p8∧(Val p8 r fun y=>(n.el.take j).any fun p=>L.sem s.nodes p.1 y && L.sem s.nodes p.2 y)∧Zbl w wr
theorem Zoj{wa:World}{t u:List VN}{s:St}{B1:Zar}{k1 x o1 osb k:Nat}(hs:SS t B1 wa k1 s wa)(h7:u.length≤7)(gV:∀v,ZdI t v→ZdI u v):∀n a,a<n→Zq4 wa u s B1.sb x o1 osb k a:=by
 intro N'
 induction N' with
 | zero=>intro a ha;omega
 | succ N ih =>
   intro a ha so m w hC lV;obtain⟨c0,c1,c2,xC,c3,c4⟩:=hC.cells
   cases hm:asc m a with
   | some r =>
     have bD:(Instr.lookup 62 (.map (some (o1+2))) (.int .i64 a) true).run Tryz.prog w= .ok (.tuple #[.int .i64 (r:Nat),.bool true]) w:=by
      have:=hC.mp.lookI a;rw[hm]at this;exact this
     have hv:=hC.ok a r hm;replace hC:=Zrr hC;replace hm:=Zrr hm
     go_enter Tryz.func90,Tryz.ntmps90
     go_wp2_with fail;go_ret;exact⟨r,so,m,rfl,hC.out,L.Step.refl hC.out.room.inv,hv,Zbl.refl _⟩
   | none =>
     have bD:(Instr.lookup 62 (.map (some (o1+2))) (.int .i64 a) true).run Tryz.prog w= .ok (.tuple #[.int .i64 0,.bool false]) w:=by
      have:=hC.mp.lookI a;rw[hm]at this;exact this
     obtain⟨n,hn⟩:∃n,s.nodes[a]? =some n:=⟨_,Zry lV⟩
     have po:2≤a:=by
      rcases Nat.lt_or_ge a 2 with h|h
      ·have:a=0∨a=1:=by omega
       rcases this with rfl|rfl
       ·have:=hC.two.1;rw[hm]at this;cases this
       ·have:=hC.two.2;rw[hm]at this;cases this
      ·exact h
     have vE:=hs.below hC.bel;have qe:=Zkr vE hn;have hk:=hs.inv.ok a n po hn;replace vE:=Zrr vE;replace hC:=Zrr hC;replace hm:=Zrr hm;replace hn:=Zrr hn
     go_enter Tryz.func90,Tryz.ntmps90
     go_wp2_with fail;refine qe.mono ?_;rintro e w1 ⟨ba,cp,rfl,hP,aF⟩;have ce:=hC.out.next aF;obtain⟨c0,c1,c2,xC,c3,c4⟩:=ce.cells;clear qe;rcases hk with hk|hk
     ·have mD:L.tx s.nodes a=Lib.itoa n.lit:=by
       rw[L.tx_node hs.inv.kids hn.out,if_pos hk.el,if_pos hk.lit]
      have jL:ZdI t (n.lit.natAbs:Int):=by
       obtain⟨u',y,_,h1,h2,h3⟩:=hk.leaf;rw[hs.tree]at h1;exact⟨u',y,h1,h2,h3⟩
      have gn:=jL.range;have d0:((n.el.length:Int) ==0)=true:=by rw[hk.el];rfl
      have hel0:n.el.length=0:=by rw[hk.el];rfl
      have qt:=Zo0 (vE.out.below aF) lV;rw[mD]at qt;replace ce:=Zrr ce;clear hP;rw[hel0]at *;go_wp2_with fail;refine qt.mono ?_;rintro e w2 ⟨rfl,aL⟩;have cL:=ce.out.next aL;have qa:=ZnG n.lit (by omega) w2;clear qt;replace cL:=Zrr cL;go_wp2_with fail;refine qa.mono ?_;rintro e w3 ⟨rfl,aU⟩;have fK:=cL.out.next aU;obtain⟨B,hB,hR,m8⟩:=fK.sp;have ql:=Zn8 (l:=n.lit) (fK.ssAt hR) (gV _ jL);rw[hB]at ql;obtain⟨e0,e1,e2,e2f,e3,e4⟩:=fK.cells;have nY:=(Zbl.below aF).trans ((Zbl.below aL).trans (Zbl.below aU));clear qa;replace fK:=Zrr fK;replace hB:=Zrr hB;replace hR:=Zrr hR;replace m8:=Zrr m8;replace nY:=Zrr nY;go_wp2_with fail;refine ql.mono ?_;rintro e w4 ⟨r4,tU,rfl,dK,mx,tO⟩;obtain⟨kD,ww⟩:=fK.out.did hB.out hR.out m8.out dK mx;obtain⟨hZ,tW⟩:=kD.setE;obtain⟨g0,g1,g2,g2f,g3,g4⟩:=kD.cells;have gB:Val tU r4 fun y=>L.sem s.nodes a y:=tO.congr fun y=>(hs.inv.semLit hn.out hk y).symm
      obtain⟨iQ,cM,rz⟩:=hZ.put gB;obtain⟨k0,dS,k2,k2f,k3,k4⟩:=hZ.cells;have ik:=Zrr (show OvC wa u s B1.sb x o1 osb k tU ((a,r4) :: m) _∧L.Step so tU∧(Val tU r4 fun y=>L.sem s.nodes a y)∧Zbl w _ from ⟨cM,mx,gB,((nY.out.trans ww).trans tW).trans rz⟩);clear ql dK fK hR hB m8 kD hZ cM nY ww tW rz tO gB hC ce cL aF aL aU mx;go_wp2_with fail;generalize rk:w4.setCell ⟨o1+1,0,none⟩ (.int .i64 0)=w5 at *;clear rk g0 g1 g2 g2f g3 g4 e0 e1 e2 e2f e3 e4 c0 c1 c2 xC c3 c4
      go_loopw [12,61] (fun bv i wr=>bv= .int .i64 (r4:Nat)∧i= .int .i64 0∧wr=w5) (fun _ _ _=>0)
      case atStart=>exact⟨rfl,rfl,rfl⟩
      case round =>
       obtain⟨rfl,rfl,rfl⟩:=hrel;go_wp2_with fail;go_ret;obtain⟨q1,q2,q3,q4⟩:=ik.out;exact⟨r4,tU,_,rfl,q1,q2,q3,q4⟩
     ·have aJ:n.el≠[]:=fun e=>by
       obtain⟨_,_,_,_,_,_,_,_,_,hp⟩:=hk.parts;have:=hp.two;rw[e]at this;simp at this
      have aX:0<n.el.length:=List.length_pos_iff.2 aJ;have d0:((n.el.length:Int) ==0)=false:=by simp;omega
      obtain⟨Bs,lS,_⟩:=hs.held;have helm:n.el.length≤1048576:=(lS.small.2 n (List.mem_of_getElem? hn.out)).2.2.2.2.1;have nH:=Zrr (hs.inv.kids a n hn.out);obtain⟨gp,csp,rfl,_,oe,hcp⟩:=hP.resolve_left aJ;have xV:∀(c:Array Value) (w:World),(callFunc 90 c).run Tryz.prog w= .ok (.enter 90 c) w:=fun c w=>by simp[go_sem,Tryz.func90]
      have h0:Hid (Zlk wa u s B1.sb x o1 osb k n so w1 0 0 w1):=Zrr ⟨so,m,ce,L.Step.refl ce.room.inv,(by
       have hz:=ce.room.inv;exact⟨by have:=hz.len;omega,fun y=>by rw[hz.sem0];rfl⟩),Zbl.refl _⟩
      have st1:=Zrr (Zbl.below aF);replace oe:=Zrr oe;replace hcp:=Zrr hcp;replace ce:=Zrr ce;clear c0 c1 c2 xC c3 c4 lS;go_wp2_with fail
      go_loopw [12,61] (fun bv i wr=>∃(j r:Nat),j≤n.el.length∧bv= .int .i64 (r:Nat)∧i= .int .i64 (j:Nat)∧Hid (Zlk wa u s B1.sb x o1 osb k n so w1 j r wr)) (fun _ i _=>n.el.length - (intOf i).toNat)
      case atStart=>exact⟨0,0,by omega,rfl,rfl,h0⟩
      case round =>
       clear h0;obtain⟨j,r,hj,rfl,rfl,hI⟩:=hrel;obtain⟨soj,mj,xP,hTj,hvj,stj⟩:=hI.out;clear hI
       by_cases aD:j<n.el.length
       ·have dlt:decide ((j:Int)<(n.el.length:Int))=true:=ZrI (by omega)
        have mt:Zcp wr (.slice (some ⟨gp,0,none⟩) n.el.length cp) n.el:=⟨_,cp,rfl,.inr ⟨gp,0,rfl,csp,(0,0),stj.2 _ _ _ _ oe.out (by decide) (by decide) (by decide),hcp.out⟩⟩;obtain⟨_,_,ee,cO⟩:=mt.lens
        cases ee
        obtain⟨_,_,ee,e0,e1⟩:=cO j aD
        cases ee
        rw[Nat.zero_add]at e0 e1;have dE:=nH.out _ (ZrM aD);have mh:n.el.take (j+1)=n.el.take j++[n.el[j]]:=by rw[List.take_add_one,Zry aD];rfl
        generalize n.el[j]=pp at *;obtain⟨p1,p2⟩:=pp;simp only at e0 e1 dE mh;have i0:(0:Int)≤j:=by omega
        have i1:(j:Int)<n.el.length:=by omega
        have fg:=(ZrE wr.heap.size wr).alloc (ZrQ _) (.cells #[.int .i64 (p1:Nat),.int .i64 (p2:Nat)] 130);have hpx:=Zrz wr (.cells #[.int .i64 (p1:Nat),.int .i64 (p2:Nat)] 130);have aL:Below wr.heap.size wr (wr.alloc (.cells #[.int .i64 (p1:Nat),.int .i64 (p2:Nat)] 130)).drew:=fg.trans ((ZrE _ _).drew.mono fg.size);have cL:=xP.next aL;have p9:=Zrr (stj.trans (Zbl.below aL));have rR:(wr.alloc (.cells #[.int .i64 (p1:Nat),.int .i64 (p2:Nat)] 130)).drew.heap[wr.heap.size]? =_:=hpx;obtain⟨k0,dS,k2,k2f,k3,k4⟩:=cL.cells;obtain⟨b0,b1⟩:=Zah hpx;replace cL:=Zrr cL;replace rR:=Zrr rR;replace mh:=Zrr mh;clear fg aL xP stj mt cO hpx;go_wp2_with fail;(refine wp_region_held_drew (S:=(fun W=>W.cell? ⟨o1+4,0,none⟩=some (.func (.func 90) #[] #[.pointer (some ⟨o1+3,0,none⟩),.pointer (some ⟨o1+1,0,none⟩),.pointer (some ⟨x,0,none⟩),.pointer (some ⟨o1,0,none⟩),.pointer (some ⟨o1+4,0,none⟩)])∧W.cell? ⟨wr.heap.size,0,none⟩=some (.int .i64 (p1:Nat))∧W.cell? ⟨wr.heap.size,1,none⟩=some (.int .i64 (p2:Nat)))) (by kernel_rfl) ?_ (fun aE=>?_))
        ·exact⟨k4,b0,b1⟩
        (refine ZrR (i:=0) (v:=?_) rfl (by kernel_rfl) (fun _ _ _ h=>h) (Or.inl ⟨by rfl,?_⟩) (by assumption) ?_);rotate_left
        ·(intro w aB;(try dsimp only at aB);go_simp;first|done|with_reducible rfl)
        (try simp only[Act.put,Zrs,Zrt,Zru]);(refine ZrR (i:=1) (v:=?_) rfl (by kernel_rfl) (fun _ _ _ h=>h) (Or.inl ⟨by rfl,?_⟩) (by assumption) ?_);rotate_left
        ·(intro w aB;(try dsimp only at aB);go_simp;first|done|with_reducible rfl)
        (try simp only[Act.put,Zrs,Zrt,Zru]);(refine ZrR (i:=2) (v:=?_) rfl (by kernel_rfl) (fun _ _ _ h=>h) (Or.inl ⟨by rfl,?_⟩) (by assumption) ?_);rotate_left
        ·(intro w aB;(try dsimp only at aB);go_simp;first|done|with_reducible rfl)
        (try simp only[Act.put,Zrs,Zrt,Zru]);(refine ZrR (i:=4) (v:=?_) rfl (by kernel_rfl) (fun _ _ _ h=>h) (Or.inl ⟨by rfl,?_⟩) (by assumption) ?_);rotate_left
        ·(intro w aB;(try dsimp only at aB);go_simp;first|done|with_reducible rfl)
        (try simp only[Act.put,Zrs,Zrt,Zru]);(refine ZrR (i:=5) (v:=?_) rfl (by kernel_rfl) (fun _ _ _ h=>h) (Or.inl ⟨by rfl,?_⟩) (by assumption) ?_);rotate_left
        ·(intro w aB;(try dsimp only at aB);go_simp;first|done|with_reducible rfl)
        (try simp only[Act.put,Zrs,Zrt,Zru]);(refine ZrR (i:=6) (v:=?_) rfl (by kernel_rfl) (fun _ _ _ h=>h) (Or.inl ⟨by rfl,?_⟩) (by assumption) ?_);rotate_left
        ·(intro w aB;(try dsimp only at aB);go_simp;first|done|with_reducible rfl)
        (try simp only[Act.put,Zrs,Zrt,Zru]);generalize (wr.alloc (.cells #[.int .i64 (p1:Nat),.int .i64 (p2:Nat)] 130)).drew=w2 at *;generalize wr.heap.size=px at *;(refine wpAnyH_ready (rs:=[3]) (by kernel_rfl) (by simp) ?_);(refine ZaW rfl (fun K hK=>?_))
        ·(rw[if_pos (by rfl)])
         go_simp;refine(ih p1 (by omega) _ _ _ cL.out (by omega)).mono ?_;rintro e w5 ⟨ra,tV,m5,rfl,hZ,kL,va,tW⟩;have pH:=tW.2 _ _ _ _ rR.out (by decide) (by decide) (by decide);obtain⟨q0,q1,q2,q2f,q3,q4⟩:=hZ.cells;obtain⟨b0',b1'⟩:=Zah pH;(refine hK.out _ _ ⟨q4,b0',b1'⟩ (fun aE=>?_));clear hK K;(try simp only[Act.put,Zrs,Zrt,Zru]);have hq:=ih p2 (by omega) _ _ _ hZ (by omega);replace hZ:=Zrr hZ;replace pH:=Zrr pH;(refine wpAnyH_ready (rs:=[7]) (by kernel_rfl) (by simp) ?_);(refine ZaW rfl (fun K hK=>?_))
         ((rw[if_pos (by rfl)]);go_simp;refine hq.mono ?_;rintro e w6 ⟨rb,so6,m6,rfl,cM,xy,vb,rz⟩;obtain⟨z0,z1,z2,z2f,z3,z4⟩:=cM.cells;obtain⟨b0'',b1''⟩:=Zah (rz.2 _ _ _ _ pH.out (by decide) (by decide) (by decide));refine hK.out _ _ ⟨z4,b0'',b1''⟩ (fun aE=>?_))
         (clear hK K)
         (try simp only[Act.put,Zrs,Zrt,Zru]);(refine ZrR (i:=8) (v:=?_) rfl (by kernel_rfl) (fun _ _ _ h=>h) (Or.inl ⟨by rfl,?_⟩) (by assumption) ?_);rotate_left
         ·(intro w aB;(try dsimp only at aB);go_simp;first|done|with_reducible rfl)
         (try simp only[Act.put,Zrs,Zrt,Zru]);(refine ZrR (i:=9) (v:=?_) rfl (by kernel_rfl) (fun _ _ _ h=>h) (Or.inl ⟨by rfl,?_⟩) (by assumption) ?_);rotate_left
         ·(intro w aB;(try dsimp only at aB);go_simp;first|done|with_reducible rfl)
         (try simp only[Act.put,Zrs,Zrt,Zru]);(refine wpAnyH_done (by kernel_rfl) ?_ _);have va:=va.step hZ.out.room.inv xy;have xz:=(hTj.trans kL).trans xy;have st6':=Zrr ((p9.out.trans tW).trans rz);have vr6:=(hvj.step cL.out.room.inv kL).step hZ.out.room.inv xy;clear aE hq q0 q1 q2 q2f q3 q4 b0' b1' b0'' b1'' b0 b1 k0 dS k2 k2f k3 k4 tW rz kL xy pH rR p9 cL hZ;obtain⟨B,hB,hR,m8⟩:=cM.sp;have r8:=cM.ssAt hR;have qa:=ZnB (k':=k) (c:=0) r8 (Zbm r8.chk h7).1 (by omega) va vb;rw[hB]at qa;have yq:=cM.room.inv;replace cM:=Zrr cM;replace hB:=Zrr hB;replace hR:=Zrr hR;replace m8:=Zrr m8;replace vr6:=Zrr vr6;clear r8 va vb;go_wp2_with fail;refine qa.mono ?_;rintro e w7 ⟨r7,so7,rfl,fT,hT7,v7⟩;obtain⟨gX,st7⟩:=cM.out.did hB.out hR.out m8.out fT hT7;obtain⟨td,st8⟩:=gX.setE;have vr7:=vr6.out.step yq hT7;clear qa hB hR m8 cM z0 z1 z2 z2f z3 z4;obtain⟨B,hB,hR,m8⟩:=td.sp;have r8:=td.ssAt hR;have qo:=Zrl (k':=k) (c:=0) (d:=0) r8 (Zbm r8.chk h7).1 (Zbm r8.chk h7).2 (by omega) vr7 v7;rw[hB]at qo;obtain⟨g0,g1,g2,g2f,g3,g4⟩:=gX.cells;obtain⟨z0,z1,z2,z2f,z3,z4⟩:=td.cells;have st78:=Zrr ((st6'.out.trans st7).trans st8);have yA:=xz.trans hT7;replace td:=Zrr td;replace hB:=Zrr hB;replace hR:=Zrr hR;replace m8:=Zrr m8;clear r8 v7 vr7 vr6 fT gX st7 st8 st6' xz hT7 yq;go_wp2_with fail;refine qo.mono ?_;rintro e w9 ⟨r9,so9,rfl,iA,hT9,v9⟩;obtain⟨xL,st9⟩:=td.out.did hB.out hR.out m8.out iA hT9;obtain⟨xK,st10⟩:=xL.setE;obtain⟨y0,y1,y2,y2f,y3,y4⟩:=xL.cells;have aA:Hid (Zlk wa u s B1.sb x o1 osb k n so w1 (j+1) r9 (w9.setCell ⟨o1+1,0,none⟩ (.int .i64 0))):=Zrr ⟨so9,_,xK,yA.trans hT9,v9.congr fun y=>by rw[mh.out,List.any_append];simp,(st78.out.trans st9).trans st10⟩;clear iA xL xK st9 st10 v9 hT9 td hB hR m8 st78 yA qo z0 z1 z2 z2f z3 z4 g0 g1 g2 g2f g3 g4;go_wp2_with fail;go_roundw
         case rel=>exact⟨j+1,r9,by omega,rfl,by go_num,aA⟩
         case measure=>simp[intOf];omega
       ·obtain rfl:j=n.el.length:=by omega
        have dlt:decide ((n.el.length:Int)<(n.el.length:Int))=false:=ZrH (by omega);have gB:Val soj r fun y=>L.sem s.nodes a y:=hvj.congr fun y=>by rw[hs.inv.semDec hn.out hk,List.take_length]
        obtain⟨iQ,cM,rz⟩:=xP.put gB;obtain⟨k0,dS,k2,k2f,k3,k4⟩:=xP.cells;have ik:=Zrr (show OvC wa u s B1.sb x o1 osb k soj ((a,r) :: mj) _∧L.Step so soj∧(Val soj r fun y=>L.sem s.nodes a y)∧Zbl w _ from ⟨cM,hTj,gB,(st1.out.trans stj).trans rz⟩);clear cM xP rz stj hvj gB hTj;go_wp2_with fail;go_ret;obtain⟨q1,q2,q3,q4⟩:=ik.out;exact⟨r,soj,_,rfl,q1,q2,q3,q4⟩
end Go.Proofs.YtemnmcfmabamcaaGreatDoor
namespace Go.Proofs.YtemnmcfmabamcaaGreatDoor
open Go Go.RowKit Go.Shelf
theorem ZqL{w:World}{N n:Nat}{e:TypeId}{v:Value}{xs:List Value}(h:w.ownsRow N e 1 v n xs)(hn:0<n):∃g cap,v= .slice (some ⟨g,0,none⟩) n cap∧N≤g:=by
 obtain⟨_,⟨rfl,e⟩|⟨g,cap,cur,rfl,hg,_⟩⟩:=h
 ·omega
 ·exact⟨g,cap,rfl,hg⟩
theorem ZjT{w:World}{t u:List VN}{s:St}{B1:Zar}{k1 root b o cap:Nat}{φ:L.Asg→Bool}(hs:SS t B1 w k1 s w)(hv:Val s root φ)(hu:Zag w b o u)(sW:Zae u=0)(h7:u.length≤7)(gV:∀v,ZdI t v→ZdI u v)(hT:ZaY w)(hP:Zaz w) :
  Calls Tryz.prog 61 #[.pointer (some ⟨B1.sb,0,none⟩),.int .i64 (root:Nat),.slice (some ⟨b,o,none⟩) u.length cap] w fun e w'=>∃B so r,e= .returned (.tuple #[.pointer (some ⟨B.sb,0,none⟩),.int .i64 (r:Nat),.int .i64 0])∧SS u B w' 300000 so w'∧Val so r φ∧(∀j∈B.mut,w.heap.size≤j)∧Below w.heap.size w w':=by
 have nL:∀(fn:Fn) (first cap:Array Value) (w:World),(Instr.makeFunc fn first cap).run Tryz.prog w= .ok (.func fn first cap) w:=fun _ _ _ _=>rfl
 have jy:∀w,(Instr.makeMap 62 none).run Tryz.prog w= .ok (.map (some w.heap.size)) (w.alloc (.map #[] 0)):=fun w=>rfl
 have xV:∀(c:Array Value) (w:World),(callFunc 90 c).run Tryz.prog w= .ok (.enter 90 c) w:=fun c w=>by simp[go_sem,Tryz.func90]
 generalize hx:w.heap.size=x at *;have hgP:=hP.lt;have hgT:=hT.lt';have aF:=(ZrE w.heap.size w).alloc (ZrQ _) (.cells #[.pointer (some ⟨B1.sb,0,none⟩)] 28);have al:=Zrz w (.cells #[.pointer (some ⟨B1.sb,0,none⟩)] 28);rw[hx]at al;have q1:=ZpN (w.alloc (.cells #[.pointer (some ⟨B1.sb,0,none⟩)] 28)) b o cap (hT.same (aF.block _ hT.lt')) (hP.same (aF.block _ hP.lt)) (hu.below aF) sW (by omega);have gy:(w.alloc (.cells #[.pointer (some ⟨B1.sb,0,none⟩)] 28)).heap.size=x+1:=by simp[hx]
 replace hx:=Zrr hx;replace al:=Zrr al
 go_enter Tryz.func61,Tryz.ntmps61
 go_wp2_with fail;simp only[hx.out];generalize w.alloc (.cells #[.pointer (some ⟨B1.sb,0,none⟩)] 28)=w1 at *;refine q1.mono ?_;rintro e w2 ⟨B,rfl,bB,av,aV,eY,aL⟩;have iB:Below w.heap.size w w2:=aF.trans (aL.mono aF.size);have aS:=(aL.block x (by omega)).trans al.out;clear q1;replace bB:=Zrr bB;obtain⟨B2,pR,bA,_,eQ⟩:=bB.out.here;have m9:∀j∈B2.mut,x+1≤j∧j<w2.heap.size:=fun j hj=>⟨(eQ.new j hj).elim (fun h=>by have:=eY j h;omega) (fun h=>by have:=aL.size;omega),bA.mut_old j hj⟩
 have mg:=aL.size;generalize dX:w2.heap.size=o1 at *;obtain⟨g0,g1,g2⟩:=Zec w2 (.cells #[.pointer (some ⟨B.sb,0,none⟩)] 28) (.cells #[.int .i64 0] 31) (.map #[] 0);have aU:=((((Ext.refl w2).alloc (.cells #[.pointer (some ⟨B.sb,0,none⟩)] 28)).alloc (.cells #[.int .i64 0] 31)).alloc (.map #[] 0)).below;obtain⟨W3,wD⟩:∃W3,W3=((w2.alloc (.cells #[.pointer (some ⟨B.sb,0,none⟩)] 28)).alloc (.cells #[.int .i64 0] 31)).alloc (.map #[] 0):=⟨_,rfl⟩;have iu:W3.heap.size=o1+3:=by rw[wD];simp[dX]
 rw[←wD,dX]at g0 g1 g2 aU;have xZ:=ZbG Zad Zad g2;obtain⟨kq,sL⟩:=ZaI.putI (m:=[]) xZ 0 0;obtain⟨W4,wE⟩:∃W4,W4=Zas 3 Tryz.prog W3 (o1+1+1) (Zad 0) (Zad 0):=⟨_,rfl⟩;have mB:W4.heap.size=o1+3:=by rw[wE,Zaw];exact iu
 have yx:∀j,j≠o1+1+1→W4.heap[j]? =W3.heap[j]?:=fun j hj=>by rw[wE];exact Zan _ _ _ _ _ j hj
 have me:=Za6 (P:=Tryz.prog) 3 W3 (o1+1+1) (Zad 0) (Zad 0);rw[←wE]at kq sL me;obtain⟨gG,n9⟩:=sL.putI 1 1;obtain⟨W5,nh⟩:∃W5,W5=Zas 3 Tryz.prog W4 (o1+1+1) (Zad 1) (Zad 1):=⟨_,rfl⟩;have mC:W5.heap.size=o1+1+1+1:=by rw[nh,Zaw];exact mB
 have ud:∀j,j≠o1+1+1→W5.heap[j]? =W4.heap[j]?:=fun j hj=>by rw[nh];exact Zan _ _ _ _ _ j hj
 have qC:=Za6 (P:=Tryz.prog) 3 W4 (o1+1+1) (Zad 1) (Zad 1);rw[←nh]at gG n9 qC;have ah:Below o1 w2 W5:=⟨qC.1.trans (me.1.trans aU.os),qC.2.1.trans (me.2.1.trans aU.tape),qC.2.2.1.trans (me.2.2.1.trans aU.output),by rw[mC,dX];omega,fun j hj=>(ud j (by omega)).trans ((yx j (by omega)).trans (aU.block j hj))⟩;have qB:(Instr.mapUpdate 62 (.map (some (o1+1+1))) (.int .i64 0) (.int .i64 0)).run Tryz.prog W3= .ok () W4:=kq;have dR:(Instr.mapUpdate 62 (.map (some (o1+1+1))) (.int .i64 1) (.int .i64 1)).run Tryz.prog W4= .ok () W5:=gG;rw[wD]at qB;obtain⟨t1,t2,t3⟩:=Zbf W5 #[.map (some (o1+1+1))] #[.func (.func 90) #[] #[.pointer (some ⟨o1+1+1+1,0,none⟩),.pointer (some ⟨o1+1,0,none⟩),.pointer (some ⟨x,0,none⟩),.pointer (some ⟨o1,0,none⟩),.pointer (some ⟨o1+1+1+1+1,0,none⟩)]] 62 124;rw[mC]at t1 t2 t3
 have hC:OvC w u s B1.sb x o1 B.sb 300000 (ZbD u) [(1,1),(0,0)] _ :=
  { bel:=(iB.trans ((ah.mono (by have:=iB.size;omega)).trans (t1.mono (by have:=iB.size;omega))))
    bs:=(t1.block x (by omega)).trans ((ah.block x (by omega)).trans aS)
    bo:=(t1.block _ (by omega)).trans ((ud _ (by omega)).trans ((yx _ (by omega)).trans g0))
    be:=(t1.block _ (by omega)).trans ((ud _ (by omega)).trans ((yx _ (by omega)).trans g1))
    mp:=n9.same (t1.block _ (by omega))
    bm:=t2
    bt:=t3
    sp:=⟨B2,pR,bA.below (by rw[dX];exact ah.trans (t1.mono (by omega))),fun j hj=>⟨by have:=m9 j hj;have:=hx.out;omega,by have:=m9 j hj;omega⟩⟩
    room:=bB.out.room
    tree:=bB.out.tree
    ok:=fun a r sQ=>by
     have hi:=hs.inv;simp only[asc]at sQ
     split at sQ
     ·rename_i e;cases sQ;subst e;exact aV.congr fun y=>(hi.sem1 y).symm
     ·split at sQ
      ·rename_i e;cases sQ;subst e;exact av.congr fun y=>(hi.sem0 y).symm
      ·cases sQ
    two:=⟨rfl,rfl⟩
    at_:=⟨by have:=hx.out;omega,by have:=iB.size;omega⟩
    glob:=⟨hgP,hgT⟩ }
 have qt:=Zoj hs h7 gV (root+1) root (by omega) _ _ _ hC hv.lt;replace hC:=Zrr hC;replace m9:=Zrr m9;replace wD:=Zrr wD;replace wE:=Zrr wE;replace nh:=Zrr nh;clear g0 g1 g2 aU xZ kq sL gG n9 yx ud me qC ah t1 t2 t3 iu mB;go_wp2_with fail;refine qt.mono ?_;rintro e w6 ⟨r6,so6,m6,rfl,cM,xy,oB,_⟩;obtain⟨c0,c1,c2,xC,c3,c4⟩:=cM.cells;have aT:=Zrz w6 (.cells #[.int .i64 (r6:Nat)] 3);have b67:=(ZrE w6.heap.size w6).alloc (ZrQ _) (.cells #[.int .i64 (r6:Nat)] 3);have gX:=cM.next b67;obtain⟨B7,vu,lO,iM⟩:=gX.sp;have hi6:=cM.room.inv;have qk:=ZqB (l:=[r6]) (gX.ssAt lO) (ZdO aT) (by simp) (fun a ha=>by rw[List.mem_singleton.1 ha];exact oB.lt);rw[vu]at qk;replace cM:=Zrr cM;replace gX:=Zrr gX;replace vu:=Zrr vu;replace lO:=Zrr lO;replace iM:=Zrr iM;clear qt aT b67 hC wD wE nh qB dR;go_wp2_with fail;generalize w6.alloc (.cells #[.int .i64 (r6:Nat)] 3)=w7 at *;refine qk.mono ?_;rintro e w8 ⟨bk,v8,rfl,kx,ag,_,pA,wB⟩;obtain⟨g8,c8,rfl,wM⟩:=ZqL pA (by simp);have oS:w8.heap[o1+1]? =some (.cells #[.int .i64 0] 31 (0,0)):=(wB.block (Zrv gX.out.be).1 (lO.out.not_mut gX.out.be (by decide) (by decide))).trans gX.out.be;have yN:w8.heap[o1]? =some (.cells #[.pointer (some ⟨B.sb,0,none⟩)] 28 (0,0)):=(wB.block (Zrv gX.out.bo).1 (lO.out.not_mut gX.out.bo (by decide) (by decide))).trans gX.out.bo;obtain⟨B8,tn,tw⟩:=wB.held;obtain⟨d1,d2,d3⟩:=Stp.behind (ZrE w.heap.size w7) (fun j hj=>(iM.out j hj).1) gX.out.bel.size tw;have sR:=gX.out.bel.trans d1;have gB:Val (L.keepS so6 bk) (L.rankN bk r6) φ:=(oB.keep hi6 kx (ag r6 (by simp))).congr fun y=>hv.sem y
 have ce8:w8.cell? ⟨o1+1,0,none⟩=some (.int .i64 0):=by rw[World.cell?,oS];rfl
 have fe8:w8.frozen? ⟨o1+1,0,none⟩=false:=by simp[World.frozen?,oS]
 have cg8:w8.cell? ⟨g8,0,none⟩=some (.int .i64 (L.rankN bk r6:Nat)):=by
  have:=pA.cells (g:=g8) rfl 0 (.int .i64 (L.rankN bk r6:Nat)) rfl
  rwa [Addr.add_lit]at this
 have hgne:g8≠o1+1:=fun e=>by
  obtain⟨_,c',gE⟩:=Zap pA (k:=g8) rfl;rw[e,oS]at gE;simp at gE
 have bK:∀j,j≠o1+1→(w8.setCell ⟨o1+1,0,none⟩ (.int .i64 0)).heap[j]? =w8.heap[j]?:=fun j hj=>Zbh _ _ hj
 have co9:(w8.setCell ⟨o1+1,0,none⟩ (.int .i64 0)).cell? ⟨o1,0,none⟩=some (.pointer (some ⟨B.sb,0,none⟩)):=(World.cell?_of_block (a:=⟨o1,0,none⟩) (bK o1 (by omega))).trans (by rw[World.cell?,yN];rfl);have cg9:(w8.setCell ⟨o1+1,0,none⟩ (.int .i64 0)).cell? ⟨g8,0,none⟩=some (.int .i64 (L.rankN bk r6:Nat)):=(World.cell?_of_block (a:=⟨g8,0,none⟩) (bK g8 hgne)).trans cg8;have fU:=gX.out.at_;have fZ:Rep B8 (L.keepS so6 bk) (w8.setCell ⟨o1+1,0,none⟩ (.int .i64 0)):=tn.grownT oS (by decide) (by decide) (by decide) (by decide) ⟨by omega,by omega⟩ (fun j ob hj hh=>(bK j hj).trans hh);have mQ:Below w.heap.size w (w8.setCell ⟨o1+1,0,none⟩ (.int .i64 0)):=sR.setCell (show w.heap.size≤o1+1 by omega) _;have ly:=wB.room;have vG:=wB.tree;have hsb8:=tw.sb;have F1:=Zrr fun (W:World) (hW:Ext (w8.setCell ⟨o1+1,0,none⟩ (.int .i64 0)) W)=>And.intro (hW.cell co9) (hW.cell cg9)
 replace fZ:=Zrr fZ;replace mQ:=Zrr mQ;replace ly:=Zrr ly;clear qk wB tn tw pA oS yN bK d1 sR c0 c1 c2 xC c3 c4 cM gX lO iM;go_wp2_with fail;generalize w8.setCell ⟨o1+1,0,none⟩ (.int .i64 0)=w9 at *
 (refine Zaf (by kernel_rfl) (by kernel_rfl) ?_
  repeat (refine wpQuiet_step (fun K hK=>?_)
          go_simp
          first
           | (refine hK _ ?_;clear hK K)
           | (replace hK:=Zrr hK
              apply Exists.intro
              refine⟨fun wq hq=>?_,hK.out _ ?_⟩
              ·(obtain⟨f1,f2⟩:=F1.out wq hq)
               go_simp
               first
                | done
                | rfl
                | exact⟨rfl,rfl⟩
                | done
              clear hK K))
  refine wpQuiet_nil ?_)
 intro jB rj;have fe:=rj.below;go_wp2_with fail;go_ret3;exact⟨B8,L.keepS so6 bk,L.rankN bk r6,by rw[hsb8,vu.out];rfl,⟨⟨B8,fZ.out.below fe,Stp.refl _ _ _⟩,ly.out,vG⟩,gB,fun j hj=>by have:=d2 j hj;have:=hx.out;omega,by have:=mQ.out.trans (fe.mono mQ.out.size);rwa [hx.out]at this⟩
end Go.Proofs.YtemnmcfmabamcaaGreatDoor
