import Derived.Test.YtemnmcfmabamcaaGreatDoorXReg
import Derived.Test.YtemnmcfmabamcaaGreatDoorXVpost
import Derived.Lib.AtoiErrMem
import Derived.Test.YtemnmcfmabamcaaGreatDoorXVpost2
set_option linter.unusedSimpArgs false
set_option linter.unusedVariables false
namespace Go.Proofs.YtemnmcfmabamcaaGreatDoor
open Go Go.RowKit Go.Shelf
theorem atoi_all:((List.range 257).all fun k=>Lib.atoi (Lib.itoa ((k:Int) - 128)) == some ((k:Int) - 128)) = true:=by kernel_rfl
theorem atoi_lit (v:Int) (h:-128≤v∧v≤128):Lib.atoi (Lib.itoa v) = some v:=by
 have:=List.all_eq_true.1 atoi_all (v+128).toNat (List.mem_range.2 (by omega))
 rw [show (((v+128).toNat:Int) - 128) = v by omega] at this
 simpa using this
theorem atoi_any (v:Int) (h:-128≤v∧v≤128) (w:World):Calls Tryz.prog 92 #[.string ⟨(Lib.itoa v).toArray⟩] w fun e w'=>e = .returned (.tuple #[.int .i64 v,.nilIface])∧Below w.heap.size w w':=by
 have hs:=(L.itoa_small v h).2
 refine (Any.strconv_Atoi Tryz.laysAtoi ⟨(Lib.itoa v).toArray⟩ v (by simp [ByteArray.size];omega) (by simpa using atoi_lit v h) w).mono ?_
 rintro e w' ⟨rfl,s,rfl⟩
 exact ⟨rfl,Lib.bytesWorld_below _ _ _⟩
structure OvC (wa:World) (u:List VN) (s:St) (sbk x o1 osb k:Nat) (so:St) (m:List (Nat × Nat)) (w:World):Prop where
 bel:Below wa.heap.size wa w
 bs:w.heap[x]? = some (.cells #[.pointer (some ⟨sbk,0,none⟩)] 28 (0,0))
 bo:w.heap[o1]? = some (.cells #[.pointer (some ⟨osb,0,none⟩)] 28 (0,0))
 be:w.heap[o1+1]? = some (.cells #[.int .i64 0] 31 (0,0))
 mp:MapAt encNat encNat w (o1+2) (asc m)
 bm:w.heap[o1+3]? = some (.cells #[.map (some (o1+2))] 62 (0,0))
 bt:w.heap[o1+4]? = some (.cells #[.func (.func 90) #[] #[.pointer (some ⟨o1+3,0,none⟩),.pointer (some ⟨o1+1,0,none⟩),.pointer (some ⟨x,0,none⟩),.pointer (some ⟨o1,0,none⟩),.pointer (some ⟨o1+4,0,none⟩)]] 124 (0,0))
 sp:∃ B,B.sb = osb∧Rep B so w∧∀ j∈B.mut,wa.heap.size≤j∧j≠o1+2
 room:L.Room so k
 tree:so.tree = u
 ok:∀ a r,asc m a = some r→Val so r fun y=>L.sem s.nodes a y
 two:(asc m 0).isSome = true∧(asc m 1).isSome = true
 at_:wa.heap.size≤x∧wa.heap.size≤o1
 glob:gPow < wa.heap.size∧gTz < wa.heap.size
def OvStay (w w':World):Prop:=w.heap.size≤w'.heap.size∧∀ (k:Nat) (c:Array Value) (e:TypeId) (fz:Nat × Nat),w.heap[k]? = some (.cells c e fz)→e≠tNode→e≠tStore→e≠31→w'.heap[k]? = some (.cells c e fz)
theorem OvStay.refl (w:World):OvStay w w:=⟨Nat.le_refl _,fun _ _ _ _ h _ _ _=>h⟩
theorem OvStay.trans {a b c:World} (h:OvStay a b) (k:OvStay b c):OvStay a c:=⟨Nat.le_trans h.1 k.1,fun i x e f hi h1 h2 h3=>k.2 i x e f (h.2 i x e f hi h1 h2 h3) h1 h2 h3⟩
theorem OvStay.below {w w':World} (h:Below w.heap.size w w'):OvStay w w':=⟨h.size,fun k _ _ _ hk _ _ _=>(h.block k (Array.getElem?_eq_some_iff.1 hk).1).trans hk⟩
section
variable {wa:World} {u:List VN} {s:St} {sbk x o1 osb k:Nat} {so:St} {m:List (Nat × Nat)} {w:World}
theorem OvC.next {w':World} (h:OvC wa u s sbk x o1 osb k so m w) (hb:Below w.heap.size w w'):OvC wa u s sbk x o1 osb k so m w':=by
 have hk:∀ (j:Nat) (o:Obj),w.heap[j]? = some o→w'.heap[j]? = some o:=fun j o hj=>(hb.block j (Array.getElem?_eq_some_iff.1 hj).1).trans hj
 obtain ⟨B,b1,b2,b3⟩:=h.sp
 exact { bel:=h.bel.trans (hb.mono h.bel.size),bs:=hk _ _ h.bs,bo:=hk _ _ h.bo,be:=hk _ _ h.be,mp:=h.mp.same (hb.block _ h.mp.lt),bm:=hk _ _ h.bm,bt:=hk _ _ h.bt,
         sp:=⟨B,b1,b2.below hb,b3⟩,room:=h.room,tree:=h.tree,ok:=h.ok,two:=h.two,at_:=h.at_,glob:=h.glob }
theorem OvC.ssAt (h:OvC wa u s sbk x o1 osb k so m w) {B:Blks} (hR:Rep B so w):SS u B w k so w:=⟨⟨B,hR,Stp.refl _ _ _⟩,h.room,h.tree⟩
theorem OvC.did {w':World} {B:Blks} {so':St} (h:OvC wa u s sbk x o1 osb k so m w) (hB:B.sb = osb) (hR:Rep B so w) (hm:∀ j∈B.mut,wa.heap.size≤j∧j≠o1+2) (hS:SS u B w k so' w') (hT:L.Step so so') :
  OvC wa u s sbk x o1 osb k so' m w'∧OvStay w w':=by
 obtain ⟨B',hR',hSt⟩:=hS.held
 obtain ⟨b1,b2,b3⟩:=Stp.behind (Below.refl wa.heap.size w) (fun j hj=>(hm j hj).1) h.bel.size hSt
 have hcell:∀ (j:Nat) (c:Array Value) (e:TypeId) (fz:Nat × Nat),w.heap[j]? = some (.cells c e fz)→e≠tNode→e≠tStore→w'.heap[j]? = some (.cells c e fz):=fun j c e fz hj h1 h2 =>
  (hS.block (Array.getElem?_eq_some_iff.1 hj).1 (hR.not_mut hj h1 h2)).trans hj
 have hmp:w'.heap[o1+2]? = w.heap[o1+2]?:=hS.block h.mp.lt (fun hj=>(hm _ hj).2 rfl)
 refine ⟨{ bel:=h.bel.trans b1,bs:=hcell _ _ _ _ h.bs (by decide) (by decide),bo:=hcell _ _ _ _ h.bo (by decide) (by decide),be:=hcell _ _ _ _ h.be (by decide) (by decide),mp:=h.mp.same hmp,bm:=hcell _ _ _ _ h.bm (by decide) (by decide),bt:=hcell _ _ _ _ h.bt (by decide) (by decide),
           sp:=⟨B',hSt.sb.trans hB,hR',fun j hj=>⟨b2 j hj,fun e=>?_⟩⟩,room:=hS.room,tree:=hS.tree,ok:=fun a r ha=>(h.ok a r ha).step h.room.inv hT,two:=h.two,at_:=h.at_,glob:=h.glob },⟨hS.size,fun j c e fz hj h1 h2 _=>hcell j c e fz hj h1 h2⟩⟩
 rcases hSt.new j hj with h' | h'
 ·exact (hm j h').2 e
 ·have:=h.mp.lt;omega
theorem OvC.setE (h:OvC wa u s sbk x o1 osb k so m w):OvC wa u s sbk x o1 osb k so m (w.setCell ⟨o1+1,0,none⟩ (.int .i64 0))∧OvStay w (w.setCell ⟨o1+1,0,none⟩ (.int .i64 0)):=by
 have hg:=h.glob
 have hat:=h.at_
 have hne:∀ (j:Nat) (o:Obj),j≠o1+1→w.heap[j]? = some o→(w.setCell ⟨o1+1,0,none⟩ (.int .i64 0)).heap[j]? = some o:=fun j o hj hh=>(Below.heap_setCell _ _ _ _ (by simpa using hj)).trans hh
 have hbe:(w.setCell ⟨o1+1,0,none⟩ (.int .i64 0)).heap[o1+1]? = some (.cells #[.int .i64 0] 31 (0,0)):=heap_set h.be 0 _
 have hx:x≠o1+1:=fun e=>by have h1:=h.bs;rw [e,h.be] at h1;simp at h1
 obtain ⟨B,b1,b2,b3⟩:=h.sp
 refine ⟨{ bel:=h.bel.setCell (show wa.heap.size≤o1+1 by omega) _,bs:=hne _ _ hx h.bs,bo:=hne _ _ (by omega) h.bo,be:=hbe,mp:=h.mp.same (Below.heap_setCell _ _ _ _ (by simp)),bm:=hne _ _ (by omega) h.bm,bt:=hne _ _ (by omega) h.bt,
           sp:=⟨B,b1,b2.grownT h.be (by decide) (by decide) (by decide) (by decide) ⟨by omega,by omega⟩ hne,b3⟩,room:=h.room,tree:=h.tree,ok:=h.ok,two:=h.two,at_:=h.at_,glob:=h.glob },⟨by simp [World.setCell],fun j c e fz hj _ _ h3=>?_⟩⟩
 refine hne j _ (fun e'=>?_) hj
 rw [e',h.be] at hj
 simp at hj
 exact h3 hj.2.1.symm
theorem OvC.put {a r:Nat} (h:OvC wa u s sbk x o1 osb k so m w) (hv:Val so r fun y=>L.sem s.nodes a y) :
  (Instr.mapUpdate 62 (.map (some (o1+2))) (.int .i64 (a:Nat)) (.int .i64 (r:Nat))).run Tryz.prog w = .ok () (putMap 3 Tryz.prog w (o1+2) (encNat a) (encNat r)) ∧
  OvC wa u s sbk x o1 osb k so ((a,r) :: m) (putMap 3 Tryz.prog w (o1+2) (encNat a) (encNat r))∧OvStay w (putMap 3 Tryz.prog w (o1+2) (encNat a) (encNat r)):=by
 obtain ⟨hp,hM⟩:=h.mp.putI a r
 have hg:=h.glob
 have hat:=h.at_
 have hoth:∀ j,j≠o1+2→(putMap 3 Tryz.prog w (o1+2) (encNat a) (encNat r)).heap[j]? = w.heap[j]?:=fun j hj=>putMap_other _ _ _ _ _ j hj
 obtain ⟨p1,p2,p3,_⟩:=putMap_rest (P:=Tryz.prog) 3 w (o1+2) (encNat a) (encNat r)
 have hsz:(putMap 3 Tryz.prog w (o1+2) (encNat a) (encNat r)).heap.size = w.heap.size:=putMap_size _ _ _ _ _
 obtain ⟨Lm,cl,hb,_⟩:=h.mp
 have hx:x≠o1+2:=fun e=>by have h1:=h.bs;rw [e,hb] at h1;simp at h1
 obtain ⟨B,b1,b2,b3⟩:=h.sp
 have hok':∀ a' r',asc ((a,r) :: m) a' = some r'→Val so r' fun y=>L.sem s.nodes a' y:=fun a' r' ha=>by
  rw [asc_cons] at ha
  unfold upd at ha
  split at ha
  ·rename_i e
   cases ha
   rw [e];exact hv
  ·exact h.ok a' r' ha
 have htw':(asc ((a,r) :: m) 0).isSome = true∧(asc ((a,r) :: m) 1).isSome = true:=by
  obtain ⟨h0,h1⟩:=h.two
  rw [asc_cons]
  unfold upd
  constructor <;> split <;> simp_all
 have hnx:OvC wa u s sbk x o1 osb k so ((a,r) :: m) (putMap 3 Tryz.prog w (o1+2) (encNat a) (encNat r)):={ bel:=⟨p1.trans h.bel.os,p2.trans h.bel.tape,p3.trans h.bel.output,by rw [hsz];exact h.bel.size,fun j hj=>(hoth j (by omega)).trans (h.bel.block j hj)⟩,bs:=(hoth _ hx).trans h.bs,bo:=(hoth _ (by omega)).trans h.bo,be:=(hoth _ (by omega)).trans h.be,mp:=hM,bm:=(hoth _ (by omega)).trans h.bm,bt:=(hoth _ (by omega)).trans h.bt,sp:=⟨B,b1,b2.offMap hb (fun hj=>(b3 _ hj).2 rfl) ⟨by omega,by omega⟩ hoth,b3⟩,room:=h.room,tree:=h.tree,ok:=hok',two:=htw',at_:=h.at_,glob:=h.glob }
 exact ⟨hp,hnx,by rw [hsz];exact Nat.le_refl _,fun j c e fz hj _ _ _=>(hoth j (fun e'=>by rw [e',hb] at hj;simp at hj)).trans hj⟩
theorem OvC.cells (h:OvC wa u s sbk x o1 osb k so m w):w.cell? ⟨x,0,none⟩ = some (.pointer (some ⟨sbk,0,none⟩))∧w.cell? ⟨o1,0,none⟩ = some (.pointer (some ⟨osb,0,none⟩))∧w.cell? ⟨o1+1,0,none⟩ = some (.int .i64 0)∧w.frozen? ⟨o1+1,0,none⟩ = false∧w.cell? ⟨o1+3,0,none⟩ = some (.map (some (o1+2))) ∧
  w.cell? ⟨o1+4,0,none⟩ = some (.func (.func 90) #[] #[.pointer (some ⟨o1+3,0,none⟩),.pointer (some ⟨o1+1,0,none⟩),.pointer (some ⟨x,0,none⟩),.pointer (some ⟨o1,0,none⟩),.pointer (some ⟨o1+4,0,none⟩)]):=by
 refine ⟨?_,?_,?_,?_,?_,?_⟩
 ·rw [World.cell?,h.bs];rfl
 ·rw [World.cell?,h.bo];rfl
 ·rw [World.cell?,h.be];rfl
 ·simp [World.frozen?,h.be]
 ·rw [World.cell?,h.bm];rfl
 ·rw [World.cell?,h.bt];rfl
end
def OvLaw (wa:World) (u:List VN) (s:St) (sbk x o1 osb k a:Nat):Prop:=∀ (so:St) (m:List (Nat × Nat)) (w:World),OvC wa u s sbk x o1 osb k so m w→a < s.nodes.length →
 Calls Tryz.prog 90 #[.int .i64 (a:Nat),.pointer (some ⟨o1+3,0,none⟩),.pointer (some ⟨o1+1,0,none⟩),.pointer (some ⟨x,0,none⟩),.pointer (some ⟨o1,0,none⟩),.pointer (some ⟨o1+4,0,none⟩)] w
  fun e w'=>∃ r so' m',e = .returned (.int .i64 (r:Nat))∧OvC wa u s sbk x o1 osb k so' m' w'∧L.Step so so'∧(Val so' r fun y=>L.sem s.nodes a y)∧OvStay w w'
def OvLoop (wa:World) (u:List VN) (s:St) (sbk x o1 osb k:Nat) (n:SNode) (so:St) (w:World) (j r:Nat) (wr:World):Prop :=
 ∃ so' m',OvC wa u s sbk x o1 osb k so' m' wr∧L.Step so so'∧(Val so' r fun y=>(n.el.take j).any fun p=>L.sem s.nodes p.1 y && L.sem s.nodes p.2 y)∧OvStay w wr
set_option maxRecDepth 100000 in
set_option maxHeartbeats 4000000 in
theorem over_law {wa:World} {t u:List VN} {s:St} {B1:Blks} {k1 x o1 osb k:Nat} (hs:SS t B1 wa k1 s wa) (h7:u.length≤7) (hvar:∀ v,VarOf t v→VarOf u v):∀ n a,a < n→OvLaw wa u s B1.sb x o1 osb k a:=by
 intro N'
 induction N' with
 | zero=>intro a ha;omega
 | succ N ih =>
   intro a ha so m w hC hal
   obtain ⟨c0,c1,c2,c2f,c3,c4⟩:=hC.cells
   cases hm:asc m a with
   | some r =>
     have hlk:(Instr.lookup 62 (.map (some (o1+2))) (.int .i64 a) true).run Tryz.prog w = .ok (.tuple #[.int .i64 (r:Nat),.bool true]) w:=by
      have:=hC.mp.lookI a
      rw [hm] at this;exact this
     have hv:=hC.ok a r hm
     replace hC:=Lib.hid hC
     replace hm:=Lib.hid hm
     go_enter Tryz.func90,Tryz.ntmps90
     go_wp2_with fail
     go_ret
     exact ⟨r,so,m,rfl,hC.out,L.Step.refl hC.out.room.inv,hv,OvStay.refl _⟩
   | none =>
     have hlk:(Instr.lookup 62 (.map (some (o1+2))) (.int .i64 a) true).run Tryz.prog w = .ok (.tuple #[.int .i64 0,.bool false]) w:=by
      have:=hC.mp.lookI a
      rw [hm] at this;exact this
     obtain ⟨n,hn⟩:∃ n,s.nodes[a]? = some n:=⟨_,List.getElem?_eq_getElem hal⟩
     have ha2:2≤a:=by
      rcases Nat.lt_or_ge a 2 with h | h
      ·have:a = 0∨a = 1:=by omega
       rcases this with rfl | rfl
       ·have:=hC.two.1;rw [hm] at this;cases this
       ·have:=hC.two.2;rw [hm] at this;cases this
      ·exact h
     have hsw:=hs.below hC.bel
     have qe:=elements_v hsw hn
     have hk:=hs.inv.ok a n ha2 hn
     replace hsw:=Lib.hid hsw
     replace hC:=Lib.hid hC
     replace hm:=Lib.hid hm
     replace hn:=Lib.hid hn
     go_enter Tryz.func90,Tryz.ntmps90
     go_wp2_with fail
     refine qe.mono ?_
     rintro e w1 ⟨ba,cp,rfl,hP,hb1⟩
     have hC1:=hC.out.next hb1
     obtain ⟨c0,c1,c2,c2f,c3,c4⟩:=hC1.cells
     clear qe
     rcases hk with hk | hk
     ·have htx:L.tx s.nodes a = Lib.itoa n.lit:=by
       rw [L.tx_node hs.inv.kids hn.out,if_pos hk.el,if_pos hk.lit]
      have hlit:VarOf t (n.lit.natAbs:Int):=by
       obtain ⟨u',y,_,h1,h2,h3⟩:=hk.leaf
       rw [hs.tree] at h1
       exact ⟨u',y,h1,h2,h3⟩
      have hlr:=hlit.range
      have d0:((n.el.length:Int) == 0) = true:=by rw [hk.el];rfl
      have hel0:n.el.length = 0:=by rw [hk.el];rfl
      have qt:=text_v (hsw.out.below hb1) hal
      rw [htx] at qt
      replace hC1:=Lib.hid hC1
      clear hP
      rw [hel0] at *
      go_wp2_with fail
      refine qt.mono ?_
      rintro e w2 ⟨rfl,hb2⟩
      have hC2:=hC1.out.next hb2
      have qa:=atoi_any n.lit (by omega) w2
      clear qt
      replace hC2:=Lib.hid hC2
      go_wp2_with fail
      refine qa.mono ?_
      rintro e w3 ⟨rfl,hb3⟩
      have hC3:=hC2.out.next hb3
      obtain ⟨B,hB,hR,hmt⟩:=hC3.sp
      have ql:=lit_v (l:=n.lit) (hC3.ssAt hR) (hvar _ hlit)
      rw [hB] at ql
      obtain ⟨e0,e1,e2,e2f,e3,e4⟩:=hC3.cells
      have st3:=(OvStay.below hb1).trans ((OvStay.below hb2).trans (OvStay.below hb3))
      clear qa
      replace hC3:=Lib.hid hC3
      replace hB:=Lib.hid hB
      replace hR:=Lib.hid hR
      replace hmt:=Lib.hid hmt
      replace st3:=Lib.hid st3
      go_wp2_with fail
      refine ql.mono ?_
      rintro e w4 ⟨r4,so4,rfl,hS4,hT4,hv4⟩
      obtain ⟨hC4,st4⟩:=hC3.out.did hB.out hR.out hmt.out hS4 hT4
      obtain ⟨hC5,st5⟩:=hC4.setE
      obtain ⟨g0,g1,g2,g2f,g3,g4⟩:=hC4.cells
      have hval:Val so4 r4 fun y=>L.sem s.nodes a y:=hv4.congr fun y=>(hs.inv.semLit hn.out hk y).symm
      obtain ⟨hpt,hC6,st6⟩:=hC5.put hval
      obtain ⟨k0,k1',k2,k2f,k3,k4⟩:=hC5.cells
      have hres:=Lib.hid (show OvC wa u s B1.sb x o1 osb k so4 ((a,r4) :: m) _∧L.Step so so4∧(Val so4 r4 fun y=>L.sem s.nodes a y)∧OvStay w _ from ⟨hC6,hT4,hval,((st3.out.trans st4).trans st5).trans st6⟩)
      clear ql hS4 hC3 hR hB hmt hC4 hC5 hC6 st3 st4 st5 st6 hv4 hval hC hC1 hC2 hb1 hb2 hb3 hT4
      go_wp2_with fail
      generalize hw5:w4.setCell ⟨o1+1,0,none⟩ (.int .i64 0) = w5 at *
      clear hw5 g0 g1 g2 g2f g3 g4 e0 e1 e2 e2f e3 e4 c0 c1 c2 c2f c3 c4
      go_loopw [12,61] (fun bv i wr=>bv = .int .i64 (r4:Nat)∧i = .int .i64 0∧wr = w5) (fun _ _ _=>0)
      case atStart=>exact ⟨rfl,rfl,rfl⟩
      case round =>
       obtain ⟨rfl,rfl,rfl⟩:=hrel
       go_wp2_with fail
       go_ret
       obtain ⟨q1,q2,q3,q4⟩:=hres.out
       exact ⟨r4,so4,_,rfl,q1,q2,q3,q4⟩
     ·have hne:n.el≠[]:=fun e=>by
       obtain ⟨_,_,_,_,_,_,_,_,_,hp⟩:=hk.parts
       have:=hp.two;rw [e] at this;simp at this
      have hlen:0 < n.el.length:=List.length_pos_iff.2 hne
      have d0:((n.el.length:Int) == 0) = false:=by simp;omega
      obtain ⟨Bs,hRs,_⟩:=hs.held
      have helm:n.el.length≤1048576:=(hRs.small.2 n (List.mem_of_getElem? hn.out)).2.2.2.2.1
      have hkid:=Lib.hid (hs.inv.kids a n hn.out)
      obtain ⟨gp,csp,rfl,_,hgp,hcp⟩:=hP.resolve_left hne
      have hK2:∀ (c:Array Value) (w:World),(callFunc 90 c).run Tryz.prog w = .ok (.enter 90 c) w:=fun c w=>by simp [go_sem,Tryz.func90]
      have h0:Hid (OvLoop wa u s B1.sb x o1 osb k n so w1 0 0 w1):=Lib.hid ⟨so,m,hC1,L.Step.refl hC1.room.inv,(by
       have hz:=hC1.room.inv
       exact ⟨by have:=hz.len;omega,fun y=>by rw [hz.sem0];rfl⟩),OvStay.refl _⟩
      have st1:=Lib.hid (OvStay.below hb1)
      replace hgp:=Lib.hid hgp
      replace hcp:=Lib.hid hcp
      replace hC1:=Lib.hid hC1
      clear c0 c1 c2 c2f c3 c4 hRs
      go_wp2_with fail
      go_loopw [12,61] (fun bv i wr=>∃ (j r:Nat),j≤n.el.length∧bv = .int .i64 (r:Nat)∧i = .int .i64 (j:Nat)∧Hid (OvLoop wa u s B1.sb x o1 osb k n so w1 j r wr)) (fun _ i _=>n.el.length - (intOf i).toNat)
      case atStart=>exact ⟨0,0,by omega,rfl,rfl,h0⟩
      case round =>
       clear h0
       obtain ⟨j,r,hj,rfl,rfl,hI⟩:=hrel
       obtain ⟨soj,mj,hCj,hTj,hvj,stj⟩:=hI.out
       clear hI
       by_cases hlt:j < n.el.length
       ·have dlt:decide ((j:Int) < (n.el.length:Int)) = true:=decide_eq_true (by omega)
        have hEl:ElAt wr (.slice (some ⟨gp,0,none⟩) n.el.length cp) n.el:=⟨_,cp,rfl,.inr ⟨gp,0,rfl,csp,(0,0),stj.2 _ _ _ _ hgp.out (by decide) (by decide) (by decide),hcp.out⟩⟩
        obtain ⟨_,_,ee,hlens⟩:=hEl.lens
        cases ee
        obtain ⟨_,_,ee,e0,e1⟩:=hlens j hlt
        cases ee
        rw [Nat.zero_add] at e0 e1
        have hkd:=hkid.out _ (List.getElem_mem hlt)
        have htake:n.el.take (j+1) = n.el.take j++[n.el[j]]:=by rw [List.take_add_one,List.getElem?_eq_getElem hlt];rfl
        generalize n.el[j] = pp at *
        obtain ⟨p1,p2⟩:=pp
        simp only at e0 e1 hkd htake
        have i0:(0:Int)≤j:=by omega
        have i1:(j:Int) < n.el.length:=by omega
        have hba:=(Below.refl wr.heap.size wr).alloc (Nat.le_refl _) (.cells #[.int .i64 (p1:Nat),.int .i64 (p2:Nat)] 130)
        have hpx:=heap_alloc_new wr (.cells #[.int .i64 (p1:Nat),.int .i64 (p2:Nat)] 130)
        have hb2:Below wr.heap.size wr (wr.alloc (.cells #[.int .i64 (p1:Nat),.int .i64 (p2:Nat)] 130)).drew:=hba.trans ((Below.refl _ _).drew.mono hba.size)
        have hC2:=hCj.next hb2
        have st2:=Lib.hid (stj.trans (OvStay.below hb2))
        have hpx2:(wr.alloc (.cells #[.int .i64 (p1:Nat),.int .i64 (p2:Nat)] 130)).drew.heap[wr.heap.size]? = _:=hpx
        obtain ⟨k0,k1',k2,k2f,k3,k4⟩:=hC2.cells
        obtain ⟨b0,b1⟩:=pbox_cells hpx
        replace hC2:=Lib.hid hC2
        replace hpx2:=Lib.hid hpx2
        replace htake:=Lib.hid htake
        clear hba hb2 hCj stj hEl hlens hpx
        go_wp2_with fail
        (refine wp_region_held_drew (S:=(fun W=>W.cell? ⟨o1+4,0,none⟩ = some (.func (.func 90) #[] #[.pointer (some ⟨o1+3,0,none⟩),.pointer (some ⟨o1+1,0,none⟩),.pointer (some ⟨x,0,none⟩),.pointer (some ⟨o1,0,none⟩),.pointer (some ⟨o1+4,0,none⟩)])∧W.cell? ⟨wr.heap.size,0,none⟩ = some (.int .i64 (p1:Nat))∧W.cell? ⟨wr.heap.size,1,none⟩ = some (.int .i64 (p2:Nat)))) (by kernel_rfl) ?_ (fun hHeld=>?_))
        ·exact ⟨k4,b0,b1⟩
        (refine takeL (i:=0) (v:=?_) rfl (by kernel_rfl) (by kernel_rfl) (by kernel_rfl) (fun _ _ _ h=>h) (Or.inl ⟨by rfl,?_⟩) (by assumption) ?_)
        rotate_left
        ·(intro w hSw;(try dsimp only at hSw);go_simp;first | done | with_reducible rfl)
        (try simp only [Act.put,List.setIfInBounds_toArray,List.set_cons_zero,List.set_cons_succ])
        (refine takeL (i:=1) (v:=?_) rfl (by kernel_rfl) (by kernel_rfl) (by kernel_rfl) (fun _ _ _ h=>h) (Or.inl ⟨by rfl,?_⟩) (by assumption) ?_)
        rotate_left
        ·(intro w hSw;(try dsimp only at hSw);go_simp;first | done | with_reducible rfl)
        (try simp only [Act.put,List.setIfInBounds_toArray,List.set_cons_zero,List.set_cons_succ])
        (refine takeL (i:=2) (v:=?_) rfl (by kernel_rfl) (by kernel_rfl) (by kernel_rfl) (fun _ _ _ h=>h) (Or.inl ⟨by rfl,?_⟩) (by assumption) ?_)
        rotate_left
        ·(intro w hSw;(try dsimp only at hSw);go_simp;first | done | with_reducible rfl)
        (try simp only [Act.put,List.setIfInBounds_toArray,List.set_cons_zero,List.set_cons_succ])
        (refine takeL (i:=4) (v:=?_) rfl (by kernel_rfl) (by kernel_rfl) (by kernel_rfl) (fun _ _ _ h=>h) (Or.inl ⟨by rfl,?_⟩) (by assumption) ?_)
        rotate_left
        ·(intro w hSw;(try dsimp only at hSw);go_simp;first | done | with_reducible rfl)
        (try simp only [Act.put,List.setIfInBounds_toArray,List.set_cons_zero,List.set_cons_succ])
        (refine takeL (i:=5) (v:=?_) rfl (by kernel_rfl) (by kernel_rfl) (by kernel_rfl) (fun _ _ _ h=>h) (Or.inl ⟨by rfl,?_⟩) (by assumption) ?_)
        rotate_left
        ·(intro w hSw;(try dsimp only at hSw);go_simp;first | done | with_reducible rfl)
        (try simp only [Act.put,List.setIfInBounds_toArray,List.set_cons_zero,List.set_cons_succ])
        (refine takeL (i:=6) (v:=?_) rfl (by kernel_rfl) (by kernel_rfl) (by kernel_rfl) (fun _ _ _ h=>h) (Or.inl ⟨by rfl,?_⟩) (by assumption) ?_)
        rotate_left
        ·(intro w hSw;(try dsimp only at hSw);go_simp;first | done | with_reducible rfl)
        (try simp only [Act.put,List.setIfInBounds_toArray,List.set_cons_zero,List.set_cons_succ])
        generalize (wr.alloc (.cells #[.int .i64 (p1:Nat),.int .i64 (p2:Nat)] 130)).drew = w2 at *
        generalize wr.heap.size = px at *
        (refine wpAnyH_ready (rs:=[3]) (by kernel_rfl) (by simp) ?_)
        (refine consL rfl (fun K hK=>?_))
        ·(rw [if_pos (by rfl)])
         go_simp
         refine (ih p1 (by omega) _ _ _ hC2.out (by omega)).mono ?_
         rintro e w5 ⟨ra,so5,m5,rfl,hC5,hT5,va,st5⟩
         have hpx5:=st5.2 _ _ _ _ hpx2.out (by decide) (by decide) (by decide)
         obtain ⟨q0,q1,q2,q2f,q3,q4⟩:=hC5.cells
         obtain ⟨b0',b1'⟩:=pbox_cells hpx5
         (refine hK.out _ _ ⟨q4,b0',b1'⟩ (fun hHeld=>?_))
         clear hK K
         (try simp only [Act.put,List.setIfInBounds_toArray,List.set_cons_zero,List.set_cons_succ])
         have hq:=ih p2 (by omega) _ _ _ hC5 (by omega)
         replace hC5:=Lib.hid hC5
         replace hpx5:=Lib.hid hpx5
         (refine wpAnyH_ready (rs:=[7]) (by kernel_rfl) (by simp) ?_)
         (refine consL rfl (fun K hK=>?_))
         ((rw [if_pos (by rfl)]);go_simp;refine hq.mono ?_;rintro e w6 ⟨rb,so6,m6,rfl,hC6,hT6,vb,st6⟩;obtain ⟨z0,z1,z2,z2f,z3,z4⟩:=hC6.cells;obtain ⟨b0'',b1''⟩:=pbox_cells (st6.2 _ _ _ _ hpx5.out (by decide) (by decide) (by decide));refine hK.out _ _ ⟨z4,b0'',b1''⟩ (fun hHeld=>?_))
         (clear hK K)
         (try simp only [Act.put,List.setIfInBounds_toArray,List.set_cons_zero,List.set_cons_succ])
         (refine takeL (i:=8) (v:=?_) rfl (by kernel_rfl) (by kernel_rfl) (by kernel_rfl) (fun _ _ _ h=>h) (Or.inl ⟨by rfl,?_⟩) (by assumption) ?_)
         rotate_left
         ·(intro w hSw;(try dsimp only at hSw);go_simp;first | done | with_reducible rfl)
         (try simp only [Act.put,List.setIfInBounds_toArray,List.set_cons_zero,List.set_cons_succ])
         (refine takeL (i:=9) (v:=?_) rfl (by kernel_rfl) (by kernel_rfl) (by kernel_rfl) (fun _ _ _ h=>h) (Or.inl ⟨by rfl,?_⟩) (by assumption) ?_)
         rotate_left
         ·(intro w hSw;(try dsimp only at hSw);go_simp;first | done | with_reducible rfl)
         (try simp only [Act.put,List.setIfInBounds_toArray,List.set_cons_zero,List.set_cons_succ])
         (refine wpAnyH_done (by kernel_rfl) ?_ _)
         have va:=va.step hC5.out.room.inv hT6
         have hT6':=(hTj.trans hT5).trans hT6
         have st6':=Lib.hid ((st2.out.trans st5).trans st6)
         have vr6:=(hvj.step hC2.out.room.inv hT5).step hC5.out.room.inv hT6
         clear hHeld hq q0 q1 q2 q2f q3 q4 b0' b1' b0'' b1'' b0 b1 k0 k1' k2 k2f k3 k4 st5 st6 hT5 hT6 hpx5 hpx2 st2 hC2 hC5
         obtain ⟨B,hB,hR,hmt⟩:=hC6.sp
         have hss:=hC6.ssAt hR
         have qa:=and_c (k':=k) (c:=0) hss (free_cost hss.chk h7).1 (by omega) va vb
         rw [hB] at qa
         have hin6:=hC6.room.inv
         replace hC6:=Lib.hid hC6
         replace hB:=Lib.hid hB
         replace hR:=Lib.hid hR
         replace hmt:=Lib.hid hmt
         replace vr6:=Lib.hid vr6
         clear hss va vb
         go_wp2_with fail
         refine qa.mono ?_
         rintro e w7 ⟨r7,so7,rfl,hS7,hT7,v7⟩
         obtain ⟨hC7,st7⟩:=hC6.out.did hB.out hR.out hmt.out hS7 hT7
         obtain ⟨hC8,st8⟩:=hC7.setE
         have vr7:=vr6.out.step hin6 hT7
         clear qa hB hR hmt hC6 z0 z1 z2 z2f z3 z4
         obtain ⟨B,hB,hR,hmt⟩:=hC8.sp
         have hss:=hC8.ssAt hR
         have qo:=or_c (k':=k) (c:=0) (d:=0) hss (free_cost hss.chk h7).1 (free_cost hss.chk h7).2 (by omega) vr7 v7
         rw [hB] at qo
         obtain ⟨g0,g1,g2,g2f,g3,g4⟩:=hC7.cells
         obtain ⟨z0,z1,z2,z2f,z3,z4⟩:=hC8.cells
         have st78:=Lib.hid ((st6'.out.trans st7).trans st8)
         have hT7':=hT6'.trans hT7
         replace hC8:=Lib.hid hC8
         replace hB:=Lib.hid hB
         replace hR:=Lib.hid hR
         replace hmt:=Lib.hid hmt
         clear hss v7 vr7 vr6 hS7 hC7 st7 st8 st6' hT6' hT7 hin6
         go_wp2_with fail
         refine qo.mono ?_
         rintro e w9 ⟨r9,so9,rfl,hS9,hT9,v9⟩
         obtain ⟨hC9,st9⟩:=hC8.out.did hB.out hR.out hmt.out hS9 hT9
         obtain ⟨hC10,st10⟩:=hC9.setE
         obtain ⟨y0,y1,y2,y2f,y3,y4⟩:=hC9.cells
         have hnext:Hid (OvLoop wa u s B1.sb x o1 osb k n so w1 (j+1) r9 (w9.setCell ⟨o1+1,0,none⟩ (.int .i64 0))):=Lib.hid ⟨so9,_,hC10,hT7'.trans hT9,v9.congr fun y=>by rw [htake.out,List.any_append];simp,(st78.out.trans st9).trans st10⟩
         clear hS9 hC9 hC10 st9 st10 v9 hT9 hC8 hB hR hmt st78 hT7' qo z0 z1 z2 z2f z3 z4 g0 g1 g2 g2f g3 g4
         go_wp2_with fail
         go_roundw
         case rel=>exact ⟨j+1,r9,by omega,rfl,by go_num,hnext⟩
         case measure=>simp [intOf];omega
       ·obtain rfl:j = n.el.length:=by omega
        have dlt:decide ((n.el.length:Int) < (n.el.length:Int)) = false:=decide_eq_false (by omega)
        have hval:Val soj r fun y=>L.sem s.nodes a y:=hvj.congr fun y=>by rw [hs.inv.semDec hn.out hk,List.take_length]
        obtain ⟨hpt,hC6,st6⟩:=hCj.put hval
        obtain ⟨k0,k1',k2,k2f,k3,k4⟩:=hCj.cells
        have hres:=Lib.hid (show OvC wa u s B1.sb x o1 osb k soj ((a,r) :: mj) _∧L.Step so soj∧(Val soj r fun y=>L.sem s.nodes a y)∧OvStay w _ from ⟨hC6,hTj,hval,(st1.out.trans stj).trans st6⟩)
        clear hC6 hCj st6 stj hvj hval hTj
        go_wp2_with fail
        go_ret
        obtain ⟨q1,q2,q3,q4⟩:=hres.out
        exact ⟨r,soj,_,rfl,q1,q2,q3,q4⟩
end Go.Proofs.YtemnmcfmabamcaaGreatDoor
namespace Go.Proofs.YtemnmcfmabamcaaGreatDoor
open Go Go.RowKit Go.Shelf
theorem row_at {w:World} {N n:Nat} {e:TypeId} {v:Value} {xs:List Value} (h:w.ownsRow N e 1 v n xs) (hn:0 < n):∃ g cap,v = .slice (some ⟨g,0,none⟩) n cap∧N≤g:=by
 obtain ⟨_,⟨rfl,e⟩ | ⟨g,cap,cur,rfl,hg,_⟩⟩:=h
 ·omega
 ·exact ⟨g,cap,rfl,hg⟩
set_option maxRecDepth 100000 in
set_option maxHeartbeats 4000000 in
theorem over_any {w:World} {t u:List VN} {s:St} {B1:Blks} {k1 root b o cap:Nat} {φ:L.Asg→Bool} (hs:SS t B1 w k1 s w) (hv:Val s root φ) (hu:TreeAt w b o u) (hcu:checkF u = 0) (h7:u.length≤7) (hvar:∀ v,VarOf t v→VarOf u v) (hT:TzTab w) (hP:PowTab w) :
  Calls Tryz.prog 61 #[.pointer (some ⟨B1.sb,0,none⟩),.int .i64 (root:Nat),.slice (some ⟨b,o,none⟩) u.length cap] w fun e w'=>∃ B so r,e = .returned (.tuple #[.pointer (some ⟨B.sb,0,none⟩),.int .i64 (r:Nat),.int .i64 0])∧SS u B w' 300000 so w'∧Val so r φ∧(∀ j∈B.mut,w.heap.size≤j)∧Below w.heap.size w w':=by
 have hmf:∀ (fn:Fn) (first cap:Array Value) (w:World),(Instr.makeFunc fn first cap).run Tryz.prog w = .ok (.func fn first cap) w:=fun _ _ _ _=>rfl
 have hmm:∀ w,(Instr.makeMap 62 none).run Tryz.prog w = .ok (.map (some w.heap.size)) (w.alloc (.map #[] 0)):=fun w=>rfl
 have hK2:∀ (c:Array Value) (w:World),(callFunc 90 c).run Tryz.prog w = .ok (.enter 90 c) w:=fun c w=>by simp [go_sem,Tryz.func90]
 generalize hx:w.heap.size = x at *
 have hgP:=hP.lt
 have hgT:=hT.lt'
 have hb1:=(Below.refl w.heap.size w).alloc (Nat.le_refl _) (.cells #[.pointer (some ⟨B1.sb,0,none⟩)] 28)
 have hbx:=heap_alloc_new w (.cells #[.pointer (some ⟨B1.sb,0,none⟩)] 28)
 rw [hx] at hbx
 have q1:=new_v (w.alloc (.cells #[.pointer (some ⟨B1.sb,0,none⟩)] 28)) b o cap (hT.same (hb1.block _ hT.lt')) (hP.same (hb1.block _ hP.lt)) (hu.below hb1) hcu (by omega)
 have hs1:(w.alloc (.cells #[.pointer (some ⟨B1.sb,0,none⟩)] 28)).heap.size = x+1:=by simp [hx]
 replace hx:=Lib.hid hx
 replace hbx:=Lib.hid hbx
 go_enter Tryz.func61,Tryz.ntmps61
 go_wp2_with fail
 simp only [hx.out]
 generalize w.alloc (.cells #[.pointer (some ⟨B1.sb,0,none⟩)] 28) = w1 at *
 refine q1.mono ?_
 rintro e w2 ⟨B,rfl,hS2,hz2,ho2,hm2,hb2⟩
 have hb02:Below w.heap.size w w2:=hb1.trans (hb2.mono hb1.size)
 have hbx2:=(hb2.block x (by omega)).trans hbx.out
 clear q1
 replace hS2:=Lib.hid hS2
 obtain ⟨B2,hsb2,hR2,_,hSt2⟩:=hS2.out.here
 have hmut2:∀ j∈B2.mut,x+1≤j∧j < w2.heap.size:=fun j hj=>⟨(hSt2.new j hj).elim (fun h=>by have:=hm2 j h;omega) (fun h=>by have:=hb2.size;omega),hR2.mut_old j hj⟩
 have hs2:=hb2.size
 generalize ho1:w2.heap.size = o1 at *
 obtain ⟨g0,g1,g2⟩:=three_all w2 (.cells #[.pointer (some ⟨B.sb,0,none⟩)] 28) (.cells #[.int .i64 0] 31) (.map #[] 0)
 have hb3:=((((Ext.refl w2).alloc (.cells #[.pointer (some ⟨B.sb,0,none⟩)] 28)).alloc (.cells #[.int .i64 0] 31)).alloc (.map #[] 0)).below
 obtain ⟨W3,hW3⟩:∃ W3,W3 = ((w2.alloc (.cells #[.pointer (some ⟨B.sb,0,none⟩)] 28)).alloc (.cells #[.int .i64 0] 31)).alloc (.map #[] 0):=⟨_,rfl⟩
 have hsz3:W3.heap.size = o1+3:=by rw [hW3];simp [ho1]
 rw [←hW3,ho1] at g0 g1 g2 hb3
 have hM3:=mapEmpty encNat encNat g2
 obtain ⟨hp0,hM4⟩:=MapAt.putI (m:=[]) hM3 0 0
 obtain ⟨W4,hW4⟩:∃ W4,W4 = putMap 3 Tryz.prog W3 (o1+1+1) (encNat 0) (encNat 0):=⟨_,rfl⟩
 have hsz4:W4.heap.size = o1+3:=by rw [hW4,putMap_size];exact hsz3
 have hk4:∀ j,j≠o1+1+1→W4.heap[j]? = W3.heap[j]?:=fun j hj=>by rw [hW4];exact putMap_other _ _ _ _ _ j hj
 have hr4:=putMap_rest (P:=Tryz.prog) 3 W3 (o1+1+1) (encNat 0) (encNat 0)
 rw [←hW4] at hp0 hM4 hr4
 obtain ⟨hp1,hM5⟩:=hM4.putI 1 1
 obtain ⟨W5,hW5⟩:∃ W5,W5 = putMap 3 Tryz.prog W4 (o1+1+1) (encNat 1) (encNat 1):=⟨_,rfl⟩
 have hsz5:W5.heap.size = o1+1+1+1:=by rw [hW5,putMap_size];exact hsz4
 have hk5:∀ j,j≠o1+1+1→W5.heap[j]? = W4.heap[j]?:=fun j hj=>by rw [hW5];exact putMap_other _ _ _ _ _ j hj
 have hr5:=putMap_rest (P:=Tryz.prog) 3 W4 (o1+1+1) (encNat 1) (encNat 1)
 rw [←hW5] at hp1 hM5 hr5
 have hb5:Below o1 w2 W5:=⟨hr5.1.trans (hr4.1.trans hb3.os),hr5.2.1.trans (hr4.2.1.trans hb3.tape),hr5.2.2.1.trans (hr4.2.2.1.trans hb3.output),by rw [hsz5,ho1];omega,fun j hj=>(hk5 j (by omega)).trans ((hk4 j (by omega)).trans (hb3.block j hj))⟩
 have hq0:(Instr.mapUpdate 62 (.map (some (o1+1+1))) (.int .i64 0) (.int .i64 0)).run Tryz.prog W3 = .ok () W4:=hp0
 have hq1:(Instr.mapUpdate 62 (.map (some (o1+1+1))) (.int .i64 1) (.int .i64 1)).run Tryz.prog W4 = .ok () W5:=hp1
 rw [hW3] at hq0
 obtain ⟨t1,t2,t3⟩:=two_boxes W5 #[.map (some (o1+1+1))] #[.func (.func 90) #[] #[.pointer (some ⟨o1+1+1+1,0,none⟩),.pointer (some ⟨o1+1,0,none⟩),.pointer (some ⟨x,0,none⟩),.pointer (some ⟨o1,0,none⟩),.pointer (some ⟨o1+1+1+1+1,0,none⟩)]] 62 124
 rw [hsz5] at t1 t2 t3
 have hC:OvC w u s B1.sb x o1 B.sb 300000 (newSt u) [(1,1),(0,0)] _ :=
  { bel:=(hb02.trans ((hb5.mono (by have:=hb02.size;omega)).trans (t1.mono (by have:=hb02.size;omega))))
    bs:=(t1.block x (by omega)).trans ((hb5.block x (by omega)).trans hbx2)
    bo:=(t1.block _ (by omega)).trans ((hk5 _ (by omega)).trans ((hk4 _ (by omega)).trans g0))
    be:=(t1.block _ (by omega)).trans ((hk5 _ (by omega)).trans ((hk4 _ (by omega)).trans g1))
    mp:=hM5.same (t1.block _ (by omega))
    bm:=t2
    bt:=t3
    sp:=⟨B2,hsb2,hR2.below (by rw [ho1];exact hb5.trans (t1.mono (by omega))),fun j hj=>⟨by have:=hmut2 j hj;have:=hx.out;omega,by have:=hmut2 j hj;omega⟩⟩
    room:=hS2.out.room
    tree:=hS2.out.tree
    ok:=fun a r har=>by
     have hi:=hs.inv
     simp only [asc] at har
     split at har
     ·rename_i e;cases har;subst e;exact ho2.congr fun y=>(hi.sem1 y).symm
     ·split at har
      ·rename_i e;cases har;subst e;exact hz2.congr fun y=>(hi.sem0 y).symm
      ·cases har
    two:=⟨rfl,rfl⟩
    at_:=⟨by have:=hx.out;omega,by have:=hb02.size;omega⟩
    glob:=⟨hgP,hgT⟩ }
 have qt:=over_law hs h7 hvar (root+1) root (by omega) _ _ _ hC hv.lt
 replace hC:=Lib.hid hC
 replace hmut2:=Lib.hid hmut2
 replace hW3:=Lib.hid hW3
 replace hW4:=Lib.hid hW4
 replace hW5:=Lib.hid hW5
 clear g0 g1 g2 hb3 hM3 hp0 hM4 hp1 hM5 hk4 hk5 hr4 hr5 hb5 t1 t2 t3 hsz3 hsz4
 go_wp2_with fail
 refine qt.mono ?_
 rintro e w6 ⟨r6,so6,m6,rfl,hC6,hT6,hv6,_⟩
 obtain ⟨c0,c1,c2,c2f,c3,c4⟩:=hC6.cells
 have hrow:=heap_alloc_new w6 (.cells #[.int .i64 (r6:Nat)] 3)
 have b67:=(Below.refl w6.heap.size w6).alloc (Nat.le_refl _) (.cells #[.int .i64 (r6:Nat)] 3)
 have hC7:=hC6.next b67
 obtain ⟨B7,hB7,hR7,hm7⟩:=hC7.sp
 have hi6:=hC6.room.inv
 have qk:=keep_v (l:=[r6]) (hC7.ssAt hR7) (slI_one hrow) (by simp) (fun a ha=>by rw [List.mem_singleton.1 ha];exact hv6.lt)
 rw [hB7] at qk
 replace hC6:=Lib.hid hC6
 replace hC7:=Lib.hid hC7
 replace hB7:=Lib.hid hB7
 replace hR7:=Lib.hid hR7
 replace hm7:=Lib.hid hm7
 clear qt hrow b67 hC hW3 hW4 hW5 hq0 hq1
 go_wp2_with fail
 generalize w6.alloc (.cells #[.int .i64 (r6:Nat)] 3) = w7 at *
 refine qk.mono ?_
 rintro e w8 ⟨bk,v8,rfl,hcl,hmem,_,ho8,hS8⟩
 obtain ⟨g8,c8,rfl,hg8⟩:=row_at ho8 (by simp)
 have hbe8:w8.heap[o1+1]? = some (.cells #[.int .i64 0] 31 (0,0)):=(hS8.block (Array.getElem?_eq_some_iff.1 hC7.out.be).1 (hR7.out.not_mut hC7.out.be (by decide) (by decide))).trans hC7.out.be
 have hbo8:w8.heap[o1]? = some (.cells #[.pointer (some ⟨B.sb,0,none⟩)] 28 (0,0)):=(hS8.block (Array.getElem?_eq_some_iff.1 hC7.out.bo).1 (hR7.out.not_mut hC7.out.bo (by decide) (by decide))).trans hC7.out.bo
 obtain ⟨B8,hR8,hSt8⟩:=hS8.held
 obtain ⟨d1,d2,d3⟩:=Stp.behind (Below.refl w.heap.size w7) (fun j hj=>(hm7.out j hj).1) hC7.out.bel.size hSt8
 have hbel8:=hC7.out.bel.trans d1
 have hval:Val (L.keepS so6 bk) (L.rankN bk r6) φ:=(hv6.keep hi6 hcl (hmem r6 (by simp))).congr fun y=>hv.sem y
 have ce8:w8.cell? ⟨o1+1,0,none⟩ = some (.int .i64 0):=by rw [World.cell?,hbe8];rfl
 have fe8:w8.frozen? ⟨o1+1,0,none⟩ = false:=by simp [World.frozen?,hbe8]
 have cg8:w8.cell? ⟨g8,0,none⟩ = some (.int .i64 (L.rankN bk r6:Nat)):=by
  have:=ho8.cells (g:=g8) rfl 0 (.int .i64 (L.rankN bk r6:Nat)) rfl
  rwa [Addr.add_lit] at this
 have hgne:g8≠o1+1:=fun e=>by
  obtain ⟨_,c',hc'⟩:=own_lt ho8 (k:=g8) rfl
  rw [e,hbe8] at hc';simp at hc'
 have hoth:∀ j,j≠o1+1→(w8.setCell ⟨o1+1,0,none⟩ (.int .i64 0)).heap[j]? = w8.heap[j]?:=fun j hj=>heap_far _ _ hj
 have co9:(w8.setCell ⟨o1+1,0,none⟩ (.int .i64 0)).cell? ⟨o1,0,none⟩ = some (.pointer (some ⟨B.sb,0,none⟩)):=(World.cell?_of_block (a:=⟨o1,0,none⟩) (hoth o1 (by omega))).trans (by rw [World.cell?,hbo8];rfl)
 have cg9:(w8.setCell ⟨o1+1,0,none⟩ (.int .i64 0)).cell? ⟨g8,0,none⟩ = some (.int .i64 (L.rankN bk r6:Nat)):=(World.cell?_of_block (a:=⟨g8,0,none⟩) (hoth g8 hgne)).trans cg8
 have hat:=hC7.out.at_
 have hR9:Rep B8 (L.keepS so6 bk) (w8.setCell ⟨o1+1,0,none⟩ (.int .i64 0)):=hR8.grownT hbe8 (by decide) (by decide) (by decide) (by decide) ⟨by omega,by omega⟩ (fun j ob hj hh=>(hoth j hj).trans hh)
 have hbel9:Below w.heap.size w (w8.setCell ⟨o1+1,0,none⟩ (.int .i64 0)):=hbel8.setCell (show w.heap.size≤o1+1 by omega) _
 have hroom8:=hS8.room
 have htree8:=hS8.tree
 have hsb8:=hSt8.sb
 have F1:=Lib.hid fun (W:World) (hW:Ext (w8.setCell ⟨o1+1,0,none⟩ (.int .i64 0)) W)=>And.intro (hW.cell co9) (hW.cell cg9)
 replace hR9:=Lib.hid hR9
 replace hbel9:=Lib.hid hbel9
 replace hroom8:=Lib.hid hroom8
 clear qk hS8 hR8 hSt8 ho8 hbe8 hbo8 hoth d1 hbel8 c0 c1 c2 c2f c3 c4 hC6 hC7 hR7 hm7
 go_wp2_with fail
 generalize w8.setCell ⟨o1+1,0,none⟩ (.int .i64 0) = w9 at *
 (refine wp_region_below (by kernel_rfl) (by kernel_rfl) ?_
  repeat (refine wpQuiet_step (fun K hK=>?_)
          go_simp
          first
           | (refine hK _ ?_;clear hK K)
           | (replace hK:=Lib.hid hK
              apply Exists.intro
              refine ⟨fun wq hq=>?_,hK.out _ ?_⟩
              ·(obtain ⟨f1,f2⟩:=F1.out wq hq)
               go_simp
               first
                | done
                | rfl
                | exact ⟨rfl,rfl⟩
                | done
              clear hK K))
  refine wpQuiet_nil ?_)
 intro w10 hw10
 have hb10:=hw10.below
 go_wp2_with fail
 go_ret3
 exact ⟨B8,L.keepS so6 bk,L.rankN bk r6,by rw [hsb8,hB7.out];rfl,⟨⟨B8,hR9.out.below hb10,Stp.refl _ _ _⟩,hroom8.out,htree8⟩,hval,fun j hj=>by have:=d2 j hj;have:=hx.out;omega,by have:=hbel9.out.trans (hb10.mono hbel9.out.size);rwa [hx.out] at this⟩
end Go.Proofs.YtemnmcfmabamcaaGreatDoor
