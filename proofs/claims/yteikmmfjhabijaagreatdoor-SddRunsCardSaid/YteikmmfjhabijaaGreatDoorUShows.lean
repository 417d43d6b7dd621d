import Derived.Test.YteikmmfjhabijaaGreatDoorUTab9
import Derived.Test.YteikmmfjhabijaaGreatDoorURunK
import Derived.Test.YteikmmfjhabijaaGreatDoorUElem
set_option linter.unusedSimpArgs false
set_option linter.unusedVariables false
namespace Go.Proofs.YteikmmfjhabijaaGreatDoor
open Go Go.RowKit Go.Shelf
theorem ba_beq (X:ByteArray):(X == X) = true:=by
 obtain ⟨d⟩:=X
 show (d == d) = true
 exact beq_self_eq_true d
theorem ba_bne (X:ByteArray):(X != X) = false:=by rw [bne,ba_beq];rfl
theorem wp_region_belowB {P:Program} {l:List Oper} {id:Nat} {Q:Exit→Act→World→Prop} {a:Act} {w:World} (hm:P.follows .mixedOrders = true) (hB:Region.lexB .any l.toArray = true)
  (h:wpQuiet P l.toArray (Below w.heap.size w) (fun a'=>∀ w',Below w.heap.size w w'→Q .normal a' w') l a):(Code.region id l.toArray true).wp P Q a w :=
 wp_region_quiet (C:=Below w.heap.size w) hm hB (Below.refl _ _).drew (by simpa using h)
theorem at_is {s:St} (hi:L.Inv s) {l:List Int} (hsb:L.SortedBel s.tree (s.tree.length - 1) l) {a:Nat} {n:SNode} (hn:s.nodes[a]? = some n):AtIs s.tree (L.sem s.nodes a) n.pl:=by
 rcases hi.kind (List.getElem?_eq_some_iff.1 hn).1 with rfl | rfl | ⟨h2,m,hm,_⟩
 ·have:=hi.zero;rw [hn] at this;cases this
  exact .inl ⟨rfl,L.const_hangs (fun x=>hi.sem0 x)⟩
 ·have:=hi.one;rw [hn] at this;cases this
  exact .inl ⟨rfl,L.const_hangs (fun x=>hi.sem1 x)⟩
 ·obtain ⟨P,hP,hPl⟩:=hi.placeOf hsb h2 hn
  exact .inr ⟨P,hP,hPl⟩
theorem NewP.cells {n:Nat} {w:World} {ba:Option Addr} {el:List (Nat × Nat)} (h:NewP n w ba el) {j:Nat} (hj:j < el.length):∃ g,ba = some ⟨g,0,none⟩∧w.cell? ⟨g,j * 2,none⟩ = some (.int .i64 (el[j].1:Nat))∧w.cell? ⟨g,j * 2+1,none⟩ = some (.int .i64 (el[j].2:Nat)):=by
 rcases h with rfl | ⟨g,cs,rfl,_,hg,hc⟩
 ·simp at hj
 ·obtain ⟨e1,e2⟩:=flatP_get el j hj
  have c1:=hc _ _ e1
  have c2:=hc _ _ e2
  rw [Nat.zero_add] at c1 c2
  exact ⟨g,rfl,by simp [World.cell?,hg,c1],by simp [World.cell?,hg,c2]⟩
structure Shown (w:World) (t:List VN) (l:List Int) (s:St) (sb b o cap r:Nat) (n:SNode) (vr:Value):Prop where
 inv:L.Inv s
 few:t.length≤11
 tr:s.tree = t
 vars:varsR t = some l
 sbl:L.SortedBel t (t.length - 1) l
 six:l.length≤6
 sm:s.nodes.length≤1048576
 at':s.nodes[r]? = some n
 tree:TreeAt w b o t
 tab:TabAt w vr (L.tabO l (L.sem s.nodes r))
 ss:∃ (B:Blks) (k:Nat),B.sb = sb∧SS t B w k s w
section
variable {w:World} {t:List VN} {l:List Int} {s:St} {sb b o cap r:Nat} {n:SNode} {vr:Value}
theorem Shown.atS (h:Shown w t l s sb b o cap r n vr) {W:World} (hb:Below w.heap.size w W) :
  Calls Tryz.prog 75 #[.pointer (some ⟨sb,0,none⟩),.int .i64 r] W fun e w'=>e = .returned (.tuple #[.int .i64 n.pl,.int .i64 0])∧Below W.heap.size W w':=by
 obtain ⟨B,k,e,hs⟩:=h.ss
 rw [←e]
 exact at_v (hs.below hb) h.at'
theorem Shown.elS (h:Shown w t l s sb b o cap r n vr) {W:World} (hb:Below w.heap.size w W) :
  Calls Tryz.prog 76 #[.pointer (some ⟨sb,0,none⟩),.int .i64 r] W fun e w'=>∃ ba cap,e = .returned (.tuple #[.slice ba n.el.length cap,.int .i64 0])∧NewP W.heap.size w' ba n.el∧Below W.heap.size W w':=by
 obtain ⟨B,k,e,hs⟩:=h.ss
 rw [←e]
 exact elements_v (hs.below hb) h.at'
theorem Shown.lt (h:Shown w t l s sb b o cap r n vr):r < s.nodes.length:=(List.getElem?_eq_some_iff.1 h.at').1
theorem Shown.szS (h:Shown w t l s sb b o cap r n vr) {W:World} (hb:Below w.heap.size w W) :
  Calls Tryz.prog 47 #[.pointer (some ⟨sb,0,none⟩),.int .i64 r] W fun e w'=>∃ o:List Nat,(o.Nodup∧∀ b,b∈o↔L.Reach s.nodes r b)∧e = .returned (.tuple #[.int .i64 (sumEl s.nodes o),.int .i64 0])∧Below W.heap.size W w':=by
 obtain ⟨B,k,e,hs⟩:=h.ss
 rw [←e]
 exact size_v (hs.below hb) h.lt
theorem Shown.txS (h:Shown w t l s sb b o cap r n vr) {W:World} (hb:Below w.heap.size w W) {x:Nat} (hx:x < s.nodes.length) :
  Calls Tryz.prog 26 #[.pointer (some ⟨sb,0,none⟩),.int .i64 x] W fun e w'=>e = .returned (.tuple #[.string (strB (L.tx s.nodes x)),.int .i64 0])∧Below W.heap.size W w':=by
 obtain ⟨B,k,e,hs⟩:=h.ss
 rw [←e]
 exact text_v (hs.below hb) hx
theorem Shown.elR (h:Shown w t l s sb b o cap r n vr) {W:World} (hb:Below w.heap.size w W) :
  Calls Tryz.prog 77 #[.slice (some ⟨b,o,none⟩) t.length cap,vr] W fun e w'=>RetEls (elT s l n) W e w'∧n.el.length≤64:=by
 obtain rfl:=h.tr
 exact telsN_any h.inv h.few h.vars h.sbl h.six h.at' (h.tree.below hb) (h.tab.below hb).slB
theorem Shown.atR (h:Shown w t l s sb b o cap r n vr) {W:World} (hb:Below w.heap.size w W) :
  Calls Tryz.prog 78 #[.slice (some ⟨b,o,none⟩) t.length cap,vr] W fun e w'=>e = .returned (.int .i64 n.pl)∧Below W.heap.size W w':=by
 obtain rfl:=h.tr
 have hd:=h.inv.tabDep h.sbl h.lt
 exact tat_any ⟨h.inv.tree,h.few,h.six,h.vars,h.sbl,L.tabO_is h.sbl.sorted hd,hd⟩ (h.tree.below hb) (h.tab.below hb).slB (at_is h.inv h.sbl h.at')
theorem Shown.szR (h:Shown w t l s sb b o cap r n vr) {W:World} (hb:Below w.heap.size w W) {O:List Nat} (h1:O.Nodup) (h2:∀ b,b∈O↔L.Reach s.nodes r b) :
  Calls Tryz.prog 79 #[.slice (some ⟨b,o,none⟩) t.length cap,vr] W fun e w'=>e = .returned (.int .i64 (sumEl s.nodes O))∧Below W.heap.size W w':=by
 obtain rfl:=h.tr
 exact tsize_any h.inv h.few h.vars h.sbl h.six h.sm h.lt h1 h2 (h.tree.below hb) (h.tab.below hb)
theorem Shown.txR (h:Shown w t l s sb b o cap r n vr) {W:World} (hb:Below w.heap.size w W) {x:Nat} {v:Value} (hx:x < s.nodes.length) (hv:SlB W v (L.tabO l (L.sem s.nodes x))) :
  Calls Tryz.prog 42 #[.slice (some ⟨b,o,none⟩) t.length cap,v] W fun e w'=>e = .returned (.string (strB (L.tx s.nodes x)))∧Below W.heap.size W w':=by
 obtain rfl:=h.tr
 exact ttext_any h.inv h.few h.vars h.sbl h.six x hx (h.tree.below hb) hv
theorem Shown.below (h:Shown w t l s sb b o cap r n vr) {W:World} (hb:Below w.heap.size w W):Shown W t l s sb b o cap r n vr:=by
 obtain ⟨B,k,e,hs⟩:=h.ss
 obtain ⟨B',hB,hR,hS,_⟩:=(hs.below hb).here
 exact { h with tree:=h.tree.below hb,tab:=h.tab.below hb,ss:=⟨B',k,hB.trans e,hS⟩ }
theorem Shown.kid (h:Shown w t l s sb b o cap r n vr) {j:Nat} (hj:j < n.el.length):n.el[j].1 < s.nodes.length∧n.el[j].2 < s.nodes.length:=by
 have:=h.inv.kids _ _ h.at' _ (List.getElem_mem hj)
 have:=h.lt
 omega
end
set_option maxRecDepth 100000 in
set_option maxHeartbeats 8000000 in
theorem shows_any {wa w:World} {bx:List (Nat × Array Value)} {t:List VN} {l:List Int} {sb k b o cap:Nat} {s:St} {va vf:Value} {rs:List Res} (h:RunAt wa bx t l sb k s va vf rs w) (ht:TreeAt w b o t) (htf:t.length≤11) (hvr:varsR t = some l) (hsb:L.SortedBel t (t.length - 1) l) (hl6:l.length≤6) (hrs:rs.length≤1000) :
  Calls Tryz.prog 29 #[runV sb va vf,.slice (some ⟨b,o,none⟩) t.length cap] w fun e w'=>e = .returned (.bool true)∧Below w.heap.size w w':=by
 obtain ⟨m,hm⟩:∃ m,m = rs.length:=⟨_,rfl⟩
 have hm2:2≤m:=by
  obtain ⟨_,_,_,e,_⟩:=h.two
  rw [hm,e];simp
 have hmk:m≤1000:=by omega
 obtain ⟨q,hq⟩:∃ q,q = m - 1:=⟨_,rfl⟩
 have hqm:q < m:=by omega
 have oa:=h.g.oa
 have of:=h.g.of
 rw [List.length_map,←hm] at oa of
 obtain ⟨ga,ca,rfl,hga⟩:=own_at oa (by omega)
 obtain ⟨gf,cf,rfl,hgf⟩:=own_at of (by omega)
 obtain ⟨r,hr⟩:∃ r,rs[q]? = some r:=⟨_,List.getElem?_eq_getElem (by omega)⟩
 obtain ⟨hval,htab⟩:=h.ok r (List.mem_of_getElem? hr)
 have htb:=h.g.tab (r.v,r.f) (List.mem_map.2 ⟨r,List.mem_of_getElem? hr,rfl⟩)
 have hst:=h.g.tree
 have hfe:r.f = L.tabO l (L.sem s.nodes r.n):=by
  have e:r.φ = L.sem s.nodes r.n:=funext fun x=>(hval.sem x).symm
  rw [←e]
  exact htab.eq hsb.sorted
 simp only [hfe] at htb
 obtain ⟨n,hn⟩:∃ n,s.nodes[r.n]? = some n:=⟨_,List.getElem?_eq_getElem hval.lt⟩
 have ca0:w.cell? ⟨ga,q,none⟩ = some (.int .i64 (r.n:Nat)):=own_cellAt oa (by rw [List.getElem?_map,hr];rfl)
 have cf0:w.cell? ⟨gf,q,none⟩ = some r.v:=own_cellAt of (by rw [List.getElem?_map,hr];rfl)
 obtain ⟨B,hB,hR,hmut⟩:=h.g.sp
 have hSh:Shown w t l s sb b o cap r.n n r.v:=⟨h.g.room.inv,htf,hst,hvr,hsb,hl6,by have:=h.g.room.len;omega,hn,ht,htb,⟨B,k,hB,h.g.ssAt hR⟩⟩
 obtain ⟨gr,cr,lr,hrv⟩:∃ g c n,r.v = .slice (some ⟨g,0,none⟩) n c:=by obtain ⟨g,c,_,e,_⟩:=htb;exact ⟨g,c,_,e⟩
 rw [hrv] at hSh cf0
 generalize r.n = rn at *
 have hb1:=(Below.refl w.heap.size w).alloc (Nat.le_refl _) (.cells #[.pointer (some ⟨sb,0,none⟩),.slice (some ⟨ga,0,none⟩) m ca,.slice (some ⟨gf,0,none⟩) m cf,.bool false] 35)
 have hbx:=heap_alloc_new w (.cells #[.pointer (some ⟨sb,0,none⟩),.slice (some ⟨ga,0,none⟩) m ca,.slice (some ⟨gf,0,none⟩) m cf,.bool false] 35)
 obtain ⟨k0,k1,k2,k3⟩:=box4 hbx
 have ca1:=(hb1.cell (World.block_lt_of_cell? w _ ca0)).trans ca0
 have cf1:=(hb1.cell (World.block_lt_of_cell? w _ cf0)).trans cf0
 have e1:(m:Int) - 1 = (q:Int):=by omega
 have e2:IntKind.i64.wrap (q:Int) = (q:Int):=IntWalk.i64_in _ (by omega)
 have e3:(0:Int)≤q:=by omega
 have e4:(q:Int) < m:=by omega
 have hS1:=Lib.hid (hSh.below hb1)
 replace hb1:=Lib.hid hb1
 replace hq:=Lib.hid hq
 replace hm:=Lib.hid hm
 clear h ht hvr hsb hval htab htb hfe hn ca0 cf0 hR hmut hB oa of hrv hr hbx hst hSh
 unfold runV
 generalize hx:w.heap.size = x at *
 go_enter Tryz.func29,Tryz.ntmps29
 go_wp2_with fail
 try simp only [hx]
 replace hx:=Lib.hid hx
 generalize w.alloc (.cells #[.pointer (some ⟨sb,0,none⟩),.slice (some ⟨ga,0,none⟩) m ca,.slice (some ⟨gf,0,none⟩) m cf,.bool false] 35) = w1 at *
 have F1:=Lib.hid fun (W:World) (hW:Ext w1 W)=>And.intro (hW.cell k1) (And.intro (hW.cell k2) (And.intro (hW.cell ca1) (hW.cell cf1)))
 (refine wp_region_below (by kernel_rfl) (by kernel_rfl) ?_
  repeat (refine wpQuiet_step (fun K hK=>?_)
          go_simp
          first
           | (refine hK _ ?_;clear hK K)
           | (replace hK:=Lib.hid hK
              apply Exists.intro
              refine ⟨fun wq hq=>?_,hK.out _ ?_⟩
              ·(obtain ⟨f1,f2,f3,f4⟩:=F1.out wq hq)
               go_simp
               first
                | done
                | rfl
                | exact ⟨rfl,rfl⟩
                | done
              clear hK K))
  refine wpQuiet_nil ?_)
 intro w2 hw2
 have hb2:=hw2.below
 have j0:=(hb2.cell (World.block_lt_of_cell? w1 _ k0)).trans k0
 replace hS1:=Lib.hid (hS1.out.below hb2)
 replace hb1:=Lib.hid (belThen hb1.out hx.out.symm hb2)
 have q1:=hS1.out.atS (Below.refl _ _)
 clear F1 k0 k1 k2 k3 ca1 cf1 hw2 hb2
 go_wp2_with fail
 refine q1.mono ?_
 rintro e w3 ⟨rfl,hb3⟩
 have j1:=(hb3.cell (World.block_lt_of_cell? w2 _ j0)).trans j0
 replace hS1:=Lib.hid (hS1.out.below hb3)
 replace hb1:=Lib.hid (belThen hb1.out hx.out.symm hb3)
 have q1:=hS1.out.elS (Below.refl _ _)
 clear j0 hb3
 go_wp2_with fail
 refine q1.mono ?_
 rintro e w4 ⟨be,ce,rfl,hNP,hb4⟩
 have j2:=(hb4.cell (World.block_lt_of_cell? w3 _ j1)).trans j1
 replace hS1:=Lib.hid (hS1.out.below hb4)
 replace hb1:=Lib.hid (belThen hb1.out hx.out.symm hb4)
 have q1:=hS1.out.szS (Below.refl _ _)
 replace hNP:=Lib.hid hNP
 clear j1 hb4
 go_wp2_with fail
 refine q1.mono ?_
 rintro e w5 ⟨O,⟨hO1,hO2⟩,rfl,hb5⟩
 have j3:=(hb5.cell (World.block_lt_of_cell? w4 _ j2)).trans j2
 replace hS1:=Lib.hid (hS1.out.below hb5)
 replace hb1:=Lib.hid (belThen hb1.out hx.out.symm hb5)
 have q1:=hS1.out.txS (Below.refl _ _) hS1.out.lt
 have hbl:=Lib.hid hb5
 replace hO1:=Lib.hid hO1
 replace hO2:=Lib.hid hO2
 clear j2
 go_wp2_with fail
 refine q1.mono ?_
 rintro e w6 ⟨rfl,hb6⟩
 have j4:=(hb6.cell (World.block_lt_of_cell? w5 _ j3)).trans j3
 replace hS1:=Lib.hid (hS1.out.below hb6)
 replace hb1:=Lib.hid (belThen hb1.out hx.out.symm hb6)
 replace hbl:=Lib.hid (hbl.out.trans (hb6.mono hbl.out.size))
 have q1:=hS1.out.elR (Below.refl _ _)
 clear j3 hb6 hb5
 go_wp2_with fail
 refine q1.mono ?_
 rintro e w7 ⟨⟨v7,rfl,hE7,hb7⟩,hn64⟩
 have j5:=(hb7.cell (World.block_lt_of_cell? w6 _ j4)).trans j4
 replace hS1:=Lib.hid (hS1.out.below hb7)
 replace hb1:=Lib.hid (belThen hb1.out hx.out.symm hb7)
 replace hbl:=Lib.hid (hbl.out.trans (hb7.mono hbl.out.size))
 obtain ⟨En,hEn⟩:∃ En,En = n.el.length:=⟨_,rfl⟩
 obtain ⟨ba,cp,rfl⟩:∃ ba cp,v7 = .slice ba En cp:=by obtain ⟨ba,cp,e,_⟩:=hE7;exact ⟨ba,cp,by rw [e,hEn];simp [elT]⟩
 rw [←hEn] at hn64 ⊢
 have qa:=hS1.out.atR (Below.refl _ _)
 have qs:=Lib.hid fun W (hb:Below w7.heap.size w7 W)=>hS1.out.szR hb hO1.out hO2.out
 have qt:=Lib.hid fun W (hb:Below w7.heap.size w7 W)=>hS1.out.txR hb hS1.out.lt (hS1.out.tab.below hb).slB
 generalize hS:sumEl s.nodes O = S at *
 generalize hX:strB (L.tx s.nodes rn) = X at *
 generalize hz:n.pl = z at *
 have hzz:(z != z) = false:=by simp
 have hSS:((S:Int) != (S:Int)) = false:=by simp
 have hXX:(X != X) = false:=ba_bne X
 have hEE:((En:Int) != (En:Int)) = false:=by simp
 replace hS:=Lib.hid hS
 replace hX:=Lib.hid hX
 replace hz:=Lib.hid hz
 replace hE7:=Lib.hid hE7
 replace hEn:=Lib.hid hEn
 clear j4 hb7
 go_wp2_with fail
 refine qa.mono ?_
 rintro e w8 ⟨rfl,hb8⟩
 have q2:=qs.out w8 hb8
 clear qa
 go_wp2_with fail
 refine q2.mono ?_
 rintro e w9 ⟨rfl,hb9⟩
 have q3:=qt.out w9 (hb8.trans (hb9.mono hb8.size))
 replace hb8:=Lib.hid (hb8.trans (hb9.mono hb8.size))
 clear q2 qs hb9
 go_wp2_with fail
 refine q3.mono ?_
 rintro e w10 ⟨rfl,hb10⟩
 replace hb8:=Lib.hid (hb8.out.trans (hb10.mono hb8.out.size))
 have jl:=(hb8.out.cell (World.block_lt_of_cell? w7 _ j5)).trans j5
 replace hE7:=Lib.hid (hE7.out.below hb8.out)
 have hNP':=Lib.hid (fun (j:Nat) (hj:j < n.el.length)=>hNP.out.cells hj)
 have hbl':=Lib.hid (hbl.out.trans (hb8.out.mono hbl.out.size))
 replace hS1:=Lib.hid (hS1.out.below hb8.out)
 replace hb1:=Lib.hid (belThen hb1.out hx.out.symm hb8.out)
 clear q3 qt hb10 j5 hb8 hbl hNP
 go_wp2_with fail
 go_loopw [16] (fun iv wr=>∃ i:Nat,i≤En∧iv = .int .i64 (i:Nat)∧Hid (Below w10.heap.size w10 wr)) (fun iv _=>En - (intOf iv).toNat)
 case atStart=>exact ⟨0,Nat.zero_le _,rfl,Lib.hid (Below.refl _ _)⟩
 case round =>
  obtain ⟨i,hi,rfl,hI⟩:=hrel
  by_cases hlt:i < En
  ·have dlt:decide ((i:Int) < (En:Int)) = true:=decide_eq_true (by omega)
   have hlt':i < n.el.length:=by have:=hEn.out;omega
   obtain ⟨ge,rfl,ce1,ce2⟩:=hNP'.out i hlt'
   have hbel:=hbl'.out.trans (hI.out.mono hbl'.out.size)
   have y0:=(hI.out.cell (World.block_lt_of_cell? w10 _ jl)).trans jl
   have y1:=(hbel.cell (World.block_lt_of_cell? w4 _ ce1)).trans ce1
   have y2:=(hbel.cell (World.block_lt_of_cell? w4 _ ce2)).trans ce2
   obtain ⟨gx,vp,vq,rfl,⟨d1,d2⟩,tp,tq⟩:=(hE7.out.below hI.out).cell (j:=i) (by simp [elT];exact hlt')
   simp only [elT,List.getElem_map] at tp tq
   obtain ⟨l1,l2⟩:=hS1.out.kid hlt'
   have hSi:=Lib.hid (hS1.out.below hI.out)
   generalize n.el[i] = pq at *
   obtain ⟨p0,q0⟩:=pq
   simp only at tp tq l1 l2 y1 y2
   have Fc:=Lib.hid fun (W:World) (hW:Below wr.heap.size wr W)=>And.intro ((hW.cell (World.block_lt_of_cell? wr _ y0)).trans y0) (And.intro ((hW.cell (World.block_lt_of_cell? wr _ y1)).trans y1) ((hW.cell (World.block_lt_of_cell? wr _ y2)).trans y2))
   have Gc:=Lib.hid fun (W:World) (hW:Below wr.heap.size wr W)=>And.intro ((hW.cell (World.block_lt_of_cell? wr _ d1)).trans d1) ((hW.cell (World.block_lt_of_cell? wr _ d2)).trans d2)
   have P1:=Lib.hid fun (W:World) (hW:Below wr.heap.size wr W)=>hSi.out.txS hW l1
   have P2:=Lib.hid fun (W:World) (hW:Below wr.heap.size wr W)=>hSi.out.txS hW l2
   have R1:=Lib.hid fun (W:World) (hW:Below wr.heap.size wr W)=>hSi.out.txR hW l1 (tp.below hW).slB
   have R2:=Lib.hid fun (W:World) (hW:Below wr.heap.size wr W)=>hSi.out.txR hW l2 (tq.below hW).slB
   generalize strB (L.tx s.nodes p0) = X1 at *
   generalize strB (L.tx s.nodes q0) = X2 at *
   have hX1:(X1 != X1) = false:=ba_bne X1
   have hX2:(X2 != X2) = false:=ba_bne X2
   have i0:(0:Int)≤i:=by omega
   have i1:(i:Int) < En:=by omega
   obtain ⟨gp,cpp,lp,rfl⟩:∃ g c n,vp = .slice (some ⟨g,0,none⟩) n c:=by obtain ⟨g,c,_,e,_⟩:=tp;exact ⟨g,c,_,e⟩
   obtain ⟨gq,cqq,lq,rfl⟩:∃ g c n,vq = .slice (some ⟨g,0,none⟩) n c:=by obtain ⟨g,c,_,e,_⟩:=tq;exact ⟨g,c,_,e⟩
   replace hbel:=Lib.hid hbel
   clear tp tq d1 d2 y0 y1 y2 ce1 ce2 jl
   go_wp2_with fail
   (refine wp_region_belowB (by kernel_rfl) (by kernel_rfl) ?_
    repeat (refine wpQuiet_step (fun K hK=>?_)
            go_simp
            first
             | (refine hK _ ?_;clear hK K)
             | (replace hK:=Lib.hid hK
                apply Exists.intro
                refine ⟨fun wq hq=>?_,hK.out _ ?_⟩
                ·(obtain ⟨f1,f2,f3⟩:=Fc.out wq hq)
                 go_simp
                 first
                  | done
                  | rfl
                  | exact ⟨rfl,rfl⟩
                  | (refine (P1.out wq hq).mono ?_;rintro e w' ⟨rfl,hb⟩;exact ⟨rfl,hq.trans (hb.mono hq.size)⟩)
                clear hK K))
    refine wpQuiet_nil ?_)
   intro wA hA
   have Fc2:=Lib.hid fun (W:World) (hW:Below wA.heap.size wA W)=>Fc.out W (hA.trans (hW.mono hA.size))
   have P3:=Lib.hid fun (W:World) (hW:Below wA.heap.size wA W)=>P2.out W (hA.trans (hW.mono hA.size))
   clear Fc P1 P2
   go_wp2_with fail
   (refine wp_region_belowB (by kernel_rfl) (by kernel_rfl) ?_
    repeat (refine wpQuiet_step (fun K hK=>?_)
            go_simp
            first
             | (refine hK _ ?_;clear hK K)
             | (replace hK:=Lib.hid hK
                apply Exists.intro
                refine ⟨fun wq hq=>?_,hK.out _ ?_⟩
                ·(obtain ⟨f1,f2,f3⟩:=Fc2.out wq hq)
                 go_simp
                 first
                  | done
                  | rfl
                  | exact ⟨rfl,rfl⟩
                  | (refine (P3.out wq hq).mono ?_;rintro e w' ⟨rfl,hb⟩;exact ⟨rfl,hq.trans (hb.mono hq.size)⟩)
                clear hK K))
    refine wpQuiet_nil ?_)
   intro wB hB
   have hAB:=hA.trans (hB.mono hA.size)
   obtain ⟨d1,d2⟩:=Gc.out wB hAB
   have R3:=R1.out wB hAB
   clear Fc2 P3 R1 hA hB
   go_wp2_with fail
   refine R3.mono ?_
   rintro e wC ⟨rfl,hC⟩
   have hAC:=hAB.trans (hC.mono hAB.size)
   have d3:=(Gc.out wC hAC).2
   have R4:=R2.out wC hAC
   clear R3 d1 d2
   go_wp2_with fail
   refine R4.mono ?_
   rintro e wD ⟨rfl,hD⟩
   have hnext:Hid (Below w10.heap.size w10 wD):=Lib.hid (hI.out.trans ((hAC.trans (hD.mono hAC.size)).mono hI.out.size))
   clear R4 d3
   go_wp2_with fail
   go_roundw
   case rel=>exact ⟨i+1,by omega,by go_num,hnext⟩
   case measure=>simp [intOf];omega
  ·have dlt:decide ((i:Int) < (En:Int)) = false:=decide_eq_false (by omega)
   have hfin:Hid (Below x w wr):=Lib.hid (belThen hb1.out hx.out.symm hI.out)
   go_wp2_with fail
   go_ret
   exact ⟨rfl,hfin.out⟩
end Go.Proofs.YteikmmfjhabijaaGreatDoor
