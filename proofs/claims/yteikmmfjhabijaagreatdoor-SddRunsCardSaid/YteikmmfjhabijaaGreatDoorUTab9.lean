import Derived.Test.YteikmmfjhabijaaGreatDoorUTab8
import Derived.Test.YteikmmfjhabijaaGreatDoorURunG
set_option linter.unusedSimpArgs false
set_option linter.unusedVariables false
namespace Go.Proofs.YteikmmfjhabijaaGreatDoor
open Go Go.RowKit Go.Shelf
def elT (s:St) (l:List Int) (n:SNode):List (List Bool × List Bool):=n.el.map fun p=>(L.tabO l (L.sem s.nodes p.1),L.tabO l (L.sem s.nodes p.2))
set_option maxRecDepth 100000 in
set_option maxHeartbeats 4000000 in
theorem telsN_any {s:St} {l:List Int} (hi:L.Inv s) (hfew:s.tree.length≤11) (hvr:varsR s.tree = some l) (hsb:L.SortedBel s.tree (s.tree.length - 1) l) (hl6:l.length≤6) {a:Nat} {n:SNode} (hn:s.nodes[a]? = some n) {w:World} {b o c:Nat} {vf:Value} (ht:TreeAt w b o s.tree) (hf:SlB w vf (L.tabO l (L.sem s.nodes a))) :
  Calls Tryz.prog 77 #[.slice (some ⟨b,o,none⟩) s.tree.length c,vf] w fun e w'=>RetEls (elT s l n) w e w'∧n.el.length≤64:=by
 have ha:a < s.nodes.length:=(List.getElem?_eq_some_iff.1 hn).1
 have hd:=hi.tabDep hsb ha
 have htab:=L.tabO_is hsb.sorted hd
 have hC:TabOf s.tree l (L.sem s.nodes a) (L.tabO l (L.sem s.nodes a)):=⟨hi.tree,hfew,hl6,hvr,hsb,htab,hd⟩
 unfold elT
 have hnil:∀ W,EAt W (.slice none 0 0) []:=fun W=>⟨none,0,rfl,fun j hj=>by simp at hj⟩
 rcases hi.kind ha with rfl | rfl | ⟨h2,m,hm,hk⟩
 ·have hz:AtIs s.tree (L.sem s.nodes 0) (-1):=.inl ⟨rfl,L.const_hangs (fun x=>hi.sem0 x)⟩
  have q1:=tat_any (c:=c) hC ht hf hz
  have hel:n.el = []:=by have:=hi.zero;rw [hn] at this;cases this;rfl
  rw [hel]
  obtain ⟨bf,of,cf,rfl,_,_⟩:=hf
  clear hC htab hd hi
  go_enter Tryz.func77,Tryz.ntmps77
  go_wp2_with fail
  refine q1.mono ?_
  rintro e w1 ⟨rfl,hb1⟩
  clear q1
  go_wp2_with fail
  go_ret
  exact ⟨⟨_,rfl,hnil _,hb1⟩,by simp⟩
 ·have hz:AtIs s.tree (L.sem s.nodes 1) (-1):=.inl ⟨rfl,L.const_hangs (fun x=>hi.sem1 x)⟩
  have q1:=tat_any (c:=c) hC ht hf hz
  have hel:n.el = []:=by have:=hi.one;rw [hn] at this;cases this;rfl
  rw [hel]
  obtain ⟨bf,of,cf,rfl,_,_⟩:=hf
  clear hC htab hd hi
  go_enter Tryz.func77,Tryz.ntmps77
  go_wp2_with fail
  refine q1.mono ?_
  rintro e w1 ⟨rfl,hb1⟩
  clear q1
  go_wp2_with fail
  go_ret
  exact ⟨⟨_,rfl,hnil _,hb1⟩,by simp⟩
 ·rw [hn] at hm
  cases hm
  obtain ⟨P,hP,hPl⟩:=hi.placeOf hsb h2 hn
  have hPt:=hPl.lt
  rcases hk with hk | hk
  ·obtain ⟨u,y,e1,e2,e3,e4⟩:=hk.leaf
   have eu:u = P:=by omega
   subst eu
   have q1:=tat_any (c:=c) hC ht hf (z:=u) (.inr ⟨u,rfl,hPl⟩)
   rw [hk.el]
   have n012:=fun W (hb:Below w.heap.size w W)=>(ht.below hb).node hPt
   rw [(List.getElem?_eq_some_iff.1 e2).2] at n012
   obtain ⟨yl,yr,yv⟩:=y
   simp only [leafB,Bool.and_eq_true,decide_eq_true_eq] at e3
   obtain ⟨⟨rfl,rfl⟩,hyv⟩:=e3
   simp only at n012
   have p0:decide ((u:Int) < 0) = false:=decide_eq_false (by omega)
   have p1:(0:Int)≤u:=by omega
   have p2:(u:Int) < s.tree.length:=by omega
   obtain ⟨bf,of,cf,rfl,_,_⟩:=hf
   replace n012:=Lib.hid n012
   replace e2:=Lib.hid e2
   replace hk:=Lib.hid hk
   replace hn:=Lib.hid hn
   clear hC htab hd hi
   go_enter Tryz.func77,Tryz.ntmps77
   go_wp2_with fail
   refine q1.mono ?_
   rintro e w1 ⟨rfl,hb1⟩
   obtain ⟨n0,n1,n2⟩:=n012.out w1 hb1
   clear q1
   go_wp2_with fail
   go_ret
   exact ⟨⟨_,rfl,hnil _,hb1⟩,by simp⟩
  ·obtain ⟨P',y,L',R',e1,e2,e3,e4,e5,hfit⟩:=hi.elFit hsb hn hk htab
   have eu:P' = P:=by omega
   subst eu
   refine (tels_any (c:=c) hC ht hf hPl e2 e3 e4).mono ?_
   rintro e w1 ⟨mk,hmask,hE⟩
   obtain ⟨lw,hfit'⟩:=hfit mk hmask
   have hels:=L.els_law hfit'
   have hel64:=elsN_len (L.tabO l (L.sem s.nodes a)) mk (2 ^ l.length)
   rw [hels,List.length_map] at hel64
   rw [hels] at hE
   exact ⟨hE,by have:=pow_le64 hl6;omega⟩
def RowT (w:World) (N:Nat) (l:List Int) (ns:List SNode) (A:List Nat) (v:Value):Prop :=
 ∃ vs:List Value,w.ownsRow N 43 1 v A.length vs∧vs.length = A.length∧∀ j (hj:j < A.length),∃ u,vs[j]? = some u∧TabAt w u (L.tabO l (L.sem ns A[j]))
section
variable {w:World} {N:Nat} {l:List Int} {ns:List SNode} {A:List Nat} {v:Value}
theorem RowT.next {w':World} (h:RowT w N l ns A v) (hb:Below w.heap.size w w'):RowT w' N l ns A v:=by
 obtain ⟨vs,h1,h2,h3⟩:=h
 refine ⟨vs,ownsRow_same h1 (fun _ hg=>hb.block _ (own_lt h1 hg).1),h2,fun j hj=>?_⟩
 obtain ⟨u,e,hu⟩:=h3 j hj
 exact ⟨u,e,hu.below hb⟩
theorem RowT.cell {g cp n:Nat} (h:RowT w N l ns A (.slice (some ⟨g,0,none⟩) n cp)) {j:Nat} (hj:j < A.length):∃ u,w.cell? ⟨g,j,none⟩ = some u∧TabAt w u (L.tabO l (L.sem ns A[j])):=by
 obtain ⟨vs,h1,h2,h3⟩:=h
 obtain ⟨u,e,hu⟩:=h3 j hj
 obtain ⟨g',cp',e',_⟩:=own_at h1 (by omega)
 cases e'
 exact ⟨u,own_cellAt h1 e,hu⟩
theorem RowT.push {w':World} {v' u:Value} {vs:List Value} {x:Nat} (hN:∀ j (hj:j < A.length),∃ u,vs[j]? = some u∧TabAt w u (L.tabO l (L.sem ns A[j]))) (hl:vs.length = A.length) (h:w.ownsRow N 43 1 v A.length vs) (h0:0 < A.length) (hu:TabAt w u (L.tabO l (L.sem ns x)))
  (hg:w.grownBy w' v.ownBlock) (ho:w'.ownsRow N 43 1 v' (A.length+1) (vs++[u])):RowT w' N l ns (A++[x]) v'∧∀ (g:Nat) (cs:Array Value) (e:TypeId),e≠43→w.heap[g]? = some (.cells cs e (0,0))→w'.heap[g]? = w.heap[g]?:=by
 obtain ⟨g,cs,e1,e2,e3⟩:=own_some h h0
 rw [e1] at hg
 have hs:∀ (k:Nat) (cs:Array Value) (e:TypeId),e≠43→w.heap[k]? = some (.cells cs e (0,0))→w'.heap[k]? = w.heap[k]?:=fun k cs e he hk =>
  hg.block k (Array.getElem?_eq_some_iff.1 hk).1 (fun e'=>by
   have:=Option.some.inj e'
   subst this
   rw [e3] at hk
   simp at hk
   exact he hk.2.symm)
 refine ⟨⟨vs++[u],by rw [List.length_append];exact ho,by simp [hl],fun j hj=>?_⟩,hs⟩
 by_cases hjl:j < A.length
 ·obtain ⟨u',e,hu'⟩:=hN j hjl
  refine ⟨u',by rw [List.getElem?_append_left (by omega)];exact e,?_⟩
  rw [List.getElem_append_left hjl]
  exact hu'.calm fun g cs hg=>hs g cs _ (by decide) hg
 ·have:j = A.length:=by simp at hj;omega
  subst this
  refine ⟨u,by rw [←hl];simp,?_⟩
  rw [List.getElem_append_right (Nat.le_refl _)]
  simp only [Nat.sub_self,List.getElem_cons_zero]
  exact hu.calm fun g cs hg=>hs g cs _ (by decide) hg
end
theorem belThen {N:Nat} {w wr w':World} (h:Below N w wr) (hN:N = w.heap.size) (hb:Below wr.heap.size wr w'):Below N w w':=h.trans (hb.mono (by have:=h.size;omega))
theorem half_of (k:Nat):(k:Int).tdiv 2 = ((k / 2:Nat):Int):=by rw [Int.tdiv_eq_ediv_of_nonneg (by omega)];omega
theorem odd_of (k:Nat):((k:Int).tmod 2 == 1) = decide (k % 2 = 1):=by
 rw [Int.tmod_eq_emod_of_nonneg (by omega),Bool.eq_iff_iff,decide_eq_true_iff,beq_iff_eq];omega
theorem odd_of' (k:Nat):((k:Int) % 2 == 1) = decide (k % 2 = 1):=by rw [Bool.eq_iff_iff,decide_eq_true_iff,beq_iff_eq];omega
set_option maxRecDepth 100000 in
set_option maxHeartbeats 8000000 in
theorem tsize_any {s:St} {l:List Int} (hi:L.Inv s) (hfew:s.tree.length≤11) (hvr:varsR s.tree = some l) (hsb:L.SortedBel s.tree (s.tree.length - 1) l) (hl6:l.length≤6) (hsm:s.nodes.length≤1048576) {a:Nat} (ha:a < s.nodes.length) {o:List Nat} (hond:o.Nodup) (hor:∀ b,b∈o↔L.Reach s.nodes a b) {w:World} {b off c:Nat} {vf:Value} (ht:TreeAt w b off s.tree) (hf:TabAt w vf (L.tabO l (L.sem s.nodes a))) :
  Calls Tryz.prog 79 #[.slice (some ⟨b,off,none⟩) s.tree.length c,vf] w fun e w'=>e = .returned (.int .i64 (sumEl s.nodes o))∧Below w.heap.size w w':=by
 obtain ⟨N,hN⟩:∃ N,N = w.heap.size:=⟨_,rfl⟩
 have hlenT:Hid (∀ b,b < s.nodes.length→(L.tabO l (L.sem s.nodes b)).length = 2 ^ l.length):=Lib.hid fun b hb=>(L.tabO_is hsb.sorted (hi.tabDep hsb hb)).len
 have hM64:=pow_le64 hl6
 have hreach:Hid (∀ x,L.Reach s.nodes a x→x < s.nodes.length):=Lib.hid fun x hx=>by have:=hx.le hi.kids;omega
 have qE:Hid (∀ (x:Nat) (n:SNode),s.nodes[x]? = some n→∀ (W:World) (v:Value),Below N w W→SlB W v (L.tabO l (L.sem s.nodes x))→Calls Tryz.prog 77 #[.slice (some ⟨b,off,none⟩) s.tree.length c,v] W fun e w'=>RetEls (elT s l n) W e w'∧n.el.length≤64) :=
  Lib.hid fun x n hn W v hb hv=>telsN_any hi hfew hvr hsb hl6 hn (ht.below (by rw [←hN];exact hb)) hv
 have h0:Hid (RowT (w.alloc (.cells #[vf] 43)) N l s.nodes [a] (.slice (some ⟨w.heap.size,0,none⟩) 1 1)∧Below N w (w.alloc (.cells #[vf] 43))):=Lib.hid ⟨⟨[vf],World.ownsRow_lit w #[vf] 1 (by omega) (by unfold maxLen;omega) rfl,rfl,fun j hj=>by
  obtain rfl:j = 0:=by simpa using hj
  exact ⟨vf,rfl,hf.below ((Below.refl _ _).alloc (Nat.le_refl _) _)⟩⟩,by rw [hN];exact (Below.refl _ _).alloc (Nat.le_refl _) _⟩
 have hB0:=Lib.hid (L.Bfs.init s.nodes a)
 obtain ⟨gf,cf,lf,rfl⟩:∃ g c n,vf = .slice (some ⟨g,0,none⟩) n c:=by obtain ⟨g,c,_,e,_⟩:=hf;exact ⟨g,c,_,e⟩
 obtain ⟨j0,hj0,hzj0,hzj1,hzj2⟩:=info_parts tbs_info
 replace hi:=Lib.hid hi
 replace hsb:=Lib.hid hsb
 replace hvr:=Lib.hid hvr
 replace hN:=Lib.hid hN
 clear ht hf
 go_enter Tryz.func79,Tryz.ntmps79
 go_wp2_with fail
 go_loopw [5,6,7] (fun v zv iv wr=>∃ (A:List Nat) (i sz:Nat),i≤A.length∧sz≤64 * i∧iv = .int .i64 (i:Nat)∧zv = .int .i64 (sz:Nat)∧Hid (L.Bfs s.nodes a A i sz)∧Hid (RowT wr N l s.nodes A v∧Below N w wr)) (fun _ _ iv _=>s.nodes.length - (intOf iv).toNat)
 case atStart=>exact ⟨[a],0,0,by simp,by simp,rfl,rfl,hB0,h0⟩
 case round =>
  clear h0 hB0
  obtain ⟨A,i,sz,hile,hsz,rfl,rfl,hB,hR⟩:=hrel
  have hAn:A.length≤s.nodes.length:=by have:=hB.out.le hi.out.kids;omega
  obtain ⟨g1,cp1,e1⟩:∃ g cp,u5 = .slice (some ⟨g,0,none⟩) A.length cp:=by
   obtain ⟨⟨vs,h1,_⟩,_⟩:=hR.out
   obtain ⟨g,cp,e,_⟩:=own_at h1 (by have:=List.length_pos_of_mem hB.out.has;omega)
   exact ⟨g,cp,e⟩
  subst e1
  obtain ⟨m1,hm1⟩:∃ m,m = A.length:=⟨_,rfl⟩
  rw [←hm1] at hile hAn hR ⊢
  replace hm1:=Lib.hid hm1
  by_cases hlt:i < m1
  ·have dlt:decide ((i:Int) < (m1:Int)) = true:=decide_eq_true (by omega)
   have hlt':i < A.length:=by have:=hm1.out;omega
   have hxr:=hreach.out _ (hB.out.reach _ (List.getElem_mem hlt'))
   obtain ⟨n,hn⟩:∃ n,s.nodes[A[i]]? = some n:=⟨_,List.getElem?_eq_getElem hxr⟩
   obtain ⟨u,cu,hu⟩:=hR.out.1.cell hlt'
   have q1:=qE.out _ n hn wr u hR.out.2 hu.slB
   obtain ⟨gu,cu',lu,rfl⟩:∃ g c n,u = .slice (some ⟨g,0,none⟩) n c:=by obtain ⟨g,c,_,e,_⟩:=hu;exact ⟨g,c,_,e⟩
   have hBn:=Lib.hid (hB.out.next hlt' hn)
   have hAsub:Hid (∀ k,∀ b∈L.addW A n.el k,b < s.nodes.length):=Lib.hid fun k b hb=>by
    rcases L.addW_mem _ _ _ hb with hb | ⟨p,hp,h⟩
    ·exact hreach.out _ (hB.out.reach _ hb)
    ·obtain ⟨k1,k2⟩:=hi.out.kids _ _ hn _ hp
     rcases h with rfl | rfl <;> omega
   have hAnd:Hid (∀ k,(L.addW A n.el k).Nodup):=Lib.hid fun k=>L.addW_nodup hB.out.nd n.el k
   have i0:(0:Int)≤i:=by omega
   have i1:(i:Int) < m1:=by omega
   clear hu
   replace hn:=Lib.hid hn
   replace hxr:=Lib.hid hxr
   go_wp2_with fail
   refine q1.mono ?_
   rintro e w1 ⟨⟨v2,rfl,hE,hb1⟩,hn64⟩
   obtain ⟨En,hEn⟩:∃ En,En = n.el.length:=⟨_,rfl⟩
   obtain ⟨ba,cp,rfl⟩:∃ ba cp,v2 = .slice ba En cp:=by obtain ⟨ba,cp,e,_⟩:=hE;exact ⟨ba,cp,by rw [e,hEn];simp [elT]⟩
   rw [←hEn] at hn64
   have h1:Hid (RowT w1 N l s.nodes (L.addW A n.el 0) (.slice (some ⟨g1,0,none⟩) m1 cp1)∧EAt w1 (.slice ba En cp) (elT s l n)∧Below N w w1):=Lib.hid ⟨hR.out.1.next hb1,hE,belThen hR.out.2 hN.out hb1⟩
   replace hEn:=Lib.hid hEn
   clear q1 hR hE hb1 cu hB
   go_wp2_with fail
   go_loopw [5,9] (fun v kv wr=>∃ k:Nat,k≤2 * En∧kv = .int .i64 (k:Nat)∧Hid (RowT wr N l s.nodes (L.addW A n.el k) v∧EAt wr (.slice ba En cp) (elT s l n)∧Below N w wr)) (fun _ kv _=>2 * En - (intOf kv).toNat)
   case atStart=>exact ⟨0,Nat.zero_le _,rfl,h1⟩
   case round =>
    clear h1
    obtain ⟨k,hk,rfl,hI⟩:=hrel
    by_cases hkl:k < 2 * En
    ·have dk:decide ((k:Int) < 2 * (En:Int)) = true:=decide_eq_true (by omega)
     obtain ⟨A2,hA2⟩:∃ A2,A2 = L.addW A n.el k:=⟨_,rfl⟩
     have hlt2:=hAsub.out k
     have hnd2:=hAnd.out k
     have hI':=hI.out
     rw [←hA2] at hlt2 hnd2 hI'
     have hA2n:A2.length≤s.nodes.length:=L.nodup_lt _ _ hnd2 hlt2
     obtain ⟨m2,hm2⟩:∃ m,m = A2.length:=⟨_,rfl⟩
     have hpos2:0 < m2:=by
      obtain ⟨r,hr⟩:=L.addW_pre A n.el k
      rw [hm2,hA2,hr,List.length_append];have:=hm1.out;omega
     obtain ⟨g2,cp2,rfl⟩:∃ g cp,u5 = .slice (some ⟨g,0,none⟩) m2 cp:=by
      obtain ⟨⟨vs,h1,_⟩,_⟩:=hI'
      obtain ⟨g,cp,e,_⟩:=own_at h1 (by omega)
      exact ⟨g,cp,by rw [hm2];exact e⟩
     obtain ⟨hRw,hEc,hbw⟩:=hI'
     have hhl:k / 2 < n.el.length:=by have:=hEn.out;omega
     have hxk:=L.flat2_get n.el k hhl
     obtain ⟨ge,p,q,rfl,⟨c1,c2⟩,tp,tq⟩:=hEc.cell (j:=k / 2) (by simp [elT];exact hhl)
     simp only [elT,List.getElem_map] at tp tq
     have hpair:=hi.out.kids _ _ hn.out _ (List.getElem_mem hhl)
     have hhi:=half_of k
     have hod:=odd_of k
     have hod':=odd_of' k
     have h2i:(0:Int)≤((k / 2:Nat):Int):=by omega
     have h2l:((k / 2:Nat):Int) < En:=by omega
     have hm2n:m2≤s.nodes.length:=by omega
     replace hA2:=Lib.hid hA2.symm
     replace hRw:=Lib.hid hRw
     replace hbw:=Lib.hid hbw
     replace hlt2:=Lib.hid hlt2
     replace hnd2:=Lib.hid hnd2
     replace hm2:=Lib.hid hm2
     generalize hpq:n.el[k / 2] = pq at *
     obtain ⟨p0,q0⟩:=pq
     simp only at tp tq hxk hpair
     replace hpq:=Lib.hid hpq
     obtain ⟨kh,hkh⟩:∃ kh,kh = k / 2:=⟨_,rfl⟩
     rw [←hkh] at hhi h2i h2l c1 c2
     replace hkh:=Lib.hid hkh
     have hxr':=hxr.out
     by_cases hodd:k % 2 = 1
     ·rw [if_pos hodd] at hxk
      rw [decide_eq_true hodd] at hod hod'
      have hvg:=tq
      have hxlt:Hid (q0 < s.nodes.length):=Lib.hid (by omega)
      obtain ⟨gp,cpp,lp,rfl⟩:∃ g c n,p = .slice (some ⟨g,0,none⟩) n c:=by obtain ⟨g,c,_,e,_⟩:=tp;exact ⟨g,c,_,e⟩
      clear tp tq
      replace hodd:=Lib.hid hodd
      replace hxk:=Lib.hid hxk
      replace hEc:=Lib.hid hEc
      clear hI hpair
      obtain ⟨gx,cx,lx,rfl,hlx,hgx⟩:∃ gx cx lx,q = .slice (some ⟨gx,0,none⟩) lx cx∧lx = (L.tabO l (L.sem s.nodes q0)).length∧Hid (TabAt wr (.slice (some ⟨gx,0,none⟩) lx cx) (L.tabO l (L.sem s.nodes q0))):=by
       have hvg2:=hvg
       obtain ⟨g0,c0,cs0,e0,_⟩:=hvg2
       exact ⟨g0,c0,_,e0,rfl,Lib.hid (by rw [e0] at hvg;exact hvg)⟩
      clear hvg
      replace hlx:=Lib.hid hlx
      obtain ⟨w2,hw2⟩:∃ w2,w2 = wr:=⟨wr,rfl⟩
      have h3:Hid (Below wr.heap.size wr wr∧∀ j (hj:j < A2.length),j < 0→A2[j]≠q0):=Lib.hid ⟨Below.refl _ _,fun j _ h=>by omega⟩
      go_wp2_with fail
      clear c1 c2
      subst hw2
      go_loopw [11] (fun jv wr=>∃ j:Nat,j≤m2∧jv = .int .i64 (j:Nat)∧Hid (Below w2.heap.size w2 wr∧∀ i (hi:i < A2.length),i < j→A2[i]≠q0)) (fun jv _=>m2 - (intOf jv).toNat)
      case atStart=>exact ⟨0,Nat.zero_le _,rfl,h3⟩
      case round =>
       clear h3
       obtain ⟨j,hj,rfl,hJ⟩:=hrel
       by_cases hjl:j < m2
       ·have dj:decide ((j:Int) < (m2:Int)) = true:=decide_eq_true (by omega)
        have hjl':j < A2.length:=by have:=hm2.out;omega
        obtain ⟨u,cu,hu⟩:=(hRw.out.next hJ.out.1).cell hjl'
        have qs:=tsame_any hu.slB (hgx.out.below hJ.out.1).slB (by rw [hlenT.out _ (hlt2.out _ (List.getElem_mem hjl')),hlenT.out _ hxlt.out]) (by rw [hlenT.out _ (hlt2.out _ (List.getElem_mem hjl'))];omega)
        obtain ⟨gu,cu',lu,rfl⟩:∃ g c n,u = .slice (some ⟨g,0,none⟩) n c:=by obtain ⟨g,c,_,e,_⟩:=hu;exact ⟨g,c,_,e⟩
        have jj0:(0:Int)≤j:=by omega
        have jj1:(j:Int) < m2:=by omega
        clear hu
        by_cases hsame:A2[j] = q0
        ·have ht1:L.tabO l (L.sem s.nodes A2[j]) = L.tabO l (L.sem s.nodes q0):=by rw [hsame]
         rw [decide_eq_true ht1] at qs
         have hin:Hid (L.withL A2 q0 = A2):=Lib.hid (by unfold L.withL;rw [if_pos (by rw [←hsame];exact List.getElem_mem hjl')])
         replace hsame:=Lib.hid hsame
         replace ht1:=Lib.hid ht1
         go_wp2_with fail
         refine qs.mono ?_
         rintro e w6 ⟨rfl,hb6⟩
         have dkk:((j:Int) == (m2:Int)) = false:=beq_eq_false_iff_ne.2 (by omega)
         have hbb:=hJ.out.1.trans (hb6.mono hJ.out.1.size)
         have hnext:Hid (RowT w6 N l s.nodes (L.addW A n.el (k+1)) (.slice (some ⟨g2,0,none⟩) m2 cp2)∧EAt w6 (.slice (some ⟨ge,0,none⟩) En cp) (elT s l n)∧Below N w w6):=Lib.hid (by
          rw [L.addW_succ A n.el hxk.out,hA2.out,hin.out]
          exact ⟨hRw.out.next hbb,hEc.out.below hbb,belThen hbw.out hN.out hbb⟩)
         clear qs hJ hb6 hbb
         go_wp2_with fail
         go_roundw
         case rel=>exact ⟨k+1,by omega,by go_num,hnext⟩
         case measure=>simp [intOf];omega
        ·have ht1:¬ L.tabO l (L.sem s.nodes A2[j]) = L.tabO l (L.sem s.nodes q0):=fun e=>hsame ((hi.out.tab_eq hsb.out (hlt2.out _ (List.getElem_mem hjl')) hxlt.out).1 e)
         rw [decide_eq_false ht1] at qs
         replace ht1:=Lib.hid ht1
         go_wp2_with fail
         refine qs.mono ?_
         rintro e w6 ⟨rfl,hb6⟩
         have hnext:Hid (Below w2.heap.size w2 w6∧∀ i (hi:i < A2.length),i < j+1→A2[i]≠q0):=Lib.hid ⟨hJ.out.1.trans (hb6.mono hJ.out.1.size),fun i hi h=>by
          by_cases e:i = j
          ·subst e;exact hsame
          ·exact hJ.out.2 i hi (by omega)⟩
         replace hsame:=Lib.hid hsame
         clear qs hJ hb6
         go_wp2_with fail
         go_roundw
         case rel=>exact ⟨j+1,by omega,by go_num,hnext⟩
         case measure=>simp [intOf];omega
       ·have dj:decide ((j:Int) < (m2:Int)) = false:=decide_eq_false (by omega)
        obtain rfl:m2 = j:=by omega
        have dkk:((m2:Int) == (m2:Int)) = true:=by simp
        have hout:Hid (L.withL A2 q0 = A2++[q0]):=Lib.hid (by
         unfold L.withL
         rw [if_neg (fun h=>by
          obtain ⟨i,hi,e⟩:=List.getElem_of_mem h
          exact hJ.out.2 i hi (by have:=hm2.out;omega) e)])
        have hbe:=hJ.out.1
        have hba:=(Below.refl wr.heap.size wr).alloc (Nat.le_refl _) (.cells #[.slice (some ⟨gx,0,none⟩) lx cx] 43)
        have hbb:=hbe.trans (hba.mono hbe.size)
        obtain ⟨vs,x1,x2,x3⟩:=hRw.out.next hbb
        have x1':=own_cast x1 hm2.out.symm rfl
        replace x1:=Lib.hid x1
        replace x2:=Lib.hid x2
        replace x3:=Lib.hid x3
        have hux:=(hgx.out.below hbb)
        replace hux:=Lib.hid hux
        have hE9:=Lib.hid (hEc.out.below hbb)
        have hb9:=Lib.hid (belThen hbw.out hN.out hbb)
        have hNs:N≤(wr.alloc (.cells #[.slice (some ⟨gx,0,none⟩) lx cx] 43)).heap.size:=by have:=hb9.out.size;have:=hN.out;omega
        clear hJ hbe hbb
        go_wp2_with (at_builtin;(refine wpList_append_own _ rfl _ _ 33 rfl N 43 j0 (.slice none 0 0) 1 24 Tryz.underlying33 hj0 hzj0 hzj1 hzj2 rfl (by decide) _ _ _ rfl x1' ⟨wr.heap.size,0,none⟩ 1 1 [.slice (some ⟨gx,0,none⟩) lx cx] (by rfl) rfl (cell_one_at _ _ _ _ (by simp)) (by simp [Value.oneCell']) (by unfold maxLen;omega) (by omega) hNs ?_;intro v10 w10 ho10 hg10 _;obtain ⟨g10,p10,rfl,hg10N⟩:=own_at ho10 (by omega);obtain ⟨hpush,hst⟩:=RowT.push (ns:=s.nodes) (l:=l) x3.out x2.out x1.out (by rw [←hm2.out];omega) hux.out hg10 (own_cast ho10 (by rw [hm2.out]) rfl);have hb10:Below N w w10:=Below.grown hb9.out hg10 hNs (fun k e=>own_ge x1' e);have hnext:Hid (RowT w10 N l s.nodes (L.addW A n.el (k+1)) (.slice (some ⟨g10,0,none⟩) (m2+1) p10)∧EAt w10 (.slice (some ⟨ge,0,none⟩) En cp) (elT s l n)∧Below N w w10):=Lib.hid (by rw [L.addW_succ A n.el hxk.out,hA2.out,hout.out];exact ⟨hpush,hE9.out.calm hst,hb10⟩)))
        clear hpush hst hb10 ho10 hg10 x1'
        go_wp2_with fail
        go_roundw
        case rel=>exact ⟨k+1,by omega,by go_num,hnext⟩
        case measure=>simp [intOf];omega
     ·rw [if_neg hodd] at hxk
      rw [decide_eq_false hodd] at hod hod'
      have hvg:=tp
      have hxlt:Hid (p0 < s.nodes.length):=Lib.hid (by omega)
      clear tp tq
      replace hodd:=Lib.hid hodd
      replace hxk:=Lib.hid hxk
      replace hEc:=Lib.hid hEc
      clear hI hpair
      obtain ⟨gx,cx,lx,rfl,hlx,hgx⟩:∃ gx cx lx,p = .slice (some ⟨gx,0,none⟩) lx cx∧lx = (L.tabO l (L.sem s.nodes p0)).length∧Hid (TabAt wr (.slice (some ⟨gx,0,none⟩) lx cx) (L.tabO l (L.sem s.nodes p0))):=by
       have hvg2:=hvg
       obtain ⟨g0,c0,cs0,e0,_⟩:=hvg2
       exact ⟨g0,c0,_,e0,rfl,Lib.hid (by rw [e0] at hvg;exact hvg)⟩
      clear hvg
      replace hlx:=Lib.hid hlx
      obtain ⟨w2,hw2⟩:∃ w2,w2 = wr:=⟨wr,rfl⟩
      have h3:Hid (Below wr.heap.size wr wr∧∀ j (hj:j < A2.length),j < 0→A2[j]≠p0):=Lib.hid ⟨Below.refl _ _,fun j _ h=>by omega⟩
      go_wp2_with fail
      clear c1 c2
      subst hw2
      go_loopw [11] (fun jv wr=>∃ j:Nat,j≤m2∧jv = .int .i64 (j:Nat)∧Hid (Below w2.heap.size w2 wr∧∀ i (hi:i < A2.length),i < j→A2[i]≠p0)) (fun jv _=>m2 - (intOf jv).toNat)
      case atStart=>exact ⟨0,Nat.zero_le _,rfl,h3⟩
      case round =>
       clear h3
       obtain ⟨j,hj,rfl,hJ⟩:=hrel
       by_cases hjl:j < m2
       ·have dj:decide ((j:Int) < (m2:Int)) = true:=decide_eq_true (by omega)
        have hjl':j < A2.length:=by have:=hm2.out;omega
        obtain ⟨u,cu,hu⟩:=(hRw.out.next hJ.out.1).cell hjl'
        have qs:=tsame_any hu.slB (hgx.out.below hJ.out.1).slB (by rw [hlenT.out _ (hlt2.out _ (List.getElem_mem hjl')),hlenT.out _ hxlt.out]) (by rw [hlenT.out _ (hlt2.out _ (List.getElem_mem hjl'))];omega)
        obtain ⟨gu,cu',lu,rfl⟩:∃ g c n,u = .slice (some ⟨g,0,none⟩) n c:=by obtain ⟨g,c,_,e,_⟩:=hu;exact ⟨g,c,_,e⟩
        have jj0:(0:Int)≤j:=by omega
        have jj1:(j:Int) < m2:=by omega
        clear hu
        by_cases hsame:A2[j] = p0
        ·have ht1:L.tabO l (L.sem s.nodes A2[j]) = L.tabO l (L.sem s.nodes p0):=by rw [hsame]
         rw [decide_eq_true ht1] at qs
         have hin:Hid (L.withL A2 p0 = A2):=Lib.hid (by unfold L.withL;rw [if_pos (by rw [←hsame];exact List.getElem_mem hjl')])
         replace hsame:=Lib.hid hsame
         replace ht1:=Lib.hid ht1
         go_wp2_with fail
         refine qs.mono ?_
         rintro e w6 ⟨rfl,hb6⟩
         have dkk:((j:Int) == (m2:Int)) = false:=beq_eq_false_iff_ne.2 (by omega)
         have hbb:=hJ.out.1.trans (hb6.mono hJ.out.1.size)
         have hnext:Hid (RowT w6 N l s.nodes (L.addW A n.el (k+1)) (.slice (some ⟨g2,0,none⟩) m2 cp2)∧EAt w6 (.slice (some ⟨ge,0,none⟩) En cp) (elT s l n)∧Below N w w6):=Lib.hid (by
          rw [L.addW_succ A n.el hxk.out,hA2.out,hin.out]
          exact ⟨hRw.out.next hbb,hEc.out.below hbb,belThen hbw.out hN.out hbb⟩)
         clear qs hJ hb6 hbb
         go_wp2_with fail
         go_roundw
         case rel=>exact ⟨k+1,by omega,by go_num,hnext⟩
         case measure=>simp [intOf];omega
        ·have ht1:¬ L.tabO l (L.sem s.nodes A2[j]) = L.tabO l (L.sem s.nodes p0):=fun e=>hsame ((hi.out.tab_eq hsb.out (hlt2.out _ (List.getElem_mem hjl')) hxlt.out).1 e)
         rw [decide_eq_false ht1] at qs
         replace ht1:=Lib.hid ht1
         go_wp2_with fail
         refine qs.mono ?_
         rintro e w6 ⟨rfl,hb6⟩
         have hnext:Hid (Below w2.heap.size w2 w6∧∀ i (hi:i < A2.length),i < j+1→A2[i]≠p0):=Lib.hid ⟨hJ.out.1.trans (hb6.mono hJ.out.1.size),fun i hi h=>by
          by_cases e:i = j
          ·subst e;exact hsame
          ·exact hJ.out.2 i hi (by omega)⟩
         replace hsame:=Lib.hid hsame
         clear qs hJ hb6
         go_wp2_with fail
         go_roundw
         case rel=>exact ⟨j+1,by omega,by go_num,hnext⟩
         case measure=>simp [intOf];omega
       ·have dj:decide ((j:Int) < (m2:Int)) = false:=decide_eq_false (by omega)
        obtain rfl:m2 = j:=by omega
        have dkk:((m2:Int) == (m2:Int)) = true:=by simp
        have hout:Hid (L.withL A2 p0 = A2++[p0]):=Lib.hid (by
         unfold L.withL
         rw [if_neg (fun h=>by
          obtain ⟨i,hi,e⟩:=List.getElem_of_mem h
          exact hJ.out.2 i hi (by have:=hm2.out;omega) e)])
        have hbe:=hJ.out.1
        have hba:=(Below.refl wr.heap.size wr).alloc (Nat.le_refl _) (.cells #[.slice (some ⟨gx,0,none⟩) lx cx] 43)
        have hbb:=hbe.trans (hba.mono hbe.size)
        obtain ⟨vs,x1,x2,x3⟩:=hRw.out.next hbb
        have x1':=own_cast x1 hm2.out.symm rfl
        replace x1:=Lib.hid x1
        replace x2:=Lib.hid x2
        replace x3:=Lib.hid x3
        have hux:=(hgx.out.below hbb)
        replace hux:=Lib.hid hux
        have hE9:=Lib.hid (hEc.out.below hbb)
        have hb9:=Lib.hid (belThen hbw.out hN.out hbb)
        have hNs:N≤(wr.alloc (.cells #[.slice (some ⟨gx,0,none⟩) lx cx] 43)).heap.size:=by have:=hb9.out.size;have:=hN.out;omega
        clear hJ hbe hbb
        go_wp2_with (at_builtin;(refine wpList_append_own _ rfl _ _ 33 rfl N 43 j0 (.slice none 0 0) 1 24 Tryz.underlying33 hj0 hzj0 hzj1 hzj2 rfl (by decide) _ _ _ rfl x1' ⟨wr.heap.size,0,none⟩ 1 1 [.slice (some ⟨gx,0,none⟩) lx cx] (by rfl) rfl (cell_one_at _ _ _ _ (by simp)) (by simp [Value.oneCell']) (by unfold maxLen;omega) (by omega) hNs ?_;intro v10 w10 ho10 hg10 _;obtain ⟨g10,p10,rfl,hg10N⟩:=own_at ho10 (by omega);obtain ⟨hpush,hst⟩:=RowT.push (ns:=s.nodes) (l:=l) x3.out x2.out x1.out (by rw [←hm2.out];omega) hux.out hg10 (own_cast ho10 (by rw [hm2.out]) rfl);have hb10:Below N w w10:=Below.grown hb9.out hg10 hNs (fun k e=>own_ge x1' e);have hnext:Hid (RowT w10 N l s.nodes (L.addW A n.el (k+1)) (.slice (some ⟨g10,0,none⟩) (m2+1) p10)∧EAt w10 (.slice (some ⟨ge,0,none⟩) En cp) (elT s l n)∧Below N w w10):=Lib.hid (by rw [L.addW_succ A n.el hxk.out,hA2.out,hout.out];exact ⟨hpush,hE9.out.calm hst,hb10⟩)))
        clear hpush hst hb10 ho10 hg10 x1'
        go_wp2_with fail
        go_roundw
        case rel=>exact ⟨k+1,by omega,by go_num,hnext⟩
        case measure=>simp [intOf];omega
    ·have dk:decide ((k:Int) < 2 * (En:Int)) = false:=decide_eq_false (by omega)
     obtain rfl:k = 2 * En:=by omega
     have hnext:Hid (RowT wr N l s.nodes (L.addP A n.el) u5∧Below N w wr):=Lib.hid (by
      have:=hI.out
      rw [hEn.out,L.addW_end] at this
      exact ⟨this.1,this.2.2⟩)
     have hBn':Hid (L.Bfs s.nodes a (L.addP A n.el) (i+1) (sz+En)):=Lib.hid (by rw [hEn.out];exact hBn.out)
     have hlen1:Hid (i+1≤(L.addP A n.el).length):=Lib.hid (by
      obtain ⟨r,hr⟩:=L.addP_pre A n.el
      rw [hr,List.length_append];have:=hm1.out;omega)
     clear hI
     go_wp2_with fail
     go_roundw
     case rel=>exact ⟨_,i+1,sz+En,hlen1.out,by omega,by go_num,by go_num,hBn',hnext⟩
     case measure=>simp [intOf];omega
  ·have dlt:decide ((i:Int) < (m1:Int)) = false:=decide_eq_false (by omega)
   obtain rfl:i = m1:=by omega
   have hfin:sumEl s.nodes o = sz:=by
    have:=hB.out
    rw [hm1.out] at this
    exact this.end hond hor
   have hbw:=hR.out.2
   rw [hN.out] at hbw
   replace hbw:=Lib.hid hbw
   replace hfin:=Lib.hid hfin
   clear hR
   go_wp2_with fail
   go_ret
   exact ⟨by rw [hfin.out];rfl,hbw.out⟩
end Go.Proofs.YteikmmfjhabijaaGreatDoor
