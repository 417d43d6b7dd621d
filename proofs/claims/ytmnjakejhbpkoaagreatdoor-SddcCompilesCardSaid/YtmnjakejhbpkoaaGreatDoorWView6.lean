import Derived.Test.YtmnjakejhbpkoaaGreatDoorWView5
set_option linter.unusedSimpArgs false
set_option linter.unusedVariables false
namespace Go.Proofs.YtmnjakejhbpkoaaGreatDoor
open Go Go.RowKit Go.Shelf
theorem fr_cell {p:Nat} {V V':World} (h:Fr [p] V V') {a:Addr} {v:Value} (hc:V.cell? a = some v) (hne:a.block≠p):V'.cell? a = some v:=by
 have hl:=World.block_lt_of_cell? _ _ hc
 rw [←hc]
 simp only [World.cell?,h.block _ hl (by simpa using hne)]
theorem fr_get {p:Nat} {V V':World} (h:Fr [p] V V') {b:Nat} {o:Obj} (hc:V.heap[b]? = some o) (hne:b≠p):V'.heap[b]? = some o :=
 (h.block _ (Array.getElem?_eq_some_iff.1 hc).1 (by simpa using hne)).trans hc
theorem lenL {t:List VN} (hc:checkF t = 0) (hfew:t.length≤11) {P:Nat} {y:VN} {l r:Nat} (hy:t[P]? = some y) (hyl:y.left = l) (hyr:y.right = r):(L.vl t l).length≤6∧(L.vl t r).length≤6:=by
 have hP:=(List.getElem?_eq_some_iff.1 hy).1
 have h1:∀ v,(L.vl t v).length≤6:=fun v=>by
  by_cases hv:v < t.length
  ·have:=L.nv_le hc hv;unfold L.nv at this;omega
  ·have e:t[v]? = none:=List.getElem?_eq_none (by omega)
   unfold L.vl L.vlF
   rw [e];exact Nat.zero_le _
 exact ⟨h1 l,h1 r⟩
def numL (n:Nat):ByteArray:=⟨(natL n).toArray⟩
section
variable {t:List VN} {sb k:Nat} {X:List Nat} {s:St} {w0:World} {xv gt ct gb pc pn:Nat} {f:Nat→VSet} {wb W:World} {m:List (Nat × Nat)}
structure LpM (t:List VN) (s:St) (pc:Nat) (wb W:World) (g9 ge:Nat) (cs:Array Value) (c:Nat) (wr:World):Prop where
 fi:∃ m',FI t s pc wb m' wr
 fr:Fr [pc] W wr
 n:wr.heap[g9]? = some (.cells #[.string (numL c)] 52 (0,0))
 r:wr.heap[W.heap.size]? = some (.cells #[.string ⟨#[]⟩] 52 (0,0))
 el:wr.heap[ge]? = some (.cells cs tPair (0,0))
set_option maxRecDepth 100000 in
set_option maxHeartbeats 16000000 in
theorem models_dec (h0:MI0 t sb k X s w0 xv gt ct gb pc pn f wb) (hF:FI t s pc wb m W) {a at_:Nat} (h2:2≤a) (hat:at_ < t.length) {nd:SNode} {P:Nat} (hn:s.nodes[a]? = some nd) (hpl:nd.pl = (P:Nat)) (hP:P < t.length) (hu:L.Und t at_ P) (hd:L.Dep (L.Bel t P) (L.sem s.nodes a)) (hm:asc m a = none)
  {y:VN} {l r:Nat} (hy:t[P]? = some y) (hyl:y.left = l) (hyr:y.right = r) (hne:nd.el≠[]) (he:L.sumC t s.nodes l r nd.el = L.cnt (L.vl t P) (L.sem s.nodes a))
  (ih:∀ p∈nd.el,∀ (m':List (Nat × Nat)) (V:World),FI t s pc wb m' V→Calls Tryz.prog 97 #[.pointer (some ⟨xv,0,none⟩),.int .i64 (p.1:Nat),.int .i64 (l:Nat)] V (RetM t s pc wb V (L.cnt (L.vl t l) (L.sem s.nodes p.1))) ∧
    Calls Tryz.prog 97 #[.pointer (some ⟨xv,0,none⟩),.int .i64 (p.2:Nat),.int .i64 (r:Nat)] V (RetM t s pc wb V (L.cnt (L.vl t r) (L.sem s.nodes p.2)))) :
  Calls Tryz.prog 97 #[.pointer (some ⟨xv,0,none⟩),.int .i64 (a:Nat),.int .i64 (at_:Nat)] W (RetM t s pc wb W (L.cnt (L.vl t at_) (L.sem s.nodes a))):=by
 have hc:=h0.sl.chk
 obtain ⟨c,he⟩:∃ c,c = L.cnt (L.vl t P) (L.sem s.nodes a):=⟨_,rfl⟩
 rename_i he0
 rw [←he] at he0
 obtain ⟨hPn,hn6,hN8,hcp,hc8,hp8,hcnt⟩:=cnt6 hc h0.sl.few hP hat hu hd he
 replace hcnt:=Lib.hid hcnt
 replace he:=Lib.hid he
 replace he0:=Lib.hid he0
 replace ih:=Lib.hid ih
 have hlen:nd.el.length≤1048576:=by
  obtain ⟨B,_,hR,_⟩:=h0.sl.on
  exact (hR.small.2 nd (List.mem_of_getElem? hn)).2.2.2.2.1
 have hl0:0 < nd.el.length:=List.length_pos_iff.2 hne
 have d0:((a:Int) == 0) = false:=by rw [beq_eq_false_iff_ne];omega
 have d1:((a:Int) == 1) = false:=by rw [beq_eq_false_iff_ne];omega
 have dl:((nd.el.length:Int) == 0) = false:=by rw [beq_eq_false_iff_ne];omega
 have hb1:=(Below.refl W.heap.size W).alloc (Nat.le_refl _) (.cells #[.string ⟨#[]⟩] 52)
 have hx1:=heap_alloc_new W (.cells #[.string ⟨#[]⟩] 52)
 obtain ⟨w1,hw1⟩:∃ w1,w1 = W.alloc (.cells #[.string ⟨#[]⟩] 52):=⟨_,rfl⟩
 rw [←hw1] at hb1 hx1
 have hF1:=hF.below hb1
 have hV1:=h0.vwAt hF1.fr
 have q1:=(h0.slAt hF1.fr).at hn
 rw [hpl] at q1
 have c0:w1.cell? ⟨xv,0,none⟩ = some (.pointer (some ⟨sb,0,none⟩)):=by simp [World.cell?,hV1.box]
 have c3:w1.cell? ⟨xv,3,none⟩ = some (.map (some pc)):=by simp [World.cell?,hV1.box]
 rw [hw1] at c0 c3
 go_enter Tryz.func97,Tryz.ntmps97
 go_wp2_with fail
 rw [←hw1] at c0 c3 ⊢
 refine q1.mono ?_
 rintro e w2 ⟨rfl,hb2⟩
 have hgW:W.heap.size < w2.heap.size:=by have:=hb2.size;rw [hw1] at this;simp at this;omega
 replace hw1:=Lib.hid hw1
 have hF2:=hF1.below hb2
 have lk:=hF2.look a
 rw [hm,show ((none:Option Nat).map encC).getD (natV 0) = .agg #[.string ⟨#[]⟩] from rfl,show (none:Option Nat).isSome = false from rfl] at lk
 have e3:=(hb2.cell (World.block_lt_of_cell? _ _ c3)).trans c3
 have hr2:=(hb2.block _ (Array.getElem?_eq_some_iff.1 hx1).1).trans hx1
 have hb3:Below w2.heap.size w2 (w2.alloc (.cells #[.string ⟨#[]⟩] 52)):=(Below.refl _ _).alloc (Nat.le_refl _) _
 have hF3:=hF2.below hb3
 have h3:=heap_alloc_new w2 (.cells #[.string ⟨#[]⟩] 52)
 have hr3:=(hb3.block _ (Array.getElem?_eq_some_iff.1 hr2).1).trans hr2
 have hfr3:Fr [pc] W (w2.alloc (.cells #[.string ⟨#[]⟩] 52)):=fr_below pc (hb1.trans ((hb2.trans (hb3.mono hb2.size)).mono hb1.size))
 have q4:=(h0.slAt hF3.fr).elements hn
 have k0:(w2.alloc (.cells #[.string ⟨#[]⟩] 52)).cell? ⟨xv,0,none⟩ = some (.pointer (some ⟨sb,0,none⟩)):=by simp [World.cell?,(h0.vwAt hF3.fr).box]
 have hg9w:w2.heap.size < (w2.alloc (.cells #[.string ⟨#[]⟩] 52)).heap.size:=by simp
 clear q1 c0 c3 hx1 hV1 hr2 hF1
 go_wp2_with fail
 generalize hg9:w2.heap.size = g9 at *
 generalize w2.alloc (.cells #[.string ⟨#[]⟩] 52) = w3 at *
 replace hg9:=Lib.hid hg9
 refine q4.mono ?_
 rintro e w4 ⟨ba,cap,rfl,hNP,hb4⟩
 obtain ⟨ge,cs,rfl,hge,he4,hcs⟩:=hNP.cells hne
 have hF4:=hF3.below hb4
 have h4:=(hb4.block _ (Array.getElem?_eq_some_iff.1 h3).1).trans h3
 have hr4:=(hb4.block _ (Array.getElem?_eq_some_iff.1 hr3).1).trans hr3
 have hfr4:=FrV.trans hfr3 (fr_below pc hb4)
 have hgp:wb.heap.size≤g9∧g9≠pc:=by have:=hF2.fr.size;have:=hF2.mp.lt;have:=hg9.out;omega
 have hgep:ge≠pc∧ge≠g9:=by have:=hF3.mp.lt;omega
 have hWp:W.heap.size≠pc:=by have:=hF.mp.lt;omega
 have hloop:Hid (LpM t s pc wb W g9 ge cs 0 w4):=Lib.hid ⟨⟨m,hF4⟩,hfr4,h4,hr4,he4⟩
 replace hcs:=Lib.hid hcs
 clear q4 hF3 h3 hr3 hfr3 k0 lk e3 hNP hF4 h4 hr4 hfr4 he4 hF2
 go_wp2_with fail
 go_loopw [60] (fun i wr=>∃ j:Nat,j≤nd.el.length∧i = .int .i64 j∧Hid (LpM t s pc wb W g9 ge cs (L.sumC t s.nodes l r (nd.el.take j)) wr)) (fun i _=>nd.el.length - (intOf i).toNat)
 case atStart=>exact ⟨0,Nat.zero_le _,rfl,hloop⟩
 case round =>
  clear hloop
  obtain ⟨j,hj,rfl,hI⟩:=hrel
  by_cases hlt:j < nd.el.length
  ·obtain ⟨⟨mj,hFj⟩,hfrj,hnj,hrj,helj⟩:=hI.out
   clear hI
   have dlt:decide ((j:Int) < (nd.el.length:Int)) = true:=decide_eq_true (by omega)
   have q0:(0:Int)≤j:=by omega
   have q1:(j:Int) < nd.el.length:=by omega
   obtain ⟨e1,e2⟩:=hcs.out j hlt
   have x1:wr.cell? ⟨ge,j * 2,none⟩ = some (.int .i64 (nd.el[j].1:Nat)):=by simp [World.cell?,helj,e1]
   have x2:wr.cell? ⟨ge,j * 2+1,none⟩ = some (.int .i64 (nd.el[j].2:Nat)):=by simp [World.cell?,helj,e2]
   have hmem:nd.el[j]∈nd.el:=List.getElem_mem hlt
   have hsn:L.sumC t s.nodes l r (nd.el.take (j+1)) = L.sumC t s.nodes l r (nd.el.take j)+L.cnt (L.vl t l) (L.sem s.nodes nd.el[j].1) * L.cnt (L.vl t r) (L.sem s.nodes nd.el[j].2):=by
    rw [List.take_succ_eq_append_getElem hlt,L.sumC_snoc]
   have hsl:L.sumC t s.nodes l r (nd.el.take (j+1))≤c:=by
    have:=L.sumC_le (t:=t) s.nodes l r (nd.el.take (j+1)) (nd.el.drop (j+1))
    rw [List.take_append_drop,he0.out] at this;exact this
   have ihp:=Lib.hid (ih.out nd.el[j] hmem)
   generalize nd.el[j] = p at *
   obtain ⟨p1,p2⟩:=p
   simp only at x1 x2 hsn ihp
   obtain ⟨C1,hC1⟩:∃ C,C = L.cnt (L.vl t l) (L.sem s.nodes p1):=⟨_,rfl⟩
   obtain ⟨C2,hC2⟩:∃ C,C = L.cnt (L.vl t r) (L.sem s.nodes p2):=⟨_,rfl⟩
   rw [←hC1,←hC2] at hsn ihp
   replace hC1:=Lib.hid hC1
   replace hC2:=Lib.hid hC2
   obtain ⟨cj,hcj⟩:∃ C,C = L.sumC t s.nodes l r (nd.el.take j):=⟨_,rfl⟩
   rw [←hcj] at hsn hnj
   replace hcj:=Lib.hid hcj
   have hsum:cj+C1 * C2 < 256:=by omega
   replace hsn:=Lib.hid hsn
   have hb5:Below wr.heap.size wr (wr.alloc (.cells #[.int .i64 (p1:Nat),.int .i64 (p2:Nat)] 165)):=(Below.refl _ _).alloc (Nat.le_refl _) _
   have hF5:=hFj.below hb5
   have h5:=heap_alloc_new wr (.cells #[.int .i64 (p1:Nat),.int .i64 (p2:Nat)] 165)
   have hn5:=(hb5.block _ (Array.getElem?_eq_some_iff.1 hnj).1).trans hnj
   have hr5:=(hb5.block _ (Array.getElem?_eq_some_iff.1 hrj).1).trans hrj
   have he5:=(hb5.block _ (Array.getElem?_eq_some_iff.1 helj).1).trans helj
   have hfr5:=FrV.trans hfrj (fr_below pc hb5)
   have hq5:wr.heap.size≠pc:=by have:=hFj.mp.lt;omega
   clear e1 e2 hFj hnj hrj helj hfrj
   go_wp2_with fail
   generalize hqb:wr.heap.size = q at *
   generalize wr.alloc (.cells #[.int .i64 (p1:Nat),.int .i64 (p2:Nat)] 165) = w5 at *
   replace hqb:=Lib.hid hqb
   clear x1 x2 hb5
   have hV5:=h0.vwAt hF5.fr
   have hPl:P < t.length:=hP
   obtain ⟨n0,n1,_⟩:=hV5.tree.node hP
   have hyP:t[P] = y:=by rw [List.getElem?_eq_getElem hP] at hy;exact Option.some.inj hy
   rw [hyP,hyl,Nat.zero_add] at n0
   rw [hyP,hyr,Nat.zero_add] at n1
   have k9:w5.cell? ⟨g9,0,none⟩ = some (.string (numL cj)):=by simp [World.cell?,hn5]
   have k1:w5.cell? ⟨q,0,none⟩ = some (.int .i64 (p1:Nat)):=by simp [World.cell?,h5]
   have k2:w5.cell? ⟨q,1,none⟩ = some (.int .i64 (p2:Nat)):=by simp [World.cell?,h5]
   have kv:w5.cell? ⟨xv,1,none⟩ = some (.slice (some ⟨gt,0,none⟩) t.length ct):=by simp [World.cell?,hV5.box]
   have hxp:=h0.ne.1
   have hgp2:=h0.ne.2.1
   have hSt:=Lib.hid fun (V V1:World) (hFr:Fr [pc] V V1) (hS:V.cell? ⟨g9,0,none⟩ = some (.string (numL cj))∧(V.cell? ⟨q,0,none⟩ = some (.int .i64 (p1:Nat))∧V.cell? ⟨q,1,none⟩ = some (.int .i64 (p2:Nat)))∧V.cell? ⟨xv,1,none⟩ = some (.slice (some ⟨gt,0,none⟩) t.length ct)∧V.cell? ⟨gt,P * 3,none⟩ = some (.int .i64 (l:Nat))∧V.cell? ⟨gt,P * 3+1,none⟩ = some (.int .i64 (r:Nat))) =>
    (⟨fr_cell hFr hS.1 hgp.2,⟨fr_cell hFr hS.2.1.1 hq5,fr_cell hFr hS.2.1.2 hq5⟩,fr_cell hFr hS.2.2.1 hxp,fr_cell hFr hS.2.2.2.1 hgp2,fr_cell hFr hS.2.2.2.2 hgp2⟩:V1.cell? ⟨g9,0,none⟩ = some (.string (numL cj))∧(V1.cell? ⟨q,0,none⟩ = some (.int .i64 (p1:Nat))∧V1.cell? ⟨q,1,none⟩ = some (.int .i64 (p2:Nat)))∧V1.cell? ⟨xv,1,none⟩ = some (.slice (some ⟨gt,0,none⟩) t.length ct)∧V1.cell? ⟨gt,P * 3,none⟩ = some (.int .i64 (l:Nat))∧V1.cell? ⟨gt,P * 3+1,none⟩ = some (.int .i64 (r:Nat)))
   have g0:(0:Int)≤P:=by omega
   have g1:(P:Int) < t.length:=by omega
   replace hn5:=Lib.hid hn5
   replace hr5:=Lib.hid hr5
   replace he5:=Lib.hid he5
   replace h5:=Lib.hid h5
   replace hV5:=Lib.hid hV5
   replace hyP:=Lib.hid hyP
   have hF6:=hF5.below ((Below.refl w5.heap.size w5).drew)
   replace hF5:=Lib.hid hF5
   (refine wp_region_z (S:=(fun V=>V.cell? ⟨g9,0,none⟩ = some (.string (numL cj))∧(V.cell? ⟨q,0,none⟩ = some (.int .i64 (p1:Nat))∧V.cell? ⟨q,1,none⟩ = some (.int .i64 (p2:Nat)))∧V.cell? ⟨xv,1,none⟩ = some (.slice (some ⟨gt,0,none⟩) t.length ct)∧V.cell? ⟨gt,P * 3,none⟩ = some (.int .i64 (l:Nat))∧V.cell? ⟨gt,P * 3+1,none⟩ = some (.int .i64 (r:Nat)))) 27 (by kernel_rfl) ?_ (fun hHeld=>?_))
   ·exact ⟨k9,⟨k1,k2⟩,kv,n0,n1⟩
   (refine wpZ_take (i:=0) (v:=?_) rfl (by kernel_rfl) (by decide) (by kernel_rfl) (by kernel_rfl) (by kernel_rfl) (fun _ _ _ h=>h) (Or.inl ⟨by rfl,?_⟩) (by assumption) ?_)
   rotate_left
   ·(intro w hSw;(try dsimp only at hSw);obtain ⟨s9,⟨s1,s2⟩,sv,t0,t1⟩:=hSw;go_simp;first | done | with_reducible rfl)
   (try simp only [Act.put,List.setIfInBounds_toArray,List.set_cons_zero,List.set_cons_succ])
   (refine wpZ_take (i:=1) (v:=?_) rfl (by kernel_rfl) (by decide) (by kernel_rfl) (by kernel_rfl) (by kernel_rfl) (fun _ _ _ h=>h) (Or.inl ⟨by rfl,?_⟩) (by assumption) ?_)
   rotate_left
   ·(intro w hSw;(try dsimp only at hSw);skip;go_simp;first | done | with_reducible rfl)
   (try simp only [Act.put,List.setIfInBounds_toArray,List.set_cons_zero,List.set_cons_succ])
   (refine wpZ_take (i:=2) (v:=?_) rfl (by kernel_rfl) (by decide) (by kernel_rfl) (by kernel_rfl) (by kernel_rfl) (fun _ _ _ h=>h) (Or.inl ⟨by rfl,?_⟩) (by assumption) ?_)
   rotate_left
   ·(intro w hSw;(try dsimp only at hSw);skip;go_simp;first | done | with_reducible rfl)
   (try simp only [Act.put,List.setIfInBounds_toArray,List.set_cons_zero,List.set_cons_succ])
   (refine wpZ_take (i:=3) (v:=?_) rfl (by kernel_rfl) (by decide) (by kernel_rfl) (by kernel_rfl) (by kernel_rfl) (fun _ _ _ h=>h) (Or.inl ⟨by rfl,?_⟩) (by assumption) ?_)
   rotate_left
   ·(intro w hSw;(try dsimp only at hSw);obtain ⟨s9,⟨s1,s2⟩,sv,t0,t1⟩:=hSw;go_simp;first | done | with_reducible rfl)
   (try simp only [Act.put,List.setIfInBounds_toArray,List.set_cons_zero,List.set_cons_succ])
   (refine wpZ_take (i:=4) (v:=?_) rfl (by kernel_rfl) (by decide) (by kernel_rfl) (by kernel_rfl) (by kernel_rfl) (fun _ _ _ h=>h) (Or.inl ⟨by rfl,?_⟩) (by assumption) ?_)
   rotate_left
   ·(intro w hSw;(try dsimp only at hSw);skip;go_simp;first | done | with_reducible rfl)
   (try simp only [Act.put,List.setIfInBounds_toArray,List.set_cons_zero,List.set_cons_succ])
   (refine wpZ_take (i:=5) (v:=?_) rfl (by kernel_rfl) (by decide) (by kernel_rfl) (by kernel_rfl) (by kernel_rfl) (fun _ _ _ h=>h) (Or.inl ⟨by rfl,?_⟩) (by assumption) ?_)
   rotate_left
   ·(intro w hSw;(try dsimp only at hSw);skip;go_simp;first | done | with_reducible rfl)
   (try simp only [Act.put,List.setIfInBounds_toArray,List.set_cons_zero,List.set_cons_succ])
   (refine wpZ_take (i:=6) (v:=?_) rfl (by kernel_rfl) (by decide) (by kernel_rfl) (by kernel_rfl) (by kernel_rfl) (fun _ _ _ h=>h) (Or.inl ⟨by rfl,?_⟩) (by assumption) ?_)
   rotate_left
   ·(intro w hSw;(try dsimp only at hSw);skip;go_simp;first | done | with_reducible rfl)
   (try simp only [Act.put,List.setIfInBounds_toArray,List.set_cons_zero,List.set_cons_succ])
   (refine wpZ_take (i:=7) (v:=?_) rfl (by kernel_rfl) (by decide) (by kernel_rfl) (by kernel_rfl) (by kernel_rfl) (fun _ _ _ h=>h) (Or.inl ⟨by rfl,?_⟩) (by assumption) ?_)
   rotate_left
   ·(intro w hSw;(try dsimp only at hSw);obtain ⟨s9,⟨s1,s2⟩,sv,t0,t1⟩:=hSw;go_simp;first | done | with_reducible rfl)
   (try simp only [Act.put,List.setIfInBounds_toArray,List.set_cons_zero,List.set_cons_succ])
   (refine wpZ_take (i:=8) (v:=?_) rfl (by kernel_rfl) (by decide) (by kernel_rfl) (by kernel_rfl) (by kernel_rfl) (fun _ _ _ h=>h) (Or.inl ⟨by rfl,?_⟩) (by assumption) ?_)
   rotate_left
   ·(intro w hSw;(try dsimp only at hSw);skip;go_simp;first | done | with_reducible rfl)
   (try simp only [Act.put,List.setIfInBounds_toArray,List.set_cons_zero,List.set_cons_succ])
   (refine wpZ_take (i:=9) (v:=?_) rfl (by kernel_rfl) (by decide) (by kernel_rfl) (by kernel_rfl) (by kernel_rfl) (fun _ _ _ h=>h) (Or.inl ⟨by rfl,?_⟩) (by assumption) ?_)
   rotate_left
   ·(intro w hSw;(try dsimp only at hSw);skip;go_simp;first | done | with_reducible rfl)
   (try simp only [Act.put,List.setIfInBounds_toArray,List.set_cons_zero,List.set_cons_succ])
   (refine wpZ_take (i:=10) (v:=?_) rfl (by kernel_rfl) (by decide) (by kernel_rfl) (by kernel_rfl) (by kernel_rfl) (fun _ _ _ h=>h) (Or.inl ⟨by rfl,?_⟩) (by assumption) ?_)
   rotate_left
   ·(intro w hSw;(try dsimp only at hSw);skip;go_simp;first | done | with_reducible rfl)
   (try simp only [Act.put,List.setIfInBounds_toArray,List.set_cons_zero,List.set_cons_succ])
   (refine wpZ_take (i:=11) (v:=?_) rfl (by kernel_rfl) (by decide) (by kernel_rfl) (by kernel_rfl) (by kernel_rfl) (fun _ _ _ h=>h) (Or.inl ⟨by rfl,?_⟩) (by assumption) ?_)
   rotate_left
   ·(intro w hSw;(try dsimp only at hSw);obtain ⟨s9,⟨s1,s2⟩,sv,t0,t1⟩:=hSw;go_simp;first | done | with_reducible rfl)
   (try simp only [Act.put,List.setIfInBounds_toArray,List.set_cons_zero,List.set_cons_succ])
   (refine wpZ_take (i:=13) (v:=?_) rfl (by kernel_rfl) (by decide) (by kernel_rfl) (by kernel_rfl) (by kernel_rfl) (fun _ _ _ h=>h) (Or.inl ⟨by rfl,?_⟩) (by assumption) ?_)
   rotate_left
   ·(intro w hSw;(try dsimp only at hSw);skip;go_simp;first | done | with_reducible rfl)
   (try simp only [Act.put,List.setIfInBounds_toArray,List.set_cons_zero,List.set_cons_succ])
   (refine wpZ_take (i:=14) (v:=?_) rfl (by kernel_rfl) (by decide) (by kernel_rfl) (by kernel_rfl) (by kernel_rfl) (fun _ _ _ h=>h) (Or.inl ⟨by rfl,?_⟩) (by assumption) ?_)
   rotate_left
   ·(intro w hSw;(try dsimp only at hSw);skip;go_simp;first | done | with_reducible rfl)
   (try simp only [Act.put,List.setIfInBounds_toArray,List.set_cons_zero,List.set_cons_succ])
   (refine wpZ_take (i:=15) (v:=?_) rfl (by kernel_rfl) (by decide) (by kernel_rfl) (by kernel_rfl) (by kernel_rfl) (fun _ _ _ h=>h) (Or.inl ⟨by rfl,?_⟩) (by assumption) ?_)
   rotate_left
   ·(intro w hSw;(try dsimp only at hSw);obtain ⟨s9,⟨s1,s2⟩,sv,t0,t1⟩:=hSw;go_simp;first | done | with_reducible rfl)
   (try simp only [Act.put,List.setIfInBounds_toArray,List.set_cons_zero,List.set_cons_succ])
   (refine wpZ_take (i:=16) (v:=?_) rfl (by kernel_rfl) (by decide) (by kernel_rfl) (by kernel_rfl) (by kernel_rfl) (fun _ _ _ h=>h) (Or.inl ⟨by rfl,?_⟩) (by assumption) ?_)
   rotate_left
   ·(intro w hSw;(try dsimp only at hSw);skip;go_simp;first | done | with_reducible rfl)
   (try simp only [Act.put,List.setIfInBounds_toArray,List.set_cons_zero,List.set_cons_succ])
   (refine wpZ_take (i:=17) (v:=?_) rfl (by kernel_rfl) (by decide) (by kernel_rfl) (by kernel_rfl) (by kernel_rfl) (fun _ _ _ h=>h) (Or.inl ⟨by rfl,?_⟩) (by assumption) ?_)
   rotate_left
   ·(intro w hSw;(try dsimp only at hSw);skip;go_simp;first | done | with_reducible rfl)
   (try simp only [Act.put,List.setIfInBounds_toArray,List.set_cons_zero,List.set_cons_succ])
   (refine wpZ_take (i:=18) (v:=?_) rfl (by kernel_rfl) (by decide) (by kernel_rfl) (by kernel_rfl) (by kernel_rfl) (fun _ _ _ h=>h) (Or.inl ⟨by rfl,?_⟩) (by assumption) ?_)
   rotate_left
   ·(intro w hSw;(try dsimp only at hSw);skip;go_simp;first | done | with_reducible rfl)
   (try simp only [Act.put,List.setIfInBounds_toArray,List.set_cons_zero,List.set_cons_succ])
   (refine wpZ_take (i:=19) (v:=?_) rfl (by kernel_rfl) (by decide) (by kernel_rfl) (by kernel_rfl) (by kernel_rfl) (fun _ _ _ h=>h) (Or.inl ⟨by rfl,?_⟩) (by assumption) ?_)
   rotate_left
   ·(intro w hSw;(try dsimp only at hSw);obtain ⟨s9,⟨s1,s2⟩,sv,t0,t1⟩:=hSw;go_simp;first | done | with_reducible rfl)
   (try simp only [Act.put,List.setIfInBounds_toArray,List.set_cons_zero,List.set_cons_succ])
   (refine wpZ_take (i:=20) (v:=?_) rfl (by kernel_rfl) (by decide) (by kernel_rfl) (by kernel_rfl) (by kernel_rfl) (fun _ _ _ h=>h) (Or.inl ⟨by rfl,?_⟩) (by assumption) ?_)
   rotate_left
   ·(intro w hSw;(try dsimp only at hSw);skip;go_simp;first | done | with_reducible rfl)
   (try simp only [Act.put,List.setIfInBounds_toArray,List.set_cons_zero,List.set_cons_succ])
   (refine wpZ_take (i:=21) (v:=?_) rfl (by kernel_rfl) (by decide) (by kernel_rfl) (by kernel_rfl) (by kernel_rfl) (fun _ _ _ h=>h) (Or.inl ⟨by rfl,?_⟩) (by assumption) ?_)
   rotate_left
   ·(intro w hSw;(try dsimp only at hSw);skip;go_simp;first | done | with_reducible rfl)
   (try simp only [Act.put,List.setIfInBounds_toArray,List.set_cons_zero,List.set_cons_succ])
   (refine wpZ_take (i:=22) (v:=?_) rfl (by kernel_rfl) (by decide) (by kernel_rfl) (by kernel_rfl) (by kernel_rfl) (fun _ _ _ h=>h) (Or.inl ⟨by rfl,?_⟩) (by assumption) ?_)
   rotate_left
   ·(intro w hSw;(try dsimp only at hSw);skip;go_simp;first | done | with_reducible rfl)
   (try simp only [Act.put,List.setIfInBounds_toArray,List.set_cons_zero,List.set_cons_succ])
   (refine wpZ_take (i:=23) (v:=?_) rfl (by kernel_rfl) (by decide) (by kernel_rfl) (by kernel_rfl) (by kernel_rfl) (fun _ _ _ h=>h) (Or.inl ⟨by rfl,?_⟩) (by assumption) ?_)
   rotate_left
   ·(intro w hSw;(try dsimp only at hSw);obtain ⟨s9,⟨s1,s2⟩,sv,t0,t1⟩:=hSw;go_simp;first | done | with_reducible rfl)
   (try simp only [Act.put,List.setIfInBounds_toArray,List.set_cons_zero,List.set_cons_succ])
   have qm:=Lib.hid fun V:World=>nmul_any (w:=V) (a:=C1) (b:=C2) (by omega) (by have h1:=hC1.out;have h3:=L.cnt_le (L.vl t l) (L.sem s.nodes p1);have:=lenL hc h0.sl.few hy hyl hyr;have h6:(2:Nat) ^ (L.vl t l).length≤2 ^ 6:=Nat.pow_le_pow_right (by omega) this.1;omega) (by have h1:=hC2.out;have h3:=L.cnt_le (L.vl t r) (L.sem s.nodes p2);have:=lenL hc h0.sl.few hy hyl hyr;have h6:(2:Nat) ^ (L.vl t r).length≤2 ^ 6:=Nat.pow_le_pow_right (by omega) this.2;omega)
   have qa:=Lib.hid fun V:World=>nadd_any (w:=V) (a:=cj) (b:=C1 * C2) hsum
   rw [show natV cj = .agg #[.string (numL cj)] from rfl] at qa
   have hfr6:=FrV.trans hfr5 (fr_below pc ((Below.refl w5.heap.size w5).drew))
   (refine wpZ_one (i:=12) (by kernel_rfl) rfl (fun K hK=>?_))
   ((rw [if_pos (by rfl)]);go_simp;(go_at_call 97);refine ((ihp.out _ _ hF6).1).mono ?_;rintro e v1 ⟨m1,rfl,hF7,hfr7⟩;refine hK.out _ _ (hSt.out _ _ hfr7 hHeld) (fun hHeld=>?_))
   (clear hK K)
   (try simp only [Act.put,List.setIfInBounds_toArray,List.set_cons_zero,List.set_cons_succ])
   (refine wpZ_one (i:=24) (by kernel_rfl) rfl (fun K hK=>?_))
   ((rw [if_pos (by rfl)]);go_simp;(go_at_call 97);refine ((ihp.out _ _ hF7).2).mono ?_;rintro e v2 ⟨m2,rfl,hF8,hfr8⟩;refine hK.out _ _ (hSt.out _ _ hfr8 hHeld) (fun hHeld=>?_))
   (clear hK K)
   (try simp only [Act.put,List.setIfInBounds_toArray,List.set_cons_zero,List.set_cons_succ])
   (refine wpZ_one (i:=25) (by kernel_rfl) rfl (fun K hK=>?_))
   ((rw [if_pos (by rfl)]);go_simp;(go_at_call 68);refine (qm.out _).mono ?_;rintro e v3 ⟨rfl,hv3⟩;refine hK.out _ _ (hSt.out _ _ (fr_below pc hv3) hHeld) (fun hHeld=>?_))
   (clear hK K)
   (try simp only [Act.put,List.setIfInBounds_toArray,List.set_cons_zero,List.set_cons_succ])
   (refine wpZ_one (i:=26) (by kernel_rfl) rfl (fun K hK=>?_))
   ((rw [if_pos (by rfl)]);go_simp;(go_at_call 42);refine (qa.out _).mono ?_;rintro e v4 ⟨rfl,hv4⟩;refine hK.out _ _ (hSt.out _ _ (fr_below pc hv4) hHeld) (fun hHeld=>?_))
   (clear hK K)
   (try simp only [Act.put,List.setIfInBounds_toArray,List.set_cons_zero,List.set_cons_succ])
   have hF9:=(hF8.below hv3).below hv4
   have hfr9:=FrV.trans (FrV.trans (FrV.trans hfr7 hfr8) (fr_below pc hv3)) (fr_below pc hv4)
   have hfr5':Fr [pc] w5 v4:=FrV.trans (fr_below pc ((Below.refl w5.heap.size w5).drew)) hfr9
   have hn9:=fr_get hfr5' hn5.out hgp.2
   have hr9:=fr_get hfr5' hr5.out hWp
   have he9:=fr_get hfr5' he5.out hgep.1
   have hfr10:=FrV.trans hfr6 hfr9
   have z0:v4.cell? ⟨g9,0,none⟩ = some (.string (numL cj)):=hHeld.1
   have z1:v4.frozen? ⟨g9,0,none⟩ = false:=by simp [World.frozen?,hn9]
   rw [show natV (cj+C1 * C2) = .agg #[.string (numL (cj+C1 * C2))] from rfl]
   have hnext:Hid (LpM t s pc wb W g9 ge cs (L.sumC t s.nodes l r (nd.el.take (j+1))) (v4.setCell ⟨g9,0,none⟩ (.string (numL (cj+C1 * C2))))):=Lib.hid (by
    rw [hsn.out]
    refine ⟨⟨m2,hF9.fresh hgp.1 hgp.2⟩,⟨hfr10.os,hfr10.tape,hfr10.output,by have:=hfr10.size;simpa using this,fun i hi hM=>(heap_setN 0 _ (by omega)).trans (hfr10.block i hi hM)⟩,heap_set hn9 0 _,(heap_setN 0 _ (by omega)).trans hr9,(heap_setN 0 _ hgep.2).trans he9⟩)
   clear hHeld hF6 hF7 hF8 hF9 hfr7 hfr8 hfr9 hfr5' hn9 hr9 he9 hfr10 hfr6 hfr5 hSt ihp qm qa k9 k1 k2 kv n0 n1
   (refine wpZ_last (by kernel_rfl) rfl (by kernel_rfl) (fun K hK=>?_))
   ((rw [if_pos (by rfl)]);go_simp;refine hK.out _ _ ?_)
   (clear hK K)
   (try simp only [Act.put,List.setIfInBounds_toArray,List.set_cons_zero,List.set_cons_succ])
   go_wp2_with fail
   exact ⟨⟨j+1,by omega,rfl,hnext⟩,by simp [intOf];omega⟩
  ·have dlt:decide ((j:Int) < (nd.el.length:Int)) = false:=decide_eq_false (by omega)
   obtain rfl:j = nd.el.length:=by omega
   obtain ⟨⟨m8,hF8⟩,hfr8,h8,hr8,_⟩:=hI.out
   clear hI
   rw [List.take_length,he0.out] at h8
   obtain ⟨S9,hS9⟩:∃ S9,natV c = .agg #[.string S9]:=⟨_,rfl⟩
   have hSc:numL c = S9:=by
    have h1:natV c = .agg #[.string (numL c)]:=rfl
    rw [h1] at hS9
    simp only [Value.agg.injEq,Array.mk.injEq,List.cons.injEq,Value.string.injEq,and_true] at hS9
    exact hS9
   rw [hSc] at h8
   replace hSc:=Lib.hid hSc
   replace hS9:=Lib.hid hS9
   go_wp2_with fail
   obtain ⟨w8,hw8⟩:∃ w8,w8 = wr:=⟨_,rfl⟩
   rw [←hw8] at hF8 hfr8 h8 hr8 ⊢
   clear hw8
   have x3:w8.cell? ⟨xv,3,none⟩ = some (.map (some pc)):=by simp [World.cell?,(h0.vwAt hF8.fr).box]
   have x9:w8.cell? ⟨g9,0,none⟩ = some (.string S9):=by simp [World.cell?,h8]
   have hF8d:=hF8.below ((Below.refl w8.heap.size w8).drew)
   obtain ⟨hput,hF9,hfrp⟩:=hF8d.put a c ⟨nd,P,hn,hpl,hP,he.out⟩
   rw [hS9.out] at hput
   have hg9p:g9≠pc:=by
    intro e
    obtain ⟨L0,cl0,hm0,_⟩:=hF8.mp
    rw [←e,h8] at hm0;simp at hm0
   have hWp:W.heap.size≠pc:=by have:=hF.mp.lt;omega
   have h9:=(putMap_other (P:=Tryz.prog) 3 w8.drew pc (encNat a) (encC c) g9 hg9p).trans h8
   have hr9:=(putMap_other (P:=Tryz.prog) 3 w8.drew pc (encNat a) (encC c) W.heap.size hWp).trans hr8
   have hfr9:=FrV.trans (FrV.trans hfr8 (fr_below pc ((Below.refl w8.heap.size w8).drew))) hfrp
   replace hF9:=Lib.hid hF9
   replace h9:=Lib.hid h9
   replace hr9:=Lib.hid hr9
   replace h8:=Lib.hid h8
   replace hr8:=Lib.hid hr8
   replace hF8:=Lib.hid hF8
   (refine wp_region_z (S:=(fun V=>V.cell? ⟨xv,3,none⟩ = some (.map (some pc))∧V.cell? ⟨g9,0,none⟩ = some (.string S9))) 6 (by kernel_rfl) ?_ (fun hHeld=>?_))
   ·exact ⟨x3,x9⟩
   (refine wpZ_take (i:=0) (v:=?_) rfl (by kernel_rfl) (by decide) (by kernel_rfl) (by kernel_rfl) (by kernel_rfl) (fun _ _ _ h=>h) (Or.inl ⟨by rfl,?_⟩) (by assumption) ?_)
   rotate_left
   ·(intro w hSw;(try dsimp only at hSw);skip;go_simp;first | done | with_reducible rfl)
   (try simp only [Act.put,List.setIfInBounds_toArray,List.set_cons_zero,List.set_cons_succ])
   (refine wpZ_take (i:=1) (v:=?_) rfl (by kernel_rfl) (by decide) (by kernel_rfl) (by kernel_rfl) (by kernel_rfl) (fun _ _ _ h=>h) (Or.inl ⟨by rfl,?_⟩) (by assumption) ?_)
   rotate_left
   ·(intro w hSw;(try dsimp only at hSw);skip;go_simp;first | done | with_reducible rfl)
   (try simp only [Act.put,List.setIfInBounds_toArray,List.set_cons_zero,List.set_cons_succ])
   (refine wpZ_take (i:=2) (v:=?_) rfl (by kernel_rfl) (by decide) (by kernel_rfl) (by kernel_rfl) (by kernel_rfl) (fun _ _ _ h=>h) (Or.inl ⟨by rfl,?_⟩) (by assumption) ?_)
   rotate_left
   ·(intro w hSw;(try dsimp only at hSw);skip;go_simp;first | done | with_reducible rfl)
   (try simp only [Act.put,List.setIfInBounds_toArray,List.set_cons_zero,List.set_cons_succ])
   (refine wpZ_take (i:=3) (v:=?_) rfl (by kernel_rfl) (by decide) (by kernel_rfl) (by kernel_rfl) (by kernel_rfl) (fun _ _ _ h=>h) (Or.inl ⟨by rfl,?_⟩) (by assumption) ?_)
   rotate_left
   ·(intro w hSw;(try dsimp only at hSw);obtain ⟨z3,z9⟩:=hSw;go_simp;first | done | with_reducible rfl)
   (try simp only [Act.put,List.setIfInBounds_toArray,List.set_cons_zero,List.set_cons_succ])
   (refine wpZ_take (i:=4) (v:=?_) rfl (by kernel_rfl) (by decide) (by kernel_rfl) (by kernel_rfl) (by kernel_rfl) (fun _ _ _ h=>h) (Or.inl ⟨by rfl,?_⟩) (by assumption) ?_)
   rotate_left
   ·(intro w hSw;(try dsimp only at hSw);skip;go_simp;first | done | with_reducible rfl)
   (try simp only [Act.put,List.setIfInBounds_toArray,List.set_cons_zero,List.set_cons_succ])
   (refine wpZ_take (i:=5) (v:=?_) rfl (by kernel_rfl) (by decide) (by kernel_rfl) (by kernel_rfl) (by kernel_rfl) (fun _ _ _ h=>h) (Or.inl ⟨by rfl,?_⟩) (by assumption) ?_)
   rotate_left
   ·(intro w hSw;(try dsimp only at hSw);obtain ⟨z3,z9⟩:=hSw;go_simp;first | done | with_reducible rfl)
   (try simp only [Act.put,List.setIfInBounds_toArray,List.set_cons_zero,List.set_cons_succ])
   (refine wpZ_last (by kernel_rfl) rfl (by kernel_rfl) (fun K hK=>?_))
   ((rw [if_pos (by rfl)]);go_simp;refine hK.out _ _ ?_)
   (clear hK K)
   (try simp only [Act.put,List.setIfInBounds_toArray,List.set_cons_zero,List.set_cons_succ])
   clear hput hfrp x3 x9
   go_wp2_with fail
   generalize putMap 3 Tryz.prog w8.drew pc (encNat a) (encC c) = w9 at *
   replace hF9:=hF9.out
   replace h9:=h9.out
   replace hr9:=hr9.out
   obtain ⟨m9,hm9⟩:∃ m9,m9 = (a,c) :: m8:=⟨_,rfl⟩
   rw [←hm9] at hF9
   have hl9:=(Array.getElem?_eq_some_iff.1 h9).1
   have hlr:=(Array.getElem?_eq_some_iff.1 hr9).1
   have c9:w9.cell? ⟨g9,0,none⟩ = some (.string S9):=by simp [World.cell?,h9]
   have qs1:=Lib.hid fun (V:World) (hV:Below w9.heap.size w9 V)=>vsize_any (h0.vwAt (hF9.below hV).fr) hc hat
   have qs2:=Lib.hid fun (V:World) (hV:Below w9.heap.size w9 V)=>vsize_any (h0.vwAt (hF9.below hV).fr) hc hP
   have qp:=Lib.hid fun V:World=>pow2_any (w:=V) (n:=L.nv t at_ - L.nv t P) hN8
   have qm:=Lib.hid fun V:World=>nmul_any (w:=V) (a:=c) (b:=2 ^ (L.nv t at_ - L.nv t P)) hcp hc8 hp8
   have hsubw:IntKind.i64.wrap ((L.nv t at_:Int) - (L.nv t P:Int)) = ((L.nv t at_ - L.nv t P:Nat):Int):=by rw [IntWalk.i64_in _ (by omega)];omega
   generalize L.nv t at_ - L.nv t P = D at *
   generalize L.nv t at_ = N at *
   generalize L.nv t P = M at *
   rw [show natV c = .agg #[.string S9] from hS9.out] at qm
   replace hF9:=Lib.hid hF9
   replace hr9:=Lib.hid hr9
   replace h9:=Lib.hid h9
   (refine wp_region_z (S:=(fun V=>Below w9.heap.size w9 V)) 10 (by kernel_rfl) ?_ (fun hHeld=>?_))
   ·exact (Below.refl _ _).drew
   (refine wpZ_take (i:=0) (v:=?_) rfl (by kernel_rfl) (by decide) (by kernel_rfl) (by kernel_rfl) (by kernel_rfl) (fun _ _ _ h=>h) (Or.inl ⟨by rfl,?_⟩) (by assumption) ?_)
   rotate_left
   ·(intro w hSw;(try dsimp only at hSw);have z0:=(hSw.cell (p:=⟨g9,0,none⟩) hl9).trans c9;go_simp;first | done | with_reducible rfl)
   (try simp only [Act.put,List.setIfInBounds_toArray,List.set_cons_zero,List.set_cons_succ])
   (refine wpZ_take (i:=1) (v:=?_) rfl (by kernel_rfl) (by decide) (by kernel_rfl) (by kernel_rfl) (by kernel_rfl) (fun _ _ _ h=>h) (Or.inl ⟨by rfl,?_⟩) (by assumption) ?_)
   rotate_left
   ·(intro w hSw;(try dsimp only at hSw);skip;go_simp;first | done | with_reducible rfl)
   (try simp only [Act.put,List.setIfInBounds_toArray,List.set_cons_zero,List.set_cons_succ])
   (refine wpZ_take (i:=2) (v:=?_) rfl (by kernel_rfl) (by decide) (by kernel_rfl) (by kernel_rfl) (by kernel_rfl) (fun _ _ _ h=>h) (Or.inl ⟨by rfl,?_⟩) (by assumption) ?_)
   rotate_left
   ·(intro w hSw;(try dsimp only at hSw);skip;go_simp;first | done | with_reducible rfl)
   (try simp only [Act.put,List.setIfInBounds_toArray,List.set_cons_zero,List.set_cons_succ])
   (refine wpZ_take (i:=4) (v:=?_) rfl (by kernel_rfl) (by decide) (by kernel_rfl) (by kernel_rfl) (by kernel_rfl) (fun _ _ _ h=>h) (Or.inl ⟨by rfl,?_⟩) (by assumption) ?_)
   rotate_left
   ·(intro w hSw;(try dsimp only at hSw);skip;go_simp;first | done | with_reducible rfl)
   (try simp only [Act.put,List.setIfInBounds_toArray,List.set_cons_zero,List.set_cons_succ])
   (refine wpZ_take (i:=5) (v:=?_) rfl (by kernel_rfl) (by decide) (by kernel_rfl) (by kernel_rfl) (by kernel_rfl) (fun _ _ _ h=>h) (Or.inl ⟨by rfl,?_⟩) (by assumption) ?_)
   rotate_left
   ·(intro w hSw;(try dsimp only at hSw);skip;go_simp;first | done | with_reducible rfl)
   (try simp only [Act.put,List.setIfInBounds_toArray,List.set_cons_zero,List.set_cons_succ])
   (refine wpZ_one (i:=3) (by kernel_rfl) rfl (fun K hK=>?_))
   ((rw [if_pos (by rfl)]);go_simp;(go_at_call 161);refine (qs1.out _ hHeld).mono ?_;rintro e v1 ⟨rfl,hv1⟩;refine hK.out _ _ (hHeld.trans (hv1.below.mono hHeld.size)) (fun hHeld=>?_))
   (clear hK K)
   (try simp only [Act.put,List.setIfInBounds_toArray,List.set_cons_zero,List.set_cons_succ])
   (refine wpZ_one (i:=6) (by kernel_rfl) rfl (fun K hK=>?_))
   ((rw [if_pos (by rfl)]);go_simp;(go_at_call 161);refine (qs2.out _ hHeld).mono ?_;rintro e v2 ⟨rfl,hv2⟩;refine hK.out _ _ (hHeld.trans (hv2.below.mono hHeld.size)) (fun hHeld=>?_))
   (clear hK K)
   (try simp only [Act.put,List.setIfInBounds_toArray,List.set_cons_zero,List.set_cons_succ])
   (refine wpZ_take (i:=7) (v:=?_) rfl (by kernel_rfl) (by decide) (by kernel_rfl) (by kernel_rfl) (by kernel_rfl) (fun _ _ _ h=>h) (Or.inl ⟨by rfl,?_⟩) (by assumption) ?_)
   rotate_left
   ·(intro w hSw;(try dsimp only at hSw);skip;go_simp;first | done | with_reducible rfl)
   (try simp only [Act.put,List.setIfInBounds_toArray,List.set_cons_zero,List.set_cons_succ])
   (refine wpZ_one (i:=8) (by kernel_rfl) rfl (fun K hK=>?_))
   ((rw [if_pos (by rfl)]);go_simp;(go_at_call 43);refine (qp.out _).mono ?_;rintro e v3 ⟨rfl,hv3⟩;refine hK.out _ _ (hHeld.trans (hv3.mono hHeld.size)) (fun hHeld=>?_))
   (clear hK K)
   (try simp only [Act.put,List.setIfInBounds_toArray,List.set_cons_zero,List.set_cons_succ])
   (refine wpZ_one (i:=9) (by kernel_rfl) rfl (fun K hK=>?_))
   ((rw [if_pos (by rfl)]);go_simp;(go_at_call 68);refine (qm.out _).mono ?_;rintro e v4 ⟨rfl,hv4⟩;refine hK.out _ _ (hHeld.trans (hv4.mono hHeld.size)) (fun hHeld=>?_))
   (clear hK K)
   (try simp only [Act.put,List.setIfInBounds_toArray,List.set_cons_zero,List.set_cons_succ])
   have hr10:=(hHeld.block _ hlr).trans hr9.out
   have fz:v4.frozen? ⟨W.heap.size,0,none⟩ = false:=by simp [World.frozen?,hr10]
   have hcc:v4.cell? ⟨W.heap.size,0,none⟩ = some (.string ⟨#[]⟩):=by simp [World.cell?,hr10]
   unfold natV
   generalize hT:(⟨(natL (c * 2 ^ D)).toArray⟩:ByteArray) = T at *
   have hfin:((v4.setCell ⟨W.heap.size,0,none⟩ (.string T)).cell? ⟨W.heap.size,0,none⟩ = some (.string T)):=by simp [World.cell?,heap_set hr10 0 _]
   replace hfin:=Lib.hid hfin
   have hF10:=Lib.hid ((hF9.out.below hHeld).fresh (r:=W.heap.size) (o:=0) (v:=.string T) hF.fr.size (by have:=hF.mp.lt;omega))
   have hfr10:=FrV.trans hfr9 (fr_below pc hHeld)
   have hfr11:Hid (Fr [pc] W (v4.setCell ⟨W.heap.size,0,none⟩ (.string T))):=Lib.hid ⟨hfr10.os,hfr10.tape,hfr10.output,by have:=hfr10.size;simpa using this,fun j hj hM=>(heap_setN 0 _ (by omega)).trans (hfr10.block j hj hM)⟩
   replace hr10:=Lib.hid hr10
   clear qs1 qs2 qp qm hHeld hfr10
   (refine wpZ_last (by kernel_rfl) rfl (by kernel_rfl) (fun K hK=>?_))
   ((rw [if_pos (by rfl)]);go_simp;refine hK.out _ _ ?_)
   (clear hK K)
   (try simp only [Act.put,List.setIfInBounds_toArray,List.set_cons_zero,List.set_cons_succ])
   go_wp2_with fail
   exact bodyPost_ret (v:=.agg #[.string T]) (by simp [results,Tryz.results97,go_sem,hfin.out]) rfl ⟨m9,by rw [←hT,hcnt.out] <;> rfl,hF10.out,hfr11.out⟩
end
end Go.Proofs.YtmnjakejhbpkoaaGreatDoor
