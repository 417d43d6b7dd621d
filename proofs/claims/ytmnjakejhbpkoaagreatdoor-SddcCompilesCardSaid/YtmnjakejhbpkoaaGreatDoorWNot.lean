import Derived.Test.YtmnjakejhbpkoaaGreatDoorWDec
import Derived.Test.YtmnjakejhbpkoaaGreatDoorWRep
import Derived.Test.YtmnjakejhbpkoaaGreatDoorWBase
import Derived.Test.YtmnjakejhbpkoaaGreatDoorWShelf3
set_option linter.unusedSimpArgs false
set_option linter.unusedVariables false
namespace Go.Proofs.YtmnjakejhbpkoaaGreatDoor
open Go Go.RowKit Go.Shelf
def NotsLaw (g:St→Nat→Option (Nat × St)):Prop:=∀ (B:Blks) (s s':St) (w:World) (a r:Nat),Rep B s w→g s a = some (r,s') →
 Calls Tryz.prog 107 #[.pointer (some ⟨B.sb,0,none⟩),.int .i64 a] w (RetStp [] (.int .i64 r) B s' w)
theorem Rep.notLook {B:Blks} {s:St} {w:World} (h:Rep B s w) (a:Nat) :
  (Instr.lookup 142 (.map (some B.mb)) (.int .i64 a) true).run Tryz.prog w = .ok (.tuple #[((asc s.nots a).map encNat).getD (.int .i64 0),.bool (asc s.nots a).isSome]) w :=
 h.nots.look natLaw (T:=142) Tryz.underlying142 _ zeroInt a
theorem flatP_one (l:List (Nat × Nat)):∀ u∈flatP l,Value.oneCell' u = true:=by
 intro u hu
 simp only [flatP,List.mem_flatMap,List.mem_cons,List.not_mem_nil,or_false] at hu
 obtain ⟨p,_,rfl | rfl⟩:=hu <;> rfl
theorem info_pair:(Tryz.prog.info? 165).map (fun i=>(i.zero,i.size,i.bytes)) = some (some (.agg #[.int .i64 0,.int .i64 0]),2,16):=by kernel_rfl
theorem clone_pairs (w:World) (b o c:Nat) (l:List (Nat × Nat)) (h:RowAt w b o 165 (flatP l)) (hl:l.length≤1048576) :
  Calls Tryz.prog 170 #[.slice (some ⟨b,o,none⟩) l.length c] w fun e w'=>∃ g cap cs,e = .returned (.slice (some ⟨g,0,none⟩) l.length cap)∧w.heap.size≤g ∧
   w'.heap[g]? = some (.cells cs tPair (0,0))∧(∀ j u,(flatP l)[j]? = some u→cs[0+j]? = some u)∧Below w.heap.size w w':=by
 obtain ⟨i0,hi0,hz0,hz1,hz2⟩:=info_parts info_pair
 have h1:=AnyE.slices_Clone Tryz.clonePair i0 (.agg #[.int .i64 0,.int .i64 0]) 2 16 hi0 hz0 hz1 hz2 (by rfl) (by omega) sizeOfP b o l.length c (flatP l) w (by rw [flatP_len];omega) (by unfold maxLen;omega) (by omega) (fun j u hj=>h.cell hj) (flatP_one l)
 refine h1.mono ?_
 rintro e w' ⟨v',rfl,hown,hne,hb⟩
 obtain ⟨hlen,⟨e0,_⟩ | ⟨g,cap,cur,rfl,hg,hh,hn,hm,hs,ht⟩⟩:=hown
 ·exact absurd e0 hne
 ·refine ⟨g,cap,cur,rfl,hg,hh,fun j u hj=>?_,hb⟩
  rw [←ht,List.getElem?_take] at hj
  split at hj
  ·simpa using hj
  ·simp at hj
theorem flatP_set (c:Array Value) (l:List (Nat × Nat)) (k q:Nat) (hk:k < l.length) (h:∀ j u,(flatP l)[j]? = some u→c[0+j]? = some u) :
  ∀ j u,(flatP (l.set k (l[k].1,q)))[j]? = some u→(c.setIfInBounds (k * 2+1) (.int .i64 q))[0+j]? = some u:=by
 intro j u hj
 have hb:=(h (k * 2+1) _ (flatP_get l k hk).2)
 have hlt:k * 2+1 < c.size:=by
  have:=(Array.getElem?_eq_some_iff.1 hb).1
  omega
 have hjl:j < 2 * l.length:=by
  have:=(List.getElem?_eq_some_iff.1 hj).1
  rw [flatP_len,List.length_set] at this
  exact this
 obtain ⟨i,hi⟩:∃ i,j = i * 2∨j = i * 2+1:=⟨j / 2,by omega⟩
 have hil:i < l.length:=by omega
 have hil':i < (l.set k (l[k].1,q)).length:=by rw [List.length_set];exact hil
 obtain ⟨g1,g2⟩:=flatP_get _ i hil'
 obtain ⟨g3,g4⟩:=flatP_get l i hil
 rw [Array.getElem?_setIfInBounds]
 rcases hi with rfl | rfl
 ·rw [g1] at hj
  rw [if_neg (by omega),h _ _ g3]
  rw [←hj]
  by_cases hik:k = i
  ·subst hik;simp
  ·simp [List.getElem_set,hik]
 ·rw [g2] at hj
  by_cases hik:k = i
  ·subst hik
   rw [if_pos (by omega),if_pos (by omega)]
   rw [←hj];simp
  ·rw [if_neg (by omega),h _ _ g4,←hj]
   simp [List.getElem_set,hik]
end Go.Proofs.YtmnjakejhbpkoaaGreatDoor
namespace Go.Proofs.YtmnjakejhbpkoaaGreatDoor
open Go Go.RowKit Go.Shelf
theorem TwoOK.imp {P:Program} {T:TypeId} {mb:Nat} {ka va kb vb:Value} {w:World} {t:TwoW} {Ok Fin Ok' Fin':World→Prop} (h:TwoOK P T mb ka va kb vb w t Ok Fin) (h1:∀ w,Ok w→Ok' w) (h2:∀ w,Fin w→Fin' w) :
  TwoOK P T mb ka va kb vb w t Ok' Fin' :=
 ⟨h.eA,h.eAx,h.eAxB,h.e1,h.eAB,h.eABx,h.e2,h.eABy,h.e3,h1 _ h.oA,h1 _ h.oAx,h1 _ h.oAxB,h1 _ h.oAB,h1 _ h.oABx,h1 _ h.oABy,h2 _ h.d1,h2 _ h.d2,h2 _ h.d3⟩
theorem nots_two {B:Blks} {s:St} {w:World} (h:Rep B s w) (a b:Nat):∃ t t',
  TwoOK Tryz.prog 142 B.mb (.int .i64 a) (.int .i64 b) (.int .i64 b) (.int .i64 a) w t (fun W=>W.cell? ⟨B.sb,5,none⟩ = some (.map (some B.mb))) (fun f=>Rep B { s with nots:=(b,a) :: (a,b) :: s.nots } f∧Stp [] B w B f) ∧
  TwoOK Tryz.prog 142 B.mb (.int .i64 b) (.int .i64 a) (.int .i64 a) (.int .i64 b) w t' (fun W=>W.cell? ⟨B.sb,5,none⟩ = some (.map (some B.mb))) (fun f=>Rep B { s with nots:=(b,a) :: (a,b) :: s.nots } f∧Stp [] B w B f):=by
 obtain ⟨cap,_,_,_,_,_,c5⟩:=h.cells
 have hne:B.sb≠B.mb:=Ne.symm h.ub_ne.2.2.2.2.1
 have hok:∀ W,But B.mb w W→W.cell? ⟨B.sb,5,none⟩ = some (.map (some B.mb)):=fun W hW=>(World.cell?_of_block (a:=⟨B.sb,5,none⟩) (hW.1 _ hne)).trans c5
 obtain ⟨t,ht⟩:=two_ok h.nots natLaw (T:=142) Tryz.underlying142 _ zeroInt a b b a (fun e=>e.symm)
 obtain ⟨t',ht'⟩:=two_ok h.nots natLaw (T:=142) Tryz.underlying142 _ zeroInt b a a b (fun e=>e.symm)
 refine ⟨t,t',ht.imp hok (fun f hf=>h.nots2 a b b a hf),ht'.imp hok (fun f hf=>h.nots2 a b b a ?_)⟩
 rw [upd_comm (asc s.nots) a b b a (fun e=>e.symm)]
 exact hf
set_option maxRecDepth 100000 in
set_option maxHeartbeats 1000000 in
theorem not_small {B:Blks} {s:St} {w:World} {a:Nat} (h:Rep B s w) (ha:a < 2) :
  Calls Tryz.prog 107 #[.pointer (some ⟨B.sb,0,none⟩),.int .i64 a] w (RetStp [] (.int .i64 (1 - a:Nat)) B s w):=by
 obtain rfl | rfl:a = 0∨a = 1:=by omega
 ·go_enter Tryz.func107,Tryz.ntmps107
  go_wp2_with fail
  go_ret
  exact ⟨rfl,B,h,Stp.refl _ _ _⟩
 ·go_enter Tryz.func107,Tryz.ntmps107
  go_wp2_with fail
  go_ret
  exact ⟨rfl,B,h,Stp.refl _ _ _⟩
set_option maxRecDepth 100000 in
set_option maxHeartbeats 1000000 in
theorem not_hit {B:Blks} {s:St} {w:World} {a b:Nat} (h:Rep B s w) (ha:¬ a < 2) (hb:asc s.nots a = some b) :
  Calls Tryz.prog 107 #[.pointer (some ⟨B.sb,0,none⟩),.int .i64 a] w (RetStp [] (.int .i64 b) B s w):=by
 obtain ⟨cap,_,_,_,_,_,c5⟩:=h.cells
 have hlk:=h.notLook a
 rw [hb] at hlk
 have hlk2:(Instr.lookup 142 (.map (some B.mb)) (.int .i64 a) true).run Tryz.prog w = .ok (.tuple #[.int .i64 b,.bool true]) w:=hlk
 clear hlk hb
 have hlt:¬ ((a:Int) < 2):=by omega
 go_enter Tryz.func107,Tryz.ntmps107
 go_wp2_with fail
 go_ret
 exact ⟨rfl,B,h,Stp.refl _ _ _⟩
set_option maxRecDepth 100000 in
set_option maxHeartbeats 4000000 in
theorem not_lit {B:Blks} {s s1:St} {w:World} {a b:Nat} {n:SNode} (h:Rep B s w) (ha:¬ a < 2) (hb:asc s.nots a = none) (hn:s.nodes[a]? = some n) (hl:n.lit≠0) (he:literalF s (-n.lit) n.pl = some (b,s1)) :
  Calls Tryz.prog 107 #[.pointer (some ⟨B.sb,0,none⟩),.int .i64 a] w (RetStp [] (.int .i64 b) B { s1 with nots:=(b,a) :: (a,b) :: s1.nots } w):=by
 obtain ⟨cap,_,_,cn,_,_,c5⟩:=h.cells
 obtain ⟨v,hv,hve,n0,n1,n2,n3,n4⟩:=h.node hn
 have hsm:=h.small.2 n (List.mem_of_getElem? hn)
 have hai:a < s.nodes.length:=(List.getElem?_eq_some_iff.1 hn).1
 have hlk:=h.notLook a
 rw [hb] at hlk
 have hlk2:(Instr.lookup 142 (.map (some B.mb)) (.int .i64 a) true).run Tryz.prog w = .ok (.tuple #[.int .i64 0,.bool false]) w:=hlk
 clear hlk hb
 have hlt:¬ ((a:Int) < 2):=by omega
 have ha0:(0:Int)≤a:=by omega
 have ha1:(a:Int) < s.nodes.length:=by omega
 have hl':(n.lit != 0) = true:=by simpa using hl
 have hwr:IntKind.i64.wrap (-n.lit) = -n.lit:=IntWalk.i64_in _ (by omega)
 have hsl:=h.small.1
 obtain ⟨ba,cp,rfl,hv2⟩:=hv
 have hbox:=heap_alloc_new w (.cells #[.int .i64 n.pl,.int .i64 n.lit,.slice ba n.el.length cp,.int .u64 (lo n.le),.int .u64 (hi n.le)] 158)
 have hx0:Ext w (w.alloc (.cells #[.int .i64 n.pl,.int .i64 n.lit,.slice ba n.el.length cp,.int .u64 (lo n.le),.int .u64 (hi n.le)] 158)):=(Ext.refl w).alloc _
 have hq:=literal_any (h.below hx0.below) he
 go_enter Tryz.func107,Tryz.ntmps107
 go_wp2_with fail
 obtain ⟨b0,b1,b2,b3,b4,_⟩:=cells5 hbox
 clear hbox
 generalize w.alloc (.cells #[.int .i64 n.pl,.int .i64 n.lit,.slice ba n.el.length cp,.int .u64 (lo n.le),.int .u64 (hi n.le)] 158) = w1 at *
 try go_wp2_with fail
 refine hq.mono ?_
 rintro e w2 ⟨rfl,B2,hR2,hS2⟩
 have hS:Stp [] B w B2 w2:=(Stp.of_below (X:=[]) hx0.below).then hS2
 have hsb:B2.sb = B.sb:=hS.sb
 obtain ⟨t,t',h1,h2⟩:=nots_two (hR2.below ((Below.refl _ w2).drew)) a b
 obtain ⟨_,_,_,_,_,_,d5⟩:=(hR2.below ((Below.refl _ w2).drew)).cells
 rw [hsb] at d5 h1 h2
 obtain ⟨eA,eAx,eAxB,e1,eAB,eABx,e2,eABy,e3,oA,oAx,oAxB,oAB,oABx,oABy,d1,d2,d3⟩:=h1
 obtain ⟨eA',eAx',eAxB',e1',eAB',eABx',e2',eABy',e3',oA',oAx',oAxB',oAB',oABx',oABy',d1',d2',d3'⟩:=h2
 have d1:=Lib.hid d1
 have d2:=Lib.hid d2
 have d3:=Lib.hid d3
 have d1':=Lib.hid d1'
 have d2':=Lib.hid d2'
 have d3':=Lib.hid d3'
 have hS:=Lib.hid hS
 clear hR2 hS2 hq hve hv2 hsm hn he hx0 n0 n1 n2 n3 n4 b0 b1 b2 b3 b4 cn c5 hlk2 h
 go_wp2_with fail
 go_region_law (fail)
 all_goals
  go_wp2_with fail
  go_ret
  first
   | exact ⟨rfl,B2,d1.out.1,hS.out.then ((Stp.of_below (X:=[]) ((Below.refl _ w2).drew)).then d1.out.2)⟩
   | exact ⟨rfl,B2,d2.out.1,hS.out.then ((Stp.of_below (X:=[]) ((Below.refl _ w2).drew)).then d2.out.2)⟩
   | exact ⟨rfl,B2,d3.out.1,hS.out.then ((Stp.of_below (X:=[]) ((Below.refl _ w2).drew)).then d3.out.2)⟩
   | exact ⟨rfl,B2,d1'.out.1,hS.out.then ((Stp.of_below (X:=[]) ((Below.refl _ w2).drew)).then d1'.out.2)⟩
   | exact ⟨rfl,B2,d2'.out.1,hS.out.then ((Stp.of_below (X:=[]) ((Below.refl _ w2).drew)).then d2'.out.2)⟩
   | exact ⟨rfl,B2,d3'.out.1,hS.out.then ((Stp.of_below (X:=[]) ((Below.refl _ w2).drew)).then d3'.out.2)⟩
end Go.Proofs.YtmnjakejhbpkoaaGreatDoor
namespace Go.Proofs.YtmnjakejhbpkoaaGreatDoor
open Go Go.RowKit Go.Shelf
theorem Rep.tight {B:Blks} {s:St} {w:World} (h:Rep B s w):Rep { B with eb:=B.eb.filter (fun k=>decide (k < w.heap.size)) } s w:=by
 obtain ⟨a1,a2,a3,⟨nv,vs,hst,hns,he⟩,a5,a6,a7,a8,a9,a10,a11⟩:=h
 refine ⟨a1,a2,a3,⟨nv,vs,hst,hns,fun v hv b hb=>?_⟩,a5,a6,a7,a8,a9,a10,a11⟩
 refine List.mem_filter.2 ⟨he v hv b hb,?_⟩
 obtain ⟨i,hi,rfl⟩:=List.getElem_of_mem hv
 have hel:=hns.els i (by rw [←hns.len];exact hi) hi
 obtain ⟨ba,c,e1,⟨e2,_⟩ | ⟨b',o,e2,hr⟩⟩:=hel
 ·rw [e1,e2] at hb;simp [Value.ownBlock] at hb
 ·rw [e1,e2] at hb
  simp [Value.ownBlock] at hb
  subst hb
  simpa using hr.lt
theorem RetStp.loose {X:List Nat} {v:Value} {B:Blks} {eb:List Nat} {s:St} {w:World} (hs:∀ k∈eb,k∈B.eb):∀ e w',RetStp X v { B with eb:=eb } s w e w'→RetStp X v B s w e w':=by
 rintro e w' ⟨rfl,B',hr,h⟩
 exact ⟨rfl,B',hr,⟨h.fr,h.sb,h.new,fun k hk=>(h.newe k hk).imp (hs k) id⟩⟩
theorem set_parts (l:List (Nat × Nat)) (k:Nat) (p:Nat × Nat) (hk:k < l.length):(l.set k p).take (k+1) = l.take k++[p]∧(l.set k p).drop (k+1) = l.drop (k+1):=by
 constructor
 ·rw [List.take_succ_eq_append_getElem (by rw [List.length_set];exact hk),List.take_set_of_le (Nat.le_refl _),List.getElem_set_self]
 ·rw [List.drop_set_of_lt (Nat.lt_succ_self _)]
theorem mapSubs_cons {g:St→Nat→Option (Nat × St)} {s s':St} {p:Nat × Nat} {r l:List (Nat × Nat)} (h:mapSubs g s (p :: r) = some (l,s')) :
  ∃ q s1 l1,g s p.2 = some (q,s1)∧mapSubs g s1 r = some (l1,s')∧l = (p.1,q) :: l1:=by
 unfold mapSubs at h
 split at h
 ·cases h
 ·rename_i q s1 h1
  split at h
  ·cases h
  ·rename_i l1 s2 h2
   simp only [Option.some.injEq,Prod.mk.injEq] at h
   exact ⟨q,s1,l1,h1,h.2 ▸ h2,h.1.symm⟩
def NotLoop (g:St→Nat→Option (Nat × St)) (B:Blks) (w:World) (n:SNode) (vsl:Value) (gb:Nat) (l:List (Nat × Nat)) (s1:St) (k:Nat) (wr:World):Prop :=
 ∃ (B':Blks) (sk:St) (lc l2:List (Nat × Nat)) (cs:Array Value),Rep B' sk wr∧Stp [] B w B' wr∧w.heap.size∉B'.mut∧gb∉B'.eb ∧
   wr.heap[w.heap.size]? = some (.cells #[.int .i64 n.pl,.int .i64 0,vsl,.int .u64 (lo n.le),.int .u64 (hi n.le)] tNode (0,0)) ∧
   wr.heap[gb]? = some (.cells cs tPair (0,0))∧(∀ j u,(flatP lc)[j]? = some u→cs[0+j]? = some u)∧lc.length = n.el.length∧lc.drop k = n.el.drop k∧mapSubs g sk (n.el.drop k) = some (l2,s1)∧lc.take k++l2 = l
set_option maxRecDepth 100000 in
set_option maxHeartbeats 4000000 in
theorem not_dec {g:St→Nat→Option (Nat × St)} (ih:NotsLaw g) {B:Blks} {s s1 s2:St} {w:World} {a b:Nat} {n:SNode} {l:List (Nat × Nat)} (h:Rep B s w) (heb:∀ k∈B.eb,k < w.heap.size) (ha:¬ a < 2) (hb:asc s.nots a = none) (hn:s.nodes[a]? = some n) (hl:n.lit = 0)
  (hms:mapSubs g s n.el = some (l,s1)) (he:decideF s1 n.pl l = some (b,s2)) :
  Calls Tryz.prog 107 #[.pointer (some ⟨B.sb,0,none⟩),.int .i64 a] w (RetStp [] (.int .i64 b) B { s2 with nots:=(b,a) :: (a,b) :: s2.nots } w):=by
 obtain ⟨cap,_,_,cn,_,_,c5⟩:=h.cells
 obtain ⟨v,hv,hve,n0,n1,n2,n3,n4⟩:=h.node hn
 have hsm:=h.small.2 n (List.mem_of_getElem? hn)
 have hai:a < s.nodes.length:=(List.getElem?_eq_some_iff.1 hn).1
 have hlk:=h.notLook a
 rw [hb] at hlk
 have hlk2:(Instr.lookup 142 (.map (some B.mb)) (.int .i64 a) true).run Tryz.prog w = .ok (.tuple #[.int .i64 0,.bool false]) w:=hlk
 clear hlk hb
 have hlt:¬ ((a:Int) < 2):=by omega
 have ha0:(0:Int)≤a:=by omega
 have ha1:(a:Int) < s.nodes.length:=by omega
 have hsl:=h.small.1
 rw [hl] at n1
 obtain ⟨ba,cp,rfl,hv2⟩:=hv
 have hnil:n.el≠[]:=by
  intro e
  rw [e] at hms
  simp only [mapSubs,Option.some.injEq,Prod.mk.injEq] at hms
  rw [←hms.1] at he
  simp [decideF] at he
 obtain ⟨vb,vo,rfl,hrow⟩:∃ vb vo,ba = some ⟨vb,vo,none⟩∧RowAt w vb vo 165 (flatP n.el):=by
  rcases hv2 with ⟨_,e,_⟩ | ⟨vb,vo,e,hr⟩
  ·exact absurd e hnil
  ·exact ⟨vb,vo,e,hr⟩
 have hbox:=heap_alloc_new w (.cells #[.int .i64 n.pl,.int .i64 0,.slice (some ⟨vb,vo,none⟩) n.el.length cp,.int .u64 (lo n.le),.int .u64 (hi n.le)] 158)
 have hx0:Ext w (w.alloc (.cells #[.int .i64 n.pl,.int .i64 0,.slice (some ⟨vb,vo,none⟩) n.el.length cp,.int .u64 (lo n.le),.int .u64 (hi n.le)] 158)):=(Ext.refl w).alloc _
 have hel:n.el.length≤1048576:=hsm.2.2.2.2.1
 have hq:=clone_pairs _ vb vo cp n.el (hrow.same (hx0.below.block vb hrow.lt)) hel
 have hmo:=h.mut_old
 clear hv2 hve
 replace hms:=Lib.hid hms
 replace he:=Lib.hid he
 replace hn:=Lib.hid hn
 replace hnil:=Lib.hid hnil
 replace hmo:=Lib.hid hmo
 have hxb:=hx0.below
 go_enter Tryz.func107,Tryz.ntmps107
 go_wp2_with fail
 have hw1s:w.heap.size < (w.alloc (.cells #[.int .i64 n.pl,.int .i64 0,.slice (some ⟨vb,vo,none⟩) n.el.length cp,.int .u64 (lo n.le),.int .u64 (hi n.le)] 158)).heap.size:=by simp
 generalize w.alloc (.cells #[.int .i64 n.pl,.int .i64 0,.slice (some ⟨vb,vo,none⟩) n.el.length cp,.int .u64 (lo n.le),.int .u64 (hi n.le)] 158) = w1 at *
 obtain ⟨b0,b1,b2,b3,b4,_⟩:=cells5 hbox
 try go_wp2_with fail
 refine hq.mono ?_
 rintro e w2 ⟨gb,gcap,gcs,rfl,hgb,hgh,hgc,hb2⟩
 have hB2:Below w.heap.size w w2:=hxb.trans (hb2.mono (by omega))
 have hR2:=h.below hB2
 have hbx2:=(hb2.block _ hw1s).trans hbox
 have hS2:Stp [] B w B w2:=Stp.of_below hB2
 clear hq hbox b0 b1 b2 b3 b4 n0 n1 n2 n3 n4 cn c5 hlk2 hx0 hxb
 have hw2s:w.heap.size < w2.heap.size:=by have:=hb2.size;omega
 have hloop0:Hid (NotLoop g B w n (.slice (some ⟨vb,vo,none⟩) n.el.length cp) gb l s1 0 w2):=Lib.hid
  ⟨B,s,n.el,l,gcs,hR2,hS2,(fun hc=>Nat.lt_irrefl _ (hmo.out _ hc)),(fun hc=>by have:=heb _ hc;omega),hbx2,hgh,hgc,rfl,rfl,hms.out,rfl⟩
 have hgbw:w1.heap.size≤gb:=hgb
 have hgz:gb≠gPow∧gb≠gTz:=by
  have g1:=h.pow.lt
  have g2:=h.tz.lt'
  omega
 clear hgh hgc hbx2 hR2 hS2 hB2 hb2 hmo heb hrow hms hgb h
 go_wp2_with fail
 go_loopw [48] (fun i wr=>∃ k:Nat,k≤n.el.length∧i = .int .i64 k∧Hid (NotLoop g B w n (.slice (some ⟨vb,vo,none⟩) n.el.length cp) gb l s1 k wr))
  (fun i _=>n.el.length - (intOf i).toNat)
 case atStart=>exact ⟨0,Nat.zero_le _,rfl,hloop0⟩
 case round =>
  clear hloop0
  obtain ⟨k,hk,rfl,hI⟩:=hrel
  obtain ⟨B',sk,lc,l2,cs,hRk,hSk,hnm,hne,hbx,hgh,hgc,hlen,hdr,hms,htk⟩:=hI.out
  clear hI
  have hsb:B'.sb = B.sb:=hSk.sb
  by_cases hlt2:k < n.el.length
  ·have hkl:k < lc.length:=by omega
   have hkk:lc[k] = n.el[k]:=by
    have h1:=List.drop_eq_getElem_cons hkl
    have h2:=List.drop_eq_getElem_cons hlt2
    rw [h1,h2] at hdr
    exact (List.cons.inj hdr).1
   rw [List.drop_eq_getElem_cons hlt2] at hms
   obtain ⟨q,sk2,l3,hg,hms2,rfl⟩:=mapSubs_cons hms
   obtain ⟨e0,e1⟩:=flatP_get lc k hkl
   have e1':=hgc _ _ e1
   have c1:wr.cell? ⟨gb,k * 2+1,none⟩ = some (.int .i64 (lc[k].2:Nat)):=by simp [World.cell?,hgh];simpa using e1'
   rw [hkk] at c1
   have hcall:=ih B' sk sk2 wr n.el[k].2 q hRk hg
   rw [hsb] at hcall
   generalize n.el[k] = p at *
   obtain ⟨p1,p2⟩:=p
   simp only at c1 hcall hg
   replace hms:=Lib.hid hms
   replace hms2:=Lib.hid hms2
   replace hgc:=Lib.hid hgc
   replace hdr:=Lib.hid hdr
   replace htk:=Lib.hid htk
   replace hkk:=Lib.hid hkk
   replace hbx:=Lib.hid hbx
   replace hgh:=Lib.hid hgh
   replace hRk:=Lib.hid hRk
   clear e0 e1 e1' hg
   go_wp2_with fail
   refine hcall.mono ?_
   rintro e w5 ⟨rfl,B5,hR5,hS5⟩
   have hgh5:=hS5.keep hgh.out (hRk.out.not_mut hgh.out (by simp [tPair,tNode]) (by simp [tPair,tStore])) (by simp)
   have hbx5:=hS5.keep hbx.out hnm (by simp)
   have gl:=(Array.getElem?_eq_some_iff.1 hgh.out).1
   have bl:=(Array.getElem?_eq_some_iff.1 hbx.out).1
   have hnm5:w.heap.size∉B5.mut:=fun hc=>by
    rcases hS5.new _ hc with h1 | h1
    ·exact hnm h1
    ·omega
   have hne5:gb∉B5.eb:=fun hc=>by
    rcases hS5.newe _ hc with h1 | h1 | h1
    ·exact hne h1
    ·omega
    ·simp at h1
   have fz:w5.frozen? ⟨gb,k * 2+1,none⟩ = false:=by simp [World.frozen?,hgh5]
   have c15:w5.cell? ⟨gb,k * 2+1,none⟩ = some (.int .i64 p2):=(World.cell?_of_block (a:=⟨gb,k * 2+1,none⟩) (hgh5.trans hgh.out.symm)).trans c1
   have hnext:Hid (NotLoop g B w n (.slice (some ⟨vb,vo,none⟩) n.el.length cp) gb l s1 (k+1) (w5.setCell ⟨gb,k * 2+1,none⟩ (.int .i64 q))):=Lib.hid (by
    have hpp:=set_parts lc k (p1,q) hkl
    have hpk:lc[k].1 = p1:=by rw [hkk.out]
    have hot:∀ j,j≠gb→(w5.setCell ⟨gb,k * 2+1,none⟩ (.int .i64 q)).heap[j]? = w5.heap[j]?:=fun j hj=>Below.heap_setCell _ _ _ j hj
    refine ⟨B5,sk2,lc.set k (p1,q),l3,_,hR5.off hgh5 hne5 hgz (fun j o hj _=>hot j hj),((hSk.then hS5).trans (Stp.of_but (X:=[gb]) (w':=w5.setCell ⟨gb,k * 2+1,none⟩ (.int .i64 q)) ⟨rfl,rfl,rfl⟩ (by simp) (fun j _ hj=>hot j (by simpa using hj)))).weak (fun x hx=>?_),hnm5,hne5,(hot _ (by omega)).trans hbx5,heap_set hgh5 _ _,?_,by rw [List.length_set];exact hlen,?_,hms2.out,?_⟩
    ·simp at hx;subst hx;exact .inr (by omega)
    ·have:=flatP_set cs lc k q hkl hgc.out
     rw [hpk] at this;exact this
    ·rw [hpp.2]
     have:=congrArg (List.drop 1) hdr.out
     simpa [List.drop_drop] using this
    ·rw [hpp.1,←htk.out];simp)
   clear hR5 hS5 hgh5 hbx5 hnm5 hne5 c1 hcall
   go_wp2_with fail
   go_roundw
   case rel=>exact ⟨k+1,by omega,by go_num,hnext⟩
   case measure=>simp [intOf];omega
  ·obtain rfl:k = n.el.length:=by omega
   simp only [List.drop_length,mapSubs,Option.some.injEq,Prod.mk.injEq] at hms
   obtain ⟨rfl,rfl⟩:=hms
   have hlc:lc = l:=by rw [←htk,←hlen];simp
   subst hlc
   obtain ⟨b0,b1,b2,b3,b4,_⟩:=cells5 hbx
   have hq:=decide_any (cap:=gcap) (off:=0) hRk hgh hgc hne hgz (by omega) he.out
   rw [hsb,hlen] at hq
   have hgbw2:w.heap.size≤gb:=by omega
   clear hbx hgh hgc hdr htk hlen
   replace hRk:=Lib.hid hRk
   replace hSk:=Lib.hid hSk
   go_wp2_with fail
   refine hq.mono ?_
   rintro e w5 ⟨rfl,B5,hR5,hS5⟩
   have hS:Stp [] B w B5 w5:=(hSk.out.trans hS5).weak (fun x hx=>.inr (by simp at hx;subst hx;exact hgbw2))
   have hsb5:B5.sb = B.sb:=hS.sb
   obtain ⟨t,t',h1,h2⟩:=nots_two (hR5.below ((Below.refl _ w5).drew)) a b
   obtain ⟨_,_,_,_,_,_,d5⟩:=(hR5.below ((Below.refl _ w5).drew)).cells
   rw [hsb5] at d5 h1 h2
   obtain ⟨eA,eAx,eAxB,e1,eAB,eABx,e2,eABy,e3,oA,oAx,oAxB,oAB,oABx,oABy,d1,d2,d3⟩:=h1
   obtain ⟨eA',eAx',eAxB',e1',eAB',eABx',e2',eABy',e3',oA',oAx',oAxB',oAB',oABx',oABy',d1',d2',d3'⟩:=h2
   have d1:=Lib.hid d1
   have d2:=Lib.hid d2
   have d3:=Lib.hid d3
   have d1':=Lib.hid d1'
   have d2':=Lib.hid d2'
   have d3':=Lib.hid d3'
   have hS:=Lib.hid hS
   clear hR5 hS5 hq b0 b1 b2 b3 b4
   go_wp2_with fail
   go_region_law (fail)
   all_goals
    go_wp2_with fail
    go_ret
    first
     | exact ⟨rfl,B5,d1.out.1,hS.out.then ((Stp.of_below (X:=[]) ((Below.refl _ w5).drew)).then d1.out.2)⟩
     | exact ⟨rfl,B5,d2.out.1,hS.out.then ((Stp.of_below (X:=[]) ((Below.refl _ w5).drew)).then d2.out.2)⟩
     | exact ⟨rfl,B5,d3.out.1,hS.out.then ((Stp.of_below (X:=[]) ((Below.refl _ w5).drew)).then d3.out.2)⟩
     | exact ⟨rfl,B5,d1'.out.1,hS.out.then ((Stp.of_below (X:=[]) ((Below.refl _ w5).drew)).then d1'.out.2)⟩
     | exact ⟨rfl,B5,d2'.out.1,hS.out.then ((Stp.of_below (X:=[]) ((Below.refl _ w5).drew)).then d2'.out.2)⟩
     | exact ⟨rfl,B5,d3'.out.1,hS.out.then ((Stp.of_below (X:=[]) ((Below.refl _ w5).drew)).then d3'.out.2)⟩
theorem notF_law:∀ f,NotsLaw (notF f):=by
 intro f
 induction f with
 | zero=>intro B s s' w a r h he;cases he
 | succ f ih =>
   intro B s s' w a r h he
   unfold notF at he
   split at he
   ·rename_i ha
    simp only [Option.some.injEq,Prod.mk.injEq] at he
    obtain ⟨rfl,rfl⟩:=he
    exact not_small h ha
   ·rename_i ha
    split at he
    ·rename_i b hb
     simp only [Option.some.injEq,Prod.mk.injEq] at he
     obtain ⟨rfl,rfl⟩:=he
     exact not_hit h ha hb
    ·rename_i hb
     split at he
     ·cases he
     ·rename_i n hn
      cases hnn:notNew (notF f) s n with
      | none=>rw [hnn] at he;cases he
      | some p =>
        obtain ⟨b,s2⟩:=p
        rw [hnn] at he
        simp only [putNots,Option.some.injEq,Prod.mk.injEq] at he
        obtain ⟨rfl,rfl⟩:=he
        unfold notNew at hnn
        split at hnn
        ·rename_i hl
         split at hnn
         ·cases hnn
         ·rename_i l s1 hms
          exact (not_dec ih h.tight (fun k hk=>by simpa using (List.mem_filter.1 hk).2) ha hb hn hl hms hnn).mono (RetStp.loose (fun k hk=>(List.mem_filter.1 hk).1))
        ·rename_i hl
         exact not_lit h ha hb hn hl hnn
end Go.Proofs.YtmnjakejhbpkoaaGreatDoor
