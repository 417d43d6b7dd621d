import Derived.Test.YteikmmfjhabijaaGreatDoorRVcopy
set_option linter.unusedSimpArgs false
set_option linter.unusedVariables false
namespace Go.Proofs.YteikmmfjhabijaaGreatDoor
open Go Go.RowKit Go.Shelf
structure RlStay (w:World) (v:Value) (w':World) (v':Value):Prop where
 size:w.heap.size≤w'.heap.size
 block:∀ k,k < w.heap.size→v.ownBlock≠some k→w'.heap[k]? = w.heap[k]?
 row:∀ g,v'.ownBlock = some g→v.ownBlock = some g∨w.heap.size≤g
theorem RlStay.trans {w w1 w2:World} {v v1 v2:Value} (h:RlStay w v w1 v1) (k:RlStay w1 v1 w2 v2):RlStay w v w2 v2 where
 size:=Nat.le_trans h.size k.size
 block:=fun i hi hv=>(k.block i (Nat.lt_of_lt_of_le hi h.size) (fun e=>by rcases h.row i e with e' | e';exact hv e';omega)).trans (h.block i hi hv)
 row:=fun g e=>by
  rcases k.row g e with e' | e'
  ·exact h.row g e'
  ·exact .inr (Nat.le_trans h.size e')
theorem RlStay.below {w w':World} (v:Value) (h:Below w.heap.size w w'):RlStay w v w' v:=⟨h.size,fun k hk _=>h.block k hk,fun _ e=>.inl e⟩
theorem rl_push {w0 w1 w2:World} {out:List VN} {x:VN} {v:Value} {g cp:Nat} (hb:Below w0.heap.size w0 w1) (hr:w1.ownsRow w0.heap.size 96 3 v out.length (treeCells out)) (ho:w2.ownsRow w0.heap.size 96 3 (.slice (some ⟨g,0,none⟩) (out.length+1) cp) (out.length+1) (treeCells out++[.int .i64 x.left,.int .i64 x.right,.int .i64 x.var]))
  (hg:w1.grownBy w2 v.ownBlock) (hgg:v.ownBlock = some g∨g = w1.heap.size) :
  Below w0.heap.size w0 w2∧w2.ownsRow w0.heap.size 96 3 (.slice (some ⟨g,0,none⟩) (out.length+1) cp) (out++[x]).length (treeCells (out++[x]))∧RlStay w1 v w2 (.slice (some ⟨g,0,none⟩) (out.length+1) cp):=by
 refine ⟨Below.grown hb hg hb.size (fun k hk=>own_ge hr hk),own_cast ho (by simp) (by rw [treeCells_snoc]),⟨hg.size,fun k hk hv=>hg.block k hk (fun e=>hv e.symm),fun k hk=>?_⟩⟩
 have:k = g:=(Option.some.inj hk).symm
 subst this
 exact hgg.imp id (fun e=>by omega)
def RlLaw (w0:World) (t:List VN) (b o c:Nat) (U:L.Tr):Prop:=∀ (i:Nat) (out:List VN) (v:Value) (wr:World),L.IsT L.idc t i U→Below w0.heap.size w0 wr→wr.ownsRow w0.heap.size 96 3 v out.length (treeCells out)→out.length+U.size≤255 →
 Calls Tryz.prog 94 #[.slice (some ⟨b,o,none⟩) t.length c,.int .i64 (i:Int),v] wr
  fun e w'=>∃ g cp,e = .returned (.slice (some ⟨g,0,none⟩) (out.length+U.size) cp)∧w'.ownsRow w0.heap.size 96 3 (.slice (some ⟨g,0,none⟩) (out.length+U.size) cp) (out++U.post out.length).length (treeCells (out++U.post out.length))∧Below w0.heap.size w0 w'∧RlStay wr v w' (.slice (some ⟨g,0,none⟩) (out.length+U.size) cp)
set_option maxRecDepth 100000 in
set_option maxHeartbeats 4000000 in
theorem rl_law {w0:World} {t:List VN} {b o c:Nat} (ht:TreeAt w0 b o t):∀ U,RlLaw w0 t b o c U
 | .leaf lv=>by
   intro i out v wr hT hB hR hsz
   cases hT with
   | @leaf _ y h1 h2 =>
     obtain ⟨hi,hy⟩:=List.getElem?_eq_some_iff.1 h1
     obtain ⟨n0,n1,n2⟩:=(ht.below hB).node hi
     rw [hy] at n0 n1 n2
     obtain ⟨iv,hiv,hzv,hsv,hbv⟩:=info_parts vn_info
     obtain ⟨yl,yr,yv⟩:=y
     simp only at n0 n1 n2
     have hleq:yl = -1∧yr = -1:=by simp only [leafB,Bool.and_eq_true,decide_eq_true_eq] at h2;exact h2.1
     have hb1:=(Below.refl wr.heap.size wr).alloc (Nat.le_refl _) (.cells #[.int .i64 yl,.int .i64 yr,.int .i64 yv] 96)
     have hbox:=heap_alloc_new wr (.cells #[.int .i64 yl,.int .i64 yr,.int .i64 yv] 96)
     have hi1:(0:Int)≤i:=by omega
     have hi2:(i:Int) < t.length:=by omega
     have hlf:=fun W=>refLeaf_any ⟨yl,yr,yv⟩ W
     rw [h2] at hlf
     have hB1:=Lib.hid (hB.trans (hb1.mono hB.size))
     have hR1:=Lib.hid (hR.alloc (.cells #[.int .i64 yl,.int .i64 yr,.int .i64 yv] 96))
     obtain ⟨k0,k1,k2⟩:=box3 hbox
     have hSt0:=Lib.hid (RlStay.below v hb1)
     clear hb1
     replace hbox:=Lib.hid hbox
     replace hleq:=Lib.hid hleq
     obtain ⟨nl,hnl⟩:∃ nl,nl = out.length:=⟨_,rfl⟩
     have hsz':nl+1≤255:=by rw [hnl];exact hsz
     replace hnl:=Lib.hid hnl
     replace hR:=Lib.hid hR
     clear h1 h2 hsz hy
     go_enter Tryz.func94,Tryz.ntmps94
     go_wp2_with fail
     generalize hW1:wr.alloc (.cells #[.int .i64 yl,.int .i64 yr,.int .i64 yv] 96) = w1 at *
     clear hW1
     generalize wr.heap.size = p at *
     refine (hlf _).mono ?_
     rintro e w2 ⟨rfl,hx2⟩
     clear hlf n0 n1 n2
     have hbx2:=hx2.below
     have hB2:=hB1.out.trans (hbx2.mono hB1.out.size)
     have hR2:=ownsRow_same hR1.out (fun _ hg=>hbx2.block _ (own_lt hR1.out hg).1)
     have k0':=hx2.cell k0
     have k1':=hx2.cell k1
     have k2':=hx2.cell k2
     have hb2a:=(Below.refl w2.heap.size w2).alloc (Nat.le_refl _) (.cells #[.int .i64 yl,.int .i64 yr,.int .i64 yv] 96)
     have hB2a:=hB2.trans (hb2a.mono hB2.size)
     have hroA:=hR2.alloc (.cells #[.int .i64 yl,.int .i64 yr,.int .i64 yv] 96)
     have hone:∀ u∈[Value.int .i64 yl,.int .i64 yr,.int .i64 yv],u.oneCell' = true:=by simp [Value.oneCell']
     have hnews:=World.news_of_block (cs:=#[.int .i64 yl,.int .i64 yr,.int .i64 yv]) (t:=96) (fr:=(0,0)) (heap_alloc_new w2 (.cells #[.int .i64 yl,.int .i64 yr,.int .i64 yv] 96))
     have hSt:=Lib.hid (hSt0.out.trans ((RlStay.below v hbx2).trans (RlStay.below v hb2a)))
     have hsz0:=hB2.size
     rw [←hnl.out] at hroA
     replace hB2a:=Lib.hid hB2a
     clear hb2a hbx2 hB2 hR2 k0 k1 k2
     go_wp2_with (at_builtin;(refine wpList_append_lies _ rfl _ _ 23 rfl w0.heap.size 96 iv _ 3 24 Tryz.underlying23 hiv hzv hsv hbv rfl (by decide) _ nl (treeCells out) rfl hroA ⟨w2.heap.size,0,none⟩ 1 1 [.int .i64 yl,.int .i64 yr,.int .i64 yv] rfl rfl hnews hone (by omega) (by unfold maxLen;omega) (by omega) (by simp <;> omega) _ rfl ?_;intro g7 cap7 w7 ho7 hg7 hgg7 _))
     have hroA':=hroA
     rw [hnl.out] at ho7 hroA'
     have hpush:=rl_push (x:=⟨yl,yr,yv⟩) hB2a.out hroA' ho7 hg7 hgg7
     go_ret
     refine ⟨g7,cap7,?_,?_,hpush.1,?_⟩
     ·rw [hnl.out];rfl
     ·have:=hpush.2.1
      obtain ⟨rfl,rfl⟩:=hleq.out
      exact this
     ·exact hSt.out.trans hpush.2.2
 | .node l r=>by
   intro i out v wr hT hB hR hsz
   have ihl:=rl_law (c:=c) ht l
   have ihr:=rl_law (c:=c) ht r
   cases hT with
   | @node _ a b' y _ _ h1 h2 h3 h4 g1 g2 =>
     obtain ⟨hi,hy⟩:=List.getElem?_eq_some_iff.1 h1
     obtain ⟨n0,n1,n2⟩:=(ht.below hB).node hi
     rw [hy] at n0 n1 n2
     obtain ⟨iv,hiv,hzv,hsv,hbv⟩:=info_parts vn_info
     obtain ⟨yl,yr,yv⟩:=y
     simp only [L.idc] at n0 n1 n2 h3 h4
     subst h3 h4
     have hlp:=l.pos
     have hrp:=r.pos
     have hsz':out.length+(l.size+r.size+1)≤255:=hsz
     have hb1:=(Below.refl wr.heap.size wr).alloc (Nat.le_refl _) (.cells #[.int .i64 (a:Nat),.int .i64 (b':Nat),.int .i64 yv] 96)
     have hbox:=heap_alloc_new wr (.cells #[.int .i64 (a:Nat),.int .i64 (b':Nat),.int .i64 yv] 96)
     have hi1:(0:Int)≤i:=by omega
     have hi2:(i:Int) < t.length:=by omega
     have hlf:=fun W=>refLeaf_any ⟨(a:Nat),(b':Nat),yv⟩ W
     rw [h2] at hlf
     have hB1:=Lib.hid (hB.trans (hb1.mono hB.size))
     have hR1:=Lib.hid (hR.alloc (.cells #[.int .i64 (a:Nat),.int .i64 (b':Nat),.int .i64 yv] 96))
     have hvp:v.ownBlock≠some wr.heap.size:=fun e=>by have:=(own_lt hR e).1;omega
     obtain ⟨k0,k1,k2⟩:=box3 hbox
     have hSt0:=Lib.hid (RlStay.below v hb1)
     clear hb1
     replace hbox:=Lib.hid hbox
     replace hR:=Lib.hid hR
     replace hvp:=Lib.hid hvp
     clear h1 h2 hy
     go_enter Tryz.func94,Tryz.ntmps94
     go_wp2_with fail
     generalize hW1:wr.alloc (.cells #[.int .i64 (a:Nat),.int .i64 (b':Nat),.int .i64 yv] 96) = w1 at *
     clear hW1
     generalize wr.heap.size = p at *
     refine (hlf _).mono ?_
     rintro e w2 ⟨rfl,hx2⟩
     clear hlf n0 n1 n2
     have hbx2:=hx2.below
     have hB2:=hB1.out.trans (hbx2.mono hB1.out.size)
     have hR2:=ownsRow_same hR1.out (fun _ hg=>hbx2.block _ (own_lt hR1.out hg).1)
     have k0':=hx2.cell k0
     have k1':=hx2.cell k1
     have k2':=hx2.cell k2
     have hbox2:=(hbx2.block p (Array.getElem?_eq_some_iff.1 hbox.out).1).trans hbox.out
     have hSt2:=Lib.hid (hSt0.out.trans (RlStay.below v hbx2))
     have ql:=ihl a out v w2 g1 hB2 hR2 (by omega)
     replace hbox2:=Lib.hid hbox2
     clear hbx2 hB2 hR2 k0 k1 k2 hB1 hR1 hbox
     go_wp2_with fail
     refine ql.mono ?_
     rintro e w3 ⟨gl,cl,rfl,hR3,hB3,hSt3⟩
     have hbox3:=(hSt3.block p (Array.getElem?_eq_some_iff.1 hbox2.out).1 hvp.out).trans hbox2.out
     have hvp3:(Value.slice (some ⟨gl,0,none⟩) (out.length+l.size) cl).ownBlock≠some p:=fun e=>by
      rcases hSt3.row p e with e' | e'
      ·exact hvp.out e'
      ·have:=(Array.getElem?_eq_some_iff.1 hbox2.out).1;omega
     obtain ⟨k0,k1,k2⟩:=box3 hbox3
     have hlen3:(out++l.post out.length).length = out.length+l.size:=by rw [List.length_append,L.Tr.post_len]
     have qr:=ihr b' (out++l.post out.length) (.slice (some ⟨gl,0,none⟩) (out.length+l.size) cl) w3 g2 hB3 hR3 (by rw [hlen3];omega)
     rw [hlen3] at qr
     have hw1:IntKind.i64.wrap (((out.length+l.size:Nat):Int) - 1) = ((out.length+l.size - 1:Nat):Int):=by rw [IntWalk.i64_in _ (by omega)];omega
     have hw2:IntKind.i64.wrap (((out.length+l.size+r.size:Nat):Int) - 1) = ((out.length+l.size+r.size - 1:Nat):Int):=by rw [IntWalk.i64_in _ (by omega)];omega
     obtain ⟨zl,hzl⟩:∃ z:Int,z = ((out.length+l.size - 1:Nat):Int):=⟨_,rfl⟩
     obtain ⟨zr,hzr⟩:∃ z:Int,z = ((out.length+l.size+r.size - 1:Nat):Int):=⟨_,rfl⟩
     rw [←hzl] at hw1
     rw [←hzr] at hw2
     obtain ⟨out6,hout6⟩:∃ o6,o6 = out++l.post out.length++r.post (out.length+l.size):=⟨_,rfl⟩
     have hl6:out6.length = out.length+l.size+r.size:=by rw [hout6,List.length_append,hlen3,L.Tr.post_len]
     rw [←hout6] at qr
     have hbox3':=Lib.hid hbox3
     have hSt3':=Lib.hid (hSt2.out.trans hSt3)
     obtain ⟨n3,hn3⟩:∃ n3,n3 = out.length+l.size:=⟨_,rfl⟩
     rw [←hn3] at hw1 hw2 qr hSt3' hvp3 hl6
     rw [←hn3]
     obtain ⟨n6,hn6⟩:∃ n6,n6 = n3+r.size:=⟨_,rfl⟩
     rw [←hn6] at hw2 qr hl6
     have hn6b:n6+1≤255:=by omega
     replace hzl:=Lib.hid hzl
     replace hzr:=Lib.hid hzr
     replace hout6:=Lib.hid hout6
     replace hlen3:=Lib.hid hlen3
     replace hl6:=Lib.hid hl6
     replace hn3:=Lib.hid hn3
     replace hn6:=Lib.hid hn6
     clear ql hR3 hB3 hSt3 hbox3 k0' k1' k2' hsz hsz'
     go_wp2_with fail
     refine qr.mono ?_
     rintro e w6 ⟨gr,cr,rfl,hR6,hB6,hSt6⟩
     have hb6a:=(Below.refl w6.heap.size w6).alloc (Nat.le_refl _) (.cells #[.int .i64 zl,.int .i64 zr,.int .i64 0] 96)
     have hB6a:=hB6.trans (hb6a.mono hB6.size)
     have hroA:=hR6.alloc (.cells #[.int .i64 zl,.int .i64 zr,.int .i64 0] 96)
     have hone:∀ u∈[Value.int .i64 zl,.int .i64 zr,.int .i64 0],u.oneCell' = true:=by simp [Value.oneCell']
     have hnews:=World.news_of_block (cs:=#[.int .i64 zl,.int .i64 zr,.int .i64 0]) (t:=96) (fr:=(0,0)) (heap_alloc_new w6 (.cells #[.int .i64 zl,.int .i64 zr,.int .i64 0] 96))
     have hSt:=Lib.hid ((hSt3'.out.trans hSt6).trans (RlStay.below _ hb6a))
     have hsz0:=hB6.size
     rw [hl6.out] at hroA
     replace hB6a:=Lib.hid hB6a
     clear hb6a hB6 hSt6 hR6 qr k0 k1 k2 hbox3' hbox2
     go_wp2_with (at_builtin;(refine wpList_append_lies _ rfl _ _ 23 rfl w0.heap.size 96 iv _ 3 24 Tryz.underlying23 hiv hzv hsv hbv rfl (by decide) _ n6 (treeCells out6) rfl hroA ⟨w6.heap.size,0,none⟩ 1 1 [.int .i64 zl,.int .i64 zr,.int .i64 0] rfl rfl hnews hone (by omega) (by unfold maxLen;omega) (by omega) (by simp <;> omega) _ rfl ?_;intro g7 cap7 w7 ho7 hg7 hgg7 _))
     have hroA':=hroA
     rw [←hl6.out] at ho7 hroA'
     have hpush:=rl_push (x:=⟨zl,zr,0⟩) hB6a.out hroA' ho7 hg7 hgg7
     go_ret
     have hlast:out.length+(L.Tr.node l r).size = out6.length+1:=by rw [hl6.out,hn6.out,hn3.out];simp only [L.Tr.size];omega
     have hcat:out++(L.Tr.node l r).post out.length = out6++[⟨zl,zr,0⟩]:=by
      rw [hout6.out,hzl.out,hzr.out];simp [L.Tr.post]
     rw [hlast,hcat]
     have hSt':=hSt.out
     rw [←hl6.out] at hSt'
     refine ⟨g7,cap7,?_,hpush.2.1,hpush.1,hSt'.trans hpush.2.2⟩
     rw [hl6.out];rfl
end Go.Proofs.YteikmmfjhabijaaGreatDoor
