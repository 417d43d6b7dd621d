import Derived.Test.YteikmmfjhabijaaGreatDoorRVref
set_option linter.unusedSimpArgs false
set_option linter.unusedVariables false
namespace Go.Proofs.YteikmmfjhabijaaGreatDoor
open Go Go.RowKit Go.Shelf
def RlPost (w0:World) (out:List VN) (U:L.Tr) (wr:World) (v:Value) (e:Ending) (w':World):Prop :=
 ∃ g cp,e = .returned (.slice (some ⟨g,0,none⟩) (out.length+U.size) cp)∧w'.ownsRow w0.heap.size 96 3 (.slice (some ⟨g,0,none⟩) (out.length+U.size) cp) (out++U.post out.length).length (treeCells (out++U.post out.length))∧Below w0.heap.size w0 w'∧RlStay wr v w' (.slice (some ⟨g,0,none⟩) (out.length+U.size) cp)
def RcGoal (w0:World) (t:List VN) (b o c:Nat) (at' kd:Int) (i:Nat) (U:L.Tr):Prop:=∀ (out:List VN) (v:Value) (wr:World),Below w0.heap.size w0 wr→wr.ownsRow w0.heap.size 96 3 v out.length (treeCells out)→out.length+U.size≤255 →
 Calls Tryz.prog 121 #[.slice (some ⟨b,o,none⟩) t.length c,.int .i64 (i:Int),.int .i64 at',.int .i64 kd,v] wr (RlPost w0 out U wr v)
theorem post_lenN (out:List VN) (T:L.Tr) (k:Nat):(out++T.post k).length = out.length+T.size:=by rw [List.length_append,L.Tr.post_len]
set_option maxRecDepth 100000 in
set_option maxHeartbeats 4000000 in
theorem ch_leaf {w0:World} {t:List VN} {b o c i:Nat} {at' kd:Int} {y:VN} (ht:TreeAt w0 b o t) (h1:t[i]? = some y) (h2:leafB y = true):RcGoal w0 t b o c at' kd i (.leaf y.var):=by
 intro out v wr hB hR hsz
 obtain ⟨hi,hy⟩:=List.getElem?_eq_some_iff.1 h1
 obtain ⟨n0,n1,n2⟩:=(ht.below hB).node hi
 rw [hy] at n0 n1 n2
 obtain ⟨iv,hiv,hzv,hsv,hbv⟩:=info_parts vn_info
 obtain ⟨yl,yr,yv⟩:=y
 simp only at n0 n1 n2
 have hleq:yl = -1∧yr = -1:=by simp only [leafB,Bool.and_eq_true,decide_eq_true_eq] at h2;exact h2.1
 have hb1:=(Below.refl wr.heap.size wr).alloc (Nat.le_refl _) (.cells #[.int .i64 yl,.int .i64 yr,.int .i64 yv] 96)
 have hbox:=heap_alloc_new wr (.cells #[.int .i64 yl,.int .i64 yr,.int .i64 yv] 96)
 have hi1:(0:Int)≤i:=by omega
 have hi2:(i:Int) < t.length:=by omega
 have hlf:=fun W=>refLeaf_any ⟨yl,yr,yv⟩ W
 rw [h2] at hlf
 have hB1:=Lib.hid (hB.trans (hb1.mono hB.size))
 have hR1:=Lib.hid (hR.alloc (.cells #[.int .i64 yl,.int .i64 yr,.int .i64 yv] 96))
 obtain ⟨k0,k1,k2⟩:=box3 hbox
 have hSt0:=Lib.hid (RlStay.below v hb1)
 clear hb1
 replace hbox:=Lib.hid hbox
 replace hleq:=Lib.hid hleq
 obtain ⟨nl,hnl⟩:∃ nl,nl = out.length:=⟨_,rfl⟩
 have hsz':nl+1≤255:=by rw [hnl];exact hsz
 replace hnl:=Lib.hid hnl
 replace hR:=Lib.hid hR
 clear h1 h2 hsz hy
 go_enter Tryz.func121,Tryz.ntmps121
 go_wp2_with fail
 generalize hW1:wr.alloc (.cells #[.int .i64 yl,.int .i64 yr,.int .i64 yv] 96) = w1 at *
 clear hW1
 generalize wr.heap.size = p at *
 refine (hlf _).mono ?_
 rintro e w2 ⟨rfl,hx2⟩
 clear hlf n0 n1 n2
 have hbx2:=hx2.below
 have hB2:=hB1.out.trans (hbx2.mono hB1.out.size)
 have hR2:=ownsRow_same hR1.out (fun _ hg=>hbx2.block _ (own_lt hR1.out hg).1)
 have k0':=hx2.cell k0
 have k1':=hx2.cell k1
 have k2':=hx2.cell k2
 have hb2a:=(Below.refl w2.heap.size w2).alloc (Nat.le_refl _) (.cells #[.int .i64 yl,.int .i64 yr,.int .i64 yv] 96)
 have hB2a:=hB2.trans (hb2a.mono hB2.size)
 have hroA:=hR2.alloc (.cells #[.int .i64 yl,.int .i64 yr,.int .i64 yv] 96)
 have hone:∀ u∈[Value.int .i64 yl,.int .i64 yr,.int .i64 yv],u.oneCell' = true:=by simp [Value.oneCell']
 have hnews:=World.news_of_block (cs:=#[.int .i64 yl,.int .i64 yr,.int .i64 yv]) (t:=96) (fr:=(0,0)) (heap_alloc_new w2 (.cells #[.int .i64 yl,.int .i64 yr,.int .i64 yv] 96))
 have hSt:=Lib.hid (hSt0.out.trans ((RlStay.below v hbx2).trans (RlStay.below v hb2a)))
 have hsz0:=hB2.size
 rw [←hnl.out] at hroA
 replace hB2a:=Lib.hid hB2a
 clear hb2a hbx2 hB2 hR2 k0 k1 k2
 go_wp2_with (at_builtin;(refine wpList_append_lies _ rfl _ _ 23 rfl w0.heap.size 96 iv _ 3 24 Tryz.underlying23 hiv hzv hsv hbv rfl (by decide) _ nl (treeCells out) rfl hroA ⟨w2.heap.size,0,none⟩ 1 1 [.int .i64 yl,.int .i64 yr,.int .i64 yv] rfl rfl hnews hone (by omega) (by unfold maxLen;omega) (by omega) (by simp <;> omega) _ rfl ?_;intro g7 cap7 w7 ho7 hg7 hgg7 _))
 have hroA':=hroA
 rw [hnl.out] at ho7 hroA'
 have hpush:=rl_push (x:=⟨yl,yr,yv⟩) hB2a.out hroA' ho7 hg7 hgg7
 go_ret
 refine ⟨g7,cap7,?_,?_,hpush.1,?_⟩
 ·rw [hnl.out];rfl
 ·have:=hpush.2.1
  obtain ⟨rfl,rfl⟩:=hleq.out
  exact this
 ·exact hSt.out.trans hpush.2.2
set_option maxRecDepth 100000 in
set_option maxHeartbeats 8000000 in
theorem ch_pass {w0:World} {t:List VN} {b o c i a b':Nat} {at' kd:Int} {y:VN} {U V:L.Tr} (ht:TreeAt w0 b o t) (h1:t[i]? = some y) (h2:leafB y = false) (h3:y.left = a) (h4:y.right = b') (hne:(i:Int)≠at') (hl:RcGoal w0 t b o c at' kd a U) (hr:RcGoal w0 t b o c at' kd b' V):RcGoal w0 t b o c at' kd i (.node U V):=by
 intro out v wr hB hR hsz
 obtain ⟨hi,hy⟩:=List.getElem?_eq_some_iff.1 h1
 obtain ⟨n0,n1,n2⟩:=(ht.below hB).node hi
 rw [hy] at n0 n1 n2
 obtain ⟨iv,hiv,hzv,hsv,hbv⟩:=info_parts vn_info
 obtain ⟨yl,yr,yv⟩:=y
 simp only at n0 n1 n2 h3 h4
 subst h3 h4
 have hlp:=U.pos
 have hrp:=V.pos
 have hsz':out.length+(U.size+V.size+1)≤255:=hsz
 have dne:((i:Int) == at') = false:=by simpa using hne
 have hb1:=(Below.refl wr.heap.size wr).alloc (Nat.le_refl _) (.cells #[.int .i64 (a:Nat),.int .i64 (b':Nat),.int .i64 yv] 96)
 have hbox:=heap_alloc_new wr (.cells #[.int .i64 (a:Nat),.int .i64 (b':Nat),.int .i64 yv] 96)
 have hi1:(0:Int)≤i:=by omega
 have hi2:(i:Int) < t.length:=by omega
 have hlf:=fun W=>refLeaf_any ⟨(a:Nat),(b':Nat),yv⟩ W
 rw [h2] at hlf
 have hB1:=Lib.hid (hB.trans (hb1.mono hB.size))
 have hR1:=Lib.hid (hR.alloc (.cells #[.int .i64 (a:Nat),.int .i64 (b':Nat),.int .i64 yv] 96))
 have hvp:v.ownBlock≠some wr.heap.size:=fun e=>by have:=(own_lt hR e).1;omega
 obtain ⟨k0,k1,k2⟩:=box3 hbox
 have hSt0:=Lib.hid (RlStay.below v hb1)
 clear hb1
 replace hbox:=Lib.hid hbox
 replace hR:=Lib.hid hR
 replace hvp:=Lib.hid hvp
 replace hy:=Lib.hid hy
 clear h1 h2
 replace hne:=Lib.hid hne
 go_enter Tryz.func121,Tryz.ntmps121
 go_wp2_with fail
 generalize hW1:wr.alloc (.cells #[.int .i64 (a:Nat),.int .i64 (b':Nat),.int .i64 yv] 96) = w1 at *
 clear hW1
 generalize wr.heap.size = p at *
 refine (hlf _).mono ?_
 rintro e w2 ⟨rfl,hx2⟩
 clear hlf n0 n1 n2
 have hbx2:=hx2.below
 have hB2:=hB1.out.trans (hbx2.mono hB1.out.size)
 have hR2:=ownsRow_same hR1.out (fun _ hg=>hbx2.block _ (own_lt hR1.out hg).1)
 have k0':=hx2.cell k0
 have k1':=hx2.cell k1
 have k2':=hx2.cell k2
 have hbox2:=(hbx2.block p (Array.getElem?_eq_some_iff.1 hbox.out).1).trans hbox.out
 have hSt2:=Lib.hid (hSt0.out.trans (RlStay.below v hbx2))
 clear k0 k1 k2 hB1 hR1 hbox
 have ql:=hl out v w2 hB2 hR2 (by omega)
 replace hbox2:=Lib.hid hbox2
 clear hbx2 hB2 hR2
 go_wp2_with fail
 refine ql.mono ?_
 rintro e w3 ⟨gl,cl,rfl,hR3,hB3,hSt3⟩
 have hbox3:=(hSt3.block p (Array.getElem?_eq_some_iff.1 hbox2.out).1 hvp.out).trans hbox2.out
 have hlen3:(out++(U).post out.length).length = out.length+(U).size:=post_lenN _ _ _
 have qr:=hr (out++(U).post out.length) (.slice (some ⟨gl,0,none⟩) (out.length+(U).size) cl) w3 hB3 hR3 (by rw [hlen3];omega)
 unfold RlPost at qr
 rw [hlen3] at qr
 have hw1:IntKind.i64.wrap (((out.length+(U).size:Nat):Int) - 1) = ((out.length+(U).size - 1:Nat):Int):=by rw [IntWalk.i64_in _ (by omega)];omega
 have hw2:IntKind.i64.wrap (((out.length+(U).size+(V).size:Nat):Int) - 1) = ((out.length+(U).size+(V).size - 1:Nat):Int):=by rw [IntWalk.i64_in _ (by omega)];omega
 obtain ⟨zl,hzl⟩:∃ z:Int,z = ((out.length+(U).size - 1:Nat):Int):=⟨_,rfl⟩
 obtain ⟨zr,hzr⟩:∃ z:Int,z = ((out.length+(U).size+(V).size - 1:Nat):Int):=⟨_,rfl⟩
 rw [←hzl] at hw1
 rw [←hzr] at hw2
 obtain ⟨out6,hout6⟩:∃ o6,o6 = out++(U).post out.length++(V).post (out.length+(U).size):=⟨_,rfl⟩
 have hl6:out6.length = out.length+(U).size+(V).size:=by rw [hout6,List.length_append,hlen3,L.Tr.post_len]
 rw [←hout6] at qr
 have hSt3':=Lib.hid (hSt2.out.trans hSt3)
 obtain ⟨n3,hn3⟩:∃ n3,n3 = out.length+(U).size:=⟨_,rfl⟩
 rw [←hn3] at hw1 hw2 qr hSt3' hl6
 rw [←hn3]
 obtain ⟨n6,hn6⟩:∃ n6,n6 = n3+(V).size:=⟨_,rfl⟩
 rw [←hn6] at hw2 qr hl6
 have hn6b:n6+1≤255:=by omega
 obtain ⟨k0,k1,k2⟩:=box3 hbox3
 replace hzl:=Lib.hid hzl
 replace hzr:=Lib.hid hzr
 replace hout6:=Lib.hid hout6
 replace hlen3:=Lib.hid hlen3
 replace hl6:=Lib.hid hl6
 replace hn3:=Lib.hid hn3
 replace hn6:=Lib.hid hn6
 clear ql hR3 hB3 hSt3 hbox3 k0' k1' k2' hsz hsz'
 go_wp2_with fail
 refine qr.mono ?_
 rintro e w6 ⟨gr,cr,rfl,hR6,hB6,hSt6⟩
 have hb6a:=(Below.refl w6.heap.size w6).alloc (Nat.le_refl _) (.cells #[.int .i64 zl,.int .i64 zr,.int .i64 0] 96)
 have hB6a:=hB6.trans (hb6a.mono hB6.size)
 have hroA:=hR6.alloc (.cells #[.int .i64 zl,.int .i64 zr,.int .i64 0] 96)
 have hone:∀ u∈[Value.int .i64 zl,.int .i64 zr,.int .i64 0],u.oneCell' = true:=by simp [Value.oneCell']
 have hnews:=World.news_of_block (cs:=#[.int .i64 zl,.int .i64 zr,.int .i64 0]) (t:=96) (fr:=(0,0)) (heap_alloc_new w6 (.cells #[.int .i64 zl,.int .i64 zr,.int .i64 0] 96))
 have hSt:=Lib.hid ((hSt3'.out.trans hSt6).trans (RlStay.below _ hb6a))
 have hsz0:=hB6.size
 rw [hl6.out] at hroA
 replace hB6a:=Lib.hid hB6a
 clear hb6a hB6 hSt6 hR6 qr k0 k1 k2 hbox2
 go_wp2_with (at_builtin;(refine wpList_append_lies _ rfl _ _ 23 rfl w0.heap.size 96 iv _ 3 24 Tryz.underlying23 hiv hzv hsv hbv rfl (by decide) _ n6 (treeCells out6) rfl hroA ⟨w6.heap.size,0,none⟩ 1 1 [.int .i64 zl,.int .i64 zr,.int .i64 0] rfl rfl hnews hone (by omega) (by unfold maxLen;omega) (by omega) (by simp <;> omega) _ rfl ?_;intro g7 cap7 w7 ho7 hg7 hgg7 _))
 have hroA':=hroA
 rw [←hl6.out] at ho7 hroA'
 have hpush:=rl_push (x:=⟨zl,zr,0⟩) hB6a.out hroA' ho7 hg7 hgg7
 go_ret
 have hlast:out.length+(L.Tr.node (U) (V)).size = out6.length+1:=by rw [hl6.out,hn6.out,hn3.out];simp only [L.Tr.size];omega
 have hcat:out++(L.Tr.node (U) (V)).post out.length = out6++[⟨zl,zr,0⟩]:=by
  rw [hout6.out,hzl.out,hzr.out];simp [L.Tr.post]
 unfold RlPost
 rw [hlast,hcat]
 have hSt':=hSt.out
 rw [←hl6.out] at hSt'
 refine ⟨g7,cap7,?_,hpush.2.1,hpush.1,hSt'.trans hpush.2.2⟩
 rw [hl6.out];rfl
set_option maxRecDepth 100000 in
set_option maxHeartbeats 8000000 in
theorem ch_swap {w0:World} {t:List VN} {b o c i a b':Nat} {y:VN} {U V:L.Tr} (ht:TreeAt w0 b o t) (h1:t[i]? = some y) (h2:leafB y = false) (h3:y.left = a) (h4:y.right = b') (hl:RcGoal w0 t b o c i 3 a U) (hr:RcGoal w0 t b o c i 3 b' V):RcGoal w0 t b o c i 3 i (.node V U):=by
 intro out v wr hB hR hsz
 obtain ⟨hi,hy⟩:=List.getElem?_eq_some_iff.1 h1
 obtain ⟨n0,n1,n2⟩:=(ht.below hB).node hi
 rw [hy] at n0 n1 n2
 obtain ⟨iv,hiv,hzv,hsv,hbv⟩:=info_parts vn_info
 obtain ⟨yl,yr,yv⟩:=y
 simp only at n0 n1 n2 h3 h4
 subst h3 h4
 have hlp:=U.pos
 have hrp:=V.pos
 have hsz':out.length+(V.size+U.size+1)≤255:=hsz
 have dne:((i:Int) == (i:Int)) = true:=by simp
 have hb1:=(Below.refl wr.heap.size wr).alloc (Nat.le_refl _) (.cells #[.int .i64 (a:Nat),.int .i64 (b':Nat),.int .i64 yv] 96)
 have hbox:=heap_alloc_new wr (.cells #[.int .i64 (a:Nat),.int .i64 (b':Nat),.int .i64 yv] 96)
 have hi1:(0:Int)≤i:=by omega
 have hi2:(i:Int) < t.length:=by omega
 have hlf:=fun W=>refLeaf_any ⟨(a:Nat),(b':Nat),yv⟩ W
 rw [h2] at hlf
 have hB1:=Lib.hid (hB.trans (hb1.mono hB.size))
 have hR1:=Lib.hid (hR.alloc (.cells #[.int .i64 (a:Nat),.int .i64 (b':Nat),.int .i64 yv] 96))
 have hvp:v.ownBlock≠some wr.heap.size:=fun e=>by have:=(own_lt hR e).1;omega
 obtain ⟨k0,k1,k2⟩:=box3 hbox
 have hSt0:=Lib.hid (RlStay.below v hb1)
 clear hb1
 replace hbox:=Lib.hid hbox
 replace hR:=Lib.hid hR
 replace hvp:=Lib.hid hvp
 replace hy:=Lib.hid hy
 clear h1 h2
 go_enter Tryz.func121,Tryz.ntmps121
 go_wp2_with fail
 generalize hW1:wr.alloc (.cells #[.int .i64 (a:Nat),.int .i64 (b':Nat),.int .i64 yv] 96) = w1 at *
 clear hW1
 generalize wr.heap.size = p at *
 refine (hlf _).mono ?_
 rintro e w2 ⟨rfl,hx2⟩
 clear hlf n0 n1 n2
 have hbx2:=hx2.below
 have hB2:=hB1.out.trans (hbx2.mono hB1.out.size)
 have hR2:=ownsRow_same hR1.out (fun _ hg=>hbx2.block _ (own_lt hR1.out hg).1)
 have k0':=hx2.cell k0
 have k1':=hx2.cell k1
 have k2':=hx2.cell k2
 have hbox2:=(hbx2.block p (Array.getElem?_eq_some_iff.1 hbox.out).1).trans hbox.out
 have hSt2:=Lib.hid (hSt0.out.trans (RlStay.below v hbx2))
 clear k0 k1 k2 hB1 hR1 hbox
 have ql:=hr out v w2 hB2 hR2 (by omega)
 replace hbox2:=Lib.hid hbox2
 clear hbx2 hB2 hR2
 go_wp2_with fail
 refine ql.mono ?_
 rintro e w3 ⟨gl,cl,rfl,hR3,hB3,hSt3⟩
 have hbox3:=(hSt3.block p (Array.getElem?_eq_some_iff.1 hbox2.out).1 hvp.out).trans hbox2.out
 have hlen3:(out++(V).post out.length).length = out.length+(V).size:=post_lenN _ _ _
 have qr:=hl (out++(V).post out.length) (.slice (some ⟨gl,0,none⟩) (out.length+(V).size) cl) w3 hB3 hR3 (by rw [hlen3];omega)
 unfold RlPost at qr
 rw [hlen3] at qr
 have hw1:IntKind.i64.wrap (((out.length+(V).size:Nat):Int) - 1) = ((out.length+(V).size - 1:Nat):Int):=by rw [IntWalk.i64_in _ (by omega)];omega
 have hw2:IntKind.i64.wrap (((out.length+(V).size+(U).size:Nat):Int) - 1) = ((out.length+(V).size+(U).size - 1:Nat):Int):=by rw [IntWalk.i64_in _ (by omega)];omega
 obtain ⟨zl,hzl⟩:∃ z:Int,z = ((out.length+(V).size - 1:Nat):Int):=⟨_,rfl⟩
 obtain ⟨zr,hzr⟩:∃ z:Int,z = ((out.length+(V).size+(U).size - 1:Nat):Int):=⟨_,rfl⟩
 rw [←hzl] at hw1
 rw [←hzr] at hw2
 obtain ⟨out6,hout6⟩:∃ o6,o6 = out++(V).post out.length++(U).post (out.length+(V).size):=⟨_,rfl⟩
 have hl6:out6.length = out.length+(V).size+(U).size:=by rw [hout6,List.length_append,hlen3,L.Tr.post_len]
 rw [←hout6] at qr
 have hSt3':=Lib.hid (hSt2.out.trans hSt3)
 obtain ⟨n3,hn3⟩:∃ n3,n3 = out.length+(V).size:=⟨_,rfl⟩
 rw [←hn3] at hw1 hw2 qr hSt3' hl6
 rw [←hn3]
 obtain ⟨n6,hn6⟩:∃ n6,n6 = n3+(U).size:=⟨_,rfl⟩
 rw [←hn6] at hw2 qr hl6
 have hn6b:n6+1≤255:=by omega
 obtain ⟨k0,k1,k2⟩:=box3 hbox3
 replace hzl:=Lib.hid hzl
 replace hzr:=Lib.hid hzr
 replace hout6:=Lib.hid hout6
 replace hlen3:=Lib.hid hlen3
 replace hl6:=Lib.hid hl6
 replace hn3:=Lib.hid hn3
 replace hn6:=Lib.hid hn6
 clear ql hR3 hB3 hSt3 hbox3 k0' k1' k2' hsz hsz'
 go_wp2_with fail
 refine qr.mono ?_
 rintro e w6 ⟨gr,cr,rfl,hR6,hB6,hSt6⟩
 have hb6a:=(Below.refl w6.heap.size w6).alloc (Nat.le_refl _) (.cells #[.int .i64 zl,.int .i64 zr,.int .i64 0] 96)
 have hB6a:=hB6.trans (hb6a.mono hB6.size)
 have hroA:=hR6.alloc (.cells #[.int .i64 zl,.int .i64 zr,.int .i64 0] 96)
 have hone:∀ u∈[Value.int .i64 zl,.int .i64 zr,.int .i64 0],u.oneCell' = true:=by simp [Value.oneCell']
 have hnews:=World.news_of_block (cs:=#[.int .i64 zl,.int .i64 zr,.int .i64 0]) (t:=96) (fr:=(0,0)) (heap_alloc_new w6 (.cells #[.int .i64 zl,.int .i64 zr,.int .i64 0] 96))
 have hSt:=Lib.hid ((hSt3'.out.trans hSt6).trans (RlStay.below _ hb6a))
 have hsz0:=hB6.size
 rw [hl6.out] at hroA
 replace hB6a:=Lib.hid hB6a
 clear hb6a hB6 hSt6 hR6 qr k0 k1 k2 hbox2
 go_wp2_with (at_builtin;(refine wpList_append_lies _ rfl _ _ 23 rfl w0.heap.size 96 iv _ 3 24 Tryz.underlying23 hiv hzv hsv hbv rfl (by decide) _ n6 (treeCells out6) rfl hroA ⟨w6.heap.size,0,none⟩ 1 1 [.int .i64 zl,.int .i64 zr,.int .i64 0] rfl rfl hnews hone (by omega) (by unfold maxLen;omega) (by omega) (by simp <;> omega) _ rfl ?_;intro g7 cap7 w7 ho7 hg7 hgg7 _))
 have hroA':=hroA
 rw [←hl6.out] at ho7 hroA'
 have hpush:=rl_push (x:=⟨zl,zr,0⟩) hB6a.out hroA' ho7 hg7 hgg7
 go_ret
 have hlast:out.length+(L.Tr.node (V) (U)).size = out6.length+1:=by rw [hl6.out,hn6.out,hn3.out];simp only [L.Tr.size];omega
 have hcat:out++(L.Tr.node (V) (U)).post out.length = out6++[⟨zl,zr,0⟩]:=by
  rw [hout6.out,hzl.out,hzr.out];simp [L.Tr.post]
 unfold RlPost
 rw [hlast,hcat]
 have hSt':=hSt.out
 rw [←hl6.out] at hSt'
 refine ⟨g7,cap7,?_,hpush.2.1,hpush.1,hSt'.trans hpush.2.2⟩
 rw [hl6.out];rfl
set_option maxRecDepth 100000 in
set_option maxHeartbeats 8000000 in
theorem ch_right {w0:World} {t:List VN} {b o c i a b' pl pr:Nat} {y z:VN} {P Q R:L.Tr} (ht:TreeAt w0 b o t) (h1:t[i]? = some y) (h2:leafB y = false) (h3:y.left = a) (h4:y.right = b') (hz:t[a]? = some z) (hzl:z.left = pl) (hzr:z.right = pr) (hP:L.IsT L.idc t pl P) (hQ:L.IsT L.idc t pr Q) (hRt:L.IsT L.idc t b' R):RcGoal w0 t b o c i 1 i (.node P (.node Q R)):=by
 intro out v wr hB hR hsz
 obtain ⟨hi,hy⟩:=List.getElem?_eq_some_iff.1 h1
 obtain ⟨n0,n1,n2⟩:=(ht.below hB).node hi
 rw [hy] at n0 n1 n2
 obtain ⟨iv,hiv,hzv,hsv,hbv⟩:=info_parts vn_info
 obtain ⟨yl,yr,yv⟩:=y
 simp only at n0 n1 n2 h3 h4
 subst h3 h4
 have hPp:=P.pos
 have hQp:=Q.pos
 have hRp:=R.pos
 have hsz':out.length+(P.size+Q.size+R.size+2)≤255:=by simp only [L.Tr.size] at hsz;omega
 have dne:((i:Int) == (i:Int)) = true:=by simp
 have lP:=fun out v wr hB hR hs=>rl_law (c:=c) ht P pl out v wr hP hB hR hs
 have lQ:=fun out v wr hB hR hs=>rl_law (c:=c) ht Q pr out v wr hQ hB hR hs
 have lR:=fun out v wr hB hR hs=>rl_law (c:=c) ht R b' out v wr hRt hB hR hs
 obtain ⟨hzi,hzy⟩:=List.getElem?_eq_some_iff.1 hz
 have mz:=fun W (hW:Below w0.heap.size w0 W)=>(ht.below hW).node hzi
 rw [hzy] at mz
 obtain ⟨zl',zr',zv'⟩:=z
 simp only at mz hzl hzr
 subst hzl hzr
 have hk0:(0:Int)≤(a:Nat):=by omega
 have hk1:((a:Nat):Int) < t.length:=by omega
 have hb1:=(Below.refl wr.heap.size wr).alloc (Nat.le_refl _) (.cells #[.int .i64 (a:Nat),.int .i64 (b':Nat),.int .i64 yv] 96)
 have hbox:=heap_alloc_new wr (.cells #[.int .i64 (a:Nat),.int .i64 (b':Nat),.int .i64 yv] 96)
 have hi1:(0:Int)≤i:=by omega
 have hi2:(i:Int) < t.length:=by omega
 have hlf:=fun W=>refLeaf_any ⟨(a:Nat),(b':Nat),yv⟩ W
 rw [h2] at hlf
 have hB1:=Lib.hid (hB.trans (hb1.mono hB.size))
 have hR1:=Lib.hid (hR.alloc (.cells #[.int .i64 (a:Nat),.int .i64 (b':Nat),.int .i64 yv] 96))
 have hvp:v.ownBlock≠some wr.heap.size:=fun e=>by have:=(own_lt hR e).1;omega
 obtain ⟨k0,k1,k2⟩:=box3 hbox
 have hSt0:=Lib.hid (RlStay.below v hb1)
 clear hb1
 replace hbox:=Lib.hid hbox
 replace hR:=Lib.hid hR
 replace hvp:=Lib.hid hvp
 replace hy:=Lib.hid hy
 clear h1 h2
 replace hz:=Lib.hid hz
 replace hzy:=Lib.hid hzy
 replace mz:=Lib.hid mz
 replace lP:=Lib.hid lP
 replace lQ:=Lib.hid lQ
 replace lR:=Lib.hid lR
 clear hP hQ hRt
 go_enter Tryz.func121,Tryz.ntmps121
 go_wp2_with fail
 generalize hW1:wr.alloc (.cells #[.int .i64 (a:Nat),.int .i64 (b':Nat),.int .i64 yv] 96) = w1 at *
 clear hW1
 generalize wr.heap.size = p at *
 refine (hlf _).mono ?_
 rintro e w2 ⟨rfl,hx2⟩
 clear hlf n0 n1 n2
 have hbx2:=hx2.below
 have hB2:=hB1.out.trans (hbx2.mono hB1.out.size)
 have hR2:=ownsRow_same hR1.out (fun _ hg=>hbx2.block _ (own_lt hR1.out hg).1)
 have k0':=hx2.cell k0
 have k1':=hx2.cell k1
 have k2':=hx2.cell k2
 have hbox2:=(hbx2.block p (Array.getElem?_eq_some_iff.1 hbox.out).1).trans hbox.out
 have hSt2:=Lib.hid (hSt0.out.trans (RlStay.below v hbx2))
 clear k0 k1 k2 hB1 hR1 hbox
 have hb2a:=(Below.refl w2.heap.size w2).alloc (Nat.le_refl _) (.cells #[.int .i64 (pl:Nat),.int .i64 (pr:Nat),.int .i64 zv'] 96)
 have hbz:=heap_alloc_new w2 (.cells #[.int .i64 (pl:Nat),.int .i64 (pr:Nat),.int .i64 zv'] 96)
 have xb0:=Lib.hid ((hb2a.block p (Array.getElem?_eq_some_iff.1 hbox2).1).trans hbox2)
 have yb0:=Lib.hid hbz
 have yv0:Hid (v.ownBlock≠some w2.heap.size):=Lib.hid (fun e=>by have:=(own_lt hR2 e).1;omega)
 have xv0:=hvp
 obtain ⟨m0,m1,m2⟩:=mz.out w2 hB2
 have hB0:=Lib.hid (hB2.trans (hb2a.mono hB2.size))
 have hR0:=Lib.hid (hR2.alloc (.cells #[.int .i64 (pl:Nat),.int .i64 (pr:Nat),.int .i64 zv'] 96))
 have hSt0':=Lib.hid (hSt2.out.trans (RlStay.below v hb2a))
 obtain ⟨out0,ho0⟩:∃ x,x = out:=⟨_,rfl⟩
 obtain ⟨n0,hn0⟩:∃ n,n = out.length:=⟨_,rfl⟩
 have hl0:Hid (out0.length = n0):=Lib.hid (by rw [ho0,hn0])
 rw [←ho0] at hR0
 rw [←hn0] at hsz'
 replace ho0:=Lib.hid ho0
 replace hn0:=Lib.hid hn0
 obtain ⟨xk0,xk1,_⟩:=box3 xb0.out
 obtain ⟨yk0,yk1,_⟩:=box3 yb0.out
 clear hbx2 hB2 hR2 hb2a hsz hSt0 hSt2 hvp hbox2
 have hSt0:=hSt0'
 clear hSt0'
 go_wp2_with fail
 generalize hWx:w2.alloc (.cells #[.int .i64 (pl:Nat),.int .i64 (pr:Nat),.int .i64 zv'] 96) = ww0 at *
 clear hWx m0 m1 m2 hbz
 generalize w2.heap.size = p2 at *
 have q1:=lP.out out0 v ww0 hB0.out hR0.out (by rw [hl0.out];omega)
 obtain ⟨n1,hn1⟩:∃ n,n = n0+(P).size:=⟨_,rfl⟩
 obtain ⟨out1,ho1⟩:∃ x,x = out0++(P).post n0:=⟨_,rfl⟩
 rw [hl0.out,←hn1,←ho1] at q1
 have hl1:Hid (out1.length = n1):=Lib.hid (by rw [ho1,post_lenN,hl0.out,hn1])
 have hle1:n1≤n0+(P).size∧n0+(P).size≤n1:=by omega
 have hnb1:n1≤255∧0 < n1:=by omega
 obtain ⟨z1,hz1⟩:∃ z:Int,z = ((n1 - 1:Nat):Int):=⟨_,rfl⟩
 have hw1:IntKind.i64.wrap ((n1:Int) - 1) = z1:=by rw [IntWalk.i64_in _ (by omega),hz1];omega
 replace hn1:=Lib.hid hn1
 replace ho1:=Lib.hid ho1
 replace hz1:=Lib.hid hz1
 go_wp2_with fail
 refine q1.mono ?_
 rintro e ww1 ⟨g1,c1,rfl,hR1,hB1,hS1⟩
 have hSt1:=Lib.hid (hSt0.out.trans hS1)
 clear q1
 clear xk0 xk1
 have xb1:=Lib.hid ((hS1.block p (Array.getElem?_eq_some_iff.1 xb0.out).1 xv0.out).trans xb0.out)
 have xv1:Hid ((Value.slice (some ⟨g1,0,none⟩) n1 c1).ownBlock≠some p):=Lib.hid (fun e=>by
  rcases hS1.row p e with e' | e'
  ·exact xv0.out e'
  ·have:=(Array.getElem?_eq_some_iff.1 xb0.out).1;omega)
 obtain ⟨xk0,xk1,_⟩:=box3 xb1.out
 clear yk0 yk1
 have yb1:=Lib.hid ((hS1.block p2 (Array.getElem?_eq_some_iff.1 yb0.out).1 yv0.out).trans yb0.out)
 have yv1:Hid ((Value.slice (some ⟨g1,0,none⟩) n1 c1).ownBlock≠some p2):=Lib.hid (fun e=>by
  rcases hS1.row p2 e with e' | e'
  ·exact yv0.out e'
  ·have:=(Array.getElem?_eq_some_iff.1 yb0.out).1;omega)
 obtain ⟨yk0,yk1,_⟩:=box3 yb1.out
 replace hR1:=Lib.hid hR1
 replace hB1:=Lib.hid hB1
 clear hS1
 have q2:=lQ.out out1 (.slice (some ⟨g1,0,none⟩) n1 c1) ww1 hB1.out hR1.out (by rw [hl1.out];omega)
 obtain ⟨n2,hn2⟩:∃ n,n = n1+(Q).size:=⟨_,rfl⟩
 obtain ⟨out2,ho2⟩:∃ x,x = out1++(Q).post n1:=⟨_,rfl⟩
 rw [hl1.out,←hn2,←ho2] at q2
 have hl2:Hid (out2.length = n2):=Lib.hid (by rw [ho2,post_lenN,hl1.out,hn2])
 have hle2:n2≤n1+(Q).size∧n1+(Q).size≤n2:=by omega
 have hnb2:n2≤255∧0 < n2:=by omega
 obtain ⟨z2,hz2⟩:∃ z:Int,z = ((n2 - 1:Nat):Int):=⟨_,rfl⟩
 have hw2:IntKind.i64.wrap ((n2:Int) - 1) = z2:=by rw [IntWalk.i64_in _ (by omega),hz2];omega
 replace hn2:=Lib.hid hn2
 replace ho2:=Lib.hid ho2
 replace hz2:=Lib.hid hz2
 go_wp2_with fail
 refine q2.mono ?_
 rintro e ww2 ⟨g2,c2,rfl,hR2,hB2,hS2⟩
 have hSt2:=Lib.hid (hSt1.out.trans hS2)
 clear q2
 clear xk0 xk1
 have xb2:=Lib.hid ((hS2.block p (Array.getElem?_eq_some_iff.1 xb1.out).1 xv1.out).trans xb1.out)
 have xv2:Hid ((Value.slice (some ⟨g2,0,none⟩) n2 c2).ownBlock≠some p):=Lib.hid (fun e=>by
  rcases hS2.row p e with e' | e'
  ·exact xv1.out e'
  ·have:=(Array.getElem?_eq_some_iff.1 xb1.out).1;omega)
 obtain ⟨xk0,xk1,_⟩:=box3 xb2.out
 replace hR2:=Lib.hid hR2
 replace hB2:=Lib.hid hB2
 clear hS2
 have q3:=lR.out out2 (.slice (some ⟨g2,0,none⟩) n2 c2) ww2 hB2.out hR2.out (by rw [hl2.out];omega)
 obtain ⟨n3,hn3⟩:∃ n,n = n2+(R).size:=⟨_,rfl⟩
 obtain ⟨out3,ho3⟩:∃ x,x = out2++(R).post n2:=⟨_,rfl⟩
 rw [hl2.out,←hn3,←ho3] at q3
 have hl3:Hid (out3.length = n3):=Lib.hid (by rw [ho3,post_lenN,hl2.out,hn3])
 have hle3:n3≤n2+(R).size∧n2+(R).size≤n3:=by omega
 have hnb3:n3≤255∧0 < n3:=by omega
 obtain ⟨z3,hz3⟩:∃ z:Int,z = ((n3 - 1:Nat):Int):=⟨_,rfl⟩
 have hw3:IntKind.i64.wrap ((n3:Int) - 1) = z3:=by rw [IntWalk.i64_in _ (by omega),hz3];omega
 replace hn3:=Lib.hid hn3
 replace ho3:=Lib.hid ho3
 replace hz3:=Lib.hid hz3
 go_wp2_with fail
 refine q3.mono ?_
 rintro e ww3 ⟨g3,c3,rfl,hR3,hB3,hS3⟩
 have hSt3:=Lib.hid (hSt2.out.trans hS3)
 clear q3
 replace hR3:=Lib.hid hR3
 replace hB3:=Lib.hid hB3
 clear hS3
 have ha4:=(Below.refl ww3.heap.size ww3).alloc (Nat.le_refl _) (.cells #[.int .i64 z2,.int .i64 z3,.int .i64 0] 96)
 have hB4a:=Lib.hid (hB3.out.trans (ha4.mono hB3.out.size))
 have hroA4:=hR3.out.alloc (.cells #[.int .i64 z2,.int .i64 z3,.int .i64 0] 96)
 have hroB4:=Lib.hid hroA4
 rw [hl3.out] at hroA4
 have hone4:∀ u∈[Value.int .i64 z2,.int .i64 z3,.int .i64 0],u.oneCell' = true:=by simp [Value.oneCell']
 have hnews4:=World.news_of_block (cs:=#[.int .i64 z2,.int .i64 z3,.int .i64 0]) (t:=96) (fr:=(0,0)) (heap_alloc_new ww3 (.cells #[.int .i64 z2,.int .i64 z3,.int .i64 0] 96))
 have hsz4:=hB3.out.size
 have hT4:=Lib.hid (hSt3.out.trans (RlStay.below _ ha4))
 obtain ⟨n4,hn4⟩:∃ n,n = n3+1:=⟨_,rfl⟩
 have hle4:n4≤n3+1∧n3+1≤n4:=by omega
 have hnb4:n4≤255∧0 < n4:=by omega
 obtain ⟨z4,hz4⟩:∃ z:Int,z = ((n4 - 1:Nat):Int):=⟨_,rfl⟩
 have hw4:IntKind.i64.wrap ((n4:Int) - 1) = z4:=by rw [IntWalk.i64_in _ (by omega),hz4];omega
 obtain ⟨out4,ho4⟩:∃ x,x = out3++[(⟨z2,z3,0⟩:VN)]:=⟨_,rfl⟩
 have hl4:Hid (out4.length = n4):=Lib.hid (by rw [ho4,List.length_append,hl3.out,hn4];rfl)
 replace hn4:=Lib.hid hn4
 replace ho4:=Lib.hid ho4
 replace hz4:=Lib.hid hz4
 go_wp2_with (at_builtin;first
  | (refine wpList_append_lies _ rfl _ _ 23 rfl w0.heap.size 96 iv _ 3 24 Tryz.underlying23 hiv hzv hsv hbv rfl (by decide) _ n3 (treeCells out3) rfl hroA4 ⟨ww3.heap.size,0,none⟩ 1 1 [.int .i64 z2,.int .i64 z3,.int .i64 0] rfl rfl hnews4 hone4 (by omega) (by unfold maxLen;omega) (by omega) (by simp <;> omega) _ rfl ?_;intro g4 c4 ww4 ho7 hg7 hgg7 _;rw [←hl3.out] at ho7;have hpush:=rl_push (x:=⟨z2,z3,0⟩) hB4a.out hroB4.out ho7 hg7 hgg7;rw [←ho4.out,hl3.out,←hn4.out] at hpush;rw [←hn4.out];have hB4:=Lib.hid hpush.1;have hR4:=Lib.hid hpush.2.1;have hS4':=hpush.2.2;have hSt4:=Lib.hid (hT4.out.trans hS4');clear ho7 hg7 hgg7 hpush
     have ha5:=(Below.refl ww4.heap.size ww4).alloc (Nat.le_refl _) (.cells #[.int .i64 z1,.int .i64 z4,.int .i64 0] 96)
     have hB5a:=Lib.hid (hB4.out.trans (ha5.mono hB4.out.size))
     have hroA5:=hR4.out.alloc (.cells #[.int .i64 z1,.int .i64 z4,.int .i64 0] 96)
     have hroB5:=Lib.hid hroA5
     rw [hl4.out] at hroA5
     have hone5:∀ u∈[Value.int .i64 z1,.int .i64 z4,.int .i64 0],u.oneCell' = true:=by simp [Value.oneCell']
     have hnews5:=World.news_of_block (cs:=#[.int .i64 z1,.int .i64 z4,.int .i64 0]) (t:=96) (fr:=(0,0)) (heap_alloc_new ww4 (.cells #[.int .i64 z1,.int .i64 z4,.int .i64 0] 96))
     have hsz5:=hB4.out.size
     have hT5:=Lib.hid (hSt4.out.trans (RlStay.below _ ha5))
     obtain ⟨n5,hn5⟩:∃ n,n = n4+1:=⟨_,rfl⟩
     have hle5:n5≤n4+1∧n4+1≤n5:=by omega
     have hnb5:n5≤255∧0 < n5:=by omega
     obtain ⟨z5,hz5⟩:∃ z:Int,z = ((n5 - 1:Nat):Int):=⟨_,rfl⟩
     have hw5:IntKind.i64.wrap ((n5:Int) - 1) = z5:=by rw [IntWalk.i64_in _ (by omega),hz5];omega
     obtain ⟨out5,ho5⟩:∃ x,x = out4++[(⟨z1,z4,0⟩:VN)]:=⟨_,rfl⟩
     have hl5:Hid (out5.length = n5):=Lib.hid (by rw [ho5,List.length_append,hl4.out,hn5];rfl)
     replace hn5:=Lib.hid hn5
     replace ho5:=Lib.hid ho5
     replace hz5:=Lib.hid hz5)
  | (refine wpList_append_lies _ rfl _ _ 23 rfl w0.heap.size 96 iv _ 3 24 Tryz.underlying23 hiv hzv hsv hbv rfl (by decide) _ n4 (treeCells out4) rfl hroA5 ⟨ww4.heap.size,0,none⟩ 1 1 [.int .i64 z1,.int .i64 z4,.int .i64 0] rfl rfl hnews5 hone5 (by omega) (by unfold maxLen;omega) (by omega) (by simp <;> omega) _ rfl ?_;intro g5 c5 ww5 ho7 hg7 hgg7 _;rw [←hl4.out] at ho7;have hpush:=rl_push (x:=⟨z1,z4,0⟩) hB5a.out hroB5.out ho7 hg7 hgg7;rw [←ho5.out,hl4.out,←hn5.out] at hpush;rw [←hn5.out];have hB5:=Lib.hid hpush.1;have hR5:=Lib.hid hpush.2.1;have hS5':=hpush.2.2;have hSt5:=Lib.hid (hT5.out.trans hS5');clear ho7 hg7 hgg7 hpush))
 go_ret
 have a0:=hn0.out
 have a1:=hn1.out
 have a2:=hn2.out
 have a3:=hn3.out
 have a4:=hn4.out
 have a5:=hn5.out
 have b0:=ho0.out
 have b1:=ho1.out
 have b2:=ho2.out
 have b3:=ho3.out
 have b4:=ho4.out
 have b5:=ho5.out
 have d1:=hz1.out
 have d2:=hz2.out
 have d3:=hz3.out
 have d4:=hz4.out
 have hlast:out.length+(L.Tr.size (L.Tr.node P (L.Tr.node Q R))) = n5:=by simp only [L.Tr.size];omega
 have hcat:out++L.Tr.post (L.Tr.node P (L.Tr.node Q R)) out.length = out5:=by
  rw [b5,b4,b3,b2,b1,b0,d1,d2,d3,d4]
  simp only [L.Tr.post,L.Tr.size,List.append_assoc,List.cons_append,List.nil_append]
  rw [a4,a3,a2,a1,a0]
  rw [show out.length+P.size+(Q.size+R.size+1) - 1 = out.length+P.size+Q.size+R.size+1 - 1 by omega]
 unfold RlPost
 rw [hlast,hcat]
 have r5:=hR5.out
 exact ⟨g5,c5,rfl,by rw [hl5.out] at r5 ⊢;exact r5,hB5.out,hSt5.out⟩
set_option maxRecDepth 100000 in
set_option maxHeartbeats 8000000 in
theorem ch_left {w0:World} {t:List VN} {b o c i a b' pl pr:Nat} {y z:VN} {P Q R:L.Tr} (ht:TreeAt w0 b o t) (h1:t[i]? = some y) (h2:leafB y = false) (h3:y.left = a) (h4:y.right = b') (hz:t[b']? = some z) (hzl:z.left = pl) (hzr:z.right = pr) (hP:L.IsT L.idc t a P) (hQ:L.IsT L.idc t pl Q) (hRt:L.IsT L.idc t pr R):RcGoal w0 t b o c i 2 i (.node (.node P Q) R):=by
 intro out v wr hB hR hsz
 obtain ⟨hi,hy⟩:=List.getElem?_eq_some_iff.1 h1
 obtain ⟨n0,n1,n2⟩:=(ht.below hB).node hi
 rw [hy] at n0 n1 n2
 obtain ⟨iv,hiv,hzv,hsv,hbv⟩:=info_parts vn_info
 obtain ⟨yl,yr,yv⟩:=y
 simp only at n0 n1 n2 h3 h4
 subst h3 h4
 have hPp:=P.pos
 have hQp:=Q.pos
 have hRp:=R.pos
 have hsz':out.length+(P.size+Q.size+R.size+2)≤255:=by simp only [L.Tr.size] at hsz;omega
 have dne:((i:Int) == (i:Int)) = true:=by simp
 have lP:=fun out v wr hB hR hs=>rl_law (c:=c) ht P a out v wr hP hB hR hs
 have lQ:=fun out v wr hB hR hs=>rl_law (c:=c) ht Q pl out v wr hQ hB hR hs
 have lR:=fun out v wr hB hR hs=>rl_law (c:=c) ht R pr out v wr hRt hB hR hs
 obtain ⟨hzi,hzy⟩:=List.getElem?_eq_some_iff.1 hz
 have mz:=fun W (hW:Below w0.heap.size w0 W)=>(ht.below hW).node hzi
 rw [hzy] at mz
 obtain ⟨zl',zr',zv'⟩:=z
 simp only at mz hzl hzr
 subst hzl hzr
 have hk0:(0:Int)≤(b':Nat):=by omega
 have hk1:((b':Nat):Int) < t.length:=by omega
 have hb1:=(Below.refl wr.heap.size wr).alloc (Nat.le_refl _) (.cells #[.int .i64 (a:Nat),.int .i64 (b':Nat),.int .i64 yv] 96)
 have hbox:=heap_alloc_new wr (.cells #[.int .i64 (a:Nat),.int .i64 (b':Nat),.int .i64 yv] 96)
 have hi1:(0:Int)≤i:=by omega
 have hi2:(i:Int) < t.length:=by omega
 have hlf:=fun W=>refLeaf_any ⟨(a:Nat),(b':Nat),yv⟩ W
 rw [h2] at hlf
 have hB1:=Lib.hid (hB.trans (hb1.mono hB.size))
 have hR1:=Lib.hid (hR.alloc (.cells #[.int .i64 (a:Nat),.int .i64 (b':Nat),.int .i64 yv] 96))
 have hvp:v.ownBlock≠some wr.heap.size:=fun e=>by have:=(own_lt hR e).1;omega
 obtain ⟨k0,k1,k2⟩:=box3 hbox
 have hSt0:=Lib.hid (RlStay.below v hb1)
 clear hb1
 replace hbox:=Lib.hid hbox
 replace hR:=Lib.hid hR
 replace hvp:=Lib.hid hvp
 replace hy:=Lib.hid hy
 clear h1 h2
 replace hz:=Lib.hid hz
 replace hzy:=Lib.hid hzy
 replace mz:=Lib.hid mz
 replace lP:=Lib.hid lP
 replace lQ:=Lib.hid lQ
 replace lR:=Lib.hid lR
 clear hP hQ hRt
 go_enter Tryz.func121,Tryz.ntmps121
 go_wp2_with fail
 generalize hW1:wr.alloc (.cells #[.int .i64 (a:Nat),.int .i64 (b':Nat),.int .i64 yv] 96) = w1 at *
 clear hW1
 generalize wr.heap.size = p at *
 refine (hlf _).mono ?_
 rintro e w2 ⟨rfl,hx2⟩
 clear hlf n0 n1 n2
 have hbx2:=hx2.below
 have hB2:=hB1.out.trans (hbx2.mono hB1.out.size)
 have hR2:=ownsRow_same hR1.out (fun _ hg=>hbx2.block _ (own_lt hR1.out hg).1)
 have k0':=hx2.cell k0
 have k1':=hx2.cell k1
 have k2':=hx2.cell k2
 have hbox2:=(hbx2.block p (Array.getElem?_eq_some_iff.1 hbox.out).1).trans hbox.out
 have hSt2:=Lib.hid (hSt0.out.trans (RlStay.below v hbx2))
 clear k0 k1 k2 hB1 hR1 hbox
 have hb2a:=(Below.refl w2.heap.size w2).alloc (Nat.le_refl _) (.cells #[.int .i64 (pl:Nat),.int .i64 (pr:Nat),.int .i64 zv'] 96)
 have hbz:=heap_alloc_new w2 (.cells #[.int .i64 (pl:Nat),.int .i64 (pr:Nat),.int .i64 zv'] 96)
 have xb0:=Lib.hid ((hb2a.block p (Array.getElem?_eq_some_iff.1 hbox2).1).trans hbox2)
 have yb0:=Lib.hid hbz
 have yv0:Hid (v.ownBlock≠some w2.heap.size):=Lib.hid (fun e=>by have:=(own_lt hR2 e).1;omega)
 have xv0:=hvp
 obtain ⟨m0,m1,m2⟩:=mz.out w2 hB2
 have hB0:=Lib.hid (hB2.trans (hb2a.mono hB2.size))
 have hR0:=Lib.hid (hR2.alloc (.cells #[.int .i64 (pl:Nat),.int .i64 (pr:Nat),.int .i64 zv'] 96))
 have hSt0':=Lib.hid (hSt2.out.trans (RlStay.below v hb2a))
 obtain ⟨out0,ho0⟩:∃ x,x = out:=⟨_,rfl⟩
 obtain ⟨n0,hn0⟩:∃ n,n = out.length:=⟨_,rfl⟩
 have hl0:Hid (out0.length = n0):=Lib.hid (by rw [ho0,hn0])
 rw [←ho0] at hR0
 rw [←hn0] at hsz'
 replace ho0:=Lib.hid ho0
 replace hn0:=Lib.hid hn0
 obtain ⟨xk0,xk1,_⟩:=box3 xb0.out
 obtain ⟨yk0,yk1,_⟩:=box3 yb0.out
 clear hbx2 hB2 hR2 hb2a hsz hSt0 hSt2 hvp hbox2
 have hSt0:=hSt0'
 clear hSt0'
 go_wp2_with fail
 generalize hWx:w2.alloc (.cells #[.int .i64 (pl:Nat),.int .i64 (pr:Nat),.int .i64 zv'] 96) = ww0 at *
 clear hWx m0 m1 m2 hbz
 generalize w2.heap.size = p2 at *
 have q1:=lP.out out0 v ww0 hB0.out hR0.out (by rw [hl0.out];omega)
 obtain ⟨n1,hn1⟩:∃ n,n = n0+(P).size:=⟨_,rfl⟩
 obtain ⟨out1,ho1⟩:∃ x,x = out0++(P).post n0:=⟨_,rfl⟩
 rw [hl0.out,←hn1,←ho1] at q1
 have hl1:Hid (out1.length = n1):=Lib.hid (by rw [ho1,post_lenN,hl0.out,hn1])
 have hle1:n1≤n0+(P).size∧n0+(P).size≤n1:=by omega
 have hnb1:n1≤255∧0 < n1:=by omega
 obtain ⟨z1,hz1⟩:∃ z:Int,z = ((n1 - 1:Nat):Int):=⟨_,rfl⟩
 have hw1:IntKind.i64.wrap ((n1:Int) - 1) = z1:=by rw [IntWalk.i64_in _ (by omega),hz1];omega
 replace hn1:=Lib.hid hn1
 replace ho1:=Lib.hid ho1
 replace hz1:=Lib.hid hz1
 go_wp2_with fail
 refine q1.mono ?_
 rintro e ww1 ⟨g1,c1,rfl,hR1,hB1,hS1⟩
 have hSt1:=Lib.hid (hSt0.out.trans hS1)
 clear q1
 clear xk0 xk1
 have xb1:=Lib.hid ((hS1.block p (Array.getElem?_eq_some_iff.1 xb0.out).1 xv0.out).trans xb0.out)
 have xv1:Hid ((Value.slice (some ⟨g1,0,none⟩) n1 c1).ownBlock≠some p):=Lib.hid (fun e=>by
  rcases hS1.row p e with e' | e'
  ·exact xv0.out e'
  ·have:=(Array.getElem?_eq_some_iff.1 xb0.out).1;omega)
 obtain ⟨xk0,xk1,_⟩:=box3 xb1.out
 clear yk0 yk1
 have yb1:=Lib.hid ((hS1.block p2 (Array.getElem?_eq_some_iff.1 yb0.out).1 yv0.out).trans yb0.out)
 have yv1:Hid ((Value.slice (some ⟨g1,0,none⟩) n1 c1).ownBlock≠some p2):=Lib.hid (fun e=>by
  rcases hS1.row p2 e with e' | e'
  ·exact yv0.out e'
  ·have:=(Array.getElem?_eq_some_iff.1 yb0.out).1;omega)
 obtain ⟨yk0,yk1,_⟩:=box3 yb1.out
 replace hR1:=Lib.hid hR1
 replace hB1:=Lib.hid hB1
 clear hS1
 have q2:=lQ.out out1 (.slice (some ⟨g1,0,none⟩) n1 c1) ww1 hB1.out hR1.out (by rw [hl1.out];omega)
 obtain ⟨n2,hn2⟩:∃ n,n = n1+(Q).size:=⟨_,rfl⟩
 obtain ⟨out2,ho2⟩:∃ x,x = out1++(Q).post n1:=⟨_,rfl⟩
 rw [hl1.out,←hn2,←ho2] at q2
 have hl2:Hid (out2.length = n2):=Lib.hid (by rw [ho2,post_lenN,hl1.out,hn2])
 have hle2:n2≤n1+(Q).size∧n1+(Q).size≤n2:=by omega
 have hnb2:n2≤255∧0 < n2:=by omega
 obtain ⟨z2,hz2⟩:∃ z:Int,z = ((n2 - 1:Nat):Int):=⟨_,rfl⟩
 have hw2:IntKind.i64.wrap ((n2:Int) - 1) = z2:=by rw [IntWalk.i64_in _ (by omega),hz2];omega
 replace hn2:=Lib.hid hn2
 replace ho2:=Lib.hid ho2
 replace hz2:=Lib.hid hz2
 go_wp2_with fail
 refine q2.mono ?_
 rintro e ww2 ⟨g2,c2,rfl,hR2,hB2,hS2⟩
 have hSt2:=Lib.hid (hSt1.out.trans hS2)
 clear q2
 clear yk0 yk1
 have yb2:=Lib.hid ((hS2.block p2 (Array.getElem?_eq_some_iff.1 yb1.out).1 yv1.out).trans yb1.out)
 have yv2:Hid ((Value.slice (some ⟨g2,0,none⟩) n2 c2).ownBlock≠some p2):=Lib.hid (fun e=>by
  rcases hS2.row p2 e with e' | e'
  ·exact yv1.out e'
  ·have:=(Array.getElem?_eq_some_iff.1 yb1.out).1;omega)
 obtain ⟨yk0,yk1,_⟩:=box3 yb2.out
 replace hR2:=Lib.hid hR2
 replace hB2:=Lib.hid hB2
 clear hS2
 have ha3:=(Below.refl ww2.heap.size ww2).alloc (Nat.le_refl _) (.cells #[.int .i64 z1,.int .i64 z2,.int .i64 0] 96)
 have hB3a:=Lib.hid (hB2.out.trans (ha3.mono hB2.out.size))
 have hroA3:=hR2.out.alloc (.cells #[.int .i64 z1,.int .i64 z2,.int .i64 0] 96)
 have hroB3:=Lib.hid hroA3
 rw [hl2.out] at hroA3
 have hone3:∀ u∈[Value.int .i64 z1,.int .i64 z2,.int .i64 0],u.oneCell' = true:=by simp [Value.oneCell']
 have hnews3:=World.news_of_block (cs:=#[.int .i64 z1,.int .i64 z2,.int .i64 0]) (t:=96) (fr:=(0,0)) (heap_alloc_new ww2 (.cells #[.int .i64 z1,.int .i64 z2,.int .i64 0] 96))
 have hsz3:=hB2.out.size
 have hT3:=Lib.hid (hSt2.out.trans (RlStay.below _ ha3))
 obtain ⟨n3,hn3⟩:∃ n,n = n2+1:=⟨_,rfl⟩
 have hle3:n3≤n2+1∧n2+1≤n3:=by omega
 have hnb3:n3≤255∧0 < n3:=by omega
 obtain ⟨z3,hz3⟩:∃ z:Int,z = ((n3 - 1:Nat):Int):=⟨_,rfl⟩
 have hw3:IntKind.i64.wrap ((n3:Int) - 1) = z3:=by rw [IntWalk.i64_in _ (by omega),hz3];omega
 obtain ⟨out3,ho3⟩:∃ x,x = out2++[(⟨z1,z2,0⟩:VN)]:=⟨_,rfl⟩
 have hl3:Hid (out3.length = n3):=Lib.hid (by rw [ho3,List.length_append,hl2.out,hn3];rfl)
 replace hn3:=Lib.hid hn3
 replace ho3:=Lib.hid ho3
 replace hz3:=Lib.hid hz3
 go_wp2_with (at_builtin;first
  | (refine wpList_append_lies _ rfl _ _ 23 rfl w0.heap.size 96 iv _ 3 24 Tryz.underlying23 hiv hzv hsv hbv rfl (by decide) _ n2 (treeCells out2) rfl hroA3 ⟨ww2.heap.size,0,none⟩ 1 1 [.int .i64 z1,.int .i64 z2,.int .i64 0] rfl rfl hnews3 hone3 (by omega) (by unfold maxLen;omega) (by omega) (by simp <;> omega) _ rfl ?_;intro g3 c3 ww3 ho7 hg7 hgg7 _;rw [←hl2.out] at ho7;have hpush:=rl_push (x:=⟨z1,z2,0⟩) hB3a.out hroB3.out ho7 hg7 hgg7;rw [←ho3.out,hl2.out,←hn3.out] at hpush;rw [←hn3.out];have hB3:=Lib.hid hpush.1;have hR3:=Lib.hid hpush.2.1;have hS3':=hpush.2.2;have hSt3:=Lib.hid (hT3.out.trans hS3');clear ho7 hg7 hgg7 hpush
     have hS3:=(RlStay.below (.slice (some ⟨g2,0,none⟩) n2 c2) ha3).trans hS3'
     clear yk0 yk1
     have yb3:=Lib.hid ((hS3.block p2 (Array.getElem?_eq_some_iff.1 yb2.out).1 yv2.out).trans yb2.out)
     have yv3:Hid ((Value.slice (some ⟨g3,0,none⟩) n3 c3).ownBlock≠some p2):=Lib.hid (fun e=>by
      rcases hS3.row p2 e with e' | e'
      ·exact yv2.out e'
      ·have:=(Array.getElem?_eq_some_iff.1 yb2.out).1;omega)
     obtain ⟨yk0,yk1,_⟩:=box3 yb3.out))
 have q4:=lR.out out3 (.slice (some ⟨g3,0,none⟩) n3 c3) ww3 hB3.out hR3.out (by rw [hl3.out];omega)
 obtain ⟨n4,hn4⟩:∃ n,n = n3+(R).size:=⟨_,rfl⟩
 obtain ⟨out4,ho4⟩:∃ x,x = out3++(R).post n3:=⟨_,rfl⟩
 rw [hl3.out,←hn4,←ho4] at q4
 have hl4:Hid (out4.length = n4):=Lib.hid (by rw [ho4,post_lenN,hl3.out,hn4])
 have hle4:n4≤n3+(R).size∧n3+(R).size≤n4:=by omega
 have hnb4:n4≤255∧0 < n4:=by omega
 obtain ⟨z4,hz4⟩:∃ z:Int,z = ((n4 - 1:Nat):Int):=⟨_,rfl⟩
 have hw4:IntKind.i64.wrap ((n4:Int) - 1) = z4:=by rw [IntWalk.i64_in _ (by omega),hz4];omega
 replace hn4:=Lib.hid hn4
 replace ho4:=Lib.hid ho4
 replace hz4:=Lib.hid hz4
 go_wp2_with fail
 refine q4.mono ?_
 rintro e ww4 ⟨g4,c4,rfl,hR4,hB4,hS4⟩
 have hSt4:=Lib.hid (hSt3.out.trans hS4)
 clear q4
 replace hR4:=Lib.hid hR4
 replace hB4:=Lib.hid hB4
 clear hS4
 have ha5:=(Below.refl ww4.heap.size ww4).alloc (Nat.le_refl _) (.cells #[.int .i64 z3,.int .i64 z4,.int .i64 0] 96)
 have hB5a:=Lib.hid (hB4.out.trans (ha5.mono hB4.out.size))
 have hroA5:=hR4.out.alloc (.cells #[.int .i64 z3,.int .i64 z4,.int .i64 0] 96)
 have hroB5:=Lib.hid hroA5
 rw [hl4.out] at hroA5
 have hone5:∀ u∈[Value.int .i64 z3,.int .i64 z4,.int .i64 0],u.oneCell' = true:=by simp [Value.oneCell']
 have hnews5:=World.news_of_block (cs:=#[.int .i64 z3,.int .i64 z4,.int .i64 0]) (t:=96) (fr:=(0,0)) (heap_alloc_new ww4 (.cells #[.int .i64 z3,.int .i64 z4,.int .i64 0] 96))
 have hsz5:=hB4.out.size
 have hT5:=Lib.hid (hSt4.out.trans (RlStay.below _ ha5))
 obtain ⟨n5,hn5⟩:∃ n,n = n4+1:=⟨_,rfl⟩
 have hle5:n5≤n4+1∧n4+1≤n5:=by omega
 have hnb5:n5≤255∧0 < n5:=by omega
 obtain ⟨z5,hz5⟩:∃ z:Int,z = ((n5 - 1:Nat):Int):=⟨_,rfl⟩
 have hw5:IntKind.i64.wrap ((n5:Int) - 1) = z5:=by rw [IntWalk.i64_in _ (by omega),hz5];omega
 obtain ⟨out5,ho5⟩:∃ x,x = out4++[(⟨z3,z4,0⟩:VN)]:=⟨_,rfl⟩
 have hl5:Hid (out5.length = n5):=Lib.hid (by rw [ho5,List.length_append,hl4.out,hn5];rfl)
 replace hn5:=Lib.hid hn5
 replace ho5:=Lib.hid ho5
 replace hz5:=Lib.hid hz5
 go_wp2_with (at_builtin;(refine wpList_append_lies _ rfl _ _ 23 rfl w0.heap.size 96 iv _ 3 24 Tryz.underlying23 hiv hzv hsv hbv rfl (by decide) _ n4 (treeCells out4) rfl hroA5 ⟨ww4.heap.size,0,none⟩ 1 1 [.int .i64 z3,.int .i64 z4,.int .i64 0] rfl rfl hnews5 hone5 (by omega) (by unfold maxLen;omega) (by omega) (by simp <;> omega) _ rfl ?_;intro g5 c5 ww5 ho7 hg7 hgg7 _;rw [←hl4.out] at ho7;have hpush:=rl_push (x:=⟨z3,z4,0⟩) hB5a.out hroB5.out ho7 hg7 hgg7;rw [←ho5.out,hl4.out,←hn5.out] at hpush;rw [←hn5.out];have hB5:=Lib.hid hpush.1;have hR5:=Lib.hid hpush.2.1;have hS5':=hpush.2.2;have hSt5:=Lib.hid (hT5.out.trans hS5');clear ho7 hg7 hgg7 hpush))
 go_ret
 have a0:=hn0.out
 have a1:=hn1.out
 have a2:=hn2.out
 have a3:=hn3.out
 have a4:=hn4.out
 have a5:=hn5.out
 have b0:=ho0.out
 have b1:=ho1.out
 have b2:=ho2.out
 have b3:=ho3.out
 have b4:=ho4.out
 have b5:=ho5.out
 have d1:=hz1.out
 have d2:=hz2.out
 have d3:=hz3.out
 have d4:=hz4.out
 have hlast:out.length+(L.Tr.size (L.Tr.node (L.Tr.node P Q) R)) = n5:=by simp only [L.Tr.size];omega
 have hcat:out++L.Tr.post (L.Tr.node (L.Tr.node P Q) R) out.length = out5:=by
  rw [b5,b4,b3,b2,b1,b0,d1,d2,d3,d4]
  simp only [L.Tr.post,L.Tr.size,List.append_assoc,List.cons_append,List.nil_append]
  rw [a4,a3,a2,a1,a0]
  rw [show out.length+(P.size+Q.size+1) = out.length+P.size+Q.size+1 by omega]
 unfold RlPost
 rw [hlast,hcat]
 have r5:=hR5.out
 exact ⟨g5,c5,rfl,by rw [hl5.out] at r5 ⊢;exact r5,hB5.out,hSt5.out⟩
end Go.Proofs.YteikmmfjhabijaaGreatDoor
