import Derived.Test.YteikmmfjhabijaaGreatDoorUText
import Derived.Test.YteikmmfjhabijaaGreatDoorURefChk
import Derived.Test.YteikmmfjhabijaaGreatDoorURef3
section
set_option linter.unusedSimpArgs false
set_option linter.unusedVariables false
namespace Go.Proofs.YteikmmfjhabijaaGreatDoor
open Go Go.RowKit Go.Shelf
def t3:List VN:=[⟨-1,-1,1⟩,⟨-1,-1,2⟩,⟨0,1,0⟩]
def okSt (s:St) (a:Nat):Bool:=decide (s.tree.length = 3) && decide (a < s.nodes.length)
def worksB:Bool :=
 match literalF (newSt t3) 1 0 with
 | none=>false
 | some (a,s1)=>match literalF s1 2 1 with
   | none=>false
   | some (b,s2)=>match andF 12 s2 a b with
     | none=>false
     | some (c,s3)=>match andF 12 s3 b a with
       | none=>false
       | some (d,s4)=>okSt s1 a && okSt s2 a && okSt s2 b && okSt s3 a && okSt s3 b && okSt s4 c && decide (c = d) && decide (textF 6 s4.nodes c = some [40,45,49,32,70,59,32,49,32,50,41]) && decide (sizeF 6 s4.nodes c = some 2) && decide (evalF 6 s4.nodes c 3#128 = some true) && decide (evalF 6 s4.nodes c 1#128 = some false)
theorem works_data:worksB = true:=by kernel_rfl
end Go.Proofs.YteikmmfjhabijaaGreatDoor
namespace Go.Proofs.YteikmmfjhabijaaGreatDoor
open Go Go.RowKit Go.Shelf
theorem checkT3:checkF t3 = 0:=by kernel_rfl
theorem leafT3:leafAt t3 2 = some 1:=by kernel_rfl
theorem okSt_parts {s:St} {a:Nat} (h:okSt s a = true):s.tree≠[]∧a < s.nodes.length:=by
 unfold okSt at h
 simp only [Bool.and_eq_true,decide_eq_true_eq] at h
 exact ⟨fun e=>by rw [e] at h;simp at h,h.2⟩
theorem works_facts:∃ a s1 b s2 c s3 s4,literalF (newSt t3) 1 0 = some (a,s1)∧literalF s1 2 1 = some (b,s2)∧andF 12 s2 a b = some (c,s3)∧andF 12 s3 b a = some (c,s4) ∧
  okSt s1 a = true∧okSt s2 a = true∧okSt s2 b = true∧okSt s3 a = true∧okSt s3 b = true∧okSt s4 c = true ∧
  textF 6 s4.nodes c = some [40,45,49,32,70,59,32,49,32,50,41]∧sizeF 6 s4.nodes c = some 2∧evalF 6 s4.nodes c 3#128 = some true∧evalF 6 s4.nodes c 1#128 = some false∧leafAt s1.tree 2 = some 1:=by
 have h:=works_data
 unfold worksB at h
 split at h
 ·cases h
 rename_i a s1 h1
 split at h
 ·cases h
 rename_i b s2 h2
 split at h
 ·cases h
 rename_i c s3 h3
 split at h
 ·cases h
 rename_i d s4 h4
 simp only [Bool.and_eq_true,decide_eq_true_eq] at h
 obtain ⟨⟨⟨⟨⟨⟨⟨⟨⟨⟨o1,o2⟩,o3⟩,o4⟩,o5⟩,o6⟩,rfl⟩,e1⟩,e2⟩,e3⟩,e4⟩:=h
 refine ⟨a,s1,b,s2,c,s3,s4,h1,h2,h3,h4,o1,o2,o3,o4,o5,o6,e1,e2,e3,e4,?_⟩
 have ht:s1.tree = t3:=by
  unfold literalF addF at h1
  split at h1
  ·split at h1
   ·cases h1;rfl
   ·split at h1
    ·cases h1;rfl
    ·cases h1
  ·cases h1
 rw [ht]
 exact leafT3
theorem Stp.behind {B B':Blks} {w w1 w2:World} {n:Nat} (hb:Below n w w1) (hm:∀ k∈B.mut,n≤k) (hn:n≤w1.heap.size) (hS:Stp [] B w1 B' w2):Below n w w2∧(∀ k∈B'.mut,n≤k)∧n≤w2.heap.size :=
 ⟨⟨hS.fr.os.trans hb.os,hS.fr.tape.trans hb.tape,hS.fr.output.trans hb.output,Nat.le_trans hb.size hS.fr.size,fun k hk=>(hS.fr.block k (by omega) (fun hc=>by
    rcases List.mem_append.1 hc with hc | hc
    ·have:=hm k hc;omega
    ·simp at hc)).trans (hb.block k hk)⟩,
   fun k hk=>(hS.new k hk).elim (hm k) (fun h=>by omega),Nat.le_trans hn hS.fr.size⟩
theorem lawLeaf_any (v:Int) (w:World):Calls Tryz.prog 50 #[.int .i64 v] w fun e w'=>e = .returned (.agg #[.int .i64 (-1),.int .i64 (-1),.int .i64 v])∧Ext w w':=by
 go_enter Tryz.func50,Tryz.ntmps50
 go_wp2_with fail
 go_returns
 exact ⟨rfl,⟨by go_grown,Nat.le_refl _⟩⟩
set_option maxRecDepth 100000 in
set_option maxHeartbeats 4000000 in
theorem works_any (w:World) (hT:TzTab w) (hP:PowTab w):Calls Tryz.prog 16 #[] w fun e w'=>e = .returned (.bool true)∧Below w.heap.size w w':=by
 obtain ⟨a,s1,b,s2,c,s3,s4,h1,h2,h3,h4,o1,o2,o3,o4,o5,o6,e1,e2,e3,e4,e5⟩:=works_facts
 replace h1:=Lib.hid h1
 replace h2:=Lib.hid h2
 replace h3:=Lib.hid h3
 replace h4:=Lib.hid h4
 replace e1:=Lib.hid e1
 replace e2:=Lib.hid e2
 replace e3:=Lib.hid e3
 replace e4:=Lib.hid e4
 replace e5:=Lib.hid e5
 obtain ⟨t1,a1⟩:=okSt_parts o1
 obtain ⟨t2,a2⟩:=okSt_parts o2
 obtain ⟨_,a3⟩:=okSt_parts o3
 obtain ⟨t3',a4⟩:=okSt_parts o4
 obtain ⟨_,a5⟩:=okSt_parts o5
 obtain ⟨t4,a6⟩:=okSt_parts o6
 clear o1 o2 o3 o4 o5 o6
 go_enter Tryz.func16,Tryz.ntmps16
 go_wp2_with fail
 refine (lawLeaf_any 1 _).mono ?_
 rintro e w1 ⟨rfl,hx1⟩
 go_wp2_with fail
 refine (lawLeaf_any 2 _).mono ?_
 rintro e w2 ⟨rfl,hx2⟩
 have hx12:=hx1.trans hx2
 have hx3:Ext w2 (w2.alloc (.cells #[.int .i64 (-1),.int .i64 (-1),.int .i64 1,.int .i64 (-1),.int .i64 (-1),.int .i64 2,.int .i64 0,.int .i64 1,.int .i64 0] 96)):=(Ext.refl w2).alloc _
 have hz3:=heap_alloc_new w2 (.cells #[.int .i64 (-1),.int .i64 (-1),.int .i64 1,.int .i64 (-1),.int .i64 (-1),.int .i64 2,.int .i64 0,.int .i64 1,.int .i64 0] 96)
 go_wp2_with fail
 generalize w2.alloc (.cells #[.int .i64 (-1),.int .i64 (-1),.int .i64 1,.int .i64 (-1),.int .i64 (-1),.int .i64 2,.int .i64 0,.int .i64 1,.int .i64 0] 96) = w3 at *
 have hx:=hx12.trans hx3
 have htr:TreeAt w3 w2.heap.size 0 t3:=fun j u hj=>by
  have:=World.news_of_block hz3 j u hj
  rw [Nat.zero_add]
  have hadd:(⟨w2.heap.size,0,none⟩:Addr).add j = ⟨w2.heap.size,j,none⟩:=by unfold Addr.add;split <;> simp_all
  rw [hadd] at this
  exact this
 have hq:=new_ok w3 w2.heap.size 0 3 (hT.same (hx.below.block _ hT.lt')) (hP.same (hx.below.block _ hP.lt)) htr checkT3
 have hq':Calls Tryz.prog 23 #[.slice (some ⟨w2.heap.size,0,none⟩) 3 3] w3 (RetNew t3 w3):=hq
 clear hq hz3 htr
 refine hq'.mono ?_
 rintro e w4 ⟨B,rfl,hR,hm,_,_,hb4⟩
 have hw3:w.heap.size≤w3.heap.size:=hx.size
 have hB4:Below w.heap.size w w4:=hx.below.trans (hb4.mono hw3)
 have hm4:∀ k∈B.mut,w.heap.size≤k:=fun k hk=>Nat.le_trans hw3 (hm k hk)
 have hn4:w.heap.size≤w4.heap.size:=Nat.le_trans hw3 hb4.size
 have c1:=lit_top (l:=1) (v:=1) (pl:=0) hR (by simp [newSt,t3]) rfl (by kernel_rfl) h1.out
 replace hR:=Lib.hid hR
 clear hm hb4
 go_wp2_with fail
 refine c1.mono ?_
 rintro e w5 ⟨rfl,B5,hR5,hS5⟩
 obtain ⟨hB5,hm5,hn5⟩:=hS5.behind hB4 hm4 hn4
 have c2:=lit_top (l:=2) (v:=2) (pl:=1) hR5 t1 rfl e5.out h2.out
 rw [hS5.sb] at c2
 replace hR5:=Lib.hid hR5
 clear c1
 go_wp2_with fail
 refine c2.mono ?_
 rintro e w6 ⟨rfl,B6,hR6,hS6⟩
 obtain ⟨hB6,hm6,hn6⟩:=hS6.behind hB5 hm5 hn5
 have c3:=and_top (andF_law 12) hR6 t2 a2 a3 h3.out
 rw [hS6.sb,hS5.sb] at c3
 replace hR6:=Lib.hid hR6
 clear c2
 go_wp2_with fail
 refine c3.mono ?_
 rintro e w7 ⟨rfl,B7,hR7,hS7⟩
 obtain ⟨hB7,hm7,hn7⟩:=hS7.behind hB6 hm6 hn6
 have c4:=and_top (andF_law 12) hR7 t3' a5 a4 h4.out
 rw [hS7.sb,hS6.sb,hS5.sb] at c4
 replace hR7:=Lib.hid hR7
 clear c3
 go_wp2_with fail
 refine c4.mono ?_
 rintro e w8 ⟨rfl,B8,hR8,hS8⟩
 obtain ⟨hB8,hm8,hn8⟩:=hS8.behind hB7 hm7 hn7
 have hsb:B8.sb = B.sb:=by rw [hS8.sb,hS7.sb,hS6.sb,hS5.sb]
 have c5:=text_any hR8 t4 a6 e1.out
 rw [hsb] at c5
 replace hR8:=Lib.hid hR8
 clear c4
 go_wp2_with fail
 refine c5.mono ?_
 rintro e w9 ⟨rfl,hb9⟩
 have hR9:=hR8.out.below hb9
 have c6:=size_any hR9 t4 a6 e2.out
 rw [hsb] at c6
 replace hR9:=Lib.hid hR9
 clear c5
 go_wp2_with fail
 refine c6.mono ?_
 rintro e w10 ⟨rfl,hb10⟩
 have hR10:=hR9.out.below hb10
 have c7:=evalF_law 6 B8 s4 w10 c 3#128 true hR10 t4 e3.out
 rw [hsb] at c7
 have c7':Calls Tryz.prog 21 #[.pointer (some ⟨B.sb,0,none⟩),.int .i64 c,.agg #[.int .u64 3,.int .u64 0]] w10 fun e w'=>e = .returned (.bool true)∧Ext w10 w':=c7
 replace hR10:=Lib.hid hR10
 clear c6 c7
 go_wp2_with fail
 refine c7'.mono ?_
 rintro e w11 ⟨rfl,hx11⟩
 have hR11:=hR10.out.below hx11.below
 have c8:=evalF_law 6 B8 s4 w11 c 1#128 false hR11 t4 e4.out
 rw [hsb] at c8
 have c8':Calls Tryz.prog 21 #[.pointer (some ⟨B.sb,0,none⟩),.int .i64 c,.agg #[.int .u64 1,.int .u64 0]] w11 fun e w'=>e = .returned (.bool false)∧Ext w11 w':=c8
 replace hR11:=Lib.hid hR11
 clear c7' c8
 go_wp2_with fail
 refine c8'.mono ?_
 rintro e w12 ⟨rfl,hx12'⟩
 go_wp2_with fail
 go_ret
 exact ⟨rfl,hB8.trans ((((hb9.mono hn8).trans (hb10.mono (Nat.le_trans hn8 hb9.size))).trans (hx11.below.mono (Nat.le_trans (Nat.le_trans hn8 hb9.size) hb10.size))).trans (hx12'.below.mono (Nat.le_trans (Nat.le_trans (Nat.le_trans hn8 hb9.size) hb10.size) hx11.size)))⟩
end Go.Proofs.YteikmmfjhabijaaGreatDoor
end
section
set_option linter.unusedSimpArgs false
set_option linter.unusedVariables false
namespace Go.Proofs.YteikmmfjhabijaaGreatDoor
open Go Go.RowKit Go.Shelf
set_option maxRecDepth 100000 in
set_option maxHeartbeats 1000000 in
theorem at_any {B:Blks} {s:St} {w:World} {a:Nat} {n:SNode} (h:Rep B s w) (ht:s.tree≠[]) (hn:s.nodes[a]? = some n) :
  Calls Tryz.prog 75 #[.pointer (some ⟨B.sb,0,none⟩),.int .i64 a] w fun e w'=>e = .returned (.tuple #[.int .i64 n.pl,.int .i64 0])∧Below w.heap.size w w':=by
 have ha:a < s.nodes.length:=(List.getElem?_eq_some_iff.1 hn).1
 have hch:chkF s.nodes.length [(a:Int)] = 0:=by simp [chkF,ha]
 have hns:=h.small.1
 replace hch:=Lib.hid hch
 have hx1:=(Ext.refl w).alloc (.cells #[.int .i64 a] 3)
 have hz1:=heap_alloc_new w (.cells #[.int .i64 a] 3)
 go_enter Tryz.func75,Tryz.ntmps75
 go_wp2_with fail
 generalize w.alloc (.cells #[.int .i64 a] 3) = w1 at *
 have hR1:=h.below hx1.below
 have hq:=sck_any hR1 ht (slI_one hz1) (by simp)
 rw [hch.out] at hq
 clear hz1
 obtain ⟨cap,_,_,cn,_⟩:=hR1.cells
 obtain ⟨v,_,_,n0,_⟩:=hR1.node hn
 replace hR1:=Lib.hid hR1
 clear h
 refine hq.mono ?_
 rintro e w2 ⟨rfl,rfl⟩
 have d0:decide ((a:Int) < s.nodes.length) = true:=decide_eq_true (by omega)
 have d1:decide (0≤(a:Int)) = true:=decide_eq_true (by omega)
 clear hq
 go_wp2_with fail
 go_ret2
 exact ⟨rfl,hx1.below⟩
theorem TreeAt.below {w w':World} {b o:Nat} {t:List VN} (h:TreeAt w b o t) (hb:Below w.heap.size w w'):TreeAt w' b o t :=
 fun j u hj=>(hb.cell (World.block_lt_of_cell? w _ (h j u hj))).trans (h j u hj)
end Go.Proofs.YteikmmfjhabijaaGreatDoor
end
