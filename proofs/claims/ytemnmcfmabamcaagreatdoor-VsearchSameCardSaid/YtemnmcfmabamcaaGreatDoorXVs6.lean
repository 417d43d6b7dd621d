import Derived.Test.YtemnmcfmabamcaaGreatDoorXVb
import Derived.Test.YtemnmcfmabamcaaGreatDoorXShelf1
import Derived.Test.YtemnmcfmabamcaaGreatDoorXLawP
import Derived.Test.YtemnmcfmabamcaaGreatDoorXVpost
import Derived.Test.YtemnmcfmabamcaaGreatDoorXReg
import Derived.Test.YtemnmcfmabamcaaGreatDoorXRefChk
section
set_option linter.unusedSimpArgs false
set_option linter.unusedVariables false
namespace Go.Proofs.YtemnmcfmabamcaaGreatDoor
open Go Go.RowKit Go.Shelf
theorem dg_itoa_all:((List.range 129).all fun k=>k == 0 || L.dgV (k:Int) == Lib.itoa (k:Int)) = true:=by kernel_rfl
theorem dg_itoa (v:Int) (h:1≤v∧v≤128):L.dgV v = Lib.itoa v:=by
 have:=List.all_eq_true.1 dg_itoa_all v.toNat (List.mem_range.2 (by omega))
 rw [show ((v.toNat:Nat):Int) = v by omega] at this
 have h0:(v.toNat == 0) = false:=by rw [beq_eq_false_iff_ne];omega
 rw [h0,Bool.false_or,beq_iff_eq] at this
 exact this
structure PrC (wa:World) (x p:Nat) (t:List VN) (b o cap:Nat) (l:List UInt8) (w:World):Prop where
 below:Below wa.heap.size wa w
 lt:wa.heap.size≤x∧x < p∧gPow < wa.heap.size
 bt:w.heap[x]? = some (.cells #[.slice (some ⟨b,o,none⟩) t.length cap] 23 (0,0))
 bd:BdAt p p l w
 bv:w.heap[p+1]? = some (.cells #[.func (.func 53) #[] #[.pointer (some ⟨x,0,none⟩),.pointer (some ⟨p,0,none⟩),.pointer (some ⟨p+1,0,none⟩)]] 112 (0,0))
section
variable {wa:World} {x p:Nat} {t:List VN} {b o cap:Nat} {l:List UInt8} {w:World}
theorem PrC.cells (h:PrC wa x p t b o cap l w):w.cell? ⟨x,0,none⟩ = some (.slice (some ⟨b,o,none⟩) t.length cap) ∧
  w.cell? ⟨p+1,0,none⟩ = some (.func (.func 53) #[] #[.pointer (some ⟨x,0,none⟩),.pointer (some ⟨p,0,none⟩),.pointer (some ⟨p+1,0,none⟩)]):=by
 refine ⟨?_,?_⟩
 ·simp [World.cell?,h.bt]
 ·simp [World.cell?,h.bv]
theorem PrC.size (h:PrC wa x p t b o cap l w):p≤w.heap.size:=by have:=(Array.getElem?_eq_some_iff.1 h.bv).1;omega
theorem PrC.wrote {w':World} {s:List UInt8} (h:PrC wa x p t b o cap l w) (hr:BdRet p p (l++s) w w'):PrC wa x p t b o cap (l++s) w':=by
 obtain ⟨h1,h2,h3⟩:=hr
 have hlt:=h.lt
 exact ⟨h.below.trans (h2.mono (by omega)),h.lt,h3 x _ h.bt (fun e=>by have:=Option.some.inj e;omega) (fun c fz e=>by simp at e),h1,
  h3 (p+1) _ h.bv (fun e=>by have:=Option.some.inj e;omega) (fun c fz e=>by simp at e)⟩
theorem PrC.next {w':World} (h:PrC wa x p t b o cap l w) (hs:Below w.heap.size w w'):PrC wa x p t b o cap l w':=by
 have hk:∀ (j:Nat) (o:Obj),w.heap[j]? = some o→w'.heap[j]? = some o:=fun j o hj=>(hs.block j (Array.getElem?_eq_some_iff.1 hj).1).trans hj
 have hbd:∀ q,Lib.BuilderAtF 111 5 p p q (Lib.byteCells l) w→Lib.BuilderAtF 111 5 p p q (Lib.byteCells l) w':=fun q hq=>by
  obtain ⟨g1,v,g2,g3,g4⟩:=hq
  refine ⟨g1,v,hk _ _ g2,?_,g4⟩
  obtain ⟨k1,k2⟩:=g3
  refine ⟨k1,?_⟩
  rcases k2 with k2 | ⟨g,cap,cur,fz,e,k3,k4,k5⟩
  ·exact .inl k2
  ·exact .inr ⟨g,cap,cur,fz,e,k3,hk _ _ k4,k5⟩
 exact ⟨h.below.trans (hs.mono h.below.size),h.lt,hk _ _ h.bt,h.bd.imp (hbd _) (hbd _),hk _ _ h.bv⟩
end
def PrLaw (wa:World) (x p:Nat) (t:List VN) (b o cap:Nat) (T:L.Tr):Prop:=∀ (i:Nat) (l:List UInt8) (w:World),L.IsT L.idc t i T→PrC wa x p t b o cap l w→l.length+(L.prT T).length≤1000000 →
 Calls Tryz.prog 53 #[.int .i64 (i:Int),.pointer (some ⟨x,0,none⟩),.pointer (some ⟨p,0,none⟩),.pointer (some ⟨p+1,0,none⟩)] w fun e w'=>e = .returned (.tuple #[])∧PrC wa x p t b o cap (l++L.prT T) w'
set_option maxRecDepth 100000 in
set_option maxHeartbeats 4000000 in
theorem pr_law {wa:World} {x p:Nat} {t:List VN} {b o cap:Nat} (ht:TreeAt wa b o t) (hP:PowTab wa):∀ T,PrLaw wa x p t b o cap T
 | .leaf lv=>by
   intro i l w hT hC hsz
   cases hT with
   | @leaf _ y h1 h2 =>
     obtain ⟨hi,hy⟩:=List.getElem?_eq_some_iff.1 h1
     obtain ⟨n0,n1,n2⟩:=(ht.below hC.below).node hi
     rw [hy] at n0 n1 n2
     obtain ⟨yl,yr,yv⟩:=y
     simp only at n0 n1 n2
     have hlf:=fun W=>isLeaf_any ⟨yl,yr,yv⟩ W
     rw [h2] at hlf
     have hr:1≤yv∧yv≤128:=by
      simp only [leafB,Bool.and_eq_true,decide_eq_true_eq] at h2
      omega
     have hit:=fun W (hW:PowTab W)=>Tryz.strconv_Itoa yv (by omega) (by omega) W hW
     have hpr:L.prT (.leaf yv) = Lib.itoa yv:=dg_itoa yv hr
     obtain ⟨c0,c1⟩:=hC.cells
     have hi1:(0:Int)≤i:=by omega
     have hi2:(i:Int) < t.length:=by omega
     simp only at hsz ⊢
     rw [hpr] at hsz ⊢
     have hPw:=hP.same (hC.below.block _ hC.lt.2.2)
     replace hC:=Lib.hid hC
     replace hit:=Lib.hid hit
     clear h1 h2 hy hpr
     go_enter Tryz.func53,Tryz.ntmps53
     go_wp2_with fail
     refine (hlf _).mono ?_
     rintro e w1 ⟨rfl,hx1⟩
     have hC1:=hC.out.next hx1.below
     have m2:=hx1.cell n2
     obtain ⟨d0,d1⟩:=hC1.cells
     have q2:=hit.out w1 (hPw.same (hx1.below.block _ (Nat.lt_of_lt_of_le hC.out.lt.2.2 hC.out.below.size)))
     replace hC1:=Lib.hid hC1
     clear hlf n0 n1 n2 c0 c1 hx1
     go_wp2_with fail
     refine q2.mono ?_
     rintro e w2 ⟨rfl,hw2⟩
     have hC2:=hC1.out.next (itoa_below w1.heap.size hw2 (Nat.le_refl _))
     have q3:=bstr_any (s:=Lib.itoa yv) hC2.bd (by omega) (by omega) hC2.size
     replace hC2:=Lib.hid hC2
     clear q2 hw2 m2 d0 d1
     go_wp2_with fail
     refine q3.mono ?_
     rintro e w3 ⟨⟨n3,rfl⟩,hr3⟩
     replace hr3:=Lib.hid hr3
     clear q3
     go_wp2_with fail
     refine bodyPost_ret (results_none rfl _ _ _) rfl ?_
     exact ⟨rfl,hC2.out.wrote hr3.out⟩
 | .node a c=>by
   intro i l w hT hC hsz
   have iha:PrLaw wa x p t b o cap a:=pr_law ht hP a
   have ihc:PrLaw wa x p t b o cap c:=pr_law ht hP c
   cases hT with
   | @node _ ai ci y _ _ h1 h2 h3 h4 g1 g2 =>
     obtain ⟨hi,hy⟩:=List.getElem?_eq_some_iff.1 h1
     have htw:=ht.below hC.below
     obtain ⟨n0,n1,n2⟩:=htw.node hi
     rw [hy] at n0 n1 n2
     obtain ⟨yl,yr,yv⟩:=y
     have h3':yl = (ai:Int):=h3
     have h4':yr = (ci:Int):=h4
     subst h3' h4'
     simp only at n0 n1 n2
     have hlf:=fun W=>isLeaf_any ⟨(ai:Int),(ci:Int),yv⟩ W
     rw [h2] at hlf
     have hK2:∀ (c:Array Value) (w:World),(callFunc 53 c).run Tryz.prog w = .ok (.enter 53 c) w:=fun c w=>by simp [go_sem,Tryz.func53]
     have hlen:l.length+(1+(L.prT a).length+1+(L.prT c).length+1)≤1000000:=by
      simp only [L.prT,List.length_append,List.length_cons,List.length_nil] at hsz;omega
     have hpr:l++L.prT (.node a c) = l++[40]++L.prT a++[32]++L.prT c++[41]:=by simp [L.prT]
     rw [hpr]
     obtain ⟨c0,c1⟩:=hC.cells
     have hi1:(0:Int)≤i:=by omega
     have hi2:(i:Int) < t.length:=by omega
     have htc:=Lib.hid fun (W:World) (hW:Below wa.heap.size wa W)=>(ht.below hW).node hi
     rw [hy] at htc
     replace hC:=Lib.hid hC
     clear h1 h2 hy hpr hsz htw h3 h4
     go_enter Tryz.func53,Tryz.ntmps53
     go_wp2_with fail
     refine (hlf _).mono ?_
     rintro e w1 ⟨rfl,hx1⟩
     have hC1:=hC.out.next hx1.below
     have q2:=bbyte_any 40 hC1.bd (by omega) hC1.size
     replace hC1:=Lib.hid hC1
     clear hlf n0 n1 n2 c0 c1 hx1
     go_wp2_with fail
     refine q2.mono ?_
     rintro e w2 ⟨rfl,hr2⟩
     have hC2:=hC1.out.wrote hr2
     have hC2d:=hC2.next (Below.refl w2.heap.size w2).drew
     obtain ⟨d0,d1⟩:=hC2d.cells
     obtain ⟨m0,m1,_⟩:=htc.out w2.drew hC2d.below
     try simp only at m0 m1
     have q3:=iha ai (l++[40]) w2.drew g1 hC2d (by simp only [List.length_append,List.length_cons,List.length_nil];omega)
     replace hC2d:=Lib.hid hC2d
     clear q2 hr2 hC2
     go_wp2_with fail
     (refine wp_region_held_drew (S:=(fun W=>W.cell? ⟨x,0,none⟩ = some (.slice (some ⟨b,o,none⟩) t.length cap)∧W.cell? ⟨p+1,0,none⟩ = some (.func (.func 53) #[] #[.pointer (some ⟨x,0,none⟩),.pointer (some ⟨p,0,none⟩),.pointer (some ⟨p+1,0,none⟩)])∧W.cell? ⟨b,o+i * 3,none⟩ = some (.int .i64 (ai:Nat)))) (by kernel_rfl) ?_ (fun hHeld=>?_))
     ·exact ⟨d0,d1,m0⟩
     (refine takeL (i:=0) (v:=?_) rfl (by kernel_rfl) (by kernel_rfl) (by kernel_rfl) (fun _ _ _ h=>h) (Or.inl ⟨by rfl,?_⟩) (by assumption) ?_)
     rotate_left
     ·(intro w hSw;(try dsimp only at hSw);go_simp;first | done | with_reducible rfl)
     (try simp only [Act.put,List.setIfInBounds_toArray,List.set_cons_zero,List.set_cons_succ])
     (refine takeL (i:=1) (v:=?_) rfl (by kernel_rfl) (by kernel_rfl) (by kernel_rfl) (fun _ _ _ h=>h) (Or.inl ⟨by rfl,?_⟩) (by assumption) ?_)
     rotate_left
     ·(intro w hSw;(try dsimp only at hSw);go_simp;first | done | with_reducible rfl)
     (try simp only [Act.put,List.setIfInBounds_toArray,List.set_cons_zero,List.set_cons_succ])
     (refine takeL (i:=2) (v:=?_) rfl (by kernel_rfl) (by kernel_rfl) (by kernel_rfl) (fun _ _ _ h=>h) (Or.inl ⟨by rfl,?_⟩) (by assumption) ?_)
     rotate_left
     ·(intro w hSw;(try dsimp only at hSw);go_simp;first | done | with_reducible rfl)
     (try simp only [Act.put,List.setIfInBounds_toArray,List.set_cons_zero,List.set_cons_succ])
     (refine takeL (i:=3) (v:=?_) rfl (by kernel_rfl) (by kernel_rfl) (by kernel_rfl) (fun _ _ _ h=>h) (Or.inl ⟨by rfl,?_⟩) (by assumption) ?_)
     rotate_left
     ·(intro w hSw;(try dsimp only at hSw);go_simp;first | done | with_reducible rfl)
     (try simp only [Act.put,List.setIfInBounds_toArray,List.set_cons_zero,List.set_cons_succ])
     (refine takeL (i:=4) (v:=?_) rfl (by kernel_rfl) (by kernel_rfl) (by kernel_rfl) (fun _ _ _ h=>h) (Or.inl ⟨by rfl,?_⟩) (by assumption) ?_)
     rotate_left
     ·(intro w hSw;(try dsimp only at hSw);go_simp;first | done | with_reducible rfl)
     (try simp only [Act.put,List.setIfInBounds_toArray,List.set_cons_zero,List.set_cons_succ])
     (refine takeL (i:=5) (v:=?_) rfl (by kernel_rfl) (by kernel_rfl) (by kernel_rfl) (fun _ _ _ h=>h) (Or.inl ⟨by rfl,?_⟩) (by assumption) ?_)
     rotate_left
     ·(intro w hSw;(try dsimp only at hSw);go_simp;first | done | with_reducible rfl)
     (try simp only [Act.put,List.setIfInBounds_toArray,List.set_cons_zero,List.set_cons_succ])
     (refine wpAnyH_ready (rs:=[6]) (by kernel_rfl) (by simp) ?_)
     (refine consL rfl (fun K hK=>?_))
     ((rw [if_pos (by rfl)]);go_simp;refine q3.mono ?_;rintro e w3 ⟨rfl,hC3⟩;obtain ⟨d0',d1'⟩:=hC3.cells;obtain ⟨m0',_,_⟩:=htc.out w3 hC3.below;refine hK.out _ _ ⟨d0',d1',m0'⟩ (fun hHeld=>?_))
     (clear hK K)
     (try simp only [Act.put,List.setIfInBounds_toArray,List.set_cons_zero,List.set_cons_succ])
     (refine wpAnyH_done (by kernel_rfl) ?_ _)
     have q4:=bbyte_any 32 hC3.bd (by simp only [List.length_append,List.length_cons,List.length_nil];omega) hC3.size
     replace hC3:=Lib.hid hC3
     clear q3 hC2d d0 d1 m0 m1 hHeld d0' d1' m0'
     go_wp2_with fail
     refine q4.mono ?_
     rintro e w4 ⟨rfl,hr4⟩
     have hC4:=hC3.out.wrote hr4
     have hC4d:=hC4.next (Below.refl w4.heap.size w4).drew
     obtain ⟨d0,d1⟩:=hC4d.cells
     obtain ⟨m0,m1,_⟩:=htc.out w4.drew hC4d.below
     try simp only at m0 m1
     have q5:=ihc ci (l++[40]++L.prT a++[32]) w4.drew g2 hC4d (by simp only [List.length_append,List.length_cons,List.length_nil];omega)
     replace hC4d:=Lib.hid hC4d
     clear q4 hr4 hC4
     go_wp2_with fail
     (refine wp_region_held_drew (S:=(fun W=>W.cell? ⟨x,0,none⟩ = some (.slice (some ⟨b,o,none⟩) t.length cap)∧W.cell? ⟨p+1,0,none⟩ = some (.func (.func 53) #[] #[.pointer (some ⟨x,0,none⟩),.pointer (some ⟨p,0,none⟩),.pointer (some ⟨p+1,0,none⟩)])∧W.cell? ⟨b,o+i * 3+1,none⟩ = some (.int .i64 (ci:Nat)))) (by kernel_rfl) ?_ (fun hHeld=>?_))
     ·exact ⟨d0,d1,m1⟩
     (refine takeL (i:=0) (v:=?_) rfl (by kernel_rfl) (by kernel_rfl) (by kernel_rfl) (fun _ _ _ h=>h) (Or.inl ⟨by rfl,?_⟩) (by assumption) ?_)
     rotate_left
     ·(intro w hSw;(try dsimp only at hSw);go_simp;first | done | with_reducible rfl)
     (try simp only [Act.put,List.setIfInBounds_toArray,List.set_cons_zero,List.set_cons_succ])
     (refine takeL (i:=1) (v:=?_) rfl (by kernel_rfl) (by kernel_rfl) (by kernel_rfl) (fun _ _ _ h=>h) (Or.inl ⟨by rfl,?_⟩) (by assumption) ?_)
     rotate_left
     ·(intro w hSw;(try dsimp only at hSw);go_simp;first | done | with_reducible rfl)
     (try simp only [Act.put,List.setIfInBounds_toArray,List.set_cons_zero,List.set_cons_succ])
     (refine takeL (i:=2) (v:=?_) rfl (by kernel_rfl) (by kernel_rfl) (by kernel_rfl) (fun _ _ _ h=>h) (Or.inl ⟨by rfl,?_⟩) (by assumption) ?_)
     rotate_left
     ·(intro w hSw;(try dsimp only at hSw);go_simp;first | done | with_reducible rfl)
     (try simp only [Act.put,List.setIfInBounds_toArray,List.set_cons_zero,List.set_cons_succ])
     (refine takeL (i:=3) (v:=?_) rfl (by kernel_rfl) (by kernel_rfl) (by kernel_rfl) (fun _ _ _ h=>h) (Or.inl ⟨by rfl,?_⟩) (by assumption) ?_)
     rotate_left
     ·(intro w hSw;(try dsimp only at hSw);go_simp;first | done | with_reducible rfl)
     (try simp only [Act.put,List.setIfInBounds_toArray,List.set_cons_zero,List.set_cons_succ])
     (refine takeL (i:=4) (v:=?_) rfl (by kernel_rfl) (by kernel_rfl) (by kernel_rfl) (fun _ _ _ h=>h) (Or.inl ⟨by rfl,?_⟩) (by assumption) ?_)
     rotate_left
     ·(intro w hSw;(try dsimp only at hSw);go_simp;first | done | with_reducible rfl)
     (try simp only [Act.put,List.setIfInBounds_toArray,List.set_cons_zero,List.set_cons_succ])
     (refine takeL (i:=5) (v:=?_) rfl (by kernel_rfl) (by kernel_rfl) (by kernel_rfl) (fun _ _ _ h=>h) (Or.inl ⟨by rfl,?_⟩) (by assumption) ?_)
     rotate_left
     ·(intro w hSw;(try dsimp only at hSw);go_simp;first | done | with_reducible rfl)
     (try simp only [Act.put,List.setIfInBounds_toArray,List.set_cons_zero,List.set_cons_succ])
     (refine wpAnyH_ready (rs:=[6]) (by kernel_rfl) (by simp) ?_)
     (refine consL rfl (fun K hK=>?_))
     ((rw [if_pos (by rfl)]);go_simp;refine q5.mono ?_;rintro e w5 ⟨rfl,hC5⟩;obtain ⟨d0',d1'⟩:=hC5.cells;obtain ⟨_,m0',_⟩:=htc.out w5 hC5.below;refine hK.out _ _ ⟨d0',d1',m0'⟩ (fun hHeld=>?_))
     (clear hK K)
     (try simp only [Act.put,List.setIfInBounds_toArray,List.set_cons_zero,List.set_cons_succ])
     (refine wpAnyH_done (by kernel_rfl) ?_ _)
     have q6:=bbyte_any 41 hC5.bd (by simp only [List.length_append,List.length_cons,List.length_nil];omega) hC5.size
     replace hC5:=Lib.hid hC5
     clear q5 hC4d d0 d1 m0 m1 hHeld d0' d1' m0'
     go_wp2_with fail
     refine q6.mono ?_
     rintro e w6 ⟨rfl,hr6⟩
     have hC6:=Lib.hid (hC5.out.wrote hr6)
     clear q6 hr6
     go_wp2_with fail
     go_end0
     exact ⟨rfl,hC6.out⟩
set_option maxRecDepth 100000 in
set_option maxHeartbeats 2000000 in
theorem print_any {t:List VN} {T:L.Tr} {w:World} {b o cap:Nat} (ht:TreeAt w b o t) (hc:checkF t = 0) (hT:L.IsT L.idc t (t.length - 1) T) (hlen:(L.prT T).length≤100000) (hP:PowTab w) :
  Calls Tryz.prog 24 #[.slice (some ⟨b,o,none⟩) t.length cap] w fun e w'=>e = .returned (.tuple #[.string ⟨(L.prT T).toArray⟩,.int .i64 0])∧Below w.heap.size w w':=by
 have t0:=(check_ok hc).1
 have hgP:=hP.lt
 have hb1:=(Below.refl w.heap.size w).alloc (Nat.le_refl _) (.cells #[.slice (some ⟨b,o,none⟩) t.length cap] 23)
 have hbx:=heap_alloc_new w (.cells #[.slice (some ⟨b,o,none⟩) t.length cap] 23)
 generalize hx:w.heap.size = x at *
 have c0:(w.alloc (.cells #[.slice (some ⟨b,o,none⟩) t.length cap] 23)).cell? ⟨x,0,none⟩ = some (.slice (some ⟨b,o,none⟩) t.length cap):=by rw [World.cell?,hbx];rfl
 have hs1:(w.alloc (.cells #[.slice (some ⟨b,o,none⟩) t.length cap] 23)).heap.size = x+1:=by simp [hx]
 have q1:=check_any (w.alloc (.cells #[.slice (some ⟨b,o,none⟩) t.length cap] 23)) (some ⟨b,o,none⟩) cap (.inr ⟨b,o,rfl,ht.below (by rw [hx];exact hb1)⟩)
 rw [hc] at q1
 have law:=fun p=>pr_law (x:=x) (p:=p) (cap:=cap) ht hP T
 have hmf:∀ (fn:Fn) (first cap:Array Value) (w:World),(Instr.makeFunc fn first cap).run Tryz.prog w = .ok (.func fn first cap) w:=fun _ _ _ _=>rfl
 have hK2:∀ (c:Array Value) (w:World),(callFunc 53 c).run Tryz.prog w = .ok (.enter 53 c) w:=fun c w=>by simp [go_sem,Tryz.func53]
 replace hx:=Lib.hid hx
 go_enter Tryz.func24,Tryz.ntmps24
 go_wp2_with fail
 try simp only [hx.out]
 generalize hw1:w.alloc (.cells #[.slice (some ⟨b,o,none⟩) t.length cap] 23) = w1 at *
 refine q1.mono ?_
 rintro e w2 ⟨rfl,hx2⟩
 have hxp:x < w2.heap.size:=by have:=hx2.size;omega
 have hb2:Below x w w2:=hb1.trans (hx2.below.mono (by omega))
 obtain ⟨q,hq⟩:∃ q,q = t.length - 1:=⟨_,rfl⟩
 have e1:(t.length:Int) - 1 = (q:Int):=by omega
 have e2:IntKind.i64.wrap (q:Int) = (q:Int):=IntWalk.i64_in _ (by have:=(check_ok hc).2.1;omega)
 have d0:((w2.alloc (.cells #[.pointer none,.slice none 0 0] 111)).alloc (.cells #[.func (.func 53) #[] #[.pointer (some ⟨x,0,none⟩),.pointer (some ⟨w2.heap.size,0,none⟩),.pointer (some ⟨w2.heap.size+1,0,none⟩)]] 112)).cell? ⟨x,0,none⟩ = some (.slice (some ⟨b,o,none⟩) t.length cap):=by
  have hb:Below w2.heap.size w2 ((w2.alloc (.cells #[.pointer none,.slice none 0 0] 111)).alloc (.cells #[.func (.func 53) #[] #[.pointer (some ⟨x,0,none⟩),.pointer (some ⟨w2.heap.size,0,none⟩),.pointer (some ⟨w2.heap.size+1,0,none⟩)]] 112)):=((Below.refl _ _).alloc (Nat.le_refl _) _).alloc (by simp) _
  exact (hb.cell (show (⟨x,0,none⟩:Addr).block < w2.heap.size from hxp)).trans (hx2.cell c0)
 have hC3:PrC w x w2.heap.size t b o cap [] ((w2.alloc (.cells #[.pointer none,.slice none 0 0] 111)).alloc (.cells #[.func (.func 53) #[] #[.pointer (some ⟨x,0,none⟩),.pointer (some ⟨w2.heap.size,0,none⟩),.pointer (some ⟨w2.heap.size+1,0,none⟩)]] 112)):=by
  have hb:Below w2.heap.size w2 ((w2.alloc (.cells #[.pointer none,.slice none 0 0] 111)).alloc (.cells #[.func (.func 53) #[] #[.pointer (some ⟨x,0,none⟩),.pointer (some ⟨w2.heap.size,0,none⟩),.pointer (some ⟨w2.heap.size+1,0,none⟩)]] 112)):=((Below.refl _ _).alloc (Nat.le_refl _) _).alloc (by simp) _
  refine ⟨by rw [hx.out];exact hb2.trans (hb.mono (by omega)),⟨by rw [hx.out];exact Nat.le_refl _,hxp,by rw [hx.out];exact hgP⟩,(hb.block x hxp).trans ((hx2.below.block x (Array.getElem?_eq_some_iff.1 hbx).1).trans hbx),?_,?_⟩
  ·exact (Lib.IsBuilderF.of (Lib.fresh_isBuilder 111 5 w2)).alloc _
  ·have:=heap_alloc_new (w2.alloc (.cells #[.pointer none,.slice none 0 0] 111)) (.cells #[.func (.func 53) #[] #[.pointer (some ⟨x,0,none⟩),.pointer (some ⟨w2.heap.size,0,none⟩),.pointer (some ⟨w2.heap.size+1,0,none⟩)]] 112)
   simpa using this
 have ql:=law w2.heap.size (t.length - 1) [] _ hT hC3 (by simp only [List.length_nil];omega)
 rw [←hq] at ql
 replace hC3:=Lib.hid hC3
 replace hq:=Lib.hid hq
 replace hbx:=Lib.hid hbx
 replace hb1:=Lib.hid hb1
 clear q1 law hs1 c0
 go_wp2_with fail
 refine ql.mono ?_
 rintro e w4 ⟨rfl,hC4⟩
 rw [List.nil_append] at hC4
 have q5:=Tryz.Builder_String_any_k w2.heap.size w2.heap.size (L.prT T) w4 hC4.bd hC4.size
 replace hC4:=Lib.hid hC4
 clear ql hC3 d0
 go_wp2_with fail
 refine q5.mono ?_
 rintro e w5 ⟨rfl,_,hb5,_⟩
 have hfin:Hid (Below x w w5):=Lib.hid (by have h4:=hC4.out.below;rw [hx.out] at h4;exact h4.trans (hb5.mono (by omega)))
 clear q5 hb5
 go_wp2_with fail
 go_ret2
 exact ⟨rfl,hfin.out⟩
end Go.Proofs.YtemnmcfmabamcaaGreatDoor
end
section
set_option linter.unusedSimpArgs false
set_option linter.unusedVariables false
namespace Go.Proofs.YtemnmcfmabamcaaGreatDoor
open Go Go.RowKit Go.Shelf
theorem box_set3 {w:World} {k:Nat} {a b c:Value} {t:TypeId} (h:w.heap[k]? = some (.cells #[a,b,c] t (0,0))) (u v z:Value) :
  (((w.setCell ⟨k,0,none⟩ u).setCell ⟨k,1,none⟩ v).setCell ⟨k,2,none⟩ z).heap[k]? = some (.cells #[u,v,z] t (0,0)):=heap_set (heap_set (heap_set h 0 u) 1 v) 2 z
set_option maxRecDepth 100000 in
set_option maxHeartbeats 1000000 in
theorem newState_any {T:L.Tr} {φ:L.Asg→Bool} {sb r:Nat} {w:World} {l:List Int} (h:StAt T φ sb r w) (hT:TrOK T l) :
  Calls Tryz.prog 42 #[.pointer (some ⟨sb,0,none⟩),.int .i64 (r:Nat)] w fun e w'=>e = .returned (.agg #[.pointer (some ⟨sb,0,none⟩),.int .i64 (r:Nat),.int .i64 (L.sizeTr T l (L.tabO l φ):Nat)])∧Below w.heap.size w w':=by
 have hb1:=(Below.refl w.heap.size w).alloc (Nat.le_refl _) (.cells #[.pointer none,.int .i64 0,.int .i64 0] 90)
 have hbx:=heap_alloc_new w (.cells #[.pointer none,.int .i64 0,.int .i64 0] 90)
 have q1:=(h.below hb1).size hT.sbl hT.root
 generalize L.sizeTr T l (L.tabO l φ) = sz at *
 generalize hx:w.heap.size = x at *
 replace hx:=Lib.hid hx
 go_enter Tryz.func42,Tryz.ntmps42
 go_wp2_with fail
 try simp only [hx.out]
 generalize w.alloc (.cells #[.pointer none,.int .i64 0,.int .i64 0] 90) = w1 at *
 refine q1.mono ?_
 rintro e w2 ⟨rfl,hb2⟩
 have hbx2:=(hb2.block x (Array.getElem?_eq_some_iff.1 hbx).1).trans hbx
 obtain ⟨z0,z1,z2⟩:=box3 hbx2
 have f0:w2.frozen? ⟨x,0,none⟩ = false:=by simp [World.frozen?,hbx2]
 have f1:w2.frozen? ⟨x,1,none⟩ = false:=by simp [World.frozen?,hbx2]
 have f2:w2.frozen? ⟨x,2,none⟩ = false:=by simp [World.frozen?,hbx2]
 have hs3:=box_set3 hbx2 (.pointer (some ⟨sb,0,none⟩)) (.int .i64 (r:Nat)) (.int .i64 (sz:Nat))
 obtain ⟨e0,e1,e2⟩:=box3 hs3
 have hfin:Hid (Below x w (((w2.setCell ⟨x,0,none⟩ (.pointer (some ⟨sb,0,none⟩))).setCell ⟨x,1,none⟩ (.int .i64 (r:Nat))).setCell ⟨x,2,none⟩ (.int .i64 (sz:Nat)))):=Lib.hid ((((belThen hb1 hx.out.symm hb2).setCell (show x≤x from Nat.le_refl _) _).setCell (show x≤x from Nat.le_refl _) _).setCell (show x≤x from Nat.le_refl _) _)
 replace hbx2:=Lib.hid hbx2
 replace hs3:=Lib.hid hs3
 clear q1 hb1 hb2 hbx
 go_wp2_with fail
 refine bodyPost_ret (v:=.agg #[.pointer (some ⟨sb,0,none⟩),.int .i64 (r:Nat),.int .i64 (sz:Nat)]) (by simp [results,Tryz.results42,go_sem,e0,e1,e2]) rfl ⟨rfl,hfin.out⟩
end Go.Proofs.YtemnmcfmabamcaaGreatDoor
end
section
set_option linter.unusedSimpArgs false
set_option linter.unusedVariables false
namespace Go.Proofs.YtemnmcfmabamcaaGreatDoor
open Go Go.RowKit Go.Shelf
def moversV:Value:=.agg #[.int .i64 1,.func (.func 62) #[] #[],.int .i64 2,.func (.func 63) #[] #[],.int .i64 3,.func (.func 64) #[] #[]]
set_option maxRecDepth 100000 in
set_option maxHeartbeats 1000000 in
theorem movers_any (w:World):Calls Tryz.prog 77 #[] w fun e w'=>e = .returned moversV∧Below w.heap.size w w':=by
 have hbx:=heap_alloc_new w (.cells #[.int .i64 1,.func (.func 62) #[] #[],.int .i64 2,.func (.func 63) #[] #[],.int .i64 3,.func (.func 64) #[] #[]] 136)
 have hb:=(Below.refl w.heap.size w).alloc (Nat.le_refl _) (.cells #[.int .i64 1,.func (.func 62) #[] #[],.int .i64 2,.func (.func 63) #[] #[],.int .i64 3,.func (.func 64) #[] #[]] 136)
 go_enter Tryz.func77,Tryz.ntmps77
 go_wp2_with fail
 generalize w.alloc (.cells #[.int .i64 1,.func (.func 62) #[] #[],.int .i64 2,.func (.func 63) #[] #[],.int .i64 3,.func (.func 64) #[] #[]] 136) = w1 at *
 have e0:w1.cell? ⟨w.heap.size,0,none⟩ = some (.int .i64 1):=by rw [World.cell?,hbx];rfl
 have e1:w1.cell? ⟨w.heap.size,1,none⟩ = some (.func (.func 62) #[] #[]):=by rw [World.cell?,hbx];rfl
 have e2:w1.cell? ⟨w.heap.size,2,none⟩ = some (.int .i64 2):=by rw [World.cell?,hbx];rfl
 have e3:w1.cell? ⟨w.heap.size,3,none⟩ = some (.func (.func 63) #[] #[]):=by rw [World.cell?,hbx];rfl
 have e4:w1.cell? ⟨w.heap.size,4,none⟩ = some (.int .i64 3):=by rw [World.cell?,hbx];rfl
 have e5:w1.cell? ⟨w.heap.size,5,none⟩ = some (.func (.func 64) #[] #[]):=by rw [World.cell?,hbx];rfl
 refine bodyPost_ret (v:=moversV) (by simp [results,Tryz.results77,go_sem,e0,e1,e2,e3,e4,e5,moversV]) rfl ⟨rfl,hb⟩
end Go.Proofs.YtemnmcfmabamcaaGreatDoor
end
