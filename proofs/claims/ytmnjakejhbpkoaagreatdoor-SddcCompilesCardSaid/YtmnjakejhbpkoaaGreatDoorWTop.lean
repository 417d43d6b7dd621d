import Derived.Test.YtmnjakejhbpkoaaGreatDoorWAnd
import Derived.Test.YtmnjakejhbpkoaaGreatDoorWShelf3
set_option linter.unusedSimpArgs false
set_option linter.unusedVariables false
namespace Go.Proofs.YtmnjakejhbpkoaaGreatDoor
open Go Go.RowKit Go.Shelf
theorem four_all (w:World) (a b c d:Obj):((((w.alloc a).alloc b).alloc c).alloc d).heap[w.heap.size]? = some a∧((((w.alloc a).alloc b).alloc c).alloc d).heap[w.heap.size+1]? = some b∧((((w.alloc a).alloc b).alloc c).alloc d).heap[w.heap.size+1+1]? = some c∧((((w.alloc a).alloc b).alloc c).alloc d).heap[w.heap.size+1+1+1]? = some d:=by
 refine ⟨?_,?_,?_,?_⟩
 ·rw [Below.heap_alloc _ _ _ (by simp;omega),Below.heap_alloc _ _ _ (by simp;omega),Below.heap_alloc _ _ _ (by simp)]
  exact heap_new_at _ _ _ rfl
 ·rw [Below.heap_alloc _ _ _ (by simp),Below.heap_alloc _ _ _ (by simp)]
  exact heap_new_at _ _ _ (by simp)
 ·rw [Below.heap_alloc _ _ _ (by simp)]
  exact heap_new_at _ _ _ (by simp)
 ·exact heap_new_at _ _ _ (by simp)
set_option maxRecDepth 100000 in
set_option maxHeartbeats 1000000 in
theorem and1_any {g:St→Nat→Nat→Option (Nat × St)} (hg:AndsLaw g) {B:Blks} {s s':St} {w:World} {k0 k1 k2 a b r:Nat} (h:Rep B s w) (c0:w.cell? ⟨k0,0,none⟩ = some (.pointer (some ⟨B.sb,0,none⟩))) (c1:w.cell? ⟨k1,0,none⟩ = some (.int .i64 a)) (c2:w.cell? ⟨k2,0,none⟩ = some (.int .i64 b)) (he:g s a b = some (r,s')) :
  Calls Tryz.prog 153 #[.pointer (some ⟨k0,0,none⟩),.pointer (some ⟨k1,0,none⟩),.pointer (some ⟨k2,0,none⟩)] w (RetStp [] (.int .i64 r) B s' w):=by
 have hq:=hg B s s' w a b r h he
 replace he:=Lib.hid he
 go_enter Tryz.func153,Tryz.ntmps153
 go_wp2_with fail
 refine hq.mono ?_
 rintro e w1 ⟨rfl,B1,hR1,hS1⟩
 replace hR1:=Lib.hid hR1
 go_wp2_with fail
 go_ret
 exact ⟨rfl,B1,hR1.out,hS1⟩
set_option maxRecDepth 100000 in
set_option maxHeartbeats 1000000 in
theorem and_top {g:St→Nat→Nat→Option (Nat × St)} (hg:AndsLaw g) {B:Blks} {s s':St} {w:World} {a b r:Nat} (h:Rep B s w) (ht:s.tree≠[]) (ha:a < s.nodes.length) (hb:b < s.nodes.length) (he:g s a b = some (r,s')) :
  Calls Tryz.prog 82 #[.pointer (some ⟨B.sb,0,none⟩),.int .i64 a,.int .i64 b] w (RetOk r B s' w):=by
 have hmf:∀ (fn:Fn) (first cap:Array Value) (w:World),(Instr.makeFunc fn first cap).run Tryz.prog w = .ok (.func fn first cap) w:=fun _ _ _ _=>rfl
 have hK:∀ (c:Array Value) (w:World),(callFunc 153 c).run Tryz.prog w = .ok (.enter 153 c) w:=fun c w=>by simp [go_sem,Tryz.func153]
 have hch:chkF s.nodes.length [(a:Int),(b:Int)] = 0:=by simp [chkF,ha,hb]
 replace hch:=Lib.hid hch
 replace he:=Lib.hid he
 have hx:=((((Ext.refl w).alloc (.cells #[.pointer (some ⟨B.sb,0,none⟩)] 32)).alloc (.cells #[.int .i64 a] 3)).alloc (.cells #[.int .i64 b] 3)).alloc (.cells #[.int .i64 a,.int .i64 b] 3)
 obtain ⟨hz0,hz1,hz2,hz3⟩:=four_all w (.cells #[.pointer (some ⟨B.sb,0,none⟩)] 32) (.cells #[.int .i64 a] 3) (.cells #[.int .i64 b] 3) (.cells #[.int .i64 a,.int .i64 b] 3)
 go_enter Tryz.func82,Tryz.ntmps82
 go_wp2_with fail
 generalize (((w.alloc (.cells #[.pointer (some ⟨B.sb,0,none⟩)] 32)).alloc (.cells #[.int .i64 a] 3)).alloc (.cells #[.int .i64 b] 3)).alloc (.cells #[.int .i64 a,.int .i64 b] 3) = w1 at *
 have hsl:SlI w1 (.slice (some ⟨w.heap.size+1+1+1,0,none⟩) 2 2) [(a:Int),(b:Int)]:=⟨_,2,rfl,.inr ⟨_,0,rfl,fun j hj=>by
  match j,hj with
  | 0,_=>simp [World.cell?,hz3]
  | 1,_=>simp [World.cell?,hz3]⟩⟩
 have hq:=sck_any (h.below hx.below) ht hsl (by simp)
 rw [hch.out] at hq
 have c0:w1.cell? ⟨w.heap.size,0,none⟩ = some (.pointer (some ⟨B.sb,0,none⟩)):=by simp [World.cell?,hz0]
 have c1:w1.cell? ⟨w.heap.size+1,0,none⟩ = some (.int .i64 a):=by simp [World.cell?,hz1]
 have c2:w1.cell? ⟨w.heap.size+1+1,0,none⟩ = some (.int .i64 b):=by simp [World.cell?,hz2]
 replace hsl:=Lib.hid hsl
 clear hz0 hz1 hz2 hz3
 refine hq.mono ?_
 rintro e w2 ⟨rfl,rfl⟩
 have hR1:=h.below hx.below
 have hq2:=try_any (K:=153) (cap:=#[.pointer (some ⟨w.heap.size,0,none⟩),.pointer (some ⟨w.heap.size+1,0,none⟩),.pointer (some ⟨w.heap.size+1+1,0,none⟩)]) hR1 (hK _)
  (fun w' hx'=>and1_any hg (hR1.below hx'.below) (hx'.cell c0) (hx'.cell c1) (hx'.cell c2) he.out)
 replace hR1:=Lib.hid hR1
 clear hq
 go_wp2_with fail
 refine hq2.mono ?_
 rintro e w2 ⟨rfl,B2,hR2,hS2⟩
 replace hR2:=Lib.hid hR2
 go_wp2_with fail
 go_ret2
 exact ⟨rfl,B2,hR2.out,(Stp.of_below hx.below).then hS2⟩
set_option maxRecDepth 100000 in
set_option maxHeartbeats 1000000 in
theorem or1_any {g:St→Nat→Nat→Option (Nat × St)} (hg:OrLaw g) {B:Blks} {s s':St} {w:World} {k0 k1 k2 a b r:Nat} (h:Rep B s w) (c0:w.cell? ⟨k0,0,none⟩ = some (.pointer (some ⟨B.sb,0,none⟩))) (c1:w.cell? ⟨k1,0,none⟩ = some (.int .i64 a)) (c2:w.cell? ⟨k2,0,none⟩ = some (.int .i64 b)) (he:g s a b = some (r,s')) :
  Calls Tryz.prog 108 #[.pointer (some ⟨k0,0,none⟩),.pointer (some ⟨k1,0,none⟩),.pointer (some ⟨k2,0,none⟩)] w (RetStp [] (.int .i64 r) B s' w):=by
 have hq:=hg B s s' w a b r h he
 replace he:=Lib.hid he
 go_enter Tryz.func108,Tryz.ntmps108
 go_wp2_with fail
 refine hq.mono ?_
 rintro e w1 ⟨rfl,B1,hR1,hS1⟩
 replace hR1:=Lib.hid hR1
 go_wp2_with fail
 go_ret
 exact ⟨rfl,B1,hR1.out,hS1⟩
set_option maxRecDepth 100000 in
set_option maxHeartbeats 1000000 in
theorem or_top {g:St→Nat→Nat→Option (Nat × St)} (hg:OrLaw g) {B:Blks} {s s':St} {w:World} {a b r:Nat} (h:Rep B s w) (ht:s.tree≠[]) (ha:a < s.nodes.length) (hb:b < s.nodes.length) (he:g s a b = some (r,s')) :
  Calls Tryz.prog 41 #[.pointer (some ⟨B.sb,0,none⟩),.int .i64 a,.int .i64 b] w (RetOk r B s' w):=by
 have hmf:∀ (fn:Fn) (first cap:Array Value) (w:World),(Instr.makeFunc fn first cap).run Tryz.prog w = .ok (.func fn first cap) w:=fun _ _ _ _=>rfl
 have hK:∀ (c:Array Value) (w:World),(callFunc 108 c).run Tryz.prog w = .ok (.enter 108 c) w:=fun c w=>by simp [go_sem,Tryz.func108]
 have hch:chkF s.nodes.length [(a:Int),(b:Int)] = 0:=by simp [chkF,ha,hb]
 replace hch:=Lib.hid hch
 replace he:=Lib.hid he
 have hx:=((((Ext.refl w).alloc (.cells #[.pointer (some ⟨B.sb,0,none⟩)] 32)).alloc (.cells #[.int .i64 a] 3)).alloc (.cells #[.int .i64 b] 3)).alloc (.cells #[.int .i64 a,.int .i64 b] 3)
 obtain ⟨hz0,hz1,hz2,hz3⟩:=four_all w (.cells #[.pointer (some ⟨B.sb,0,none⟩)] 32) (.cells #[.int .i64 a] 3) (.cells #[.int .i64 b] 3) (.cells #[.int .i64 a,.int .i64 b] 3)
 go_enter Tryz.func41,Tryz.ntmps41
 go_wp2_with fail
 generalize (((w.alloc (.cells #[.pointer (some ⟨B.sb,0,none⟩)] 32)).alloc (.cells #[.int .i64 a] 3)).alloc (.cells #[.int .i64 b] 3)).alloc (.cells #[.int .i64 a,.int .i64 b] 3) = w1 at *
 have hsl:SlI w1 (.slice (some ⟨w.heap.size+1+1+1,0,none⟩) 2 2) [(a:Int),(b:Int)]:=⟨_,2,rfl,.inr ⟨_,0,rfl,fun j hj=>by
  match j,hj with
  | 0,_=>simp [World.cell?,hz3]
  | 1,_=>simp [World.cell?,hz3]⟩⟩
 have hq:=sck_any (h.below hx.below) ht hsl (by simp)
 rw [hch.out] at hq
 have c0:w1.cell? ⟨w.heap.size,0,none⟩ = some (.pointer (some ⟨B.sb,0,none⟩)):=by simp [World.cell?,hz0]
 have c1:w1.cell? ⟨w.heap.size+1,0,none⟩ = some (.int .i64 a):=by simp [World.cell?,hz1]
 have c2:w1.cell? ⟨w.heap.size+1+1,0,none⟩ = some (.int .i64 b):=by simp [World.cell?,hz2]
 replace hsl:=Lib.hid hsl
 clear hz0 hz1 hz2 hz3
 refine hq.mono ?_
 rintro e w2 ⟨rfl,rfl⟩
 have hR1:=h.below hx.below
 have hq2:=try_any (K:=108) (cap:=#[.pointer (some ⟨w.heap.size,0,none⟩),.pointer (some ⟨w.heap.size+1,0,none⟩),.pointer (some ⟨w.heap.size+1+1,0,none⟩)]) hR1 (hK _)
  (fun w' hx'=>or1_any hg (hR1.below hx'.below) (hx'.cell c0) (hx'.cell c1) (hx'.cell c2) he.out)
 replace hR1:=Lib.hid hR1
 clear hq
 go_wp2_with fail
 refine hq2.mono ?_
 rintro e w2 ⟨rfl,B2,hR2,hS2⟩
 replace hR2:=Lib.hid hR2
 go_wp2_with fail
 go_ret2
 exact ⟨rfl,B2,hR2.out,(Stp.of_below hx.below).then hS2⟩
end Go.Proofs.YtmnjakejhbpkoaaGreatDoor
namespace Go.Proofs.YtmnjakejhbpkoaaGreatDoor
open Go Go.RowKit Go.Shelf
theorem three_all (w:World) (a b c:Obj):(((w.alloc a).alloc b).alloc c).heap[w.heap.size]? = some a∧(((w.alloc a).alloc b).alloc c).heap[w.heap.size+1]? = some b∧(((w.alloc a).alloc b).alloc c).heap[w.heap.size+1+1]? = some c:=by
 refine ⟨?_,?_,?_⟩
 ·rw [Below.heap_alloc _ _ _ (by simp;omega),Below.heap_alloc _ _ _ (by simp)]
  exact heap_new_at _ _ _ rfl
 ·rw [Below.heap_alloc _ _ _ (by simp)]
  exact heap_new_at _ _ _ (by simp)
 ·exact heap_new_at _ _ _ (by simp)
theorem slI_one {w:World} {k:Nat} {a:Int} (h:w.heap[k]? = some (.cells #[.int .i64 a] 3 (0,0))):SlI w (.slice (some ⟨k,0,none⟩) 1 1) [a]:=⟨_,1,rfl,.inr ⟨_,0,rfl,fun j hj=>by
  match j,hj with
  | 0,_=>simp [World.cell?,h]⟩⟩
def varF (l:Int):Int:=if 1≤l∧l≤128 then l else if l≤-1∧-128≤l then -l else 0
set_option maxRecDepth 100000 in
set_option maxHeartbeats 1000000 in
theorem var_any (l:Int) (w:World):Calls Tryz.prog 143 #[.int .i64 l] w fun e w'=>e = .returned (.int .i64 (varF l))∧w = w':=by
 by_cases h1:1≤l∧l≤128
 ·have hv:Hid (varF l = l):=Lib.hid (if_pos h1)
  obtain ⟨h1,h2⟩:=h1
  have d1:decide (l≥1) = true:=decide_eq_true h1
  have d2:decide (l≤128) = true:=decide_eq_true h2
  go_enter Tryz.func143,Tryz.ntmps143
  go_wp2_with fail
  go_ret
  exact ⟨by rw [hv.out] <;> rfl,rfl⟩
 ·by_cases h2:l≤-1∧-128≤l
  ·have hv:Hid (varF l = -l):=Lib.hid (by unfold varF;rw [if_neg h1,if_pos h2])
   clear h1
   obtain ⟨h1,h2⟩:=h2
   have d0:decide (l≥1) = false:=decide_eq_false (by omega)
   have d1:decide (l≤-1) = true:=decide_eq_true h1
   have d2:decide (l≥-128) = true:=decide_eq_true h2
   go_enter Tryz.func143,Tryz.ntmps143
   go_wp2_with fail
   go_ret
   exact ⟨by rw [hv.out] <;> rfl,rfl⟩
  ·have hv:Hid (varF l = 0):=Lib.hid (by unfold varF;rw [if_neg h1,if_neg h2])
   by_cases a1:1≤l
   ·have d0:decide (l≥1) = true:=decide_eq_true a1
    have d3:decide (l≤128) = false:=decide_eq_false (by omega)
    have d1:decide (l≤-1) = false:=decide_eq_false (by omega)
    clear h1 h2
    go_enter Tryz.func143,Tryz.ntmps143
    go_wp2_with fail
    go_ret
    exact ⟨by rw [hv.out] <;> rfl,rfl⟩
   ·have d0:decide (l≥1) = false:=decide_eq_false (by omega)
    by_cases a2:l≤-1
    ·have d1:decide (l≤-1) = true:=decide_eq_true a2
     have d3:decide (l≥-128) = false:=decide_eq_false (by omega)
     clear h1 h2
     go_enter Tryz.func143,Tryz.ntmps143
     go_wp2_with fail
     go_ret
     exact ⟨by rw [hv.out] <;> rfl,rfl⟩
    ·have d1:decide (l≤-1) = false:=decide_eq_false (by omega)
     clear h1 h2
     go_enter Tryz.func143,Tryz.ntmps143
     go_wp2_with fail
     go_ret
     exact ⟨by rw [hv.out] <;> rfl,rfl⟩
end Go.Proofs.YtmnjakejhbpkoaaGreatDoor
namespace Go.Proofs.YtmnjakejhbpkoaaGreatDoor
open Go Go.RowKit Go.Shelf
theorem Rep.leafLook {B:Blks} {s:St} {w:World} (h:Rep B s w) (v:Nat) :
  (Instr.lookup 142 (.map (some B.lb)) (.int .i64 v) true).run Tryz.prog w = .ok (.tuple #[((leafAt s.tree v).map encNat).getD (.int .i64 0),.bool (leafAt s.tree v).isSome]) w :=
 h.leaf.look natLaw (T:=142) Tryz.underlying142 _ zeroInt v
set_option maxRecDepth 100000 in
set_option maxHeartbeats 1000000 in
theorem lit1_any {B:Blks} {s s':St} {w:World} {k0 k1 k2 r:Nat} {l pl:Int} (h:Rep B s w) (c0:w.cell? ⟨k0,0,none⟩ = some (.pointer (some ⟨B.sb,0,none⟩))) (c1:w.cell? ⟨k1,0,none⟩ = some (.int .i64 l)) (c2:w.cell? ⟨k2,0,none⟩ = some (.int .i64 pl)) (he:literalF s l pl = some (r,s')) :
  Calls Tryz.prog 166 #[.pointer (some ⟨k0,0,none⟩),.pointer (some ⟨k1,0,none⟩),.pointer (some ⟨k2,0,none⟩)] w (RetStp [] (.int .i64 r) B s' w):=by
 have hq:=literal_any h he
 replace he:=Lib.hid he
 go_enter Tryz.func166,Tryz.ntmps166
 go_wp2_with fail
 refine hq.mono ?_
 rintro e w1 ⟨rfl,B1,hR1,hS1⟩
 replace hR1:=Lib.hid hR1
 go_wp2_with fail
 go_ret
 exact ⟨rfl,B1,hR1.out,hS1⟩
theorem two_all (w:World) (a b:Obj):((w.alloc a).alloc b).heap[w.heap.size]? = some a∧((w.alloc a).alloc b).heap[w.heap.size+1]? = some b:=by
 refine ⟨?_,?_⟩
 ·rw [Below.heap_alloc _ _ _ (by simp)]
  exact heap_new_at _ _ _ rfl
 ·exact heap_new_at _ _ _ (by simp)
set_option maxRecDepth 100000 in
set_option maxHeartbeats 2000000 in
theorem lit_top {B:Blks} {s s':St} {w:World} {l:Int} {v pl r:Nat} (h:Rep B s w) (ht:s.tree≠[]) (hv:varF l = v) (hpl:leafAt s.tree v = some pl) (he:literalF s l pl = some (r,s')) :
  Calls Tryz.prog 101 #[.pointer (some ⟨B.sb,0,none⟩),.int .i64 l] w (RetOk r B s' w):=by
 have hmf:∀ (fn:Fn) (first cap:Array Value) (w:World),(Instr.makeFunc fn first cap).run Tryz.prog w = .ok (.func fn first cap) w:=fun _ _ _ _=>rfl
 have hK:∀ (c:Array Value) (w:World),(callFunc 166 c).run Tryz.prog w = .ok (.enter 166 c) w:=fun c w=>by simp [go_sem,Tryz.func166]
 have hvar:=fun w=>var_any l w
 rw [hv] at hvar
 have hch:chkF s.nodes.length [] = 0:=rfl
 replace hch:=Lib.hid hch
 replace he:=Lib.hid he
 replace hv:=Lib.hid hv
 have hx:=((Ext.refl w).alloc (.cells #[.pointer (some ⟨B.sb,0,none⟩)] 32)).alloc (.cells #[.int .i64 l] 3)
 obtain ⟨hz0,hz1⟩:=two_all w (.cells #[.pointer (some ⟨B.sb,0,none⟩)] 32) (.cells #[.int .i64 l] 3)
 have hszw:((w.alloc (.cells #[.pointer (some ⟨B.sb,0,none⟩)] 32)).alloc (.cells #[.int .i64 l] 3)).heap.size = w.heap.size+1+1:=by simp
 go_enter Tryz.func101,Tryz.ntmps101
 go_wp2_with fail
 generalize (w.alloc (.cells #[.pointer (some ⟨B.sb,0,none⟩)] 32)).alloc (.cells #[.int .i64 l] 3) = w1 at *
 have hq:=sck_any (v:=.slice none 0 0) (l:=[]) (h.below hx.below) ht ⟨none,0,rfl,.inl ⟨rfl,rfl,rfl⟩⟩ (by simp)
 rw [hch.out] at hq
 refine hq.mono ?_
 rintro e w2 ⟨rfl,rfl⟩
 have hR1:=h.below hx.below
 have F:∀ w',Ext w1 w'→w'.cell? ⟨w.heap.size,0,none⟩ = some (.pointer (some ⟨B.sb,0,none⟩))∧w'.cell? ⟨w.heap.size+1,0,none⟩ = some (.int .i64 l)∧w'.cell? ⟨B.sb,1,none⟩ = some (.map (some B.lb)) ∧
   (Instr.lookup 142 (.map (some B.lb)) (.int .i64 v) true).run Tryz.prog w' = .ok (.tuple #[.int .i64 pl,.bool true]) w':=fun w' hw'=>by
  have hR:=hR1.below hw'.below
  obtain ⟨_,_,c1,_⟩:=hR.cells
  have hl:=hR.leafLook v
  rw [hpl] at hl
  exact ⟨hw'.cell (by simp [World.cell?,hz0]),hw'.cell (by simp [World.cell?,hz1]),c1,hl⟩
 have hx3:Ext w1 (w1.alloc (.cells #[.int .i64 pl] 3)).drew:=((Ext.refl w1).alloc _).drew
 have hbx:(w1.alloc (.cells #[.int .i64 pl] 3)).drew.cell? ⟨w1.heap.size,0,none⟩ = some (.int .i64 pl) :=
  (World.cell?_of_block (w:=w1.alloc (.cells #[.int .i64 pl] 3)) (a:=⟨w1.heap.size,0,none⟩) rfl).trans (World.cell?_alloc_new w1 #[.int .i64 pl] 3 0)
 replace hR1:=Lib.hid hR1
 replace hpl:=Lib.hid hpl
 replace F:=Lib.hid F
 clear hq hz0 hz1
 go_wp2_with fail
 go_region_held3 (fun w'=>w'.cell? ⟨w.heap.size,0,none⟩ = some (.pointer (some ⟨B.sb,0,none⟩))∧w'.cell? ⟨w.heap.size+1,0,none⟩ = some (.int .i64 l)∧w'.cell? ⟨B.sb,1,none⟩ = some (.map (some B.lb)) ∧
   (Instr.lookup 142 (.map (some B.lb)) (.int .i64 v) true).run Tryz.prog w' = .ok (.tuple #[.int .i64 pl,.bool true]) w')
  (first | exact F.out _ (Ext.refl _) | exact F.out _ (Ext.refl _).drew | exact F.out _ ((Ext.refl _).alloc _).drew | exact F.out _ ((Ext.refl _).alloc _) | go_keep)
  (first | (go_at_call 143;refine (hvar _).mono ?_;rintro e w' ⟨rfl,rfl⟩) | (go_simp;go_at_call 143;refine (hvar _).mono ?_;rintro e w' ⟨rfl,rfl⟩))
 all_goals
  obtain ⟨a0,a1,_,_⟩:=F.out _ hx3
  generalize (w1.alloc (.cells #[.int .i64 pl] 3)).drew = w3 at *
  rw [hszw] at hbx
  have hq2:=try_any (K:=166) (cap:=#[.pointer (some ⟨w.heap.size,0,none⟩),.pointer (some ⟨w.heap.size+1,0,none⟩),.pointer (some ⟨w.heap.size+1+1,0,none⟩)]) (hR1.out.below hx3.below) (hK _)
   (fun w' hx'=>lit1_any ((hR1.out.below hx3.below).below hx'.below) (hx'.cell a0) (hx'.cell a1) (hx'.cell hbx) he.out)
  go_wp2_with fail
  refine hq2.mono ?_
  rintro e w4 ⟨rfl,B2,hR2,hS2⟩
  replace hR2:=Lib.hid hR2
  go_wp2_with fail
  go_ret2
  exact ⟨rfl,B2,hR2.out,(Stp.of_below (hx.trans hx3).below).then hS2⟩
end Go.Proofs.YtmnjakejhbpkoaaGreatDoor
