import Derived.Test.YtemnmcfmabamcaaGreatDoorYAnd
set_option linter.unusedSimpArgs false
set_option linter.unusedVariables false
set_option maxRecDepth 100000
set_option maxHeartbeats 2000000
namespace Go.Proofs.YtemnmcfmabamcaaGreatDoor
open Go Go.RowKit Go.Shelf
theorem Ze4(w:World)(a b c d:Obj):((((w.alloc a).alloc b).alloc c).alloc d).heap[w.heap.size]? =some a∧((((w.alloc a).alloc b).alloc c).alloc d).heap[w.heap.size+1]? =some b∧((((w.alloc a).alloc b).alloc c).alloc d).heap[w.heap.size+1+1]? =some c∧((((w.alloc a).alloc b).alloc c).alloc d).heap[w.heap.size+1+1+1]? =some d:=by
 refine⟨?_,?_,?_,?_⟩
 ·rw[Below.heap_alloc _ _ _ (by simp;omega),Below.heap_alloc _ _ _ (by simp;omega),Below.heap_alloc _ _ _ (by simp)]
  exact Zaq _ _ _ rfl
 ·rw[Below.heap_alloc _ _ _ (by simp),Below.heap_alloc _ _ _ (by simp)]
  exact Zaq _ _ _ (by simp)
 ·rw[Below.heap_alloc _ _ _ (by simp)]
  exact Zaq _ _ _ (by simp)
 ·exact Zaq _ _ _ (by simp)
theorem ZnA{g:St→Nat→Nat→Option (Nat × St)}(hg:Zeh g){B:Zar}{s s':St}{w:World}{k0 k1 k2 a b r:Nat}(h:Rep B s w)(c0:w.cell? ⟨k0,0,none⟩=some (.pointer (some ⟨B.sb,0,none⟩)))(c1:w.cell? ⟨k1,0,none⟩=some (.int .i64 a))(c2:w.cell? ⟨k2,0,none⟩=some (.int .i64 b))(he:g s a b=some (r,s')) :
  Calls Tryz.prog 73 #[.pointer (some ⟨k0,0,none⟩),.pointer (some ⟨k1,0,none⟩),.pointer (some ⟨k2,0,none⟩)] w (ZaF [] (.int .i64 r) B s' w):=by
 have hq:=hg B s s' w a b r h he;replace he:=Zrr he
 go_enter Tryz.func73,Tryz.ntmps73
 go_wp2_with fail;refine hq.mono ?_;rintro e w1 ⟨rfl,B1,aQ,cC⟩;replace aQ:=Zrr aQ;go_wp2_with fail;go_ret;exact⟨rfl,B1,aQ.out,cC⟩
theorem Zpl{g:St→Nat→Nat→Option (Nat × St)}(hg:Zeh g){B:Zar}{s s':St}{w:World}{a b r:Nat}(h:Rep B s w)(ht:s.tree≠[])(ha:a<s.nodes.length)(hb:b<s.nodes.length)(he:g s a b=some (r,s')) :
  Calls Tryz.prog 37 #[.pointer (some ⟨B.sb,0,none⟩),.int .i64 a,.int .i64 b] w (Zhy r B s' w):=by
 have nL:∀(fn:Fn) (first cap:Array Value) (w:World),(Instr.makeFunc fn first cap).run Tryz.prog w= .ok (.func fn first cap) w:=fun _ _ _ _=>rfl
 have hK:∀(c:Array Value) (w:World),(callFunc 73 c).run Tryz.prog w= .ok (.enter 73 c) w:=fun c w=>by simp[go_sem,Tryz.func73]
 have cw:Zgn s.nodes.length [(a:Int),(b:Int)]=0:=by simp[Zgn,ha,hb]
 replace cw:=Zrr cw;replace he:=Zrr he;have hx:=((((Ext.refl w).alloc (.cells #[.pointer (some ⟨B.sb,0,none⟩)] 28)).alloc (.cells #[.int .i64 a] 3)).alloc (.cells #[.int .i64 b] 3)).alloc (.cells #[.int .i64 a,.int .i64 b] 3);obtain⟨bH,aj,av,iR⟩:=Ze4 w (.cells #[.pointer (some ⟨B.sb,0,none⟩)] 28) (.cells #[.int .i64 a] 3) (.cells #[.int .i64 b] 3) (.cells #[.int .i64 a,.int .i64 b] 3)
 go_enter Tryz.func37,Tryz.ntmps37
 go_wp2_with fail;generalize (((w.alloc (.cells #[.pointer (some ⟨B.sb,0,none⟩)] 28)).alloc (.cells #[.int .i64 a] 3)).alloc (.cells #[.int .i64 b] 3)).alloc (.cells #[.int .i64 a,.int .i64 b] 3)=w1 at *
 have cY:SlI w1 (.slice (some ⟨w.heap.size+1+1+1,0,none⟩) 2 2) [(a:Int),(b:Int)]:=⟨_,2,rfl,.inr ⟨_,0,rfl,fun j hj=>by
  match j,hj with
  | 0,_=>simp[World.cell?,iR]
  | 1,_=>simp[World.cell?,iR]⟩⟩
 have hq:=Zdc (h.below hx.below) ht cY (by simp);rw[cw.out]at hq;have c0:w1.cell? ⟨w.heap.size,0,none⟩=some (.pointer (some ⟨B.sb,0,none⟩)):=by simp[World.cell?,bH]
 have c1:w1.cell? ⟨w.heap.size+1,0,none⟩=some (.int .i64 a):=by simp[World.cell?,aj]
 have c2:w1.cell? ⟨w.heap.size+1+1,0,none⟩=some (.int .i64 b):=by simp[World.cell?,av]
 replace cY:=Zrr cY;clear bH aj av iR;refine hq.mono ?_;rintro e w2 ⟨rfl,rfl⟩;have aQ:=h.below hx.below
 have bX:=Zjh (K:=73) (cap:=#[.pointer (some ⟨w.heap.size,0,none⟩),.pointer (some ⟨w.heap.size+1,0,none⟩),.pointer (some ⟨w.heap.size+1+1,0,none⟩)]) aQ (hK _)
  (fun w' bn=>ZnA hg (aQ.below bn.below) (bn.cell c0) (bn.cell c1) (bn.cell c2) he.out)
 replace aQ:=Zrr aQ;clear hq;go_wp2_with fail;refine bX.mono ?_;rintro e w2 ⟨rfl,B2,bA,bB⟩;replace bA:=Zrr bA;go_wp2_with fail;go_ret2;exact⟨rfl,B2,bA.out,(Stp.of_below hx.below).then bB⟩
theorem ZpU{g:St→Nat→Nat→Option (Nat × St)}(hg:Znw g){B:Zar}{s s':St}{w:World}{k0 k1 k2 a b r:Nat}(h:Rep B s w)(c0:w.cell? ⟨k0,0,none⟩=some (.pointer (some ⟨B.sb,0,none⟩)))(c1:w.cell? ⟨k1,0,none⟩=some (.int .i64 a))(c2:w.cell? ⟨k2,0,none⟩=some (.int .i64 b))(he:g s a b=some (r,s')) :
  Calls Tryz.prog 75 #[.pointer (some ⟨k0,0,none⟩),.pointer (some ⟨k1,0,none⟩),.pointer (some ⟨k2,0,none⟩)] w (ZaF [] (.int .i64 r) B s' w):=by
 have hq:=hg B s s' w a b r h he;replace he:=Zrr he
 go_enter Tryz.func75,Tryz.ntmps75
 go_wp2_with fail;refine hq.mono ?_;rintro e w1 ⟨rfl,B1,aQ,cC⟩;replace aQ:=Zrr aQ;go_wp2_with fail;go_ret;exact⟨rfl,B1,aQ.out,cC⟩
theorem ZqI{g:St→Nat→Nat→Option (Nat × St)}(hg:Znw g){B:Zar}{s s':St}{w:World}{a b r:Nat}(h:Rep B s w)(ht:s.tree≠[])(ha:a<s.nodes.length)(hb:b<s.nodes.length)(he:g s a b=some (r,s')) :
  Calls Tryz.prog 38 #[.pointer (some ⟨B.sb,0,none⟩),.int .i64 a,.int .i64 b] w (Zhy r B s' w):=by
 have nL:∀(fn:Fn) (first cap:Array Value) (w:World),(Instr.makeFunc fn first cap).run Tryz.prog w= .ok (.func fn first cap) w:=fun _ _ _ _=>rfl
 have hK:∀(c:Array Value) (w:World),(callFunc 75 c).run Tryz.prog w= .ok (.enter 75 c) w:=fun c w=>by simp[go_sem,Tryz.func75]
 have cw:Zgn s.nodes.length [(a:Int),(b:Int)]=0:=by simp[Zgn,ha,hb]
 replace cw:=Zrr cw;replace he:=Zrr he;have hx:=((((Ext.refl w).alloc (.cells #[.pointer (some ⟨B.sb,0,none⟩)] 28)).alloc (.cells #[.int .i64 a] 3)).alloc (.cells #[.int .i64 b] 3)).alloc (.cells #[.int .i64 a,.int .i64 b] 3);obtain⟨bH,aj,av,iR⟩:=Ze4 w (.cells #[.pointer (some ⟨B.sb,0,none⟩)] 28) (.cells #[.int .i64 a] 3) (.cells #[.int .i64 b] 3) (.cells #[.int .i64 a,.int .i64 b] 3)
 go_enter Tryz.func38,Tryz.ntmps38
 go_wp2_with fail;generalize (((w.alloc (.cells #[.pointer (some ⟨B.sb,0,none⟩)] 28)).alloc (.cells #[.int .i64 a] 3)).alloc (.cells #[.int .i64 b] 3)).alloc (.cells #[.int .i64 a,.int .i64 b] 3)=w1 at *
 have cY:SlI w1 (.slice (some ⟨w.heap.size+1+1+1,0,none⟩) 2 2) [(a:Int),(b:Int)]:=⟨_,2,rfl,.inr ⟨_,0,rfl,fun j hj=>by
  match j,hj with
  | 0,_=>simp[World.cell?,iR]
  | 1,_=>simp[World.cell?,iR]⟩⟩
 have hq:=Zdc (h.below hx.below) ht cY (by simp);rw[cw.out]at hq;have c0:w1.cell? ⟨w.heap.size,0,none⟩=some (.pointer (some ⟨B.sb,0,none⟩)):=by simp[World.cell?,bH]
 have c1:w1.cell? ⟨w.heap.size+1,0,none⟩=some (.int .i64 a):=by simp[World.cell?,aj]
 have c2:w1.cell? ⟨w.heap.size+1+1,0,none⟩=some (.int .i64 b):=by simp[World.cell?,av]
 replace cY:=Zrr cY;clear bH aj av iR;refine hq.mono ?_;rintro e w2 ⟨rfl,rfl⟩;have aQ:=h.below hx.below
 have bX:=Zjh (K:=75) (cap:=#[.pointer (some ⟨w.heap.size,0,none⟩),.pointer (some ⟨w.heap.size+1,0,none⟩),.pointer (some ⟨w.heap.size+1+1,0,none⟩)]) aQ (hK _)
  (fun w' bn=>ZpU hg (aQ.below bn.below) (bn.cell c0) (bn.cell c1) (bn.cell c2) he.out)
 replace aQ:=Zrr aQ;clear hq;go_wp2_with fail;refine bX.mono ?_;rintro e w2 ⟨rfl,B2,bA,bB⟩;replace bA:=Zrr bA;go_wp2_with fail;go_ret2;exact⟨rfl,B2,bA.out,(Stp.of_below hx.below).then bB⟩
end Go.Proofs.YtemnmcfmabamcaaGreatDoor
namespace Go.Proofs.YtemnmcfmabamcaaGreatDoor
open Go Go.RowKit Go.Shelf
theorem Zec(w:World)(a b c:Obj):(((w.alloc a).alloc b).alloc c).heap[w.heap.size]? =some a∧(((w.alloc a).alloc b).alloc c).heap[w.heap.size+1]? =some b∧(((w.alloc a).alloc b).alloc c).heap[w.heap.size+1+1]? =some c:=by
 refine⟨?_,?_,?_⟩
 ·rw[Below.heap_alloc _ _ _ (by simp;omega),Below.heap_alloc _ _ _ (by simp)]
  exact Zaq _ _ _ rfl
 ·rw[Below.heap_alloc _ _ _ (by simp)]
  exact Zaq _ _ _ (by simp)
 ·exact Zaq _ _ _ (by simp)
theorem ZdO{w:World}{k:Nat}{a:Int}(h:w.heap[k]? =some (.cells #[.int .i64 a] 3 (0,0))):SlI w (.slice (some ⟨k,0,none⟩) 1 1) [a]:=⟨_,1,rfl,.inr ⟨_,0,rfl,fun j hj=>by
  match j,hj with
  | 0,_=>simp[World.cell?,h]⟩⟩
def Zo3 (l:Int):Int:=if 1≤l∧l≤128 then l else if l≤-1∧-128≤l then -l else 0
theorem Zp6(l:Int)(w:World):Calls Tryz.prog 66 #[.int .i64 l] w fun e w'=>e= .returned (.int .i64 (Zo3 l))∧w=w':=by
 by_cases h1:1≤l∧l≤128
 ·have hv:Hid (Zo3 l=l):=Zrr (if_pos h1)
  obtain⟨h1,h2⟩:=h1;have d1:decide (l≥1)=true:=ZrI h1;have d2:decide (l≤128)=true:=ZrI h2
  go_enter Tryz.func66,Tryz.ntmps66
  go_wp2_with fail;go_ret;exact⟨by rw[hv.out] <;> rfl,rfl⟩
 ·by_cases h2:l≤-1∧-128≤l
  ·have hv:Hid (Zo3 l= -l):=Zrr (by unfold Zo3;rw[if_neg h1,if_pos h2])
   clear h1;obtain⟨h1,h2⟩:=h2;have d0:decide (l≥1)=false:=ZrH (by omega);have d1:decide (l≤-1)=true:=ZrI h1;have d2:decide (l≥-128)=true:=ZrI h2
   go_enter Tryz.func66,Tryz.ntmps66
   go_wp2_with fail;go_ret;exact⟨by rw[hv.out] <;> rfl,rfl⟩
  ·have hv:Hid (Zo3 l=0):=Zrr (by unfold Zo3;rw[if_neg h1,if_neg h2])
   by_cases a1:1≤l
   ·have d0:decide (l≥1)=true:=ZrI a1
    have d3:decide (l≤128)=false:=ZrH (by omega);have d1:decide (l≤-1)=false:=ZrH (by omega);clear h1 h2
    go_enter Tryz.func66,Tryz.ntmps66
    go_wp2_with fail;go_ret;exact⟨by rw[hv.out] <;> rfl,rfl⟩
   ·have d0:decide (l≥1)=false:=ZrH (by omega)
    by_cases a2:l≤-1
    ·have d1:decide (l≤-1)=true:=ZrI a2
     have d3:decide (l≥-128)=false:=ZrH (by omega);clear h1 h2
     go_enter Tryz.func66,Tryz.ntmps66
     go_wp2_with fail;go_ret;exact⟨by rw[hv.out] <;> rfl,rfl⟩
    ·have d1:decide (l≤-1)=false:=ZrH (by omega)
     clear h1 h2
     go_enter Tryz.func66,Tryz.ntmps66
     go_wp2_with fail;go_ret;exact⟨by rw[hv.out] <;> rfl,rfl⟩
end Go.Proofs.YtemnmcfmabamcaaGreatDoor
namespace Go.Proofs.YtemnmcfmabamcaaGreatDoor
open Go Go.RowKit Go.Shelf
theorem Rep.leafLook{B:Zar}{s:St}{w:World}(h:Rep B s w)(v:Nat) :
  (Instr.lookup 62 (.map (some B.lb)) (.int .i64 v) true).run Tryz.prog w= .ok (.tuple #[((ZeL s.tree v).map Zad).getD (.int .i64 0),.bool (ZeL s.tree v).isSome]) w :=
 h.leaf.look Zcw (T:=62) Tryz.underlying62 _ ZcQ v
theorem Zn7{B:Zar}{s s':St}{w:World}{k0 k1 k2 r:Nat}{l pl:Int}(h:Rep B s w)(c0:w.cell? ⟨k0,0,none⟩=some (.pointer (some ⟨B.sb,0,none⟩)))(c1:w.cell? ⟨k1,0,none⟩=some (.int .i64 l))(c2:w.cell? ⟨k2,0,none⟩=some (.int .i64 pl))(he:Zbc s l pl=some (r,s')) :
  Calls Tryz.prog 68 #[.pointer (some ⟨k0,0,none⟩),.pointer (some ⟨k1,0,none⟩),.pointer (some ⟨k2,0,none⟩)] w (ZaF [] (.int .i64 r) B s' w):=by
 have hq:=ZfF h he;replace he:=Zrr he
 go_enter Tryz.func68,Tryz.ntmps68
 go_wp2_with fail;refine hq.mono ?_;rintro e w1 ⟨rfl,B1,aQ,cC⟩;replace aQ:=Zrr aQ;go_wp2_with fail;go_ret;exact⟨rfl,B1,aQ.out,cC⟩
theorem Zm8(w:World)(a b:Obj):((w.alloc a).alloc b).heap[w.heap.size]? =some a∧((w.alloc a).alloc b).heap[w.heap.size+1]? =some b:=by
 refine⟨?_,?_⟩
 ·rw[Below.heap_alloc _ _ _ (by simp)]
  exact Zaq _ _ _ rfl
 ·exact Zaq _ _ _ (by simp)
theorem ZpF{B:Zar}{s s':St}{w:World}{l:Int}{v pl r:Nat}(h:Rep B s w)(ht:s.tree≠[])(hv:Zo3 l=v)(dQ:ZeL s.tree v=some pl)(he:Zbc s l pl=some (r,s')) :
  Calls Tryz.prog 32 #[.pointer (some ⟨B.sb,0,none⟩),.int .i64 l] w (Zhy r B s' w):=by
 have nL:∀(fn:Fn) (first cap:Array Value) (w:World),(Instr.makeFunc fn first cap).run Tryz.prog w= .ok (.func fn first cap) w:=fun _ _ _ _=>rfl
 have hK:∀(c:Array Value) (w:World),(callFunc 68 c).run Tryz.prog w= .ok (.enter 68 c) w:=fun c w=>by simp[go_sem,Tryz.func68]
 have gV:=fun w=>Zp6 l w
 rw[hv]at gV;have cw:Zgn s.nodes.length []=0:=rfl;replace cw:=Zrr cw;replace he:=Zrr he;replace hv:=Zrr hv;have hx:=((Ext.refl w).alloc (.cells #[.pointer (some ⟨B.sb,0,none⟩)] 28)).alloc (.cells #[.int .i64 l] 3);obtain⟨bH,aj⟩:=Zm8 w (.cells #[.pointer (some ⟨B.sb,0,none⟩)] 28) (.cells #[.int .i64 l] 3);have hszw:((w.alloc (.cells #[.pointer (some ⟨B.sb,0,none⟩)] 28)).alloc (.cells #[.int .i64 l] 3)).heap.size=w.heap.size+1+1:=by simp
 go_enter Tryz.func32,Tryz.ntmps32
 go_wp2_with fail;generalize (w.alloc (.cells #[.pointer (some ⟨B.sb,0,none⟩)] 28)).alloc (.cells #[.int .i64 l] 3)=w1 at *;have hq:=Zdc (v:=.slice none 0 0) (l:=[]) (h.below hx.below) ht ⟨none,0,rfl,.inl ⟨rfl,rfl,rfl⟩⟩ (by simp);rw[cw.out]at hq;refine hq.mono ?_;rintro e w2 ⟨rfl,rfl⟩;have aQ:=h.below hx.below
 have F:∀w',Ext w1 w'→w'.cell? ⟨w.heap.size,0,none⟩=some (.pointer (some ⟨B.sb,0,none⟩))∧w'.cell? ⟨w.heap.size+1,0,none⟩=some (.int .i64 l)∧w'.cell? ⟨B.sb,1,none⟩=some (.map (some B.lb)) ∧
   (Instr.lookup 62 (.map (some B.lb)) (.int .i64 v) true).run Tryz.prog w'= .ok (.tuple #[.int .i64 pl,.bool true]) w':=fun w' fI=>by
  have hR:=aQ.below fI.below;obtain⟨_,_,c1,_⟩:=hR.cells;have hl:=hR.leafLook v;rw[dQ]at hl;exact⟨fI.cell (by simp[World.cell?,bH]),fI.cell (by simp[World.cell?,aj]),c1,hl⟩
 have aR:Ext w1 (w1.alloc (.cells #[.int .i64 pl] 3)).drew:=((Ext.refl w1).alloc _).drew
 have al:(w1.alloc (.cells #[.int .i64 pl] 3)).drew.cell? ⟨w1.heap.size,0,none⟩=some (.int .i64 pl) :=
  (World.cell?_of_block (w:=w1.alloc (.cells #[.int .i64 pl] 3)) (a:=⟨w1.heap.size,0,none⟩) rfl).trans (World.cell?_alloc_new w1 #[.int .i64 pl] 3 0)
 replace aQ:=Zrr aQ;replace dQ:=Zrr dQ;replace F:=Zrr F;clear hq bH aj;go_wp2_with fail
 go_region_held3 (fun w'=>w'.cell? ⟨w.heap.size,0,none⟩=some (.pointer (some ⟨B.sb,0,none⟩))∧w'.cell? ⟨w.heap.size+1,0,none⟩=some (.int .i64 l)∧w'.cell? ⟨B.sb,1,none⟩=some (.map (some B.lb)) ∧
   (Instr.lookup 62 (.map (some B.lb)) (.int .i64 v) true).run Tryz.prog w'= .ok (.tuple #[.int .i64 pl,.bool true]) w')
  (first|exact F.out _ (Ext.refl _)|exact F.out _ (Ext.refl _).drew|exact F.out _ ((Ext.refl _).alloc _).drew|exact F.out _ ((Ext.refl _).alloc _)|go_keep)
  (first|(go_at_call 66;refine(gV _).mono ?_;rintro e w' ⟨rfl,rfl⟩)|(go_simp;go_at_call 66;refine(gV _).mono ?_;rintro e w' ⟨rfl,rfl⟩))
 all_goals
  obtain⟨a0,a1,_,_⟩:=F.out _ aR;generalize (w1.alloc (.cells #[.int .i64 pl] 3)).drew=w3 at *;rw[hszw]at al
  have bX:=Zjh (K:=68) (cap:=#[.pointer (some ⟨w.heap.size,0,none⟩),.pointer (some ⟨w.heap.size+1,0,none⟩),.pointer (some ⟨w.heap.size+1+1,0,none⟩)]) (aQ.out.below aR.below) (hK _)
   (fun w' bn=>Zn7 ((aQ.out.below aR.below).below bn.below) (bn.cell a0) (bn.cell a1) (bn.cell al) he.out)
  go_wp2_with fail;refine bX.mono ?_;rintro e w4 ⟨rfl,B2,bA,bB⟩;replace bA:=Zrr bA;go_wp2_with fail;go_ret2;exact⟨rfl,B2,bA.out,(Stp.of_below (hx.trans aR).below).then bB⟩
end Go.Proofs.YtemnmcfmabamcaaGreatDoor
