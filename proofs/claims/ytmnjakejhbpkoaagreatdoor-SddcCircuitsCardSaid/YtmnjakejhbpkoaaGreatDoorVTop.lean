import Derived.Test.YtmnjakejhbpkoaaGreatDoorVAnd
set_option linter.unusedSimpArgs false
set_option linter.unusedVariables false
set_option maxRecDepth 100000
set_option maxHeartbeats 2000000
namespace Go.Proofs.YtmnjakejhbpkoaaGreatDoor
open Go Go.RowKit Go.Shelf
theorem Zgd(w:World)(a b c d:Obj):((((w.alloc a).alloc b).alloc c).alloc d).heap[w.heap.size]? =some a∧((((w.alloc a).alloc b).alloc c).alloc d).heap[w.heap.size+1]? =some b∧((((w.alloc a).alloc b).alloc c).alloc d).heap[w.heap.size+1+1]? =some c∧((((w.alloc a).alloc b).alloc c).alloc d).heap[w.heap.size+1+1+1]? =some d:=by
 refine⟨?_,?_,?_,?_⟩
 ·rw[Below.heap_alloc _ _ _ (by simp;omega),Below.heap_alloc _ _ _ (by simp;omega),Below.heap_alloc _ _ _ (by simp)]
  exact Zal _ _ _ rfl
 ·rw[Below.heap_alloc _ _ _ (by simp),Below.heap_alloc _ _ _ (by simp)]
  exact Zal _ _ _ (by simp)
 ·rw[Below.heap_alloc _ _ _ (by simp)]
  exact Zal _ _ _ (by simp)
 ·exact Zal _ _ _ (by simp)
theorem Zl2{g:St→Nat→Nat→Option (Nat × St)}(hg:ZdE g){B:Zas}{s s':St}{w:World}{k0 k1 k2 a b r:Nat}(h:Rep B s w)(c0:w.cell? ⟨k0,0,none⟩=some (.pointer (some ⟨B.sb,0,none⟩)))(c1:w.cell? ⟨k1,0,none⟩=some (.int .i64 a))(c2:w.cell? ⟨k2,0,none⟩=some (.int .i64 b))(he:g s a b=some (r,s')) :
  Calls Tryz.prog 153 #[.pointer (some ⟨k0,0,none⟩),.pointer (some ⟨k1,0,none⟩),.pointer (some ⟨k2,0,none⟩)] w (ZaB [] (.int .i64 r) B s' w):=by
 have hq:=hg B s s' w a b r h he;replace he:=Zpe he
 go_enter Tryz.func153,Tryz.ntmps153
 go_wp2_with fail;refine hq.mono ?_;rintro e w1 ⟨rfl,B1,aU,bO⟩;replace aU:=Zpe aU;go_wp2_with fail;go_ret;exact⟨rfl,B1,aU.out,bO⟩
theorem Zkh{g:St→Nat→Nat→Option (Nat × St)}(hg:ZdE g){B:Zas}{s s':St}{w:World}{a b r:Nat}(h:Rep B s w)(ht:s.tree≠[])(ha:a<s.nodes.length)(hb:b<s.nodes.length)(he:g s a b=some (r,s')) :
  Calls Tryz.prog 82 #[.pointer (some ⟨B.sb,0,none⟩),.int .i64 a,.int .i64 b] w (ZfX r B s' w):=by
 have lq:∀(fn:Fn) (first cap:Array Value) (w:World),(Instr.makeFunc fn first cap).run Tryz.prog w= .ok (.func fn first cap) w:=fun _ _ _ _=>rfl
 have hK:∀(c:Array Value) (w:World),(callFunc 153 c).run Tryz.prog w= .ok (.enter 153 c) w:=fun c w=>by simp[go_sem,Tryz.func153]
 have dJ:Zfx s.nodes.length [(a:Int),(b:Int)]=0:=by simp[Zfx,ha,hb]
 replace dJ:=Zpe dJ;replace he:=Zpe he;have hx:=((((Ext.refl w).alloc (.cells #[.pointer (some ⟨B.sb,0,none⟩)] 32)).alloc (.cells #[.int .i64 a] 3)).alloc (.cells #[.int .i64 b] 3)).alloc (.cells #[.int .i64 a,.int .i64 b] 3);obtain⟨bB,ak,bE,dw⟩:=Zgd w (.cells #[.pointer (some ⟨B.sb,0,none⟩)] 32) (.cells #[.int .i64 a] 3) (.cells #[.int .i64 b] 3) (.cells #[.int .i64 a,.int .i64 b] 3)
 go_enter Tryz.func82,Tryz.ntmps82
 go_wp2_with fail;generalize (((w.alloc (.cells #[.pointer (some ⟨B.sb,0,none⟩)] 32)).alloc (.cells #[.int .i64 a] 3)).alloc (.cells #[.int .i64 b] 3)).alloc (.cells #[.int .i64 a,.int .i64 b] 3)=w1 at *
 have cq:SlI w1 (.slice (some ⟨w.heap.size+1+1+1,0,none⟩) 2 2) [(a:Int),(b:Int)]:=⟨_,2,rfl,.inr ⟨_,0,rfl,fun j hj=>by
  match j,hj with
  | 0,_=>simp[World.cell?,dw]
  | 1,_=>simp[World.cell?,dw]⟩⟩
 have hq:=ZcL (h.below hx.below) ht cq (by simp);rw[dJ.out]at hq;have c0:w1.cell? ⟨w.heap.size,0,none⟩=some (.pointer (some ⟨B.sb,0,none⟩)):=by simp[World.cell?,bB]
 have c1:w1.cell? ⟨w.heap.size+1,0,none⟩=some (.int .i64 a):=by simp[World.cell?,ak]
 have c2:w1.cell? ⟨w.heap.size+1+1,0,none⟩=some (.int .i64 b):=by simp[World.cell?,bE]
 replace cq:=Zpe cq;clear bB ak bE dw;refine hq.mono ?_;rintro e w2 ⟨rfl,rfl⟩;have aU:=h.below hx.below
 have db:=Zgz (K:=153) (cap:=#[.pointer (some ⟨w.heap.size,0,none⟩),.pointer (some ⟨w.heap.size+1,0,none⟩),.pointer (some ⟨w.heap.size+1+1,0,none⟩)]) aU (hK _)
  (fun w' bn=>Zl2 hg (aU.below bn.below) (bn.cell c0) (bn.cell c1) (bn.cell c2) he.out)
 replace aU:=Zpe aU;clear hq;go_wp2_with fail;refine db.mono ?_;rintro e w2 ⟨rfl,B2,bM,aZ⟩;replace bM:=Zpe bM;go_wp2_with fail;go_ret2;exact⟨rfl,B2,bM.out,(Stp.of_below hx.below).then aZ⟩
theorem ZnL{g:St→Nat→Nat→Option (Nat × St)}(hg:ZlY g){B:Zas}{s s':St}{w:World}{k0 k1 k2 a b r:Nat}(h:Rep B s w)(c0:w.cell? ⟨k0,0,none⟩=some (.pointer (some ⟨B.sb,0,none⟩)))(c1:w.cell? ⟨k1,0,none⟩=some (.int .i64 a))(c2:w.cell? ⟨k2,0,none⟩=some (.int .i64 b))(he:g s a b=some (r,s')) :
  Calls Tryz.prog 108 #[.pointer (some ⟨k0,0,none⟩),.pointer (some ⟨k1,0,none⟩),.pointer (some ⟨k2,0,none⟩)] w (ZaB [] (.int .i64 r) B s' w):=by
 have hq:=hg B s s' w a b r h he;replace he:=Zpe he
 go_enter Tryz.func108,Tryz.ntmps108
 go_wp2_with fail;refine hq.mono ?_;rintro e w1 ⟨rfl,B1,aU,bO⟩;replace aU:=Zpe aU;go_wp2_with fail;go_ret;exact⟨rfl,B1,aU.out,bO⟩
theorem Zlj{g:St→Nat→Nat→Option (Nat × St)}(hg:ZlY g){B:Zas}{s s':St}{w:World}{a b r:Nat}(h:Rep B s w)(ht:s.tree≠[])(ha:a<s.nodes.length)(hb:b<s.nodes.length)(he:g s a b=some (r,s')) :
  Calls Tryz.prog 41 #[.pointer (some ⟨B.sb,0,none⟩),.int .i64 a,.int .i64 b] w (ZfX r B s' w):=by
 have lq:∀(fn:Fn) (first cap:Array Value) (w:World),(Instr.makeFunc fn first cap).run Tryz.prog w= .ok (.func fn first cap) w:=fun _ _ _ _=>rfl
 have hK:∀(c:Array Value) (w:World),(callFunc 108 c).run Tryz.prog w= .ok (.enter 108 c) w:=fun c w=>by simp[go_sem,Tryz.func108]
 have dJ:Zfx s.nodes.length [(a:Int),(b:Int)]=0:=by simp[Zfx,ha,hb]
 replace dJ:=Zpe dJ;replace he:=Zpe he;have hx:=((((Ext.refl w).alloc (.cells #[.pointer (some ⟨B.sb,0,none⟩)] 32)).alloc (.cells #[.int .i64 a] 3)).alloc (.cells #[.int .i64 b] 3)).alloc (.cells #[.int .i64 a,.int .i64 b] 3);obtain⟨bB,ak,bE,dw⟩:=Zgd w (.cells #[.pointer (some ⟨B.sb,0,none⟩)] 32) (.cells #[.int .i64 a] 3) (.cells #[.int .i64 b] 3) (.cells #[.int .i64 a,.int .i64 b] 3)
 go_enter Tryz.func41,Tryz.ntmps41
 go_wp2_with fail;generalize (((w.alloc (.cells #[.pointer (some ⟨B.sb,0,none⟩)] 32)).alloc (.cells #[.int .i64 a] 3)).alloc (.cells #[.int .i64 b] 3)).alloc (.cells #[.int .i64 a,.int .i64 b] 3)=w1 at *
 have cq:SlI w1 (.slice (some ⟨w.heap.size+1+1+1,0,none⟩) 2 2) [(a:Int),(b:Int)]:=⟨_,2,rfl,.inr ⟨_,0,rfl,fun j hj=>by
  match j,hj with
  | 0,_=>simp[World.cell?,dw]
  | 1,_=>simp[World.cell?,dw]⟩⟩
 have hq:=ZcL (h.below hx.below) ht cq (by simp);rw[dJ.out]at hq;have c0:w1.cell? ⟨w.heap.size,0,none⟩=some (.pointer (some ⟨B.sb,0,none⟩)):=by simp[World.cell?,bB]
 have c1:w1.cell? ⟨w.heap.size+1,0,none⟩=some (.int .i64 a):=by simp[World.cell?,ak]
 have c2:w1.cell? ⟨w.heap.size+1+1,0,none⟩=some (.int .i64 b):=by simp[World.cell?,bE]
 replace cq:=Zpe cq;clear bB ak bE dw;refine hq.mono ?_;rintro e w2 ⟨rfl,rfl⟩;have aU:=h.below hx.below
 have db:=Zgz (K:=108) (cap:=#[.pointer (some ⟨w.heap.size,0,none⟩),.pointer (some ⟨w.heap.size+1,0,none⟩),.pointer (some ⟨w.heap.size+1+1,0,none⟩)]) aU (hK _)
  (fun w' bn=>ZnL hg (aU.below bn.below) (bn.cell c0) (bn.cell c1) (bn.cell c2) he.out)
 replace aU:=Zpe aU;clear hq;go_wp2_with fail;refine db.mono ?_;rintro e w2 ⟨rfl,B2,bM,aZ⟩;replace bM:=Zpe bM;go_wp2_with fail;go_ret2;exact⟨rfl,B2,bM.out,(Stp.of_below hx.below).then aZ⟩
end Go.Proofs.YtmnjakejhbpkoaaGreatDoor
namespace Go.Proofs.YtmnjakejhbpkoaaGreatDoor
open Go Go.RowKit Go.Shelf
theorem Zmw{g:St→Nat→Option (Nat × St)}(hg:ZbI g){B:Zas}{s s':St}{w:World}{k0 k1 a r:Nat}(h:Rep B s w)(c0:w.cell? ⟨k0,0,none⟩=some (.pointer (some ⟨B.sb,0,none⟩)))(c1:w.cell? ⟨k1,0,none⟩=some (.int .i64 a))(he:g s a=some (r,s')) :
  Calls Tryz.prog 106 #[.pointer (some ⟨k0,0,none⟩),.pointer (some ⟨k1,0,none⟩)] w (ZaB [] (.int .i64 r) B s' w):=by
 have hq:=hg B s s' w a r h he;replace he:=Zpe he
 go_enter Tryz.func106,Tryz.ntmps106
 go_wp2_with fail;refine hq.mono ?_;rintro e w1 ⟨rfl,B1,aU,bO⟩;replace aU:=Zpe aU;go_wp2_with fail;go_ret;exact⟨rfl,B1,aU.out,bO⟩
theorem Zfh(w:World)(a b c:Obj):(((w.alloc a).alloc b).alloc c).heap[w.heap.size]? =some a∧(((w.alloc a).alloc b).alloc c).heap[w.heap.size+1]? =some b∧(((w.alloc a).alloc b).alloc c).heap[w.heap.size+1+1]? =some c:=by
 refine⟨?_,?_,?_⟩
 ·rw[Below.heap_alloc _ _ _ (by simp;omega),Below.heap_alloc _ _ _ (by simp)]
  exact Zal _ _ _ rfl
 ·rw[Below.heap_alloc _ _ _ (by simp)]
  exact Zal _ _ _ (by simp)
 ·exact Zal _ _ _ (by simp)
theorem Zfe{w:World}{k:Nat}{a:Int}(h:w.heap[k]? =some (.cells #[.int .i64 a] 3 (0,0))):SlI w (.slice (some ⟨k,0,none⟩) 1 1) [a]:=⟨_,1,rfl,.inr ⟨_,0,rfl,fun j hj=>by
  match j,hj with
  | 0,_=>simp[World.cell?,h]⟩⟩
theorem ZnH{g:St→Nat→Option (Nat × St)}(hg:ZbI g){B:Zas}{s s':St}{w:World}{a r:Nat}(h:Rep B s w)(ht:s.tree≠[])(ha:a<s.nodes.length)(he:g s a=some (r,s')) :
  Calls Tryz.prog 39 #[.pointer (some ⟨B.sb,0,none⟩),.int .i64 a] w (ZfX r B s' w):=by
 have lq:∀(fn:Fn) (first cap:Array Value) (w:World),(Instr.makeFunc fn first cap).run Tryz.prog w= .ok (.func fn first cap) w:=fun _ _ _ _=>rfl
 have hK:∀(c:Array Value) (w:World),(callFunc 106 c).run Tryz.prog w= .ok (.enter 106 c) w:=fun c w=>by simp[go_sem,Tryz.func106]
 have dJ:Zfx s.nodes.length [(a:Int)]=0:=by simp[Zfx,ha]
 replace dJ:=Zpe dJ;replace he:=Zpe he;have hx:=(((Ext.refl w).alloc (.cells #[.pointer (some ⟨B.sb,0,none⟩)] 32)).alloc (.cells #[.int .i64 a] 3)).alloc (.cells #[.int .i64 a] 3);obtain⟨bB,ak,dw⟩:=Zfh w (.cells #[.pointer (some ⟨B.sb,0,none⟩)] 32) (.cells #[.int .i64 a] 3) (.cells #[.int .i64 a] 3)
 go_enter Tryz.func39,Tryz.ntmps39
 go_wp2_with fail;generalize ((w.alloc (.cells #[.pointer (some ⟨B.sb,0,none⟩)] 32)).alloc (.cells #[.int .i64 a] 3)).alloc (.cells #[.int .i64 a] 3)=w1 at *;have hq:=ZcL (h.below hx.below) ht (Zfe dw) (by simp);rw[dJ.out]at hq;have c0:w1.cell? ⟨w.heap.size,0,none⟩=some (.pointer (some ⟨B.sb,0,none⟩)):=by simp[World.cell?,bB]
 have c1:w1.cell? ⟨w.heap.size+1,0,none⟩=some (.int .i64 a):=by simp[World.cell?,ak]
 clear bB ak dw;refine hq.mono ?_;rintro e w2 ⟨rfl,rfl⟩;have aU:=h.below hx.below
 have db:=Zgz (K:=106) (cap:=#[.pointer (some ⟨w.heap.size,0,none⟩),.pointer (some ⟨w.heap.size+1,0,none⟩)]) aU (hK _)
  (fun w' bn=>Zmw hg (aU.below bn.below) (bn.cell c0) (bn.cell c1) he.out)
 replace aU:=Zpe aU;clear hq;go_wp2_with fail;refine db.mono ?_;rintro e w2 ⟨rfl,B2,bM,aZ⟩;replace bM:=Zpe bM;go_wp2_with fail;go_ret2;exact⟨rfl,B2,bM.out,(Stp.of_below hx.below).then aZ⟩
def Zfq (l:Int):Int:=if 1≤l∧l≤128 then l else if l≤-1∧-128≤l then -l else 0
theorem ZgB(l:Int)(w:World):Calls Tryz.prog 143 #[.int .i64 l] w fun e w'=>e= .returned (.int .i64 (Zfq l))∧w=w':=by
 by_cases h1:1≤l∧l≤128
 ·have hv:Hid (Zfq l=l):=Zpe (if_pos h1)
  obtain⟨h1,h2⟩:=h1;have d1:decide (l≥1)=true:=Zpv h1;have d2:decide (l≤128)=true:=Zpv h2
  go_enter Tryz.func143,Tryz.ntmps143
  go_wp2_with fail;go_ret;exact⟨by rw[hv.out] <;> rfl,rfl⟩
 ·by_cases h2:l≤-1∧-128≤l
  ·have hv:Hid (Zfq l= -l):=Zpe (by unfold Zfq;rw[if_neg h1,if_pos h2])
   clear h1;obtain⟨h1,h2⟩:=h2;have d0:decide (l≥1)=false:=Zpu (by omega);have d1:decide (l≤-1)=true:=Zpv h1;have d2:decide (l≥-128)=true:=Zpv h2
   go_enter Tryz.func143,Tryz.ntmps143
   go_wp2_with fail;go_ret;exact⟨by rw[hv.out] <;> rfl,rfl⟩
  ·have hv:Hid (Zfq l=0):=Zpe (by unfold Zfq;rw[if_neg h1,if_neg h2])
   by_cases a1:1≤l
   ·have d0:decide (l≥1)=true:=Zpv a1
    have d3:decide (l≤128)=false:=Zpu (by omega);have d1:decide (l≤-1)=false:=Zpu (by omega);clear h1 h2
    go_enter Tryz.func143,Tryz.ntmps143
    go_wp2_with fail;go_ret;exact⟨by rw[hv.out] <;> rfl,rfl⟩
   ·have d0:decide (l≥1)=false:=Zpu (by omega)
    by_cases a2:l≤-1
    ·have d1:decide (l≤-1)=true:=Zpv a2
     have d3:decide (l≥-128)=false:=Zpu (by omega);clear h1 h2
     go_enter Tryz.func143,Tryz.ntmps143
     go_wp2_with fail;go_ret;exact⟨by rw[hv.out] <;> rfl,rfl⟩
    ·have d1:decide (l≤-1)=false:=Zpu (by omega)
     clear h1 h2
     go_enter Tryz.func143,Tryz.ntmps143
     go_wp2_with fail;go_ret;exact⟨by rw[hv.out] <;> rfl,rfl⟩
end Go.Proofs.YtmnjakejhbpkoaaGreatDoor
namespace Go.Proofs.YtmnjakejhbpkoaaGreatDoor
open Go Go.RowKit Go.Shelf
theorem Rep.leafLook{B:Zas}{s:St}{w:World}(h:Rep B s w)(v:Nat) :
  (Instr.lookup 142 (.map (some B.lb)) (.int .i64 v) true).run Tryz.prog w= .ok (.tuple #[((Zd5 s.tree v).map Zab).getD (.int .i64 0),.bool (Zd5 s.tree v).isSome]) w :=
 h.leaf.look Zb6 (T:=142) Tryz.underlying142 _ Zcn v
theorem Zmp{B:Zas}{s s':St}{w:World}{k0 k1 k2 r:Nat}{l pl:Int}(h:Rep B s w)(c0:w.cell? ⟨k0,0,none⟩=some (.pointer (some ⟨B.sb,0,none⟩)))(c1:w.cell? ⟨k1,0,none⟩=some (.int .i64 l))(c2:w.cell? ⟨k2,0,none⟩=some (.int .i64 pl))(he:Zbq s l pl=some (r,s')) :
  Calls Tryz.prog 166 #[.pointer (some ⟨k0,0,none⟩),.pointer (some ⟨k1,0,none⟩),.pointer (some ⟨k2,0,none⟩)] w (ZaB [] (.int .i64 r) B s' w):=by
 have hq:=ZeZ h he;replace he:=Zpe he
 go_enter Tryz.func166,Tryz.ntmps166
 go_wp2_with fail;refine hq.mono ?_;rintro e w1 ⟨rfl,B1,aU,bO⟩;replace aU:=Zpe aU;go_wp2_with fail;go_ret;exact⟨rfl,B1,aU.out,bO⟩
theorem Zil(w:World)(a b:Obj):((w.alloc a).alloc b).heap[w.heap.size]? =some a∧((w.alloc a).alloc b).heap[w.heap.size+1]? =some b:=by
 refine⟨?_,?_⟩
 ·rw[Below.heap_alloc _ _ _ (by simp)]
  exact Zal _ _ _ rfl
 ·exact Zal _ _ _ (by simp)
theorem ZnD{B:Zas}{s s':St}{w:World}{l:Int}{v pl r:Nat}(h:Rep B s w)(ht:s.tree≠[])(hv:Zfq l=v)(bv:Zd5 s.tree v=some pl)(he:Zbq s l pl=some (r,s')) :
  Calls Tryz.prog 101 #[.pointer (some ⟨B.sb,0,none⟩),.int .i64 l] w (ZfX r B s' w):=by
 have lq:∀(fn:Fn) (first cap:Array Value) (w:World),(Instr.makeFunc fn first cap).run Tryz.prog w= .ok (.func fn first cap) w:=fun _ _ _ _=>rfl
 have hK:∀(c:Array Value) (w:World),(callFunc 166 c).run Tryz.prog w= .ok (.enter 166 c) w:=fun c w=>by simp[go_sem,Tryz.func166]
 have fI:=fun w=>ZgB l w
 rw[hv]at fI;have dJ:Zfx s.nodes.length []=0:=rfl;replace dJ:=Zpe dJ;replace he:=Zpe he;replace hv:=Zpe hv;have hx:=((Ext.refl w).alloc (.cells #[.pointer (some ⟨B.sb,0,none⟩)] 32)).alloc (.cells #[.int .i64 l] 3);obtain⟨bB,ak⟩:=Zil w (.cells #[.pointer (some ⟨B.sb,0,none⟩)] 32) (.cells #[.int .i64 l] 3);have yD:((w.alloc (.cells #[.pointer (some ⟨B.sb,0,none⟩)] 32)).alloc (.cells #[.int .i64 l] 3)).heap.size=w.heap.size+1+1:=by simp
 go_enter Tryz.func101,Tryz.ntmps101
 go_wp2_with fail;generalize (w.alloc (.cells #[.pointer (some ⟨B.sb,0,none⟩)] 32)).alloc (.cells #[.int .i64 l] 3)=w1 at *;have hq:=ZcL (v:=.slice none 0 0) (l:=[]) (h.below hx.below) ht ⟨none,0,rfl,.inl ⟨rfl,rfl,rfl⟩⟩ (by simp);rw[dJ.out]at hq;refine hq.mono ?_;rintro e w2 ⟨rfl,rfl⟩;have aU:=h.below hx.below
 have F:∀w',Ext w1 w'→w'.cell? ⟨w.heap.size,0,none⟩=some (.pointer (some ⟨B.sb,0,none⟩))∧w'.cell? ⟨w.heap.size+1,0,none⟩=some (.int .i64 l)∧w'.cell? ⟨B.sb,1,none⟩=some (.map (some B.lb)) ∧
   (Instr.lookup 142 (.map (some B.lb)) (.int .i64 v) true).run Tryz.prog w'= .ok (.tuple #[.int .i64 pl,.bool true]) w':=fun w' dL=>by
  have hR:=aU.below dL.below;obtain⟨_,_,c1,_⟩:=hR.cells;have hl:=hR.leafLook v;rw[bv]at hl;exact⟨dL.cell (by simp[World.cell?,bB]),dL.cell (by simp[World.cell?,ak]),c1,hl⟩
 have aR:Ext w1 (w1.alloc (.cells #[.int .i64 pl] 3)).drew:=((Ext.refl w1).alloc _).drew
 have ao:(w1.alloc (.cells #[.int .i64 pl] 3)).drew.cell? ⟨w1.heap.size,0,none⟩=some (.int .i64 pl) :=
  (World.cell?_of_block (w:=w1.alloc (.cells #[.int .i64 pl] 3)) (a:=⟨w1.heap.size,0,none⟩) rfl).trans (World.cell?_alloc_new w1 #[.int .i64 pl] 3 0)
 replace aU:=Zpe aU;replace bv:=Zpe bv;replace F:=Zpe F;clear hq bB ak;go_wp2_with fail
 go_region_held3 (fun w'=>w'.cell? ⟨w.heap.size,0,none⟩=some (.pointer (some ⟨B.sb,0,none⟩))∧w'.cell? ⟨w.heap.size+1,0,none⟩=some (.int .i64 l)∧w'.cell? ⟨B.sb,1,none⟩=some (.map (some B.lb)) ∧
   (Instr.lookup 142 (.map (some B.lb)) (.int .i64 v) true).run Tryz.prog w'= .ok (.tuple #[.int .i64 pl,.bool true]) w')
  (first|exact F.out _ (Ext.refl _)|exact F.out _ (Ext.refl _).drew|exact F.out _ ((Ext.refl _).alloc _).drew|exact F.out _ ((Ext.refl _).alloc _)|go_keep)
  (first|(go_at_call 143;refine(fI _).mono ?_;rintro e w' ⟨rfl,rfl⟩)|(go_simp;go_at_call 143;refine(fI _).mono ?_;rintro e w' ⟨rfl,rfl⟩))
 all_goals
  obtain⟨a0,a1,_,_⟩:=F.out _ aR;generalize (w1.alloc (.cells #[.int .i64 pl] 3)).drew=w3 at *;rw[yD]at ao
  have db:=Zgz (K:=166) (cap:=#[.pointer (some ⟨w.heap.size,0,none⟩),.pointer (some ⟨w.heap.size+1,0,none⟩),.pointer (some ⟨w.heap.size+1+1,0,none⟩)]) (aU.out.below aR.below) (hK _)
   (fun w' bn=>Zmp ((aU.out.below aR.below).below bn.below) (bn.cell a0) (bn.cell a1) (bn.cell ao) he.out)
  go_wp2_with fail;refine db.mono ?_;rintro e w4 ⟨rfl,B2,bM,aZ⟩;replace bM:=Zpe bM;go_wp2_with fail;go_ret2;exact⟨rfl,B2,bM.out,(Stp.of_below (hx.trans aR).below).then aZ⟩
end Go.Proofs.YtmnjakejhbpkoaaGreatDoor
