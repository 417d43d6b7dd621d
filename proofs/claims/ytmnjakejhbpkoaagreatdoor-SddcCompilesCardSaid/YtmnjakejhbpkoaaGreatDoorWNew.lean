import Derived.Test.YtmnjakejhbpkoaaGreatDoorWTop
set_option linter.unusedSimpArgs false
set_option linter.unusedVariables false
namespace Go.Proofs.YtmnjakejhbpkoaaGreatDoor
open Go Go.RowKit Go.Shelf
theorem info_vnode:(Tryz.prog.info? 106).map (fun i=>(i.zero,i.size,i.bytes)) = some (some (.agg #[.int .i64 0,.int .i64 0,.int .i64 0]),3,24):=by kernel_rfl
theorem sizeOfV (w:World):(Go.sizeOf 106).run Tryz.prog w = .ok 3 w:=by kernel_rfl
theorem treeCells_one (t:List VN):∀ u∈treeCells t,Value.oneCell' u = true:=by
 intro u hu
 simp only [treeCells,List.mem_flatMap,List.mem_cons,List.not_mem_nil,or_false] at hu
 obtain ⟨p,_,rfl | rfl | rfl⟩:=hu <;> rfl
theorem treeCells_len (t:List VN):(treeCells t).length = 3 * t.length:=by
 induction t with
 | nil=>rfl
 | cons x r ih=>simp only [treeCells,List.flatMap_cons,List.length_append,List.length_cons,List.length_nil] at ih ⊢;omega
theorem clone_tree (w:World) (b o c:Nat) (t:List VN) (h:TreeAt w b o t) (hl:t.length≤1048576) :
  Calls Tryz.prog 130 #[.slice (some ⟨b,o,none⟩) t.length c] w fun e w'=>∃ g cap cs,e = .returned (.slice (some ⟨g,0,none⟩) t.length cap)∧w.heap.size≤g ∧
   w'.heap[g]? = some (.cells cs 106 (0,0))∧(∀ j u,(treeCells t)[j]? = some u→cs[0+j]? = some u)∧Below w.heap.size w w':=by
 obtain ⟨i0,hi0,hz0,hz1,hz2⟩:=info_parts info_vnode
 have h1:=AnyE.slices_Clone Tryz.cloneTree i0 (.agg #[.int .i64 0,.int .i64 0,.int .i64 0]) 3 24 hi0 hz0 hz1 hz2 (by rfl) (by omega) sizeOfV b o t.length c (treeCells t) w (by rw [treeCells_len];omega) (by unfold maxLen;omega) (by omega) (fun j u hj=>h j u hj) (treeCells_one t)
 refine h1.mono ?_
 rintro e w' ⟨v',rfl,hown,hne,hb⟩
 obtain ⟨hlen,⟨e0,_⟩ | ⟨g,cap,cur,rfl,hg,hh,hn,hm,hs,ht⟩⟩:=hown
 ·exact absurd e0 hne
 ·refine ⟨g,cap,cur,rfl,hg,hh,fun j u hj=>?_,hb⟩
  rw [←ht,List.getElem?_take] at hj
  split at hj
  ·simpa using hj
  ·simp at hj
def RetTree (t:List VN) (w:World) (e:Ending) (w':World):Prop:=∃ g cap cs,e = .returned (.slice (some ⟨g,0,none⟩) t.length cap)∧w.heap.size≤g ∧
     w'.heap[g]? = some (.cells cs 106 (0,0))∧(∀ j u,(treeCells t)[j]? = some u→cs[0+j]? = some u)∧Below w.heap.size w w'
set_option maxRecDepth 100000 in
set_option maxHeartbeats 1000000 in
theorem tree_any {B:Blks} {s:St} {w:World} (h:Rep B s w) (hl:s.tree.length≤1048576) :
  Calls Tryz.prog 64 #[.pointer (some ⟨B.sb,0,none⟩)] w (RetTree s.tree w):=by
 obtain ⟨cap,c0,_⟩:=h.cells
 have hq:=clone_tree w B.tb 0 B.tc s.tree h.treeAt hl
 replace hl:=Lib.hid hl
 go_enter Tryz.func64,Tryz.ntmps64
 go_wp2_with fail
 refine hq.mono ?_
 rintro e w1 ⟨g,cap,cs,rfl,h1,h2,h3,h4⟩
 replace h2:=Lib.hid h2
 replace h3:=Lib.hid h3
 go_wp2_with fail
 go_ret
 exact ⟨g,cap,cs,rfl,h1,h2.out,h3.out,h4⟩
def constCells:Array Value:=#[.int .i64 (-1),.int .i64 0,.slice none 0 0,.int .u64 0,.int .u64 0,.int .i64 (-1),.int .i64 0,.slice none 0 0,.int .u64 0,.int .u64 0]
def RebuiltC (w:World) (sb nb:Nat) (tv lm:Value) (e:Ending) (w':World):Prop:=e = .returned (.tuple #[]) ∧
 w'.heap[sb]? = some (.cells #[tv,lm,.slice (some ⟨nb,0,none⟩) 2 2,.map (some w.heap.size),.map (some (w.heap.size+1)),.map (some (w.heap.size+1+1))] tStore (0,0)) ∧
 w'.heap[w.heap.size]? = some (.map #[] 0)∧w'.heap[w.heap.size+1]? = some (.map #[] 0)∧w'.heap[w.heap.size+1+1]? = some (.map #[] 0)∧Fr [sb] w w'
set_option maxRecDepth 100000 in
set_option maxHeartbeats 1000000 in
theorem rebuild_new {w:World} {sb nb:Nat} {tv lm u0 a0 m0:Value} (hs:w.heap[sb]? = some (.cells #[tv,lm,.slice (some ⟨nb,0,none⟩) 2 2,u0,a0,m0] tStore (0,0))) (hn:w.heap[nb]? = some (.cells constCells tNode (0,0))) :
  Calls Tryz.prog 169 #[.pointer (some ⟨sb,0,none⟩)] w (RebuiltC w sb nb tv lm):=by
 have hmm:∀ w,(Instr.makeMap 142 none).run Tryz.prog w = .ok (.map (some w.heap.size)) (w.alloc (.map #[] 0)):=fun w=>rfl
 have hmm2:∀ w,(Instr.makeMap 160 none).run Tryz.prog w = .ok (.map (some w.heap.size)) (w.alloc (.map #[] 0)):=fun w=>rfl
 have hmm3:∀ w,(Instr.makeMap 161 none).run Tryz.prog w = .ok (.map (some w.heap.size)) (w.alloc (.map #[] 0)):=fun w=>rfl
 have hx3:Ext w (((w.alloc (.map #[] 0)).alloc (.map #[] 0)).alloc (.map #[] 0)):=(((Ext.refl w).alloc _).alloc _).alloc _
 obtain ⟨g0,g1,g2⟩:=three_all w (.map #[] 0) (.map #[] 0) (.map #[] 0)
 have hs3:=(hx3.below.block sb (Array.getElem?_eq_some_iff.1 hs).1).trans hs
 have hn3:=(hx3.below.block nb (Array.getElem?_eq_some_iff.1 hn).1).trans hn
 have c2:(((w.alloc (.map #[] 0)).alloc (.map #[] 0)).alloc (.map #[] 0)).cell? ⟨sb,2,none⟩ = some (.slice (some ⟨nb,0,none⟩) 2 2):=by simp [World.cell?,hs3]
 have c3:(((w.alloc (.map #[] 0)).alloc (.map #[] 0)).alloc (.map #[] 0)).cell? ⟨sb,3,none⟩ = some u0:=by simp [World.cell?,hs3]
 have c4:(((w.alloc (.map #[] 0)).alloc (.map #[] 0)).alloc (.map #[] 0)).cell? ⟨sb,4,none⟩ = some a0:=by simp [World.cell?,hs3]
 have c5:(((w.alloc (.map #[] 0)).alloc (.map #[] 0)).alloc (.map #[] 0)).cell? ⟨sb,5,none⟩ = some m0:=by simp [World.cell?,hs3]
 have f3:∀ j,(((w.alloc (.map #[] 0)).alloc (.map #[] 0)).alloc (.map #[] 0)).frozen? ⟨sb,j,none⟩ = false:=fun j=>by simp [World.frozen?,hs3]
 have f33:=f3 3
 have f34:=f3 4
 have f35:=f3 5
 replace hs3:=Lib.hid hs3
 replace hn3:=Lib.hid hn3
 have hns:nb≠sb:=by
  intro e
  rw [e,hs] at hn
  simp [tStore,tNode] at hn
 have hsl:=(Array.getElem?_eq_some_iff.1 hs).1
 have hs4:((((((w.alloc (.map #[] 0)).alloc (.map #[] 0)).alloc (.map #[] 0)).setCell ⟨sb,3,none⟩ (.map (some w.heap.size))).setCell ⟨sb,4,none⟩ (.map (some (w.heap.size+1)))).setCell ⟨sb,5,none⟩ (.map (some (w.heap.size+1+1)))).heap[sb]? = some (.cells #[tv,lm,.slice (some ⟨nb,0,none⟩) 2 2,.map (some w.heap.size),.map (some (w.heap.size+1)),.map (some (w.heap.size+1+1))] tStore (0,0)):=heap_set (heap_set (heap_set hs3.out 3 _) 4 _) 5 _
 have ho4:∀ k,k≠sb→((((((w.alloc (.map #[] 0)).alloc (.map #[] 0)).alloc (.map #[] 0)).setCell ⟨sb,3,none⟩ (.map (some w.heap.size))).setCell ⟨sb,4,none⟩ (.map (some (w.heap.size+1)))).setCell ⟨sb,5,none⟩ (.map (some (w.heap.size+1+1)))).heap[k]? = (((w.alloc (.map #[] 0)).alloc (.map #[] 0)).alloc (.map #[] 0)).heap[k]?:=fun k hk =>
  (Below.heap_setCell _ _ _ _ hk).trans ((Below.heap_setCell _ _ _ _ hk).trans (Below.heap_setCell _ _ _ _ hk))
 have hfin:Hid (RebuiltC w sb nb tv lm (.returned (.tuple #[])) ((((((w.alloc (.map #[] 0)).alloc (.map #[] 0)).alloc (.map #[] 0)).setCell ⟨sb,3,none⟩ (.map (some w.heap.size))).setCell ⟨sb,4,none⟩ (.map (some (w.heap.size+1)))).setCell ⟨sb,5,none⟩ (.map (some (w.heap.size+1+1))))):=Lib.hid
  ⟨rfl,hs4,(ho4 _ (by omega)).trans g0,(ho4 _ (by omega)).trans g1,(ho4 _ (by omega)).trans g2,rfl,rfl,rfl,by simp [World.setCell];omega,fun k hk hM=>(ho4 k (by simpa using hM)).trans (hx3.below.block k hk)⟩
 have hn4:=(ho4 nb hns).trans hn3.out
 replace hn4:=Lib.hid hn4
 replace hs4:=Lib.hid hs4
 clear f3 hs hn ho4 hsl
 replace g0:=Lib.hid g0
 replace g1:=Lib.hid g1
 replace g2:=Lib.hid g2
 go_enter Tryz.func169,Tryz.ntmps169
 go_wp2_with fail
 generalize (((((w.alloc (.map #[] 0)).alloc (.map #[] 0)).alloc (.map #[] 0)).setCell ⟨sb,3,none⟩ (.map (some w.heap.size))).setCell ⟨sb,4,none⟩ (.map (some (w.heap.size+1)))).setCell ⟨sb,5,none⟩ (.map (some (w.heap.size+1+1))) = w4 at *
 have hl4:w.heap.size+1+1 < w4.heap.size:=by
  obtain ⟨_,_,_,_,h3,_⟩:=hfin.out
  exact (Array.getElem?_eq_some_iff.1 h3).1
 go_loopw [21] (fun i wr=>∃ k:Nat,k≤2∧i = .int .i64 k∧Below w4.heap.size w4 wr) (fun i _=>2 - (intOf i).toNat)
 case atStart=>exact ⟨0,by omega,rfl,Below.refl _ _⟩
 case round =>
  obtain ⟨k,hk,rfl,hb⟩:=hrel
  by_cases hlt:k < 2
  ·have hnr:=(hb.block nb (Array.getElem?_eq_some_iff.1 hn4.out).1).trans hn4.out
   have hat:k = 0∨k = 1:=by omega
   rcases hat with rfl | rfl
   ·have n0:wr.cell? ⟨nb,0,none⟩ = some (.int .i64 (-1)):=by simp [World.cell?,hnr,constCells]
    have n1:wr.cell? ⟨nb,1,none⟩ = some (.int .i64 0):=by simp [World.cell?,hnr,constCells]
    have n2:wr.cell? ⟨nb,2,none⟩ = some (.slice none 0 0):=by simp [World.cell?,hnr,constCells]
    have n3:wr.cell? ⟨nb,3,none⟩ = some (.int .u64 0):=by simp [World.cell?,hnr,constCells]
    have n4:wr.cell? ⟨nb,4,none⟩ = some (.int .u64 0):=by simp [World.cell?,hnr,constCells]
    clear hnr
    go_wp2_with fail
    go_roundw
    case rel=>exact ⟨1,by omega,by go_num,hb.alloc hb.size _⟩
    case measure=>simp [intOf]
   ·have n0:wr.cell? ⟨nb,5,none⟩ = some (.int .i64 (-1)):=by simp [World.cell?,hnr,constCells]
    have n1:wr.cell? ⟨nb,6,none⟩ = some (.int .i64 0):=by simp [World.cell?,hnr,constCells]
    have n2:wr.cell? ⟨nb,7,none⟩ = some (.slice none 0 0):=by simp [World.cell?,hnr,constCells]
    have n3:wr.cell? ⟨nb,8,none⟩ = some (.int .u64 0):=by simp [World.cell?,hnr,constCells]
    have n4:wr.cell? ⟨nb,9,none⟩ = some (.int .u64 0):=by simp [World.cell?,hnr,constCells]
    clear hnr
    go_wp2_with fail
    go_roundw
    case rel=>exact ⟨2,by omega,by go_num,hb.alloc hb.size _⟩
    case measure=>simp [intOf]
  ·obtain rfl:k = 2:=by omega
   go_wp2_with fail
   go_end0
   obtain ⟨_,a1,a2,a3,a4,a5⟩:=hfin.out
   exact ⟨rfl,(hb.block _ (Array.getElem?_eq_some_iff.1 a1).1).trans a1,(hb.block _ (Array.getElem?_eq_some_iff.1 a2).1).trans a2,(hb.block _ (Array.getElem?_eq_some_iff.1 a3).1).trans a3,(hb.block _ (Array.getElem?_eq_some_iff.1 a4).1).trans a4,
    hb.os.trans a5.os,hb.tape.trans a5.tape,hb.output.trans a5.output,Nat.le_trans a5.size hb.size,fun k hk hM=>(hb.block k (Nat.lt_of_lt_of_le hk a5.size)).trans (a5.block k hk hM)⟩
end Go.Proofs.YtmnjakejhbpkoaaGreatDoor
namespace Go.Proofs.YtmnjakejhbpkoaaGreatDoor
open Go Go.RowKit Go.Shelf
def leavesF:List VN→Nat→List (Nat × Nat)→List (Nat × Nat)
 | [],_,m=>m
 | x :: r,i,m=>leavesF r (i+1) (if x.left < 0 then (x.var.toNat,i) :: m else m)
theorem leaves_cons (x:VN) (r:List VN) (i:Nat) (m:List (Nat × Nat)):leavesF (x :: r) i m = leavesF r (i+1) (if x.left < 0 then (x.var.toNat,i) :: m else m):=rfl
def isVar (v:Nat) (x:VN):Bool:=decide (x.left < 0) && decide (x.var = (v:Int))
theorem step_leaf {i:Nat} {x:VN} {sc sc':(Nat→Bool) × (Nat→Bool)} (h:stepF i x sc = some sc') (hx:x.left < 0):leafB x = true∧1≤x.var∧x.var≤128∧sc.1 x.var.toNat = false∧sc'.1 = setB sc.1 x.var.toNat:=by
 unfold stepF at h
 split at h
 ·rename_i hl
  split at h
  ·cases h
  ·rename_i hs
   simp only [Option.some.injEq] at h
   have hb:=hl
   simp only [leafB,Bool.and_eq_true,decide_eq_true_eq] at hb
   exact ⟨hl,hb.2.1,hb.2.2,by simpa using hs,by rw [←h]⟩
 ·rename_i hl
  rcases stepF_some (i:=i) (x:=x) (sc:=sc) (sc':=sc') (by unfold stepF;rw [if_neg hl];exact h) with ⟨h2,_⟩ | ⟨_,_,h3,_⟩
  ·exact absurd h2 hl
  ·omega
theorem step_inner {i:Nat} {x:VN} {sc sc':(Nat→Bool) × (Nat→Bool)} (h:stepF i x sc = some sc') (hx:¬ x.left < 0):sc'.1 = sc.1:=by
 have hl:¬ leafB x = true:=by
  intro e
  simp only [leafB,Bool.and_eq_true,decide_eq_true_eq] at e
  omega
 unfold stepF at h
 rw [if_neg hl] at h
 split at h
 ·cases h
 ·split at h
  ·cases h
  ·split at h
   ·cases h
   ·simp only [Option.some.injEq] at h
    rw [←h]
theorem run_cons {x:VN} {r:List VN} {i:Nat} {sc sc':(Nat→Bool) × (Nat→Bool)} (h:runF (x :: r) i sc = some sc'):∃ s1,stepF i x sc = some s1∧runF r (i+1) s1 = some sc':=by
 unfold runF at h
 split at h
 ·cases h
 ·rename_i s1 h1
  exact ⟨s1,h1,h⟩
theorem run_seen:∀ (l:List VN) (i:Nat) (sc sc':(Nat→Bool) × (Nat→Bool)) (v:Nat),runF l i sc = some sc'→sc.1 v = true→l.findIdx? (isVar v) = none
 | [],_,_,_,_,_,_=>rfl
 | x :: r,i,sc,sc',v,h,hv=>by
   obtain ⟨s1,h1,h2⟩:=run_cons h
   by_cases hx:x.left < 0
   ·obtain ⟨_,a1,a2,a3,a4⟩:=step_leaf h1 hx
    have hne:¬ x.var = (v:Int):=by
     intro e
     rw [e] at a3
     simp [hv] at a3
    have:=run_seen r (i+1) s1 sc' v h2 (by rw [a4];simp [setB,hv])
    rw [List.findIdx?_cons,this]
    simp [isVar,hne]
   ·have:=run_seen r (i+1) s1 sc' v h2 (by rw [step_inner h1 hx];exact hv)
    rw [List.findIdx?_cons,this]
    simp [isVar,hx]
theorem leaves_find:∀ (l:List VN) (i:Nat) (sc sc':(Nat→Bool) × (Nat→Bool)) (m:List (Nat × Nat)) (v:Nat),runF l i sc = some sc' →
  asc (leavesF l i m) v = match l.findIdx? (isVar v) with | some j=>some (i+j) | none=>asc m v
 | [],_,_,_,_,_,_=>rfl
 | x :: r,i,sc,sc',m,v,h=>by
   obtain ⟨s1,h1,h2⟩:=run_cons h
   have ih:=fun m=>leaves_find r (i+1) s1 sc' m v h2
   unfold leavesF
   rw [ih,List.findIdx?_cons]
   by_cases hx:x.left < 0
   ·obtain ⟨_,a1,a2,a3,a4⟩:=step_leaf h1 hx
    by_cases hv:x.var = (v:Int)
    ·have hs:=run_seen r (i+1) s1 sc' v h2 (by rw [a4,hv];simp [setB])
     rw [hs]
     simp [isVar,hx,hv,asc]
    ·have hne:¬ v = x.var.toNat:=by omega
     simp only [isVar,hx,hv,decide_true,decide_false,Bool.and_false,if_true,Bool.false_eq_true,if_false]
     cases hf:r.findIdx? (isVar v) with
     | none=>simp [hf,asc,hne]
     | some j=>simp [hf];omega
   ·simp only [isVar,hx,decide_false,Bool.false_and,Bool.false_eq_true,if_false]
    cases hf:r.findIdx? (isVar v) with
    | none=>simp [hf]
    | some j=>simp [hf];omega
theorem leaves_at {t:List VN} (h:checkF t = 0):asc (leavesF t 0 []) = leafAt t:=by
 obtain ⟨_,_,sc,hr,_⟩:=check_ok h
 funext v
 rw [leaves_find t 0 _ _ [] v hr]
 show _ = t.findIdx? (isVar v)
 cases t.findIdx? (isVar v) with
 | none=>rfl
 | some j=>simp
theorem run_leaf:∀ (t:List VN) (i:Nat) (sc sc':(Nat→Bool) × (Nat→Bool)),runF t i sc = some sc'→∀ k (hk:k < t.length),t[k].left < 0→1≤t[k].var∧t[k].var≤128
 | [],_,_,_,_,k,hk,_=>absurd hk (Nat.not_lt_zero _)
 | x :: r,i,sc,sc',h,k,hk,hl=>by
   obtain ⟨s1,h1,h2⟩:=run_cons h
   cases k with
   | zero=>obtain ⟨_,a1,a2,_⟩:=step_leaf h1 hl;exact ⟨a1,a2⟩
   | succ k=>simpa using run_leaf r (i+1) s1 sc' h2 k (by simpa using hk) (by simpa using hl)
theorem chk_leaf {t:List VN} (h:checkF t = 0) {k:Nat} (hk:k < t.length) (hl:t[k].left < 0):1≤t[k].var∧t[k].var≤128:=by
 obtain ⟨_,_,sc,hr,_⟩:=check_ok h
 exact run_leaf t 0 _ _ hr k hk hl
end Go.Proofs.YtmnjakejhbpkoaaGreatDoor
namespace Go.Proofs.YtmnjakejhbpkoaaGreatDoor
open Go Go.RowKit Go.Shelf
def cNode:SNode:={ pl:=-1,lit:=0,el:=[],le:=0 }
def newSt (t:List VN):St:={ tree:=t,nodes:=[cNode,cNode],uniq:=[],ands:=[],nots:=[] }
def RetNew (t:List VN) (w:World) (e:Ending) (w':World):Prop:=∃ B,e = .returned (.tuple #[.pointer (some ⟨B.sb,0,none⟩),.int .i64 0])∧Rep B (newSt t) w'∧(∀ k∈B.mut,w.heap.size≤k)∧(∀ k∈B.eb,w.heap.size≤k)∧w.heap.size≤B.tb∧Below w.heap.size w w'
theorem mapEmpty {α β:Type} [DecidableEq α] (enc:α→Value) (encV:β→Value) {w:World} {b:Nat} (h:w.heap[b]? = some (.map #[] 0)):MapAt enc encV w b (fun _=>none) :=
 ⟨[],0,h,fun a=>rfl,⟨fun e he=>absurd he (by simp),List.nodup_nil⟩⟩
theorem newRep {t:List VN} {w:World} {sb nb lb tb cap ub:Nat} {tcs:Array Value} {lm:Nat→Option Nat} (hT:TzTab w) (hP:PowTab w) (hg:∀ k∈[sb,nb,lb,ub,ub+1,ub+1+1],k≠gPow∧k≠gTz)
  (hs:w.heap[sb]? = some (.cells #[.slice (some ⟨tb,0,none⟩) t.length cap,.map (some lb),.slice (some ⟨nb,0,none⟩) 2 2,.map (some ub),.map (some (ub+1)),.map (some (ub+1+1))] tStore (0,0)))
  (hn:w.heap[nb]? = some (.cells constCells tNode (0,0))) (ht:w.heap[tb]? = some (.cells tcs 106 (0,0))) (htc:∀ j u,(treeCells t)[j]? = some u→tcs[0+j]? = some u)
  (hl:MapAt encNat encNat w lb (leafAt t)) (h0:w.heap[ub]? = some (.map #[] 0)) (h1:w.heap[ub+1]? = some (.map #[] 0)) (h2:w.heap[ub+1+1]? = some (.map #[] 0)) (hlu:lb < ub) :
  Rep { sb:=sb,tb:=tb,tc:=cap,lb:=lb,nb:=nb,ub:=ub,ab:=ub+1,mb:=ub+1+1,eb:=[] } (newSt t) w where
 tz:=hT
 pow:=hP
 glob:=fun k hk=>hg k (by simp [Blks.mut] at hk ⊢;omega)
 store:=⟨.slice (some ⟨nb,0,none⟩) 2 2,[.slice none 0 0,.slice none 0 0],hs,⟨rfl,⟨by simp [newSt,flatN,nodeCells],.inr ⟨nb,2,constCells,rfl,Nat.zero_le _,hn,Nat.le_refl _,by unfold maxLen;omega,rfl,rfl⟩⟩,rfl,fun i hi hv=>by
   match i,hi with
   | 0,_=>exact elAt_nil w
   | 1,_=>exact elAt_nil w⟩,fun v hv b hb=>by
   simp at hv
   rw [hv] at hb
   simp [Value.ownBlock] at hb⟩
 tree:=⟨tcs,(0,0),ht,htc⟩
 leaf:=hl
 uniq:=mapEmpty encKey encNat h0
 ands:=mapEmpty encPr encNat h1
 nots:=mapEmpty encNat encNat h2
 apart:=by refine ⟨?_,?_,?_,?_,?_,?_⟩ <;> simp <;> omega
 small:=⟨by simp [newSt],fun n hn=>by
  have:n = cNode:=by simpa [newSt] using hn
  subst this
  refine ⟨by decide,by decide,by decide,by decide,?_⟩
  exact ⟨by simp [cNode],fun p hp=>absurd hp (by simp [cNode])⟩⟩
def NewLoop (t:List VN) (w:World) (lb nb sb:Nat) (sc:Array Value) (k:Nat) (wr:World):Prop :=
 ∃ m,MapAt encNat encNat wr lb (asc m)∧leavesF (t.drop k) k m = leavesF t 0 []∧wr.heap[sb]? = some (.cells sc tStore (0,0))∧wr.heap[nb]? = some (.cells constCells tNode (0,0))∧Below lb w wr
set_option maxRecDepth 100000 in
set_option maxHeartbeats 4000000 in
theorem new_ok {t:List VN} (w:World) (b o cap:Nat) (hT:TzTab w) (hP:PowTab w) (h:TreeAt w b o t) (hc:checkF t = 0) :
  Calls Tryz.prog 151 #[.slice (some ⟨b,o,none⟩) t.length cap] w (RetNew t w):=by
 have hq:=check_any w (some ⟨b,o,none⟩) cap (.inr ⟨b,o,rfl,h⟩)
 obtain ⟨ht0,ht1,_⟩:=check_ok hc
 rw [hc] at hq
 have hmm:∀ w,(Instr.makeMap 142 none).run Tryz.prog w = .ok (.map (some w.heap.size)) (w.alloc (.map #[] 0)):=fun w=>rfl
 go_enter Tryz.func151,Tryz.ntmps151
 go_wp2_with fail
 refine hq.mono ?_
 rintro e w1 ⟨rfl,hx1⟩
 have hq2:=clone_tree w1 b o cap t (h.ext hx1) (by omega)
 replace hc:=Lib.hid hc
 clear hq
 go_wp2_with fail
 refine hq2.mono ?_
 rintro e w2 ⟨g,cap2,tcs,rfl,hg1,hg2,hg3,hb2⟩
 replace hg2:=Lib.hid hg2
 replace hg3:=Lib.hid hg3
 clear hq2
 go_wp2_with fail
 have hx3:Ext w2 (((w2.alloc (.map #[] 0)).alloc (.cells #[.int .i64 (-1),.int .i64 0,.slice none 0 0,.int .u64 0,.int .u64 0,.int .i64 (-1),.int .i64 0,.slice none 0 0,.int .u64 0,.int .u64 0] 158)).alloc (.cells #[.slice (some ⟨g,0,none⟩) t.length cap2,.map (some w2.heap.size),.slice (some ⟨w2.heap.size+1,0,none⟩) 2 2,.map none,.map none,.map none] 163)):=(((Ext.refl w2).alloc _).alloc _).alloc _
 obtain ⟨g0,g1,g2⟩:=three_all w2 (.map #[] 0) (.cells #[.int .i64 (-1),.int .i64 0,.slice none 0 0,.int .u64 0,.int .u64 0,.int .i64 (-1),.int .i64 0,.slice none 0 0,.int .u64 0,.int .u64 0] 158) (.cells #[.slice (some ⟨g,0,none⟩) t.length cap2,.map (some w2.heap.size),.slice (some ⟨w2.heap.size+1,0,none⟩) 2 2,.map none,.map none,.map none] 163)
 generalize ((w2.alloc (.map #[] 0)).alloc (.cells #[.int .i64 (-1),.int .i64 0,.slice none 0 0,.int .u64 0,.int .u64 0,.int .i64 (-1),.int .i64 0,.slice none 0 0,.int .u64 0,.int .u64 0] 158)).alloc (.cells #[.slice (some ⟨g,0,none⟩) t.length cap2,.map (some w2.heap.size),.slice (some ⟨w2.heap.size+1,0,none⟩) 2 2,.map none,.map none,.map none] 163) = w3 at *
 have hw0:w.heap.size≤w2.heap.size:=Nat.le_trans hx1.size hb2.size
 have hbw2:Below w.heap.size w w2:=hx1.below.trans (hb2.mono hx1.size)
 have hloop0:Hid (NewLoop t w2 w2.heap.size (w2.heap.size+1) (w2.heap.size+1+1) #[.slice (some ⟨g,0,none⟩) t.length cap2,.map (some w2.heap.size),.slice (some ⟨w2.heap.size+1,0,none⟩) 2 2,.map none,.map none,.map none] 0 w3):=Lib.hid
  ⟨[],mapEmpty _ _ g0,rfl,g2,g1,hx3.below⟩
 have hx3s:=(Array.getElem?_eq_some_iff.1 g2).1
 clear g0 g1 g2 hx3
 have hgl1:=hP.lt
 have hgl2:=hT.lt'
 have hTw:=hT.same (hbw2.block _ hgl2)
 have hPw:=hP.same (hbw2.block _ hgl1)
 have htr:Hid (TreeAt w2 b o t):=Lib.hid (fun j u hj=>(hb2.cell (World.block_lt_of_cell? w1 _ ((h.ext hx1) j u hj))).trans ((h.ext hx1) j u hj))
 clear h hT hP hb2
 have hglt:g < w2.heap.size:=(Array.getElem?_eq_some_iff.1 hg2.out).1
 have hg1':w.heap.size≤g:=Nat.le_trans hx1.size hg1
 replace hTw:=Lib.hid hTw
 replace hPw:=Lib.hid hPw
 replace hbw2:=Lib.hid hbw2
 generalize hlb:w2.heap.size = lb at *
 replace hlb:=Lib.hid hlb
 go_loopw [23] (fun i wr=>∃ k:Nat,k≤t.length∧i = .int .i64 k∧Hid (NewLoop t w2 lb (lb+1) (lb+1+1) #[.slice (some ⟨g,0,none⟩) t.length cap2,.map (some lb),.slice (some ⟨lb+1,0,none⟩) 2 2,.map none,.map none,.map none] k wr))
  (fun i _=>t.length - (intOf i).toNat)
 case atStart=>exact ⟨0,Nat.zero_le _,rfl,hloop0⟩
 case round =>
  clear hloop0
  obtain ⟨k,hk,rfl,hI⟩:=hrel
  obtain ⟨m,hm,hlf,hs,hn,hb⟩:=hI.out
  clear hI
  by_cases hlt:k < t.length
  ·rw [List.drop_eq_getElem_cons hlt] at hlf
   rw [leaves_cons] at hlf
   have hv:=chk_leaf hc.out hlt
   obtain ⟨e0,e1,e2⟩:=htr.out.node hlt
   have htl:∀ j u,(treeCells t)[j]? = some u→b < lb:=fun j u hj=>by
    rw [←hlb.out]
    exact World.block_lt_of_cell? w2 _ (htr.out j u hj)
   have hblb:b < lb:=by rw [←hlb.out];exact World.block_lt_of_cell? w2 _ e0
   clear htl
   have e0:=(hb.cell (p:=⟨b,o+k * 3,none⟩) hblb).trans e0
   have e1:=(hb.cell (p:=⟨b,o+k * 3+1,none⟩) hblb).trans e1
   have e2:=(hb.cell (p:=⟨b,o+k * 3+2,none⟩) hblb).trans e2
   generalize t[k] = x at *
   obtain ⟨x1,x2,x3⟩:=x
   simp only at e0 e1 e2 hv hlf
   have hbx:=heap_alloc_new wr (.cells #[.int .i64 x1,.int .i64 x2,.int .i64 x3] 106)
   have hx4:Ext wr (wr.alloc (.cells #[.int .i64 x1,.int .i64 x2,.int .i64 x3] 106)):=(Ext.refl wr).alloc _
   have hm4:=hm.same (hx4.below.block _ hm.lt)
   have hs4:=(hx4.below.block _ (Array.getElem?_eq_some_iff.1 hs).1).trans hs
   have hn4:=(hx4.below.block _ (Array.getElem?_eq_some_iff.1 hn).1).trans hn
   have hml:=hm.lt
   have hb4:Below lb w2 (wr.alloc (.cells #[.int .i64 x1,.int .i64 x2,.int .i64 x3] 106)):=hb.alloc (by omega) _
   clear hs hn hm
   by_cases hx:x1 < 0
   ·obtain ⟨hv1,hv2⟩:=hv hx
    rw [if_pos hx] at hlf
    obtain ⟨v,rfl⟩:∃ v:Nat,x3 = v:=⟨x3.toNat,by omega⟩
    simp only [Int.toNat_natCast] at hlf
    have hd:decide (x1 < 0) = true:=decide_eq_true hx
    replace hlf:=Lib.hid hlf
    replace hs4:=Lib.hid hs4
    replace hn4:=Lib.hid hn4
    replace hm4:=Lib.hid hm4
    replace hbx:=Lib.hid hbx
    clear hv
    go_wp2_with fail
    generalize wr.alloc (.cells #[.int .i64 x1,.int .i64 x2,.int .i64 (v:Int)] 106) = w4 at *
    have hd4:w4.drew.heap = w4.heap:=rfl
    have f1:w4.drew.cell? ⟨lb+1+1,1,none⟩ = some (.map (some lb)):=by simp [World.cell?,hd4,hs4.out]
    have f2:w4.drew.cell? ⟨wr.heap.size,2,none⟩ = some (.int .i64 v):=by simp [World.cell?,hd4,hbx.out]
    obtain ⟨hpt,hM6⟩:=(hm4.out.same (w':=w4.drew) rfl).putI v k
    have hoth:∀ j,j≠lb→(putMap 3 Tryz.prog w4.drew lb (encNat v) (encNat k)).heap[j]? = w4.heap[j]?:=fun j hj=>putMap_other _ _ _ _ _ j hj
    obtain ⟨q1,q2,q3,_⟩:=putMap_rest (P:=Tryz.prog) 3 w4.drew lb (encNat v) (encNat k)
    have hnext:Hid (NewLoop t w2 lb (lb+1) (lb+1+1) #[.slice (some ⟨g,0,none⟩) t.length cap2,.map (some lb),.slice (some ⟨lb+1,0,none⟩) 2 2,.map none,.map none,.map none] (k+1) (putMap 3 Tryz.prog w4.drew lb (encNat v) (encNat k))):=Lib.hid
     ⟨(v,k) :: m,hM6,hlf.out,(hoth _ (by omega)).trans hs4.out,(hoth _ (by omega)).trans hn4.out,q1.trans hb4.os,q2.trans hb4.tape,q3.trans hb4.output,Nat.le_trans hb4.size (by rw [putMap_size];exact Nat.le_refl _),fun j hj=>(hoth j (by omega)).trans (hb4.block j hj)⟩
    clear hoth hd4 q1 q2 q3
    generalize putMap 3 Tryz.prog w4.drew lb (encNat v) (encNat k) = w6 at *
    go_region_law (fail)
    all_goals
     go_wp2_with fail
     go_roundw
     case rel=>exact ⟨k+1,by omega,by go_num,hnext⟩
     case measure=>simp [intOf];omega
   ·rw [if_neg hx] at hlf
    have hd:decide (x1 < 0) = false:=decide_eq_false hx
    replace hlf:=Lib.hid hlf
    replace hs4:=Lib.hid hs4
    replace hn4:=Lib.hid hn4
    replace hm4:=Lib.hid hm4
    replace hbx:=Lib.hid hbx
    go_wp2_with fail
    go_roundw
    case rel=>exact ⟨k+1,by omega,by go_num,Lib.hid ⟨m,hm4.out,hlf.out,hs4.out,hn4.out,hb4⟩⟩
    case measure=>simp [intOf];omega
  ·obtain rfl:k = t.length:=by omega
   rw [List.drop_length] at hlf
   have hlf2:m = leavesF t 0 []:=hlf
   subst hlf2
   rw [leaves_at hc.out] at hm
   have hq3:=rebuild_new hs hn
   replace hlf:=Lib.hid hlf
   replace hs:=Lib.hid hs
   replace hn:=Lib.hid hn
   replace hm:=Lib.hid hm
   go_wp2_with fail
   refine hq3.mono ?_
   rintro e w7 ⟨rfl,a1,a2,a3,a4,a5⟩
   have hsz:lb+1+1 < wr.heap.size:=(Array.getElem?_eq_some_iff.1 hs.out).1
   have hbt:Below w.heap.size w w7:=⟨a5.os.trans (hb.os.trans hbw2.out.os),a5.tape.trans (hb.tape.trans hbw2.out.tape),a5.output.trans (hb.output.trans hbw2.out.output),Nat.le_trans hbw2.out.size (Nat.le_trans hb.size a5.size),
    fun j hj=>(a5.block j (by omega) (by simp;omega)).trans ((hb.block j (by omega)).trans (hbw2.out.block j hj))⟩
   have hgl:∀ k∈[lb+1+1,lb+1,lb,wr.heap.size,wr.heap.size+1,wr.heap.size+1+1],k≠gPow∧k≠gTz:=fun k hk=>by
    simp only [List.mem_cons,List.not_mem_nil,or_false] at hk
    omega
   have hrep:=newRep (t:=t) (lm:=fun _=>none) (hTw.out.same ((a5.block _ (by omega) (by simp;omega)).trans (hb.block _ (by omega)))) (hPw.out.same ((a5.block _ (by omega) (by simp;omega)).trans (hb.block _ (by omega)))) hgl a1 ((a5.block _ (by omega) (by simp)).trans hn.out) ((a5.block g (by omega) (by simp;omega)).trans ((hb.block g hglt).trans hg2.out)) hg3.out (hm.out.same (a5.block _ (by omega) (by simp;omega))) a2 a3 a4 (by omega)
   have hend:RetNew t w (.returned (.tuple #[.pointer (some ⟨lb+1+1,0,none⟩),.int .i64 0])) w7:=⟨_,rfl,hrep,fun k hk=>by
     simp [Blks.mut] at hk
     omega,fun k hk=>absurd hk (by simp),hg1',hbt⟩
   replace hend:=Lib.hid hend
   clear a1 a2 a3 a4 a5 hbt hrep hq3
   go_wp2_with fail
   go_ret2
   exact hend.out
end Go.Proofs.YtmnjakejhbpkoaaGreatDoor
