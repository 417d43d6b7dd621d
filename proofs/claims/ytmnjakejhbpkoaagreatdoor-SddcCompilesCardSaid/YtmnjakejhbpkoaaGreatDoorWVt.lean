import Derived.Test.YtmnjakejhbpkoaaGreatDoorWNot
import Derived.Deep.OwnRows
import Derived.Test.YtmnjakejhbpkoaaGreatDoorWBase
set_option linter.unusedSimpArgs false
set_option linter.unusedVariables false
namespace Go.Proofs.YtmnjakejhbpkoaaGreatDoor
open Go Go.RowKit Go.Shelf
theorem vnEq (a1 a2 a3 b1 b2 b3:Int) (w:World):(Op.equal 106 (.agg #[.int .i64 a1,.int .i64 a2,.int .i64 a3]) (.agg #[.int .i64 b1,.int .i64 b2,.int .i64 b3])).run Tryz.prog w = .ok (decide (a1 = b1) && decide (a2 = b2) && decide (a3 = b3)) w:=by
 unfold Op.equal Op.maxDepth
 rw [run_equalIn_agg w _ _ _ _ (by kernel_rfl) (by kernel_rfl)]
 simp only [Program.fieldsOf,Tryz.underlying106,List.toArray,Op.eqFields]
 simp [go_sem,Op.eqFields,Tryz.underlying3]
 by_cases h1:a1 = b1 <;> by_cases h2:a2 = b2 <;> by_cases h3:a3 = b3 <;> simp [h1,h2,h3]
theorem leafOf_any (v:Int) (w:World):Calls Tryz.prog 190 #[.int .i64 v] w fun e w'=>e = .returned (.agg #[.int .i64 (-1),.int .i64 (-1),.int .i64 v])∧Ext w w':=by
 go_enter Tryz.func190,Tryz.ntmps190
 go_wp2_with fail
 go_returns
 exact ⟨rfl,⟨by go_grown,Nat.le_refl _⟩⟩
def leafB (x:VN):Bool:=decide (x.left = -1) && decide (x.right = -1) && (decide (1≤x.var) && decide (x.var≤128))
theorem box3 {w:World} {k:Nat} {x y z:Value} {t:TypeId} (h:w.heap[k]? = some (.cells #[x,y,z] t (0,0))):w.cell? ⟨k,0,none⟩ = some x∧w.cell? ⟨k,1,none⟩ = some y∧w.cell? ⟨k,2,none⟩ = some z:=by
 refine ⟨?_,?_,?_⟩ <;> simp [World.cell?,h]
set_option maxRecDepth 100000 in
set_option maxHeartbeats 1000000 in
theorem isLeaf_any (x:VN) (w:World):Calls Tryz.prog 163 #[.agg #[.int .i64 x.left,.int .i64 x.right,.int .i64 x.var]] w fun e w'=>e = .returned (.bool (leafB x))∧Ext w w':=by
 obtain ⟨l,r,v⟩:=x
 show Calls Tryz.prog 163 #[.agg #[.int .i64 l,.int .i64 r,.int .i64 v]] w fun e w'=>e = .returned (.bool (leafB ⟨l,r,v⟩))∧Ext w w'
 have hbox:=heap_alloc_new w (.cells #[.int .i64 l,.int .i64 r,.int .i64 v] 106)
 have hx0:Ext w (w.alloc (.cells #[.int .i64 l,.int .i64 r,.int .i64 v] 106)):=(Ext.refl w).alloc _
 have hl:=Lib.hid (show leafB ⟨l,r,v⟩ = (decide (l = -1) && decide (r = -1) && (decide (1≤v) && decide (v≤128))) from rfl)
 have heq:∀ w',(Op.equalIn 10000 106 (.agg #[.int .i64 l,.int .i64 r,.int .i64 v]) (.agg #[.int .i64 (-1),.int .i64 (-1),.int .i64 v])).run Tryz.prog w' = .ok (decide (l = -1) && decide (r = -1)) w':=fun w'=>by
  have h2:(Op.equalIn 10000 106 (.agg #[.int .i64 l,.int .i64 r,.int .i64 v]) (.agg #[.int .i64 (-1),.int .i64 (-1),.int .i64 v])).run Tryz.prog w' = .ok (decide (l = -1) && decide (r = -1) && decide (v = v)) w':=vnEq l r v (-1) (-1) v w'
  rw [h2];simp
 have fin:∀ (b:Bool),b = leafB ⟨l,r,v⟩→leafB ⟨l,r,v⟩ = b:=fun b h=>h.symm
 replace fin:=Lib.hid fin
 by_cases h1:1≤v
 ·by_cases h2:v≤128
  ·go_enter Tryz.func163,Tryz.ntmps163
   go_wp2_with fail
   generalize w.alloc (.cells #[.int .i64 l,.int .i64 r,.int .i64 v] 106) = w1 at *
   obtain ⟨b0,b1,b2⟩:=box3 hbox
   have F1:∀ w':World,Ext w1 w'→w'.cell? ⟨w.heap.size,0,none⟩ = some (.int .i64 l)∧w'.cell? ⟨w.heap.size,1,none⟩ = some (.int .i64 r)∧w'.cell? ⟨w.heap.size,2,none⟩ = some (.int .i64 v):=fun w' h=>⟨h.cell b0,h.cell b1,h.cell b2⟩
   replace F1:=Lib.hid F1
   (refine wp_region_below (by kernel_rfl) (by kernel_rfl) ?_
    repeat (refine wpQuiet_step (fun K hK=>?_)
            go_simp
            first
             | (refine hK _ ?_;clear hK K)
             | (replace hK:=Lib.hid hK
                apply Exists.intro
                refine ⟨fun wq hq=>?_,hK.out _ ?_⟩
                ·(obtain ⟨f1,f2,f3⟩:=F1.out wq hq)
                 go_simp
                 first
                  | done
                  | rfl
                  | exact ⟨rfl,rfl⟩
                  | (refine (leafOf_any _ _).mono ?_;rintro e w' ⟨rfl,hb⟩;exact ⟨rfl,hq.trans hb⟩)
                clear hK K))
    refine wpQuiet_nil ?_)
   intro w2 hw2
   go_wp2_with fail
   go_ret
   exact ⟨by rw [hl.out];simp [h1,h2],hx0.trans hw2⟩
  ·have d2:decide (v≤128) = false:=decide_eq_false h2
   go_enter Tryz.func163,Tryz.ntmps163
   go_wp2_with fail
   generalize w.alloc (.cells #[.int .i64 l,.int .i64 r,.int .i64 v] 106) = w1 at *
   obtain ⟨b0,b1,b2⟩:=box3 hbox
   have F1:∀ w':World,Ext w1 w'→w'.cell? ⟨w.heap.size,0,none⟩ = some (.int .i64 l)∧w'.cell? ⟨w.heap.size,1,none⟩ = some (.int .i64 r)∧w'.cell? ⟨w.heap.size,2,none⟩ = some (.int .i64 v):=fun w' h=>⟨h.cell b0,h.cell b1,h.cell b2⟩
   replace F1:=Lib.hid F1
   (refine wp_region_below (by kernel_rfl) (by kernel_rfl) ?_
    repeat (refine wpQuiet_step (fun K hK=>?_)
            go_simp
            first
             | (refine hK _ ?_;clear hK K)
             | (replace hK:=Lib.hid hK
                apply Exists.intro
                refine ⟨fun wq hq=>?_,hK.out _ ?_⟩
                ·(obtain ⟨f1,f2,f3⟩:=F1.out wq hq)
                 go_simp
                 first
                  | done
                  | rfl
                  | exact ⟨rfl,rfl⟩
                  | (refine (leafOf_any _ _).mono ?_;rintro e w' ⟨rfl,hb⟩;exact ⟨rfl,hq.trans hb⟩)
                clear hK K))
    refine wpQuiet_nil ?_)
   intro w2 hw2
   go_wp2_with fail
   go_ret
   exact ⟨by rw [hl.out];simp [h1,h2],hx0.trans hw2⟩
 ·have d1:decide (1≤v) = false:=decide_eq_false h1
  go_enter Tryz.func163,Tryz.ntmps163
  go_wp2_with fail
  generalize w.alloc (.cells #[.int .i64 l,.int .i64 r,.int .i64 v] 106) = w1 at *
  obtain ⟨b0,b1,b2⟩:=box3 hbox
  have F1:∀ w':World,Ext w1 w'→w'.cell? ⟨w.heap.size,0,none⟩ = some (.int .i64 l)∧w'.cell? ⟨w.heap.size,1,none⟩ = some (.int .i64 r)∧w'.cell? ⟨w.heap.size,2,none⟩ = some (.int .i64 v):=fun w' h=>⟨h.cell b0,h.cell b1,h.cell b2⟩
  replace F1:=Lib.hid F1
  (refine wp_region_below (by kernel_rfl) (by kernel_rfl) ?_
   repeat (refine wpQuiet_step (fun K hK=>?_)
           go_simp
           first
            | (refine hK _ ?_;clear hK K)
            | (replace hK:=Lib.hid hK
               apply Exists.intro
               refine ⟨fun wq hq=>?_,hK.out _ ?_⟩
               ·(obtain ⟨f1,f2,f3⟩:=F1.out wq hq)
                go_simp
                first
                 | done
                 | rfl
                 | exact ⟨rfl,rfl⟩
                 | (refine (leafOf_any _ _).mono ?_;rintro e w' ⟨rfl,hb⟩;exact ⟨rfl,hq.trans hb⟩)
               clear hK K))
   refine wpQuiet_nil ?_)
  intro w2 hw2
  go_wp2_with fail
  go_ret
  exact ⟨by rw [hl.out];simp [h1];first | done | (intros;omega),hx0.trans hw2⟩
end Go.Proofs.YtmnjakejhbpkoaaGreatDoor
namespace Go.Proofs.YtmnjakejhbpkoaaGreatDoor
open Go Go.RowKit Go.Shelf
def setB (f:Nat→Bool) (i:Nat):Nat→Bool:=fun j=>if j = i then true else f j
def kidF (i:Nat) (k:Int) (c:Nat→Bool):Option (Nat→Bool):=if k < 0∨(i:Int)≤k∨c k.toNat = true then none else some (setB c k.toNat)
def stepF (i:Nat) (x:VN) (sc:(Nat→Bool) × (Nat→Bool)):Option ((Nat→Bool) × (Nat→Bool)) :=
 if leafB x = true then (if sc.1 x.var.toNat = true then none else some (setB sc.1 x.var.toNat,sc.2))
 else if x.var≠0 then none
 else match kidF i x.left sc.2 with
  | none=>none
  | some c=>match kidF i x.right c with
    | none=>none
    | some c'=>some (sc.1,c')
def runF:List VN→Nat→((Nat→Bool) × (Nat→Bool))→Option ((Nat→Bool) × (Nat→Bool))
 | [],_,sc=>some sc
 | x :: r,i,sc=>match stepF i x sc with
   | none=>none
   | some sc'=>runF r (i+1) sc'
def endF (n:Nat):Option ((Nat→Bool) × (Nat→Bool))→Int
 | none=>1
 | some sc=>if (List.range (n - 1)).all sc.2 = true then 0 else 1
def checkF (t:List VN):Int:=if t.length = 0∨255 < t.length then 1 else endF t.length (runF t 0 (fun _=>false,fun _=>false))
def BoolsAt (w:World) (b:Nat) (t:TypeId) (n:Nat) (f:Nat→Bool):Prop:=∃ c,w.heap[b]? = some (.cells c t (0,0))∧c.size = n∧∀ j,j < n→c[j]? = some (.bool (f j))
theorem BoolsAt.cell {w:World} {b:Nat} {t:TypeId} {n:Nat} {f:Nat→Bool} (h:BoolsAt w b t n f) {j:Nat} (hj:j < n):w.cell? ⟨b,j,none⟩ = some (.bool (f j))∧w.frozen? ⟨b,j,none⟩ = false:=by
 obtain ⟨c,h1,h2,h3⟩:=h
 simp [World.cell?,World.frozen?,h1,h3 j hj]
theorem BoolsAt.same {w w':World} {b:Nat} {t:TypeId} {n:Nat} {f:Nat→Bool} (h:BoolsAt w b t n f) (hs:w'.heap[b]? = w.heap[b]?):BoolsAt w' b t n f:=by
 obtain ⟨c,h1,h2,h3⟩:=h
 exact ⟨c,hs.trans h1,h2,h3⟩
theorem BoolsAt.lt {w:World} {b:Nat} {t:TypeId} {n:Nat} {f:Nat→Bool} (h:BoolsAt w b t n f):b < w.heap.size:=by
 obtain ⟨c,h1,h2,h3⟩:=h
 exact (Array.getElem?_eq_some_iff.1 h1).1
theorem BoolsAt.ext {w w':World} {b:Nat} {t:TypeId} {n:Nat} {f:Nat→Bool} (h:BoolsAt w b t n f) (hs:Ext w w'):BoolsAt w' b t n f:=h.same (hs.below.block b h.lt)
theorem BoolsAt.set {w:World} {b:Nat} {t:TypeId} {n:Nat} {f:Nat→Bool} (h:BoolsAt w b t n f) (i:Nat):BoolsAt (w.setCell ⟨b,i,none⟩ (.bool true)) b t n (setB f i):=by
 obtain ⟨c,h1,h2,h3⟩:=h
 refine ⟨_,heap_set h1 i _,by simpa using h2,fun j hj=>?_⟩
 rw [Array.getElem?_setIfInBounds]
 by_cases hij:i = j
 ·subst hij
  rw [if_pos rfl,if_pos (by omega)]
  simp [setB]
 ·rw [if_neg hij,h3 j hj]
  simp [setB,Ne.symm hij]
theorem BoolsAt.other {w:World} {b:Nat} {t:TypeId} {n:Nat} {f:Nat→Bool} (h:BoolsAt w b t n f) {b':Nat} (hb:b≠b') (i:Nat) (v:Value):BoolsAt (w.setCell ⟨b',i,none⟩ v) b t n f :=
 h.same (Below.heap_setCell _ _ _ b hb)
def TreeAt (w:World) (b o:Nat) (t:List VN):Prop:=∀ j u,(treeCells t)[j]? = some u→w.cell? ⟨b,o+j,none⟩ = some u
theorem treeCells_get (t:List VN) (k:Nat) (hk:k < t.length):(treeCells t)[k * 3]? = some (.int .i64 t[k].left)∧(treeCells t)[k * 3+1]? = some (.int .i64 t[k].right)∧(treeCells t)[k * 3+2]? = some (.int .i64 t[k].var):=by
 induction t generalizing k with
 | nil=>simp at hk
 | cons x r ih =>
   cases k with
   | zero=>simp [treeCells]
   | succ k =>
     obtain ⟨h1,h2,h3⟩:=ih k (by simpa using hk)
     have e:∀ m,(treeCells (x :: r))[(k+1) * 3+m]? = (treeCells r)[k * 3+m]?:=by
      intro m
      simp only [treeCells,List.flatMap_cons]
      rw [List.getElem?_append_right (by simp;omega)]
      congr 1;simp;omega
     have e0:=e 0
     simp only [Nat.add_zero] at e0
     rw [e0,e 1,e 2]
     simpa using ⟨h1,h2,h3⟩
theorem TreeAt.node {w:World} {b o:Nat} {t:List VN} (h:TreeAt w b o t) {k:Nat} (hk:k < t.length):w.cell? ⟨b,o+k * 3,none⟩ = some (.int .i64 t[k].left)∧w.cell? ⟨b,o+k * 3+1,none⟩ = some (.int .i64 t[k].right)∧w.cell? ⟨b,o+k * 3+2,none⟩ = some (.int .i64 t[k].var):=by
 obtain ⟨h1,h2,h3⟩:=treeCells_get t k hk
 exact ⟨h _ _ h1,by have:=h _ _ h2;rwa [←Nat.add_assoc] at this,by have:=h _ _ h3;rwa [←Nat.add_assoc] at this⟩
theorem TreeAt.ext {w w':World} {b o:Nat} {t:List VN} (h:TreeAt w b o t) (hs:Ext w w'):TreeAt w' b o t:=fun j u hj=>hs.cell (h j u hj)
theorem info_bool:(Tryz.prog.info? 4).map (fun i=>(i.zero,i.size,i.bytes)) = some (some (.bool false),1,1):=by kernel_rfl
set_option maxRecDepth 100000 in
theorem check_len {t:List VN} (w:World) (ba:Option Addr) (cap:Nat) (h:t.length = 0∨255 < t.length) :
  Calls Tryz.prog 149 #[.slice ba t.length cap] w fun e w'=>e = .returned (.int .i64 1)∧Ext w w':=by
 by_cases h0:t.length = 0
 ·rw [h0]
  go_enter Tryz.func149,Tryz.ntmps149
  go_wp2_with fail
  go_ret
  exact ⟨rfl,Ext.refl w⟩
 ·have h1:((t.length:Int) == 0) = false:=by simp;intro e;exact h0 (by simp [e])
  have h2:decide ((255:Int) < t.length) = true:=by simp;omega
  have h3:(255:Int) < t.length:=by omega
  go_enter Tryz.func149,Tryz.ntmps149
  go_wp2_with fail
  go_ret
  exact ⟨rfl,Ext.refl w⟩
theorem zeros129:Tryz.zeroCells195 = Array.replicate 129 (.bool false):=by kernel_rfl
theorem boolsNew (w:World) (c:Array Value) (t:TypeId) (n:Nat) (hc:c = Array.replicate n (.bool false)) (ad:Nat) (ha:ad = w.heap.size):BoolsAt (w.alloc (.cells c t)) ad t n (fun _=>false):=by
 subst hc
 refine ⟨_,heap_new_at w _ ad ha,by simp,fun j hj=>by simp [hj]⟩
theorem madeRep (n:Nat):madeCells #[.bool false] n = Array.replicate n (.bool false):=by
 apply Array.ext_getElem?
 intro j
 simp only [madeCells,Array.getElem?_map]
 by_cases hj:j < n
 ·simp [hj,Nat.mod_one]
 ·simp [hj]
def ChkLoop (w:World) (bs bc:Nat) (t:List VN) (R:Option ((Nat→Bool) × (Nat→Bool))) (k:Nat) (wr:World):Prop :=
 ∃ sc:(Nat→Bool) × (Nat→Bool),Ext w wr∧BoolsAt wr bs 195 129 sc.1∧BoolsAt wr bc 4 t.length sc.2∧runF (t.drop k) k sc = R
def kidsF (i:Nat):List Int→(Nat→Bool)→Option (Nat→Bool)
 | [],c=>some c
 | k :: r,c=>match kidF i k c with
   | none=>none
   | some c'=>kidsF i r c'
def contF (r:List VN) (k:Nat) (seen:Nat→Bool):Option (Nat→Bool)→Option ((Nat→Bool) × (Nat→Bool))
 | none=>none
 | some c=>runF r k (seen,c)
def ChkKids (w:World) (bs bc:Nat) (n:Nat) (seen:Nat→Bool) (i:Nat) (l r:Int) (S:Option (Nat→Bool)) (m:Nat) (wr:World):Prop :=
 ∃ c:Nat→Bool,Ext w wr∧BoolsAt wr bs 195 129 seen∧BoolsAt wr bc 4 n c∧kidsF i ([l,r].drop m) c = S
set_option maxRecDepth 100000 in
set_option maxHeartbeats 4000000 in
theorem check_run {t:List VN} (w:World) (b o cap:Nat) (h:TreeAt w b o t) (hl0:0 < t.length) (hl1:t.length≤255) :
  Calls Tryz.prog 149 #[.slice (some ⟨b,o,none⟩) t.length cap] w fun e w'=>e = .returned (.int .i64 (checkF t))∧Ext w w':=by
 have hmk:∀ w:World,(Instr.makeSlice 46 (.int .i64 t.length) (.int .i64 t.length)).run Tryz.prog w = .ok (.slice (some ⟨w.heap.size,0,none⟩) t.length t.length) (w.alloc (.cells (madeCells #[.bool false] t.length) 4)) :=
  fun w=>run_make_row' (P:=Tryz.prog) 46 4 (.bool false) 1 Tryz.underlying46 info_bool rfl .i64 .i64 t.length (by omega) (by omega) w
 have h1:((t.length:Int) == 0) = false:=by simp;intro e;simp [e] at hl0
 have h2:decide ((255:Int) < t.length) = false:=decide_eq_false (by omega)
 have h3:¬ (255:Int) < t.length:=by omega
 obtain ⟨R,hR⟩:∃ R,runF t 0 (fun _=>false,fun _=>false) = R:=⟨_,rfl⟩
 have hck:Hid (checkF t = endF t.length R):=Lib.hid (by
   unfold checkF
   rw [if_neg (by omega),hR])
 go_enter Tryz.func149,Tryz.ntmps149
 go_wp2_with fail
 have hs0:=(boolsNew w _ 195 129 zeros129 w.heap.size rfl).ext (((Ext.refl _).alloc (.cells (madeCells #[.bool false] t.length) 4)))
 have hc0:=boolsNew (w.alloc (.cells Tryz.zeroCells195 195)) _ 4 t.length (madeRep _) (w.heap.size+1) (by simp)
 have hx0:Ext w ((w.alloc (.cells Tryz.zeroCells195 195)).alloc (.cells (madeCells #[.bool false] t.length) 4)):=((Ext.refl w).alloc _).alloc _
 have hloop0:Hid (ChkLoop w w.heap.size (w.heap.size+1) t R 0 ((w.alloc (.cells Tryz.zeroCells195 195)).alloc (.cells (madeCells #[.bool false] t.length) 4))):=Lib.hid ⟨_,hx0,hs0,hc0,hR⟩
 clear hs0 hc0 hR
 generalize (w.alloc (.cells Tryz.zeroCells195 195)).alloc (.cells (madeCells #[.bool false] t.length) 4) = w0 at *
 go_loopw [24] (fun i wr=>∃ k:Nat,k≤t.length∧i = .int .i64 k∧Hid (ChkLoop w w.heap.size (w.heap.size+1) t R k wr))
  (fun i _=>t.length - (intOf i).toNat)
 case atStart=>exact ⟨0,Nat.zero_le _,rfl,hloop0⟩
 case round =>
  clear hloop0
  obtain ⟨k,hk,rfl,hI⟩:=hrel
  obtain ⟨sc,hX,hS,hC,hrun⟩:=hI.out
  clear hI
  by_cases hlt:k < t.length
  ·obtain ⟨n0,n1,n2⟩:=(h.ext hX).node hlt
   rw [List.drop_eq_getElem_cons hlt] at hrun
   generalize t[k] = x at *
   obtain ⟨xl,xr,xv⟩:=x
   simp only at n0 n1 n2
   have hbox:=heap_alloc_new wr (.cells #[.int .i64 xl,.int .i64 xr,.int .i64 xv] 106)
   have hx1:Ext wr (wr.alloc (.cells #[.int .i64 xl,.int .i64 xr,.int .i64 xv] 106)):=(Ext.refl wr).alloc _
   have hwl:=hX.size
   replace hrun:=Lib.hid hrun
   replace hS:=Lib.hid hS
   replace hC:=Lib.hid hC
   replace hbox:=Lib.hid hbox
   replace hx1:=Lib.hid hx1
   go_wp2_with fail
   generalize wr.alloc (.cells #[.int .i64 xl,.int .i64 xr,.int .i64 xv] 106) = w1 at *
   obtain ⟨b0,b1,b2⟩:=box3 hbox.out
   try go_wp2_with fail
   refine (isLeaf_any ⟨xl,xr,xv⟩ w1).mono ?_
   rintro e w2 ⟨rfl,hx2⟩
   have hx12:=hx1.out.trans hx2
   have c0:=hx2.cell b0
   have c1:=hx2.cell b1
   have c2:=hx2.cell b2
   have hS2:=Lib.hid (hS.out.ext hx12)
   have hC2:=Lib.hid (hC.out.ext hx12)
   have hX2:=Lib.hid (hX.trans hx12)
   clear b0 b1 b2 n0 n1 n2
   unfold runF stepF at hrun
   cases hlf:leafB ⟨xl,xr,xv⟩
   ·rw [hlf] at hrun
    by_cases hv0:xv = 0
    ·subst hv0
     obtain ⟨S,hS0⟩:∃ S,kidsF k [xl,xr] sc.2 = S:=⟨_,rfl⟩
     have hrun2:Hid (contF (t.drop (k+1)) (k+1) sc.1 S = R):=Lib.hid (by
       rw [←hrun.out,←hS0]
       simp only [kidsF]
       cases kidF k xl sc.2 with
       | none=>simp [contF]
       | some c=>cases hkc:kidF k xr c <;> simp [contF,hkc])
     have hin0:Hid (ChkKids w w.heap.size (w.heap.size+1) t.length sc.1 k xl xr S 0 w2):=Lib.hid ⟨sc.2,hX2.out,hS2.out,hC2.out,hS0⟩
     clear hS0 hrun hS hC hbox hx1 hx2 hx12
     have ix0:∀ w,(Instr.index 64 (.agg #[.int .i64 xl,.int .i64 xr]) (.int .i64 0)).run Tryz.prog w = .ok (.int .i64 xl) w:=fun _=>by kernel_rfl
     have ix1:∀ w,(Instr.index 64 (.agg #[.int .i64 xl,.int .i64 xr]) (.int .i64 1)).run Tryz.prog w = .ok (.int .i64 xr) w:=fun _=>by kernel_rfl
     go_wp2_with fail
     go_loopw [46] (fun i wi=>∃ m:Nat,m≤2∧i = .int .i64 m∧Hid (ChkKids w w.heap.size (w.heap.size+1) t.length sc.1 k xl xr S m wi))
      (fun i _=>2 - (intOf i).toNat)
     case atStart=>exact ⟨0,by omega,rfl,hin0⟩
     case round =>
      clear hin0 hX2 hS2 hC2
      obtain ⟨m,hm,rfl,hJ⟩:=hrel
      obtain ⟨ci,hXi,hSi,hCi,hkd⟩:=hJ.out
      clear hJ
      obtain rfl | rfl | rfl:m = 0∨m = 1∨m = 2:=by omega
      ·-- 0
       simp only [List.drop_zero,kidsF,kidF] at hkd
       by_cases hneg:xl < 0
       ·rw [if_pos (.inl hneg)] at hkd
        go_wp2_with fail
        go_ret
        refine ⟨?_,hXi⟩
        rw [hck.out,←hrun2.out,←hkd];rfl
       ·by_cases hge:(k:Int)≤xl
        ·rw [if_pos (.inr (.inl hge))] at hkd
         have dn:decide (xl < 0) = false:=decide_eq_false hneg
         have dg:decide ((k:Int)≤xl) = true:=decide_eq_true hge
         go_wp2_with fail
         go_ret
         refine ⟨?_,hXi⟩
         rw [hck.out,←hrun2.out,←hkd];rfl
        ·obtain ⟨kn,hkn⟩:∃ n:Nat,xl = n:=⟨xl.toNat,by omega⟩
         subst hkn
         obtain ⟨s1,s2⟩:=hCi.cell (j:=kn) (by omega)
         have dn:decide ((kn:Int) < 0) = false:=decide_eq_false hneg
         have dg:decide ((k:Int)≤kn) = false:=decide_eq_false hge
         have g1:(0:Int)≤kn:=by omega
         have g2:(kn:Int) < t.length:=by omega
         replace hCi:=Lib.hid hCi
         replace hSi:=Lib.hid hSi
         cases hcv:ci kn
         ·rw [if_neg (by simp [hcv];omega)] at hkd
          rw [hcv] at s1
          replace hkd:=Lib.hid hkd
          go_wp2_with fail
          go_roundw
          case rel=>exact ⟨0+1,by omega,by go_num,Lib.hid ⟨setB ci kn,hXi.setCell (by simp) _,hSi.out.other (by simp) _ _,hCi.out.set kn,by simpa [kidsF,kidF] using hkd.out⟩⟩
          case measure=>simp [intOf]
         ·rw [if_pos (by simp [hcv])] at hkd
          rw [hcv] at s1
          replace hkd:=Lib.hid hkd
          go_wp2_with fail
          go_ret
          refine ⟨?_,hXi⟩
          rw [hck.out,←hrun2.out,←hkd.out];rfl
      ·-- 1
       simp only [List.drop_succ_cons,List.drop_zero,kidsF,kidF] at hkd
       by_cases hneg:xr < 0
       ·rw [if_pos (.inl hneg)] at hkd
        go_wp2_with fail
        go_ret
        refine ⟨?_,hXi⟩
        rw [hck.out,←hrun2.out,←hkd];rfl
       ·by_cases hge:(k:Int)≤xr
        ·rw [if_pos (.inr (.inl hge))] at hkd
         have dn:decide (xr < 0) = false:=decide_eq_false hneg
         have dg:decide ((k:Int)≤xr) = true:=decide_eq_true hge
         go_wp2_with fail
         go_ret
         refine ⟨?_,hXi⟩
         rw [hck.out,←hrun2.out,←hkd];rfl
        ·obtain ⟨kn,hkn⟩:∃ n:Nat,xr = n:=⟨xr.toNat,by omega⟩
         subst hkn
         obtain ⟨s1,s2⟩:=hCi.cell (j:=kn) (by omega)
         have dn:decide ((kn:Int) < 0) = false:=decide_eq_false hneg
         have dg:decide ((k:Int)≤kn) = false:=decide_eq_false hge
         have g1:(0:Int)≤kn:=by omega
         have g2:(kn:Int) < t.length:=by omega
         replace hCi:=Lib.hid hCi
         replace hSi:=Lib.hid hSi
         cases hcv:ci kn
         ·rw [if_neg (by simp [hcv];omega)] at hkd
          rw [hcv] at s1
          replace hkd:=Lib.hid hkd
          go_wp2_with fail
          go_roundw
          case rel=>exact ⟨1+1,by omega,by go_num,Lib.hid ⟨setB ci kn,hXi.setCell (by simp) _,hSi.out.other (by simp) _ _,hCi.out.set kn,by simpa [kidsF,kidF] using hkd.out⟩⟩
          case measure=>simp [intOf]
         ·rw [if_pos (by simp [hcv])] at hkd
          rw [hcv] at s1
          replace hkd:=Lib.hid hkd
          go_wp2_with fail
          go_ret
          refine ⟨?_,hXi⟩
          rw [hck.out,←hrun2.out,←hkd.out];rfl
      ·simp only [List.drop_succ_cons,List.drop_zero,List.drop_nil,kidsF] at hkd
       replace hCi:=Lib.hid hCi
       replace hSi:=Lib.hid hSi
       go_wp2_with fail
       go_roundw
       case rel=>exact ⟨k+1,by omega,by go_num,Lib.hid ⟨(sc.1,ci),hXi,hSi.out,hCi.out,by rw [←hrun2.out,←hkd];rfl⟩⟩
       case measure=>simp [intOf];omega
    ·have hvb:(xv != 0) = true:=by simpa using hv0
     have hRn:R = none:=by rw [←hrun.out];simp [hv0]
     go_wp2_with fail
     go_ret
     refine ⟨?_,hX2.out⟩
     rw [hck.out,hRn];rfl
   ·have hv:=hlf
    simp only [leafB,Bool.and_eq_true,decide_eq_true_eq] at hv
    obtain ⟨_,hv1,hv2⟩:=hv
    obtain ⟨vn,rfl⟩:∃ n:Nat,xv = n:=⟨xv.toNat,by omega⟩
    obtain ⟨s1,s2⟩:=hS2.out.cell (j:=vn) (by omega)
    rw [hlf] at hrun
    have g1:(0:Int)≤vn:=by omega
    have g2:(vn:Int) < 129:=by omega
    cases hsv:sc.1 vn
    ·rw [hsv] at s1
     go_wp2_with fail
     go_roundw
     case rel=>exact ⟨k+1,by omega,by go_num,Lib.hid ⟨(setB sc.1 vn,sc.2),hX2.out.setCell (by simp) _,hS2.out.set vn,hC2.out.other (by simp) _ _,by have:=hrun.out;simpa [hsv] using this⟩⟩
     case measure=>simp [intOf];omega
    ·rw [hsv] at s1
     go_wp2_with fail
     go_ret
     refine ⟨?_,hX2.out⟩
     have:=hrun.out
     simp [hsv] at this
     rw [hck.out,←this];rfl
  ·obtain rfl:k = t.length:=by omega
   have hRs:R = some sc:=by rw [←hrun,List.drop_length];rfl
   obtain ⟨n',hn'⟩:∃ n',t.length = n'+1:=⟨t.length - 1,by omega⟩
   have hsub:IntKind.i64.wrap ((t.length:Int) - 1) = (n':Int):=by rw [hn'];rw [IntWalk.i64_in _ (by omega)];omega
   have hle:(n':Int)≤t.length:=by omega
   have hn0:(0:Int)≤n':=by omega
   replace hS:=Lib.hid hS
   replace hC:=Lib.hid hC
   replace hRs:=Lib.hid hRs
   have hend:Hid (checkF t = if (List.range n').all sc.2 = true then 0 else 1):=Lib.hid (by rw [hck.out,hRs.out];simp only [endF];rw [hn'];rfl)
   clear hrun
   replace hn':=Lib.hid hn'
   go_wp2_with fail
   go_loopw [73] (fun i wi=>∃ k:Nat,k≤n'∧i = .int .i64 k∧wi = wr∧Hid (∀ j,j < k→sc.2 j = true))
    (fun i _=>n' - (intOf i).toNat)
   case atStart=>exact ⟨0,Nat.zero_le _,rfl,rfl,Lib.hid (fun j hj=>absurd hj (Nat.not_lt_zero _))⟩
   case round =>
    obtain ⟨k,hk,rfl,rfl,hall⟩:=hrel
    by_cases hlt:k < n'
    ·obtain ⟨s1,s2⟩:=hC.out.cell (j:=k) (by have:=hn'.out;omega)
     have q1:(0:Int)≤k:=by omega
     have q2:(k:Int) < n':=by omega
     cases hcv:sc.2 k
     ·rw [hcv] at s1
      go_wp2_with fail
      go_ret
      refine ⟨?_,hX⟩
      rw [hend.out,if_neg (by
       intro hc
       have:=List.all_eq_true.1 hc k (List.mem_range.2 hlt)
       rw [hcv] at this;cases this)]
      rfl
     ·rw [hcv] at s1
      go_wp2_with fail
      go_roundw
      case rel=>exact ⟨k+1,by omega,by go_num,by first | rfl | trivial,Lib.hid (fun j hj=>by
       by_cases hjk:j = k
       ·rw [hjk];exact hcv
       ·exact hall.out j (by omega))⟩
      case measure=>simp [intOf];omega
    ·obtain rfl:k = n':=by omega
     go_wp2_with fail
     go_ret
     refine ⟨?_,hX⟩
     rw [hend.out,if_pos (List.all_eq_true.2 fun j hj=>hall.out j (List.mem_range.1 hj))]
     rfl
theorem check_any {t:List VN} (w:World) (ba:Option Addr) (cap:Nat) (h:t = []∨∃ b o,ba = some ⟨b,o,none⟩∧TreeAt w b o t) :
  Calls Tryz.prog 149 #[.slice ba t.length cap] w fun e w'=>e = .returned (.int .i64 (checkF t))∧Ext w w':=by
 by_cases hc:t.length = 0∨255 < t.length
 ·have:checkF t = 1:=if_pos hc
  rw [this]
  exact check_len w ba cap hc
 ·rcases h with rfl | ⟨b,o,rfl,ht⟩
  ·simp at hc
  ·exact check_run w b o cap ht (by omega) (by omega)
end Go.Proofs.YtmnjakejhbpkoaaGreatDoor
namespace Go.Proofs.YtmnjakejhbpkoaaGreatDoor
open Go Go.RowKit Go.Shelf
def setI (f:Nat→Int) (i:Nat) (v:Int):Nat→Int:=fun j=>if j = i then v else f j
def upStep (i:Nat) (x:VN) (f:Nat→Int):Nat→Int:=if leafB x = true then setI f i (-1) else setI (setI (setI f i (-1)) x.left.toNat i) x.right.toNat i
def upRun:List VN→Nat→(Nat→Int)→(Nat→Int)
 | [],_,f=>f
 | x :: r,i,f=>upRun r (i+1) (upStep i x f)
def upsF (t:List VN):Nat→Int:=upRun t 0 (fun _=>0)
def meetF (up:Nat→Int):Nat→Nat→Nat→Nat
 | 0,a,_=>a
 | f+1,a,b=>if a = b then a else if a < b then meetF up f (up a).toNat b else meetF up f a (up b).toNat
def meetT (t:List VN) (a b:Nat):Nat:=meetF (upsF t) (t.length+t.length) a b
theorem kidF_some {i:Nat} {k:Int} {c c':Nat→Bool} (h:kidF i k c = some c'):0≤k∧k < i∧c k.toNat = false∧c' = setB c k.toNat:=by
 unfold kidF at h
 split at h
 ·cases h
 ·rename_i hn
  simp only [Option.some.injEq] at h
  refine ⟨by omega,by omega,?_,h.symm⟩
  cases hc:c k.toNat
  ·rfl
  ·exact absurd (.inr (.inr hc)) hn
theorem stepF_some {i:Nat} {x:VN} {sc sc':(Nat→Bool) × (Nat→Bool)} (h:stepF i x sc = some sc') :
  (leafB x = true∧sc'.2 = sc.2)∨(leafB x = false∧x.var = 0∧0≤x.left∧x.left < i∧0≤x.right∧x.right < i∧x.left≠x.right∧sc'.2 = setB (setB sc.2 x.left.toNat) x.right.toNat):=by
 unfold stepF at h
 split at h
 ·rename_i hl
  split at h
  ·cases h
  ·simp only [Option.some.injEq] at h;exact .inl ⟨hl,by rw [←h]⟩
 ·rename_i hl
  split at h
  ·cases h
  ·rename_i hv
   split at h
   ·cases h
   ·rename_i c hc
    split at h
    ·cases h
    ·rename_i c' hc'
     simp only [Option.some.injEq] at h
     obtain ⟨a1,a2,a3,a4⟩:=kidF_some hc
     obtain ⟨b1,b2,b3,b4⟩:=kidF_some hc'
     refine .inr ⟨by simpa using hl,by simpa using hv,a1,a2,b1,b2,fun e=>?_,by rw [←h,b4,a4]⟩
     rw [a4,e] at b3
     simp [setB] at b3
theorem run_bounds:∀ (t:List VN) (i:Nat) (sc sc':(Nat→Bool) × (Nat→Bool)),runF t i sc = some sc' →
  ∀ k (hk:k < t.length),leafB t[k] = false→t[k].var = 0∧0≤t[k].left∧t[k].left < (i+k:Nat)∧0≤t[k].right∧t[k].right < (i+k:Nat)∧t[k].left≠t[k].right
 | [],_,_,_,_,k,hk,_=>absurd hk (Nat.not_lt_zero _)
 | x :: r,i,sc,sc',h,k,hk,hl=>by
   unfold runF at h
   split at h
   ·cases h
   ·rename_i sc1 h1
    cases k with
    | zero =>
      rcases stepF_some h1 with ⟨h2,_⟩ | ⟨_,h3,h4,h5,h6,h7,h8,_⟩
      ·simp only [List.getElem_cons_zero] at hl;rw [hl] at h2;cases h2
      ·exact ⟨h3,h4,by simpa using h5,h6,by simpa using h7,h8⟩
    | succ k =>
      have:=run_bounds r (i+1) sc1 sc' h k (by simpa using hk) (by simpa using hl)
      simp only [List.getElem_cons_succ]
      rw [show i+(k+1) = i+1+k from by omega]
      exact this
theorem check_ok {t:List VN} (h:checkF t = 0):0 < t.length∧t.length≤255∧∃ sc,runF t 0 (fun _=>false,fun _=>false) = some sc∧∀ j,j+1 < t.length→sc.2 j = true:=by
 unfold checkF at h
 split at h
 ·cases h
 ·rename_i hl
  refine ⟨by omega,by omega,?_⟩
  unfold endF at h
  split at h
  ·cases h
  ·rename_i sc hs
   refine ⟨sc,hs,fun j hj=>?_⟩
   split at h
   ·rename_i ha
    exact List.all_eq_true.1 ha j (List.mem_range.2 (by omega))
   ·cases h
theorem run_up:∀ (t:List VN) (i:Nat) (sc sc':(Nat→Bool) × (Nat→Bool)) (f:Nat→Int),runF t i sc = some sc'→(∀ j,sc.2 j = true→(j:Int) < f j∧f j < i) →
  ∀ j,sc'.2 j = true→(j:Int) < upRun t i f j∧upRun t i f j < (i+t.length:Nat)
 | [],i,sc,sc',f,h,hi,j,hj=>by
   simp only [runF,Option.some.injEq] at h
   subst h
   simpa [upRun] using hi j hj
 | x :: r,i,sc,sc',f,h,hi,j,hj=>by
   unfold runF at h
   split at h
   ·cases h
   ·rename_i sc1 h1
    have:=run_up r (i+1) sc1 sc' (upStep i x f) h (fun k hk=>?_) j hj
    ·simp only [upRun,List.length_cons]
     rw [show i+(r.length+1) = i+1+r.length from by omega]
     exact this
    ·unfold upStep
     rcases stepF_some h1 with ⟨h2,h3⟩ | ⟨h2,h3,h4,h5,h6,h7,h8,h9⟩
     ·rw [if_pos h2]
      rw [h3] at hk
      have:=hi k hk
      have hne:k≠i:=by omega
      simp only [setI,if_neg hne]
      omega
     ·rw [if_neg (by simp [h2])]
      rw [h9] at hk
      simp only [setI]
      by_cases hr:k = x.right.toNat
      ·rw [if_pos hr];omega
      ·rw [if_neg hr]
       by_cases hl:k = x.left.toNat
       ·rw [if_pos hl];omega
       ·rw [if_neg hl]
        have hk2:sc.2 k = true:=by simpa [setB,hr,hl] using hk
        have:=hi k hk2
        rw [if_neg (by omega)]
        omega
theorem ups_gt {t:List VN} (h:checkF t = 0) {j:Nat} (hj:j+1 < t.length):(j:Int) < upsF t j∧upsF t j < t.length:=by
 obtain ⟨_,_,sc,hs,hc⟩:=check_ok h
 have:=run_up t 0 _ sc (fun _=>0) hs (fun j hj=>by cases hj) j (hc j hj)
 simpa [upsF] using this
def IntsAt (w:World) (b:Nat) (t:TypeId) (n:Nat) (f:Nat→Int):Prop:=∃ c,w.heap[b]? = some (.cells c t (0,0))∧c.size = n∧∀ j,j < n→∃ v,c[j]? = some (.int .i64 v)∧v = f j
theorem IntsAt.cell {w:World} {b:Nat} {t:TypeId} {n:Nat} {f:Nat→Int} (h:IntsAt w b t n f) {j:Nat} (hj:j < n):w.cell? ⟨b,j,none⟩ = some (.int .i64 (f j))∧w.frozen? ⟨b,j,none⟩ = false:=by
 obtain ⟨c,h1,h2,h3⟩:=h
 obtain ⟨v,h4,rfl⟩:=h3 j hj
 simp [World.cell?,World.frozen?,h1,h4]
theorem IntsAt.same {w w':World} {b:Nat} {t:TypeId} {n:Nat} {f:Nat→Int} (h:IntsAt w b t n f) (hs:w'.heap[b]? = w.heap[b]?):IntsAt w' b t n f:=by
 obtain ⟨c,h1,h2,h3⟩:=h
 exact ⟨c,hs.trans h1,h2,h3⟩
theorem IntsAt.lt {w:World} {b:Nat} {t:TypeId} {n:Nat} {f:Nat→Int} (h:IntsAt w b t n f):b < w.heap.size:=by
 obtain ⟨c,h1,h2,h3⟩:=h
 exact (Array.getElem?_eq_some_iff.1 h1).1
theorem IntsAt.ext {w w':World} {b:Nat} {t:TypeId} {n:Nat} {f:Nat→Int} (h:IntsAt w b t n f) (hs:Ext w w'):IntsAt w' b t n f:=h.same (hs.below.block b h.lt)
theorem IntsAt.set {w:World} {b:Nat} {t:TypeId} {n:Nat} {f:Nat→Int} (h:IntsAt w b t n f) (i:Nat) (v:Int):IntsAt (w.setCell ⟨b,i,none⟩ (.int .i64 v)) b t n (setI f i v):=by
 obtain ⟨c,h1,h2,h3⟩:=h
 refine ⟨_,heap_set h1 i _,by simpa using h2,fun j hj=>?_⟩
 rw [Array.getElem?_setIfInBounds]
 by_cases hij:i = j
 ·subst hij
  rw [if_pos rfl,if_pos (by omega)]
  exact ⟨v,rfl,by simp [setI]⟩
 ·rw [if_neg hij]
  obtain ⟨u,h4,h5⟩:=h3 j hj
  exact ⟨u,h4,by simp [setI,Ne.symm hij,h5]⟩
theorem setI_comm (f:Nat→Int) (a b:Nat) (v:Int):setI (setI f a v) b v = setI (setI f b v) a v:=by
 funext j
 simp only [setI]
 by_cases h1:j = a <;> by_cases h2:j = b <;> simp [h1,h2]
theorem intsNew (w:World) (n:Nat) (t:TypeId) (ad:Nat) (ha:ad = w.heap.size):IntsAt (w.alloc (.cells (madeCells #[.int .i64 0] n) t)) ad t n (fun _=>0):=by
 refine ⟨_,heap_new_at w _ ad ha,by simp [madeCells],fun j hj=>⟨0,?_,rfl⟩⟩
 simp [madeCells,hj,Nat.mod_one]
theorem info_int:(Tryz.prog.info? 3).map (fun i=>(i.zero,i.size,i.bytes)) = some (some (.int .i64 0),1,8):=by kernel_rfl
def ParLoop (w:World) (g:Nat) (t:List VN) (k:Nat) (wr:World):Prop:=∃ f,Ext w wr∧IntsAt wr g 3 t.length f∧upRun (t.drop k) k f = upsF t
set_option maxRecDepth 100000 in
set_option maxHeartbeats 4000000 in
theorem parents_any {t:List VN} (w:World) (b o cap:Nat) (h:TreeAt w b o t) (hc:checkF t = 0) :
  Calls Tryz.prog 226 #[.slice (some ⟨b,o,none⟩) t.length cap] w fun e w'=>∃ g,w.heap.size≤g∧e = .returned (.slice (some ⟨g,0,none⟩) t.length t.length)∧IntsAt w' g 3 t.length (upsF t)∧Ext w w':=by
 have hmk:∀ w:World,(Instr.makeSlice 45 (.int .i64 t.length) (.int .i64 t.length)).run Tryz.prog w = .ok (.slice (some ⟨w.heap.size,0,none⟩) t.length t.length) (w.alloc (.cells (madeCells #[.int .i64 0] t.length) 3)) :=
  fun w=>run_make_row' (P:=Tryz.prog) 45 3 (.int .i64 0) 8 Tryz.underlying45 info_int rfl .i64 .i64 t.length (by have:=(check_ok hc).2.1;omega) (by have:=(check_ok hc).2.1;omega) w
 obtain ⟨hl0,hl1,sc,hrun,_⟩:=check_ok hc
 have hbd:=Lib.hid (run_bounds t 0 _ sc hrun)
 have hq:=check_any w (some ⟨b,o,none⟩) cap (.inr ⟨b,o,rfl,h⟩)
 rw [hc] at hq
 clear hrun hc
 go_enter Tryz.func226,Tryz.ntmps226
 go_wp2_with fail
 refine hq.mono ?_
 rintro e w1 ⟨rfl,hx1⟩
 clear hq
 go_wp2_with fail
 have hx0:Ext w (w1.alloc (.cells (madeCells #[.int .i64 0] t.length) 3)):=hx1.alloc _
 have hloop0:Hid (ParLoop w w1.heap.size t 0 (w1.alloc (.cells (madeCells #[.int .i64 0] t.length) 3))):=Lib.hid ⟨_,hx0,intsNew w1 t.length _ _ rfl,rfl⟩
 have hge:=hx1.size
 clear hx0 hx1
 generalize w1.alloc (.cells (madeCells #[.int .i64 0] t.length) 3) = w2 at *
 generalize w1.heap.size = g at *
 go_loopw [14] (fun i wr=>∃ k:Nat,k≤t.length∧i = .int .i64 k∧Hid (ParLoop w g t k wr))
  (fun i _=>t.length - (intOf i).toNat)
 case atStart=>exact ⟨0,Nat.zero_le _,rfl,hloop0⟩
 case round =>
  clear hloop0
  obtain ⟨k,hk,rfl,hI⟩:=hrel
  obtain ⟨f,hX,hG,hup⟩:=hI.out
  clear hI
  by_cases hlt:k < t.length
  ·obtain ⟨n0,n1,n2⟩:=(h.ext hX).node hlt
   have hbk:=hbd.out k hlt
   rw [List.drop_eq_getElem_cons hlt] at hup
   simp only [upRun] at hup
   generalize t[k] = x at *
   obtain ⟨xl,xr,xv⟩:=x
   simp only [Nat.zero_add] at n0 n1 n2 hbk
   have hbox:=heap_alloc_new wr (.cells #[.int .i64 xl,.int .i64 xr,.int .i64 xv] 106)
   have hx1:Ext wr (wr.alloc (.cells #[.int .i64 xl,.int .i64 xr,.int .i64 xv] 106)):=(Ext.refl wr).alloc _
   have hwl:=hX.size
   have hgl:=hG.lt
   obtain ⟨s1,s2⟩:=hG.cell hlt
   replace hG:=Lib.hid hG
   replace hbox:=Lib.hid hbox
   replace hx1:=Lib.hid hx1
   replace hup:=Lib.hid hup
   have s1':=hx1.out.cell s1
   have s2':(wr.alloc (.cells #[.int .i64 xl,.int .i64 xr,.int .i64 xv] 106)).frozen? ⟨g,k,none⟩ = false:=(World.frozen?_of_block (a:=⟨g,k,none⟩) (hx1.out.below.block _ hgl)).trans s2
   go_wp2_with fail
   have hx2:Ext w ((wr.setCell ⟨g,k,none⟩ (.int .i64 (-1))).alloc (.cells #[.int .i64 xl,.int .i64 xr,.int .i64 xv] 106)):=(hX.setCell (by simpa using hge) _).alloc _
   have hG2:=(hG.out.set k (-1)).ext ((Ext.refl _).alloc (.cells #[.int .i64 xl,.int .i64 xr,.int .i64 xv] 106))
   have hb2:((wr.setCell ⟨g,k,none⟩ (.int .i64 (-1))).alloc (.cells #[.int .i64 xl,.int .i64 xr,.int .i64 xv] 106)).heap[wr.heap.size]? = some (.cells #[.int .i64 xl,.int .i64 xr,.int .i64 xv] 106 (0,0)):=heap_new_at _ _ _ (by simp)
   clear s1 s2 s1' s2' hbox hx1 n0 n1 n2
   generalize (wr.setCell ⟨g,k,none⟩ (.int .i64 (-1))).alloc (.cells #[.int .i64 xl,.int .i64 xr,.int .i64 xv] 106) = w3 at *
   obtain ⟨b0,b1,b2⟩:=box3 hb2
   try go_wp2_with fail
   refine (isLeaf_any ⟨xl,xr,xv⟩ w3).mono ?_
   rintro e w4 ⟨rfl,hx4⟩
   have hG4:=Lib.hid (hG2.ext hx4)
   have hX4:=Lib.hid (hx2.trans hx4)
   have c0:=hx4.cell b0
   have c1:=hx4.cell b1
   have hb4:=(World.block_lt_of_cell? _ _ c0)
   clear b0 b1 b2 hG2 hx2 hx4 hb2
   cases hlf:leafB ⟨xl,xr,xv⟩
   ·obtain ⟨_,l0,l1,r0,r1,hne⟩:=hbk hlf
    clear hbk
    obtain ⟨ln,rfl⟩:∃ n:Nat,xl = n:=⟨xl.toNat,by omega⟩
    obtain ⟨rn,rfl⟩:∃ n:Nat,xr = n:=⟨xr.toNat,by omega⟩
    have q1:(ln:Int) < t.length:=by omega
    have q2:(rn:Int) < t.length:=by omega
    obtain ⟨s1,s2⟩:=hG4.out.cell (j:=ln) (by omega)
    obtain ⟨s3,s4⟩:=hG4.out.cell (j:=rn) (by omega)
    have hgw:g≠wr.heap.size:=by omega
    have hln:¬ (ln = rn):=by omega
    have hrn:¬ (rn = ln):=by omega
    go_wp2_with fail
    go_region_law (fail)
    all_goals
     go_wp2_with fail
     go_roundw
     case rel=>exact ⟨k+1,by omega,by go_num,Lib.hid ⟨_,((hX4.out.drew).setCell (by simpa using hge) _).setCell (by simpa using hge) _,((hG4.out.same (w':=w4.drew) rfl).set _ _).set _ _,by
      rw [←hup.out];unfold upStep;rw [if_neg (by simp [hlf])]
      first | rfl | (rw [setI_comm];rfl)⟩⟩
     case measure=>simp [intOf];omega
   ·go_wp2_with fail
    go_roundw
    case rel=>exact ⟨k+1,by omega,by go_num,Lib.hid ⟨_,hX4.out,hG4.out,by rw [←hup.out];unfold upStep;rw [if_pos hlf]⟩⟩
    case measure=>simp [intOf];omega
  ·obtain rfl:k = t.length:=by omega
   rw [List.drop_length] at hup
   go_wp2_with fail
   go_ret
   exact ⟨g,hge,rfl,by rw [←hup];exact hG,hX⟩
set_option maxRecDepth 100000 in
set_option maxHeartbeats 4000000 in
theorem meet_any {t:List VN} (w:World) (b o cap:Nat) (h:TreeAt w b o t) (hc:checkF t = 0) (x y:Nat) (hx:x < t.length) (hy:y < t.length) :
  Calls Tryz.prog 195 #[.slice (some ⟨b,o,none⟩) t.length cap,.int .i64 x,.int .i64 y] w fun e w'=>e = .returned (.int .i64 (meetT t x y))∧Ext w w':=by
 have hq:=parents_any w b o cap h hc
 have hl1:=(check_ok hc).2.1
 go_enter Tryz.func195,Tryz.ntmps195
 go_wp2_with fail
 refine hq.mono ?_
 rintro e w1 ⟨g,hg,rfl,hG,hX⟩
 have p1:decide ((x:Int) < 0) = false:=decide_eq_false (by omega)
 have p2:decide ((t.length:Int)≤x) = false:=decide_eq_false (by omega)
 have p3:decide ((y:Int) < 0) = false:=decide_eq_false (by omega)
 have p4:decide ((t.length:Int)≤y) = false:=decide_eq_false (by omega)
 clear hq
 replace hG:=Lib.hid hG
 go_wp2_with fail
 go_loopw [1,2] (fun i j wr=>∃ a b f:Nat,a < t.length∧b < t.length∧i = .int .i64 a∧j = .int .i64 b∧wr = w1∧Hid (meetF (upsF t) f a b = meetT t x y∧t.length+t.length≤f+a+b))
  (fun i j _=>t.length+t.length - (intOf i).toNat - (intOf j).toNat)
 case atStart=>exact ⟨x,y,t.length+t.length,hx,hy,rfl,rfl,rfl,Lib.hid ⟨rfl,by omega⟩⟩
 case round =>
  obtain ⟨a,b',f,ha,hb,rfl,rfl,rfl,hm⟩:=hrel
  clear p1 p2 p3 p4
  by_cases hab:a = b'
  ·subst hab
   have hd:((a:Int) != a) = false:=by simp
   have hr:a = meetT t x y:=by
    rw [←hm.out.1]
    cases f <;> simp [meetF]
   go_wp2_with fail
   go_ret
   exact ⟨by rw [←hr];rfl,hX⟩
  ·have hd:((a:Int) != b') = true:=by simp;omega
   obtain ⟨f,rfl⟩:∃ f',f = f'+1:=⟨f - 1,by have:=hm.out.2;omega⟩
   have hm1:=hm.out.1
   have hm2:=hm.out.2
   simp only [meetF,if_neg hab] at hm1
   have q1:(0:Int)≤a:=by omega
   have q2:(0:Int)≤b':=by omega
   have q3:(a:Int) < t.length:=by omega
   have q4:(b':Int) < t.length:=by omega
   by_cases hlt:a < b'
   ·rw [if_pos hlt] at hm1
    replace hm1:=Lib.hid hm1
    have hlt':decide ((a:Int) < b') = true:=decide_eq_true (by omega)
    obtain ⟨s1,_⟩:=hG.out.cell ha
    obtain ⟨u1,u2⟩:=ups_gt hc (j:=a) (by omega)
    go_wp2_with fail
    go_roundw
    case rel=>exact ⟨(upsF t a).toNat,b',f,by omega,hb,by congr 1;omega,rfl,by first | rfl | trivial,Lib.hid ⟨hm1.out,by omega⟩⟩
    case measure=>simp [intOf];omega
   ·rw [if_neg hlt] at hm1
    replace hm1:=Lib.hid hm1
    have hlt':decide ((a:Int) < b') = false:=decide_eq_false (by omega)
    obtain ⟨s1,_⟩:=hG.out.cell hb
    obtain ⟨u1,u2⟩:=ups_gt hc (j:=b') (by omega)
    go_wp2_with fail
    go_roundw
    case rel=>exact ⟨a,(upsF t b').toNat,f,ha,by omega,rfl,by congr 1;omega,by first | rfl | trivial,Lib.hid ⟨hm1.out,by omega⟩⟩
    case measure=>simp [intOf];omega
end Go.Proofs.YtmnjakejhbpkoaaGreatDoor
namespace Go.Proofs.YtmnjakejhbpkoaaGreatDoor
open Go Go.RowKit
def meetS (s:St) (a b:Int):Option Nat:=if checkF s.tree = 0∧0≤a∧a < s.tree.length∧0≤b∧b < s.tree.length then some (meetT s.tree a.toNat b.toNat) else none
def spreadF (g:St→Nat→Option (Nat × St)) (s:St) (a pl:Nat):Option (List (Nat × Nat) × St) :=
 match s.nodes[a]? with
 | none=>none
 | some n=>if n.pl = pl then some (n.el,s) else
   match s.tree[pl]? with
   | none=>none
   | some x=>match meetS s n.pl x.left with
     | none=>none
     | some m=>if (m:Int) = x.left then
        match g s a with
        | none=>none
        | some (b,s1)=>some ([(a,1),(b,0)],s1)
       else some ([(1,a)],s)
end Go.Proofs.YtmnjakejhbpkoaaGreatDoor
namespace Go.Proofs.YtmnjakejhbpkoaaGreatDoor
open Go Go.RowKit
def orF (nf:St→Nat→Option (Nat × St)) (af:St→Nat→Nat→Option (Nat × St)) (s:St) (a b:Nat):Option (Nat × St) :=
 match nf s a with
 | none=>none
 | some (x,s1)=>match nf s1 b with
   | none=>none
   | some (y,s2)=>match af s2 x y with
     | none=>none
     | some (z,s3)=>nf s3 z
def mkStep (of:St→Nat→Nat→Option (Nat × St)):List (Nat × Nat)→St→List (Nat × Nat)→List Nat→Option (St × List (Nat × Nat) × List Nat)
 | [],s,m,u=>some (s,m,u)
 | p :: r,s,m,u=>match asc m p.2 with
   | some q=>match of s q p.1 with
     | none=>none
     | some (z,s1)=>mkStep of r s1 ((p.2,z) :: m) u
   | none=>mkStep of r s ((p.2,p.1) :: m) (u++[p.2])
def ascD (m:List (Nat × Nat)) (a:Nat):Nat:=match asc m a with
 | some v=>v
 | none=>0
def makeF (of:St→Nat→Nat→Option (Nat × St)) (s:St) (pl:Nat) (l:List (Nat × Nat)):Option (Nat × St) :=
 match (if l.length≤1048576 then mkStep of l s [] [] else none) with
 | none=>none
 | some (s1,m,u) =>
   match u with
   | [x]=>some (x,s1)
   | [x,y]=>if x < 2∧y < 2 then some (ascD m 1,s1) else decideF s1 pl [(ascD m x,x),(ascD m y,y)]
   | u=>decideF s1 pl (u.map fun x=>(ascD m x,x))
end Go.Proofs.YtmnjakejhbpkoaaGreatDoor
namespace Go.Proofs.YtmnjakejhbpkoaaGreatDoor
open Go Go.RowKit
def andRow (af:St→Nat→Nat→Option (Nat × St)) (p:Nat × Nat):List (Nat × Nat)→St→List (Nat × Nat)→Option (List (Nat × Nat) × St)
 | [],s,out=>some (out,s)
 | q :: r,s,out=>match af s p.1 q.1 with
   | none=>none
   | some (pr,s1)=>if pr = 0 then andRow af p r s1 out else
     match af s1 p.2 q.2 with
     | none=>none
     | some (su,s2)=>andRow af p r s2 (out++[(pr,su)])
def andAll (af:St→Nat→Nat→Option (Nat × St)) (right:List (Nat × Nat)):List (Nat × Nat)→St→List (Nat × Nat)→Option (List (Nat × Nat) × St)
 | [],s,out=>some (out,s)
 | p :: r,s,out=>match andRow af p right s out with
   | none=>none
   | some (out',s1)=>andAll af right r s1 out'
def plOf (s:St) (a:Nat):Int:=match s.nodes[a]? with
 | some n=>n.pl
 | none=>-1
def andNew (nf:St→Nat→Option (Nat × St)) (af:St→Nat→Nat→Option (Nat × St)) (s:St) (a b:Nat):Option (Nat × St) :=
 match meetS s (plOf s a) (plOf s b) with
 | none=>none
 | some pl=>match spreadF nf s b pl with
   | none=>none
   | some (right,s1)=>match spreadF nf s1 a pl with
     | none=>none
     | some (left,s2)=>match andAll af right left s2 [] with
       | none=>none
       | some (l,s3)=>match makeF (orF nf af) s3 pl l with
         | none=>none
         | some (c,s4)=>some (c,{ s4 with ands:=((a,b),c) :: s4.ands })
def andOrd (nf:St→Nat→Option (Nat × St)) (af:St→Nat→Nat→Option (Nat × St)) (s:St) (a b:Nat):Option (Nat × St) :=
 if a = 0∨a = b then some (a,s) else if a = 1 then some (b,s) else
  match nf s a with
  | none=>none
  | some (na,s1)=>if na = b then some (0,s1) else
    match asc s1.ands (a,b) with
    | some c=>some (c,s1)
    | none=>andNew nf af s1 a b
def andF:Nat→St→Nat→Nat→Option (Nat × St)
 | 0,_,_,_=>none
 | f+1,s,a,b=>if b < a then andOrd (notF f) (andF f) s b a else andOrd (notF f) (andF f) s a b
end Go.Proofs.YtmnjakejhbpkoaaGreatDoor
namespace Go.Proofs.YtmnjakejhbpkoaaGreatDoor
open Go Go.RowKit Go.Shelf
def RetEl (l:List (Nat × Nat)) (B:Blks) (s':St) (w:World) (e:Ending) (w':World):Prop:=∃ v,e = .returned v∧ElAt w' v l∧∃ B',Rep B' s' w'∧Stp [] B w B' w'
theorem Rep.treeAt {B:Blks} {s:St} {w:World} (h:Rep B s w):TreeAt w B.tb 0 s.tree:=fun _ _ hj=>h.tree.cell hj
theorem nodeBox {w:World} (pl lit:Int) (v:Value) (a b:Int):Ext w (w.alloc (.cells #[.int .i64 pl,.int .i64 lit,v,.int .u64 a,.int .u64 b] tNode)) ∧
  (w.alloc (.cells #[.int .i64 pl,.int .i64 lit,v,.int .u64 a,.int .u64 b] tNode)).heap[w.heap.size]? = some (.cells #[.int .i64 pl,.int .i64 lit,v,.int .u64 a,.int .u64 b] tNode (0,0)) :=
 ⟨(Ext.refl w).alloc _,heap_alloc_new w _⟩
theorem meetS_some {s:St} {a b:Int} {m:Nat} (h:meetS s a b = some m):checkF s.tree = 0∧∃ x y:Nat,a = x∧b = y∧x < s.tree.length∧y < s.tree.length∧m = meetT s.tree x y:=by
 unfold meetS at h
 split at h
 ·rename_i hc
  obtain ⟨h0,h1,h2,h3,h4⟩:=hc
  simp only [Option.some.injEq] at h
  exact ⟨h0,a.toNat,b.toNat,by omega,by omega,by omega,by omega,h.symm⟩
 ·cases h
set_option maxRecDepth 100000 in
set_option maxHeartbeats 4000000 in
theorem spread_same {B:Blks} {s:St} {w:World} {a pl:Nat} {n:SNode} (h:Rep B s w) (hn:s.nodes[a]? = some n) (hp:n.pl = pl) :
  Calls Tryz.prog 196 #[.pointer (some ⟨B.sb,0,none⟩),.int .i64 a,.int .i64 pl] w (RetEl n.el B s w):=by
 obtain ⟨cap,_,_,cn,_,_,c5⟩:=h.cells
 obtain ⟨v,hv,hve,n0,n1,n2,n3,n4⟩:=h.node hn
 have hai:a < s.nodes.length:=(List.getElem?_eq_some_iff.1 hn).1
 have ha0:(0:Int)≤a:=by omega
 have ha1:(a:Int) < s.nodes.length:=by omega
 rw [hp] at n0
 obtain ⟨ba,cp,rfl,hv2⟩:=hv
 obtain ⟨hx0,hbox⟩:=nodeBox (w:=w) pl n.lit (.slice ba n.el.length cp) (lo n.le) (hi n.le)
 unfold tNode at hx0 hbox
 replace hv2:=Lib.hid hv2
 go_enter Tryz.func196,Tryz.ntmps196
 go_wp2_with fail
 generalize w.alloc (.cells #[.int .i64 pl,.int .i64 n.lit,.slice ba n.el.length cp,.int .u64 (lo n.le),.int .u64 (hi n.le)] 158) = w1 at *
 obtain ⟨b0,b1,b2,b3,b4,_⟩:=cells5 hbox
 try go_wp2_with fail
 go_ret
 refine ⟨_,rfl,ElAt.same ⟨ba,cp,rfl,hv2.out⟩ (fun b c fz hb=>hx0.below.block b (Array.getElem?_eq_some_iff.1 hb).1),B,h.below hx0.below,Stp.of_below hx0.below⟩
set_option maxRecDepth 100000 in
set_option maxHeartbeats 4000000 in
theorem spread_left {g:St→Nat→Option (Nat × St)} (ih:NotsLaw g) {B:Blks} {s s1:St} {w:World} {a pl m b:Nat} {n:SNode} {x:VN} (h:Rep B s w) (hn:s.nodes[a]? = some n) (hp:n.pl≠pl) (hx:s.tree[pl]? = some x)
  (hm:meetS s n.pl x.left = some m) (hml:(m:Int) = x.left) (hg:g s a = some (b,s1)) :
  Calls Tryz.prog 196 #[.pointer (some ⟨B.sb,0,none⟩),.int .i64 a,.int .i64 pl] w (RetEl [(a,1),(b,0)] B s1 w):=by
 obtain ⟨cap,ct,_,cn,_,_,c5⟩:=h.cells
 obtain ⟨v,hv,hve,n0,n1,n2,n3,n4⟩:=h.node hn
 have hai:a < s.nodes.length:=(List.getElem?_eq_some_iff.1 hn).1
 have ha0:(0:Int)≤a:=by omega
 have ha1:(a:Int) < s.nodes.length:=by omega
 have hpi:pl < s.tree.length:=(List.getElem?_eq_some_iff.1 hx).1
 have hp0:(0:Int)≤pl:=by omega
 have hp1:(pl:Int) < s.tree.length:=by omega
 have hpd:((n.pl:Int) == pl) = false:=by simpa using hp
 obtain ⟨t0,t1,t2⟩:=h.treeAt.node hpi
 have hxe:s.tree[pl] = x:=(List.getElem?_eq_some_iff.1 hx).2
 rw [hxe,Nat.zero_add] at t0
 obtain ⟨hc,p,q,e1,e2,hp2,hq2,rfl⟩:=meetS_some hm
 rw [e2] at hml t0
 rw [e1] at n0 hpd
 have hmq:meetT s.tree p q = q:=by omega
 obtain ⟨ba,cp,rfl,hv2⟩:=hv
 obtain ⟨hx0,hbox⟩:=nodeBox (w:=w) p n.lit (.slice ba n.el.length cp) (lo n.le) (hi n.le)
 unfold tNode at hx0 hbox
 have htree:=h.treeAt
 replace htree:=Lib.hid htree
 replace hc:=Lib.hid hc
 clear hv2 hve t1 t2 hm hml hx hxe
 go_enter Tryz.func196,Tryz.ntmps196
 go_wp2_with fail
 generalize w.alloc (.cells #[.int .i64 p,.int .i64 n.lit,.slice ba n.el.length cp,.int .u64 (lo n.le),.int .u64 (hi n.le)] 158) = w1 at *
 obtain ⟨b0,b1,b2,b3,b4,_⟩:=cells5 hbox
 try go_wp2_with fail
 have F1:∀ w':World,Ext w1 w'→w'.cell? ⟨w.heap.size,0,none⟩ = some (.int .i64 p)∧w'.cell? ⟨B.sb,0,none⟩ = some (.slice (some ⟨B.tb,0,none⟩) s.tree.length B.tc)∧w'.cell? ⟨B.tb,pl * 3,none⟩ = some (.int .i64 q) :=
  fun w' hw'=>⟨hw'.cell b0,hw'.cell (hx0.cell ct),hw'.cell (hx0.cell t0)⟩
 replace F1:=Lib.hid F1
 replace hn:=Lib.hid hn
 replace hg:=Lib.hid hg
 (refine wp_region_below (by kernel_rfl) (by kernel_rfl) ?_
  repeat (refine wpQuiet_step (fun K hK=>?_)
          go_simp
          first
           | (refine hK _ ?_;clear hK K)
           | (replace hK:=Lib.hid hK
              apply Exists.intro
              refine ⟨fun wq hq=>?_,hK.out _ ?_⟩
              ·(obtain ⟨f1,f2,f3⟩:=F1.out wq hq)
               go_simp
               first
                | done
                | rfl
                | exact ⟨rfl,rfl⟩
                | (refine (meet_any wq B.tb 0 B.tc (htree.out.ext (hx0.trans hq)) hc.out p q hp2 hq2).mono ?_;rintro e w' ⟨rfl,hb⟩;exact ⟨rfl,hq.trans hb⟩)
              clear hK K))
  refine wpQuiet_nil ?_)
 intro w2 hw2
 have hR2:=h.below (hx0.trans hw2).below
 have hS2:Stp [] B w B w2:=Stp.of_below (hx0.trans hw2).below
 have hqm:((meetT s.tree p q:Int) == q) = true:=by rw [hmq];simp
 have hcall:=ih B s s1 w2 a b hR2 hg.out
 clear F1 b0 b1 b2 b3 b4 n0 n1 n2 n3 n4 hbox
 go_wp2_with fail
 refine hcall.mono ?_
 rintro e w3 ⟨rfl,B3,hR3,hS3⟩
 replace hR3:=Lib.hid hR3
 go_wp2_with fail
 go_ret
 have hx3:Ext w3 (w3.alloc (.cells #[.int .i64 a,.int .i64 1,.int .i64 b,.int .i64 0] 165)):=(Ext.refl w3).alloc _
 exact ⟨_,rfl,⟨_,_,rfl,.inr ⟨_,0,rfl,_,_,heap_alloc_new w3 _,fun j u hj=>by rw [Nat.zero_add];simpa [flatP] using hj⟩⟩,B3,hR3.out.below hx3.below,(hS2.then hS3).then (Stp.of_below hx3.below)⟩
set_option maxRecDepth 100000 in
set_option maxHeartbeats 4000000 in
theorem spread_right {B:Blks} {s:St} {w:World} {a pl m:Nat} {n:SNode} {x:VN} (h:Rep B s w) (hn:s.nodes[a]? = some n) (hp:n.pl≠pl) (hx:s.tree[pl]? = some x)
  (hm:meetS s n.pl x.left = some m) (hml:¬ (m:Int) = x.left) :
  Calls Tryz.prog 196 #[.pointer (some ⟨B.sb,0,none⟩),.int .i64 a,.int .i64 pl] w (RetEl [(1,a)] B s w):=by
 obtain ⟨cap,ct,_,cn,_,_,c5⟩:=h.cells
 obtain ⟨v,hv,hve,n0,n1,n2,n3,n4⟩:=h.node hn
 have hai:a < s.nodes.length:=(List.getElem?_eq_some_iff.1 hn).1
 have ha0:(0:Int)≤a:=by omega
 have ha1:(a:Int) < s.nodes.length:=by omega
 have hpi:pl < s.tree.length:=(List.getElem?_eq_some_iff.1 hx).1
 have hp0:(0:Int)≤pl:=by omega
 have hp1:(pl:Int) < s.tree.length:=by omega
 have hpd:((n.pl:Int) == pl) = false:=by simpa using hp
 obtain ⟨t0,t1,t2⟩:=h.treeAt.node hpi
 have hxe:s.tree[pl] = x:=(List.getElem?_eq_some_iff.1 hx).2
 rw [hxe,Nat.zero_add] at t0
 obtain ⟨hc,p,q,e1,e2,hp2,hq2,rfl⟩:=meetS_some hm
 rw [e2] at hml t0
 rw [e1] at n0 hpd
 have hmq:¬ (meetT s.tree p q = q):=by omega
 obtain ⟨ba,cp,rfl,hv2⟩:=hv
 obtain ⟨hx0,hbox⟩:=nodeBox (w:=w) p n.lit (.slice ba n.el.length cp) (lo n.le) (hi n.le)
 unfold tNode at hx0 hbox
 have htree:=h.treeAt
 replace htree:=Lib.hid htree
 replace hc:=Lib.hid hc
 clear hv2 hve t1 t2 hm hml hx hxe
 go_enter Tryz.func196,Tryz.ntmps196
 go_wp2_with fail
 generalize w.alloc (.cells #[.int .i64 p,.int .i64 n.lit,.slice ba n.el.length cp,.int .u64 (lo n.le),.int .u64 (hi n.le)] 158) = w1 at *
 obtain ⟨b0,b1,b2,b3,b4,_⟩:=cells5 hbox
 try go_wp2_with fail
 have F1:∀ w':World,Ext w1 w'→w'.cell? ⟨w.heap.size,0,none⟩ = some (.int .i64 p)∧w'.cell? ⟨B.sb,0,none⟩ = some (.slice (some ⟨B.tb,0,none⟩) s.tree.length B.tc)∧w'.cell? ⟨B.tb,pl * 3,none⟩ = some (.int .i64 q) :=
  fun w' hw'=>⟨hw'.cell b0,hw'.cell (hx0.cell ct),hw'.cell (hx0.cell t0)⟩
 replace F1:=Lib.hid F1
 replace hn:=Lib.hid hn
 (refine wp_region_below (by kernel_rfl) (by kernel_rfl) ?_
  repeat (refine wpQuiet_step (fun K hK=>?_)
          go_simp
          first
           | (refine hK _ ?_;clear hK K)
           | (replace hK:=Lib.hid hK
              apply Exists.intro
              refine ⟨fun wq hq=>?_,hK.out _ ?_⟩
              ·(obtain ⟨f1,f2,f3⟩:=F1.out wq hq)
               go_simp
               first
                | done
                | rfl
                | exact ⟨rfl,rfl⟩
                | (refine (meet_any wq B.tb 0 B.tc (htree.out.ext (hx0.trans hq)) hc.out p q hp2 hq2).mono ?_;rintro e w' ⟨rfl,hb⟩;exact ⟨rfl,hq.trans hb⟩)
              clear hK K))
  refine wpQuiet_nil ?_)
 intro w3 hw2
 have hR2:=h.below (hx0.trans hw2).below
 have hS2:Stp [] B w B w3:=Stp.of_below (hx0.trans hw2).below
 have hqm:((meetT s.tree p q:Int) == q) = false:=by simp;omega
 clear F1 b0 b1 b2 b3 b4 n0 n1 n2 n3 n4 hbox
 replace hR2:=Lib.hid hR2
 go_wp2_with fail
 go_ret
 have hx3:Ext w3 (w3.alloc (.cells #[.int .i64 1,.int .i64 a] 165)):=(Ext.refl w3).alloc _
 exact ⟨_,rfl,⟨_,_,rfl,.inr ⟨_,0,rfl,_,_,heap_alloc_new w3 _,fun j u hj=>by rw [Nat.zero_add];simpa [flatP] using hj⟩⟩,B,hR2.out.below hx3.below,hS2.then (Stp.of_below hx3.below)⟩
theorem spread_any {g:St→Nat→Option (Nat × St)} (ih:NotsLaw g) {B:Blks} {s s1:St} {w:World} {a pl:Nat} {l:List (Nat × Nat)} (h:Rep B s w) (he:spreadF g s a pl = some (l,s1)) :
  Calls Tryz.prog 196 #[.pointer (some ⟨B.sb,0,none⟩),.int .i64 a,.int .i64 pl] w (RetEl l B s1 w):=by
 unfold spreadF at he
 split at he
 ·cases he
 ·rename_i n hn
  split at he
  ·rename_i hp
   simp only [Option.some.injEq,Prod.mk.injEq] at he
   obtain ⟨rfl,rfl⟩:=he
   exact spread_same h hn hp
  ·rename_i hp
   split at he
   ·cases he
   ·rename_i x hx
    split at he
    ·cases he
    ·rename_i m hm
     split at he
     ·rename_i hml
      split at he
      ·cases he
      ·rename_i b s2 hg
       simp only [Option.some.injEq,Prod.mk.injEq] at he
       obtain ⟨rfl,rfl⟩:=he
       exact spread_left ih h hn hp hx hm hml hg
     ·rename_i hml
      simp only [Option.some.injEq,Prod.mk.injEq] at he
      obtain ⟨rfl,rfl⟩:=he
      exact spread_right h hn hp hx hm hml
end Go.Proofs.YtmnjakejhbpkoaaGreatDoor
namespace Go.Proofs.YtmnjakejhbpkoaaGreatDoor
open Go Go.RowKit Go.Shelf
def AndsLaw (g:St→Nat→Nat→Option (Nat × St)):Prop:=∀ (B:Blks) (s s':St) (w:World) (a b r:Nat),Rep B s w→g s a b = some (r,s') →
 Calls Tryz.prog 154 #[.pointer (some ⟨B.sb,0,none⟩),.int .i64 a,.int .i64 b] w (RetStp [] (.int .i64 r) B s' w)
def OrLaw (g:St→Nat→Nat→Option (Nat × St)):Prop:=∀ (B:Blks) (s s':St) (w:World) (a b r:Nat),Rep B s w→g s a b = some (r,s') →
 Calls Tryz.prog 109 #[.pointer (some ⟨B.sb,0,none⟩),.int .i64 a,.int .i64 b] w (RetStp [] (.int .i64 r) B s' w)
set_option maxRecDepth 100000 in
set_option maxHeartbeats 1000000 in
theorem orF_law {nf:St→Nat→Option (Nat × St)} {af:St→Nat→Nat→Option (Nat × St)} (hn:NotsLaw nf) (ha:AndsLaw af):OrLaw (orF nf af):=by
 intro B s s' w a b r h he
 unfold orF at he
 split at he
 ·cases he
 ·rename_i x s1 h1
  split at he
  ·cases he
  ·rename_i y s2 h2
   split at he
   ·cases he
   ·rename_i z s3 h3
    have c1:=hn B s s1 w a x h h1
    replace h1:=Lib.hid h1
    replace h2:=Lib.hid h2
    replace h3:=Lib.hid h3
    replace he:=Lib.hid he
    go_enter Tryz.func109,Tryz.ntmps109
    go_wp2_with fail
    refine c1.mono ?_
    rintro e w1 ⟨rfl,B1,hR1,hS1⟩
    have c2:=hn B1 s1 s2 w1 b y hR1 h2.out
    rw [hS1.sb] at c2
    replace hR1:=Lib.hid hR1
    go_wp2_with fail
    refine c2.mono ?_
    rintro e w2 ⟨rfl,B2,hR2,hS2⟩
    have c3:=ha B2 s2 s3 w2 x y z hR2 h3.out
    rw [hS2.sb,hS1.sb] at c3
    replace hR2:=Lib.hid hR2
    go_wp2_with fail
    refine c3.mono ?_
    rintro e w3 ⟨rfl,B3,hR3,hS3⟩
    have c4:=hn B3 s3 s' w3 z r hR3 he.out
    rw [hS3.sb,hS2.sb,hS1.sb] at c4
    replace hR3:=Lib.hid hR3
    go_wp2_with fail
    refine c4.mono ?_
    rintro e w4 ⟨rfl,B4,hR4,hS4⟩
    replace hR4:=Lib.hid hR4
    go_wp2_with fail
    go_ret
    exact ⟨rfl,B4,hR4.out,((hS1.then hS2).then hS3).then hS4⟩
end Go.Proofs.YtmnjakejhbpkoaaGreatDoor
