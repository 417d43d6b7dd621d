import Derived.Test.YtmnjakejhbpkoaaGreatDoorWMake
import Derived.Test.YtmnjakejhbpkoaaGreatDoorWVt
set_option linter.unusedSimpArgs false
set_option linter.unusedVariables false
namespace Go.Proofs.YtmnjakejhbpkoaaGreatDoor
open Go Go.RowKit Go.Shelf
def Ord2 (x y a b:Nat):Prop:=(y < x∧a = y∧b = x)∨(¬ y < x∧a = x∧b = y)
set_option maxRecDepth 100000 in
set_option maxHeartbeats 1000000 in
theorem and_triv {B:Blks} {s:St} {w:World} {x y a b:Nat} (h:Rep B s w) (ho:Ord2 x y a b) (ha:a = 0∨a = b) :
  Calls Tryz.prog 154 #[.pointer (some ⟨B.sb,0,none⟩),.int .i64 x,.int .i64 y] w (RetStp [] (.int .i64 a) B s w):=by
 have fin:∀ {v:Value},v = .int .i64 a→RetStp [] (.int .i64 a) B s w (.returned v) w:=fun e=>⟨by rw [e],B,h,Stp.refl _ _ _⟩
 rcases ho with ⟨hc,rfl,rfl⟩ | ⟨hc,rfl,rfl⟩
 ·have d0:decide ((b:Int) > a) = true:=decide_eq_true (by omega)
  have d0':decide ((a:Int) < b) = true:=decide_eq_true (by omega)
  rcases ha with rfl | rfl
  ·go_enter Tryz.func154,Tryz.ntmps154
   go_wp2_with fail
   go_ret
   exact fin (by simp)
  ·omega
 ·have d0':decide ((b:Int) < a) = false:=decide_eq_false (by omega)
  rcases ha with rfl | rfl
  ·go_enter Tryz.func154,Tryz.ntmps154
   go_wp2_with fail
   go_ret
   exact fin (by simp)
  ·by_cases hz:a = 0
   ·subst hz
    go_enter Tryz.func154,Tryz.ntmps154
    go_wp2_with fail
    go_ret
    exact fin (by simp)
   ·have d1:((a:Int) == 0) = false:=by simp;omega
    go_enter Tryz.func154,Tryz.ntmps154
    go_wp2_with fail
    go_ret
    exact fin rfl
set_option maxRecDepth 100000 in
set_option maxHeartbeats 1000000 in
theorem and_one {B:Blks} {s:St} {w:World} {x y b:Nat} (h:Rep B s w) (ho:Ord2 x y 1 b) (hb:b≠1) :
  Calls Tryz.prog 154 #[.pointer (some ⟨B.sb,0,none⟩),.int .i64 x,.int .i64 y] w (RetStp [] (.int .i64 b) B s w):=by
 have d2:((1:Int) == b) = false:=by simp;omega
 rcases ho with ⟨hc,rfl,rfl⟩ | ⟨hc,rfl,rfl⟩
 ·have d0':decide ((1:Int) < b) = true:=decide_eq_true (by omega)
  go_enter Tryz.func154,Tryz.ntmps154
  go_wp2_with fail
  go_ret
  exact ⟨rfl,B,h,Stp.refl _ _ _⟩
 ·have d0':decide ((b:Int) < 1) = false:=decide_eq_false (by omega)
  go_enter Tryz.func154,Tryz.ntmps154
  go_wp2_with fail
  go_ret
  exact ⟨rfl,B,h,Stp.refl _ _ _⟩
set_option maxRecDepth 100000 in
set_option maxHeartbeats 1000000 in
theorem and_neg {nf:St→Nat→Option (Nat × St)} (hn:NotsLaw nf) {B:Blks} {s s1:St} {w:World} {x y a b:Nat} (h:Rep B s w) (ho:Ord2 x y a b) (ha0:a≠0) (hab:a≠b) (ha1:a≠1) (he:nf s a = some (b,s1)) :
  Calls Tryz.prog 154 #[.pointer (some ⟨B.sb,0,none⟩),.int .i64 x,.int .i64 y] w (RetStp [] (.int .i64 (0:Nat)) B s1 w):=by
 have d1:((a:Int) == 0) = false:=by simp;omega
 have d2:((a:Int) == b) = false:=by simp;omega
 have d3:((a:Int) == 1) = false:=by simp;omega
 have hq:=hn B s s1 w a b h he
 replace he:=Lib.hid he
 rcases ho with ⟨hc,rfl,rfl⟩ | ⟨hc,rfl,rfl⟩
 ·have d0':decide ((a:Int) < b) = true:=decide_eq_true (by omega)
  go_enter Tryz.func154,Tryz.ntmps154
  go_wp2_with fail
  refine hq.mono ?_
  rintro e w1 ⟨rfl,B1,hR1,hS1⟩
  replace hR1:=Lib.hid hR1
  go_wp2_with fail
  go_ret
  exact ⟨rfl,B1,hR1.out,hS1⟩
 ·have d0':decide ((b:Int) < a) = false:=decide_eq_false (by omega)
  go_enter Tryz.func154,Tryz.ntmps154
  go_wp2_with fail
  refine hq.mono ?_
  rintro e w1 ⟨rfl,B1,hR1,hS1⟩
  replace hR1:=Lib.hid hR1
  go_wp2_with fail
  go_ret
  exact ⟨rfl,B1,hR1.out,hS1⟩
theorem Rep.andLook {B:Blks} {s:St} {w:World} (h:Rep B s w) (a b:Nat) :
  (Instr.lookup 161 (.map (some B.ab)) (.agg #[.int .i64 (a:Int),.int .i64 (b:Int)]) true).run Tryz.prog w = .ok (.tuple #[((asc s.ands (a,b)).map encNat).getD (.int .i64 0),.bool (asc s.ands (a,b)).isSome]) w :=
 h.ands.look pairLaw (T:=161) Tryz.underlying161 _ zeroInt (a,b)
end Go.Proofs.YtmnjakejhbpkoaaGreatDoor
namespace Go.Proofs.YtmnjakejhbpkoaaGreatDoor
open Go Go.RowKit Go.Shelf
set_option maxRecDepth 100000 in
set_option maxHeartbeats 2000000 in
theorem and_hit {nf:St→Nat→Option (Nat × St)} (hn:NotsLaw nf) {B:Blks} {s s1:St} {w:World} {x y a b na c:Nat} (h:Rep B s w) (ho:Ord2 x y a b) (ha0:a≠0) (hab:a≠b) (ha1:a≠1) (he:nf s a = some (na,s1)) (hna:na≠b) (hc:asc s1.ands (a,b) = some c) :
  Calls Tryz.prog 154 #[.pointer (some ⟨B.sb,0,none⟩),.int .i64 x,.int .i64 y] w (RetStp [] (.int .i64 c) B s1 w):=by
 have d1:((a:Int) == 0) = false:=by simp;omega
 have d2:((a:Int) == b) = false:=by simp;omega
 have d3:((a:Int) == 1) = false:=by simp;omega
 have d4:((na:Int) == b) = false:=by simp;omega
 have hq:=hn B s s1 w a na h he
 replace he:=Lib.hid he
 have hor:(decide ((y:Int) < x) = true∧y < x∧a = y∧b = x)∨(decide ((y:Int) < x) = false∧¬ y < x∧a = x∧b = y):=by
  rcases ho with ⟨h1,h2,h3⟩ | ⟨h1,h2,h3⟩
  ·exact .inl ⟨decide_eq_true (by omega),h1,h2,h3⟩
  ·exact .inr ⟨decide_eq_false (by omega),h1,h2,h3⟩
 clear ho
 rcases hor with ⟨d0,hcc,rfl,rfl⟩ | ⟨d0,hcc,rfl,rfl⟩
 ·skip
  go_enter Tryz.func154,Tryz.ntmps154
  go_wp2_with fail
  refine hq.mono ?_
  rintro e w1 ⟨rfl,B1,hR1,hS1⟩
  have hsb:B1.sb = B.sb:=hS1.sb
  have hbox:=heap_alloc_new w1 (.cells #[.int .i64 a,.int .i64 b] 165)
  have hx1:Ext w1 (w1.alloc (.cells #[.int .i64 a,.int .i64 b] 165)):=(Ext.refl w1).alloc _
  clear hq
  replace hR1:=Lib.hid hR1
  go_wp2_with fail
  generalize w1.alloc (.cells #[.int .i64 a,.int .i64 b] 165) = w2 at *
  obtain ⟨b0,b1⟩:=pbox_cells hbox
  have F1:∀ w':World,Ext w2 w'→w'.cell? ⟨w1.heap.size,0,none⟩ = some (.int .i64 a)∧w'.cell? ⟨w1.heap.size,1,none⟩ = some (.int .i64 b)∧w'.cell? ⟨B.sb,4,none⟩ = some (.map (some B1.ab)) ∧
    (Instr.lookup 161 (.map (some B1.ab)) (.agg #[.int .i64 (a:Int),.int .i64 (b:Int)]) true).run Tryz.prog w' = .ok (.tuple #[.int .i64 c,.bool true]) w':=fun w' hw'=>by
   have hR:=hR1.out.below (hx1.trans hw').below
   obtain ⟨cap,_,_,_,_,c4,_⟩:=hR.cells
   rw [hsb] at c4
   have hl:=hR.andLook a b
   rw [hc] at hl
   exact ⟨hw'.cell b0,hw'.cell b1,c4,hl⟩
  replace F1:=Lib.hid F1
  replace hc:=Lib.hid hc
  clear b0 b1 hbox
  (refine wp_region_below (by kernel_rfl) (by kernel_rfl) ?_
   repeat (refine wpQuiet_step (fun K hK=>?_)
           go_simp
           first
            | (refine hK _ ?_;clear hK K)
            | (replace hK:=Lib.hid hK
               apply Exists.intro
               refine ⟨fun wq hq=>?_,hK.out _ ?_⟩
               ·(obtain ⟨f1,f2,f3,f4⟩:=F1.out wq hq)
                go_simp
                first
                 | done
                 | rfl
                 | exact ⟨rfl,rfl⟩
                 | fail
               clear hK K))
   refine wpQuiet_nil ?_)
  intro w3 hw3
  go_wp2_with fail
  go_ret
  exact ⟨rfl,B1,hR1.out.below (hx1.trans hw3).below,hS1.then (Stp.of_below (hx1.trans hw3).below)⟩
 ·skip
  go_enter Tryz.func154,Tryz.ntmps154
  go_wp2_with fail
  refine hq.mono ?_
  rintro e w1 ⟨rfl,B1,hR1,hS1⟩
  have hsb:B1.sb = B.sb:=hS1.sb
  have hbox:=heap_alloc_new w1 (.cells #[.int .i64 a,.int .i64 b] 165)
  have hx1:Ext w1 (w1.alloc (.cells #[.int .i64 a,.int .i64 b] 165)):=(Ext.refl w1).alloc _
  clear hq
  replace hR1:=Lib.hid hR1
  go_wp2_with fail
  generalize w1.alloc (.cells #[.int .i64 a,.int .i64 b] 165) = w2 at *
  obtain ⟨b0,b1⟩:=pbox_cells hbox
  have F1:∀ w':World,Ext w2 w'→w'.cell? ⟨w1.heap.size,0,none⟩ = some (.int .i64 a)∧w'.cell? ⟨w1.heap.size,1,none⟩ = some (.int .i64 b)∧w'.cell? ⟨B.sb,4,none⟩ = some (.map (some B1.ab)) ∧
    (Instr.lookup 161 (.map (some B1.ab)) (.agg #[.int .i64 (a:Int),.int .i64 (b:Int)]) true).run Tryz.prog w' = .ok (.tuple #[.int .i64 c,.bool true]) w':=fun w' hw'=>by
   have hR:=hR1.out.below (hx1.trans hw').below
   obtain ⟨cap,_,_,_,_,c4,_⟩:=hR.cells
   rw [hsb] at c4
   have hl:=hR.andLook a b
   rw [hc] at hl
   exact ⟨hw'.cell b0,hw'.cell b1,c4,hl⟩
  replace F1:=Lib.hid F1
  replace hc:=Lib.hid hc
  clear b0 b1 hbox
  (refine wp_region_below (by kernel_rfl) (by kernel_rfl) ?_
   repeat (refine wpQuiet_step (fun K hK=>?_)
           go_simp
           first
            | (refine hK _ ?_;clear hK K)
            | (replace hK:=Lib.hid hK
               apply Exists.intro
               refine ⟨fun wq hq=>?_,hK.out _ ?_⟩
               ·(obtain ⟨f1,f2,f3,f4⟩:=F1.out wq hq)
                go_simp
                first
                 | done
                 | rfl
                 | exact ⟨rfl,rfl⟩
                 | fail
               clear hK K))
   refine wpQuiet_nil ?_)
  intro w3 hw3
  go_wp2_with fail
  go_ret
  exact ⟨rfl,B1,hR1.out.below (hx1.trans hw3).below,hS1.then (Stp.of_below (hx1.trans hw3).below)⟩
end Go.Proofs.YtmnjakejhbpkoaaGreatDoor
namespace Go.Proofs.YtmnjakejhbpkoaaGreatDoor
open Go Go.RowKit Go.Shelf
theorem grownP_step {B:Blks} {s:St} {w w':World} {base n:Nat} {v:Value} {xs:List Value} (h:Rep B s w) (hO:w.ownsRow base tPair 2 v n xs) (hb:gPow < base∧gTz < base) (hg:w.grownBy w' v.ownBlock)
  (hne:∀ g,v.ownBlock = some g→g∉B.eb) :
  Rep B s w'∧Stp v.ownBlock.toList B w B w'∧∀ (k:Nat) (o:Obj),w.heap[k]? = some o→v.ownBlock≠some k→w'.heap[k]? = some o:=by
 have hk:∀ (k:Nat) (o:Obj),w.heap[k]? = some o→v.ownBlock≠some k→w'.heap[k]? = some o:=fun k o ho hn=>(hg.block k (Array.getElem?_eq_some_iff.1 ho).1 (fun e=>hn e.symm)).trans ho
 refine ⟨?_,Stp.of_but ⟨hg.os,hg.tape,hg.output⟩ hg.size (fun k hk hX=>hg.block k hk (fun e=>hX (by rw [←e];simp))),hk⟩
 have hge:=fun k e=>own_ge hO (k:=k) e
 obtain ⟨_,⟨rfl,_⟩ | ⟨g,cap,cur,rfl,_,hh,_⟩⟩:=hO
 ·exact h.same fun k o ho=>(hk k o ho (by simp [Value.ownBlock])).trans ho.symm
 ·have h1:=hge g rfl
  refine h.off hh (hne g rfl) (by omega) (fun k o hkg ho=>(hk k o ho ?_).trans ho.symm)
  simp only [Value.ownBlock]
  intro e
  exact hkg (Option.some.inj e).symm
end Go.Proofs.YtmnjakejhbpkoaaGreatDoor
namespace Go.Proofs.YtmnjakejhbpkoaaGreatDoor
open Go Go.RowKit Go.Shelf
theorem Rep.plAt {B:Blks} {s:St} {w:World} (h:Rep B s w) {a:Nat} {p:Nat} (hp:plOf s a = p):a < s.nodes.length∧w.cell? ⟨B.nb,a * 5,none⟩ = some (.int .i64 p):=by
 unfold plOf at hp
 split at hp
 ·rename_i n hn
  obtain ⟨v,_,_,n0,_⟩:=h.node hn
  rw [hp] at n0
  exact ⟨(List.getElem?_eq_some_iff.1 hn).1,n0⟩
 ·omega
theorem ElAt.stp {B B':Blks} {s:St} {w w':World} {v:Value} {l:List (Nat × Nat)} (h:ElAt w v l) (hR:Rep B s w) (hS:Stp [] B w B' w'):ElAt w' v l :=
 h.same fun b c fz hb=>(hS.keep hb (hR.not_mut hb (by simp [tPair,tNode]) (by simp [tPair,tStore])) (by simp)).trans hb.symm
theorem ElAt.ext {w w':World} {v:Value} {l:List (Nat × Nat)} (h:ElAt w v l) (hx:Ext w w'):ElAt w' v l :=
 h.same fun b c fz hb=>hx.below.block b (Array.getElem?_eq_some_iff.1 hb).1
theorem andRow_pre (af:St→Nat→Nat→Option (Nat × St)) (p:Nat × Nat):∀ (r:List (Nat × Nat)) (s:St) (out:List (Nat × Nat)) (l:List (Nat × Nat)) (s':St),andRow af p r s out = some (l,s')→out.length≤l.length
 | [],s,out,l,s',h=>by
   simp only [andRow,Option.some.injEq,Prod.mk.injEq] at h
   rw [h.1];exact Nat.le_refl _
 | q :: r,s,out,l,s',h=>by
   unfold andRow at h
   split at h
   ·cases h
   ·split at h
    ·exact andRow_pre af p r _ _ _ _ h
    ·split at h
     ·cases h
     ·have:=andRow_pre af p r _ _ _ _ h
      simp at this;omega
theorem andAll_pre (af:St→Nat→Nat→Option (Nat × St)) (right:List (Nat × Nat)):∀ (r:List (Nat × Nat)) (s:St) (out:List (Nat × Nat)) (l:List (Nat × Nat)) (s':St),andAll af right r s out = some (l,s')→out.length≤l.length
 | [],s,out,l,s',h=>by
   simp only [andAll,Option.some.injEq,Prod.mk.injEq] at h
   rw [h.1];exact Nat.le_refl _
 | q :: r,s,out,l,s',h=>by
   unfold andAll at h
   split at h
   ·cases h
   ·rename_i o s1 h1
    exact Nat.le_trans (andRow_pre af q right _ _ _ _ h1) (andAll_pre af right r _ _ _ _ h)
def RowsB (w:World) (base:Nat) (ba:Option Addr) (l:List (Nat × Nat)):Prop:=(ba = none∧l = [])∨∃ b o,ba = some ⟨b,o,none⟩∧b < base∧RowAt w b o tPair (flatP l)
theorem ElAt.rowsB {w:World} {ba:Option Addr} {n cp:Nat} {l:List (Nat × Nat)} (h:ElAt w (.slice ba n cp) l):n = l.length∧RowsB w w.heap.size ba l:=by
 obtain ⟨ba',c,e,h⟩:=h
 cases e
 refine ⟨rfl,?_⟩
 rcases h with ⟨h1,h2,_⟩ | ⟨b,o,h1,h2⟩
 ·exact .inl ⟨h1,h2⟩
 ·exact .inr ⟨b,o,h1,h2.lt,h2⟩
theorem RowsB.same {w w':World} {base:Nat} {ba:Option Addr} {l:List (Nat × Nat)} (h:RowsB w base ba l) (hs:∀ (k:Nat) (c:Array Value) (f:Nat × Nat),k < base→w.heap[k]? = some (Obj.cells c tPair f)→w'.heap[k]? = w.heap[k]?):RowsB w' base ba l:=by
 rcases h with h | ⟨b,o,h1,h2,c,f,h3,h4⟩
 ·exact .inl h
 ·exact .inr ⟨b,o,h1,h2,c,f,(hs b c f h2 h3).trans h3,h4⟩
theorem own_lt {w:World} {B:Nat} {e:TypeId} {sz:Nat} {v:Value} {n:Nat} {xs:List Value} (h:w.ownsRow B e sz v n xs) {k:Nat} (hk:v.ownBlock = some k):k < w.heap.size∧∃ c,w.heap[k]? = some (.cells c e (0,0)):=by
 obtain ⟨_,⟨rfl,_⟩ | ⟨g,cap,cur,rfl,hg,hh,_⟩⟩:=h
 ·simp [Value.ownBlock] at hk
 ·simp [Value.ownBlock] at hk
  subst hk
  exact ⟨(Array.getElem?_eq_some_iff.1 hh).1,cur,hh⟩
structure AndC (B B':Blks) (w:World) (base:Nat) (bx:List (Nat × Nat × Nat)) (ba1 ba2:Option Addr) (right left:List (Nat × Nat)) (sk:St) (out:List (Nat × Nat)) (v:Value) (wr:World):Prop where
 rep:Rep B' sk wr
 stp:Stp [] B w B' wr
 off:∀ g,v.ownBlock = some g→g∉B'.eb
 box:∀ x∈bx,wr.heap[x.1]? = some (.cells #[.int .i64 (x.2.1:Int),.int .i64 (x.2.2:Int)] tPair (0,0))∧v.ownBlock≠some x.1
 bs:base≤wr.heap.size
 own:wr.ownsRow base tPair 2 v out.length (flatP out)
 r1:RowsB wr base ba1 right
 r2:RowsB wr base ba2 left
section
variable {B B' B'':Blks} {w wr w':World} {base:Nat} {bx:List (Nat × Nat × Nat)} {ba1 ba2:Option Addr} {right left out:List (Nat × Nat)} {sk sk':St} {v:Value}
theorem AndC.ext (h:AndC B B' w base bx ba1 ba2 right left sk out v wr) (hx:Ext wr w'):AndC B B' w base bx ba1 ba2 right left sk out v w' where
 rep:=h.rep.below hx.below
 stp:=h.stp.then (Stp.of_below hx.below)
 off:=h.off
 box:=fun x hm=>⟨(hx.below.block _ (Array.getElem?_eq_some_iff.1 (h.box x hm).1).1).trans (h.box x hm).1,(h.box x hm).2⟩
 bs:=Nat.le_trans h.bs hx.size
 own:=ownsRow_same h.own (fun k hk=>hx.below.block k (own_lt h.own hk).1)
 r1:=h.r1.same (fun k c f _ hk=>hx.below.block k (Array.getElem?_eq_some_iff.1 hk).1)
 r2:=h.r2.same (fun k c f _ hk=>hx.below.block k (Array.getElem?_eq_some_iff.1 hk).1)
theorem AndC.call (h:AndC B B' w base bx ba1 ba2 right left sk out v wr) (hR:Rep B'' sk' w') (hS:Stp [] B' wr B'' w'):AndC B B'' w base bx ba1 ba2 right left sk' out v w':=by
 have hk:∀ (k:Nat) (c:Array Value) (f:Nat × Nat),wr.heap[k]? = some (Obj.cells c tPair f)→w'.heap[k]? = some (Obj.cells c tPair f):=fun k c f hk =>
  hS.keep hk (h.rep.not_mut hk (by decide) (by decide)) (by simp)
 exact {
  rep:=hR
  stp:=h.stp.then hS
  off:=fun g hg hc=>by
   rcases hS.newe g hc with h1 | h1 | h1
   ·exact h.off g hg h1
   ·have:=(own_lt h.own hg).1;omega
   ·simp at h1
  box:=fun x hm=>⟨hk _ _ _ (h.box x hm).1,(h.box x hm).2⟩
  bs:=Nat.le_trans h.bs hS.fr.size
  own:=ownsRow_same h.own (fun k hb=>by
   obtain ⟨_,c,hc⟩:=own_lt h.own hb
   exact (hk _ _ _ hc).trans hc.symm)
  r1:=h.r1.same (fun k c f _ hb=>(hk _ _ _ hb).trans hb.symm)
  r2:=h.r2.same (fun k c f _ hb=>(hk _ _ _ hb).trans hb.symm) }
theorem AndC.boxed (h:AndC B B' w base bx ba1 ba2 right left sk out v wr) (p:Nat × Nat):AndC B B' w base ((wr.heap.size,p.1,p.2) :: bx) ba1 ba2 right left sk out v (wr.alloc (.cells #[.int .i64 (p.1:Int),.int .i64 (p.2:Int)] 165)):=by
 have h1:=h.ext ((Ext.refl wr).alloc (.cells #[.int .i64 (p.1:Int),.int .i64 (p.2:Int)] tPair))
 refine { h1 with box:=fun x hm=>?_ }
 rcases List.mem_cons.1 hm with rfl | hm
 ·exact ⟨heap_alloc_new wr _,fun e=>Nat.lt_irrefl _ (own_lt h.own e).1⟩
 ·exact h1.box x hm
theorem AndC.fewer {by_:List (Nat × Nat × Nat)} (h:AndC B B' w base bx ba1 ba2 right left sk out v wr) (hs:∀ x∈by_,x∈bx):AndC B B' w base by_ ba1 ba2 right left sk out v wr :=
 { h with box:=fun x hm=>h.box x (hs x hm) }
theorem AndC.tight (h:AndC B B' w base bx ba1 ba2 right left sk out v wr):AndC B { B' with eb:=B'.eb.filter (fun k=>decide (k < wr.heap.size)) } w base bx ba1 ba2 right left sk out v wr :=
 { h with
   rep:=h.rep.tight
   stp:=⟨h.stp.fr,h.stp.sb,h.stp.new,fun k hk=>h.stp.newe k (List.mem_filter.1 hk).1⟩
   off:=fun g hg hc=>h.off g hg (List.mem_filter.1 hc).1 }
theorem flatP_snoc (l:List (Nat × Nat)) (p:Nat × Nat):flatP (l++[p]) = flatP l++[.int .i64 (p.1:Int),.int .i64 (p.2:Int)]:=by simp [flatP]
theorem AndC.push {p:Nat × Nat} {g cap:Nat} {w1:World} (h:AndC B B' w base bx ba1 ba2 right left sk out v w1) (htb:∀ k∈B'.eb,k < w1.heap.size) (hb:gPow < base∧gTz < base) (hw:w.heap.size≤base)
  (ho:w'.ownsRow base tPair 2 (.slice (some ⟨g,0,none⟩) (out.length+1) cap) (out.length+1) (flatP out++[.int .i64 (p.1:Int),.int .i64 (p.2:Int)])) (hg:w1.grownBy w' v.ownBlock) (hat:v.ownBlock = some g∨g = w1.heap.size) :
  AndC B B' w base bx ba1 ba2 right left sk (out++[p]) (.slice (some ⟨g,0,none⟩) (out.length+1) cap) w':=by
 obtain ⟨hR,hS,hK⟩:=grownP_step h.rep h.own hb hg h.off
 have hrow:∀ (k:Nat) (c:Array Value) (f:Nat × Nat),k < base→w1.heap[k]? = some (Obj.cells c tPair f)→w'.heap[k]? = w1.heap[k]?:=fun k c f hk hc =>
  (hK _ _ hc (fun e=>by have:=own_ge h.own e;omega)).trans hc.symm
 exact {
  rep:=hR
  stp:=(h.stp.trans hS).weak (fun x hx=>by
   simp only [List.nil_append,Option.mem_toList,Option.mem_def] at hx
   exact .inr (Nat.le_trans hw (own_ge h.own hx)))
  off:=fun k hk hc=>by
   simp only [Value.ownBlock,Option.some.injEq] at hk
   subst hk
   rcases hat with e | e
   ·exact h.off _ e hc
   ·have:=htb _ hc;omega
  box:=fun x hm=>by
   obtain ⟨b1,b2⟩:=h.box x hm
   refine ⟨hK _ _ b1 b2,fun e=>?_⟩
   simp only [Value.ownBlock,Option.some.injEq] at e
   rcases hat with e2 | e2
   ·exact b2 (by rw [e2,e])
   ·have:=(Array.getElem?_eq_some_iff.1 b1).1;omega
  bs:=Nat.le_trans h.bs hS.fr.size
  own:=own_cast ho (by simp) (by rw [flatP_snoc])
  r1:=h.r1.same hrow
  r2:=h.r2.same hrow }
theorem RowsB.at {l:List (Nat × Nat)} {ba:Option Addr} (h:RowsB w base ba l) {k:Nat} (hk:k < l.length):∃ b o,ba = some ⟨b,o,none⟩∧w.cell? ⟨b,o+k * 2,none⟩ = some (.int .i64 (l[k].1:Nat))∧w.cell? ⟨b,o+k * 2+1,none⟩ = some (.int .i64 (l[k].2:Nat)):=by
 rcases h with ⟨_,e⟩ | ⟨b,o,e,_,hr⟩
 ·rw [e] at hk;simp at hk
 ·obtain ⟨c0,c1⟩:=hr.off0 k hk
  exact ⟨b,o,e,c0,c1⟩
end
theorem ElAt.of_own {w:World} {base:Nat} {v:Value} {l:List (Nat × Nat)} (h:w.ownsRow base tPair 2 v l.length (flatP l)):ElAt w v l:=by
 obtain ⟨_,⟨rfl,e⟩ | ⟨g,cap,cur,rfl,hgb,hgh,hn,hm,hcs,ht⟩⟩:=h
 ·have hl:l = []:=List.eq_nil_of_length_eq_zero (by omega)
  subst hl
  exact ⟨none,0,rfl,.inl ⟨rfl,rfl,rfl⟩⟩
 ·refine ⟨some ⟨g,0,none⟩,cap,rfl,.inr ⟨g,0,rfl,cur,(0,0),hgh,fun j u hj=>?_⟩⟩
  rw [←ht,List.getElem?_take] at hj
  split at hj
  ·rw [Nat.zero_add];simpa using hj
  ·cases hj
theorem spread_len {g:St→Nat→Option (Nat × St)} {B:Blks} {s s1:St} {w:World} {a pl:Nat} {l:List (Nat × Nat)} (h:Rep B s w) (he:spreadF g s a pl = some (l,s1)):l.length≤1048576:=by
 unfold spreadF at he
 split at he
 ·cases he
 rename_i n hn
 have hsm:=(h.small.2 n (List.mem_of_getElem? hn)).2.2.2.2.1
 split at he
 ·cases he;exact hsm
 split at he
 ·cases he
 split at he
 ·cases he
 split at he
 ·split at he
  ·cases he
  ·cases he;simp
 ·cases he;simp
def AndOut (af:St→Nat→Nat→Option (Nat × St)) (B:Blks) (w:World) (base:Nat) (bx:List (Nat × Nat × Nat)) (ba1 ba2:Option Addr) (right left:List (Nat × Nat)) (fin:List (Nat × Nat) × St) (k:Nat) (v:Value) (wr:World):Prop :=
 ∃ B' sk out,AndC B B' w base bx ba1 ba2 right left sk out v wr∧andAll af right (left.drop k) sk out = some fin
def AndIn (af:St→Nat→Nat→Option (Nat × St)) (B:Blks) (w:World) (base:Nat) (bx:List (Nat × Nat × Nat)) (ba1 ba2:Option Addr) (right left:List (Nat × Nat)) (p:Nat × Nat) (k:Nat) (fin:List (Nat × Nat) × St) (j:Nat) (v:Value) (wr:World):Prop :=
 ∃ B' sk out out' s',AndC B B' w base bx ba1 ba2 right left sk out v wr∧andRow af p (right.drop j) sk out = some (out',s')∧andAll af right (left.drop (k+1)) s' out' = some fin
theorem andRow_cons {af:St→Nat→Nat→Option (Nat × St)} {p q:Nat × Nat} {r out:List (Nat × Nat)} {s:St} {fin:List (Nat × Nat) × St} (h:andRow af p (q :: r) s out = some fin) :
  (∃ s1,af s p.1 q.1 = some (0,s1)∧andRow af p r s1 out = some fin)∨(∃ pr s1 su s2,af s p.1 q.1 = some (pr,s1)∧pr≠0∧af s1 p.2 q.2 = some (su,s2)∧andRow af p r s2 (out++[(pr,su)]) = some fin):=by
 unfold andRow at h
 split at h
 ·cases h
 ·rename_i pr s1 h1
  split at h
  ·rename_i h0
   subst h0
   exact .inl ⟨s1,h1,h⟩
  ·rename_i h0
   split at h
   ·cases h
   ·rename_i su s2 h2
    exact .inr ⟨pr,s1,su,s2,h1,h0,h2,h⟩
theorem andAll_cons {af:St→Nat→Nat→Option (Nat × St)} {right:List (Nat × Nat)} {p:Nat × Nat} {r out:List (Nat × Nat)} {s:St} {fin:List (Nat × Nat) × St} (h:andAll af right (p :: r) s out = some fin) :
  ∃ out' s',andRow af p right s out = some (out',s')∧andAll af right r s' out' = some fin:=by
 unfold andAll at h
 split at h
 ·cases h
 ·rename_i o s1 h1
  exact ⟨o,s1,h1,h⟩
end Go.Proofs.YtmnjakejhbpkoaaGreatDoor
namespace Go.Proofs.YtmnjakejhbpkoaaGreatDoor
open Go Go.RowKit Go.Shelf
set_option maxRecDepth 100000 in
set_option maxHeartbeats 8000000 in
theorem and_new {nf:St→Nat→Option (Nat × St)} {af:St→Nat→Nat→Option (Nat × St)} (hn:NotsLaw nf) (ih:AndsLaw af) {B:Blks} {s s1 s':St} {w:World} {x y a b na c:Nat} (h:Rep B s w) (ho:Ord2 x y a b) (ha0:a≠0) (hab:a≠b) (ha1:a≠1) (he:nf s a = some (na,s1)) (hna:na≠b) (hc:asc s1.ands (a,b) = none)
  (hnew:andNew nf af s1 a b = some (c,s')) :
  Calls Tryz.prog 154 #[.pointer (some ⟨B.sb,0,none⟩),.int .i64 x,.int .i64 y] w (RetStp [] (.int .i64 c) B s' w):=by
 unfold andNew at hnew
 split at hnew
 ·cases hnew
 rename_i pl hmeet
 split at hnew
 ·cases hnew
 rename_i right s2 hsp1
 split at hnew
 ·cases hnew
 rename_i left s3 hsp2
 split at hnew
 ·cases hnew
 rename_i l s4 hall
 split at hnew
 ·cases hnew
 rename_i c' s5 hmk
 simp only [Option.some.injEq,Prod.mk.injEq] at hnew
 obtain ⟨rfl,rfl⟩:=hnew
 obtain ⟨hck,p,q,e1,e2,hp2,hq2,rfl⟩:=meetS_some hmeet
 have d1:((a:Int) == 0) = false:=by simp;omega
 have d2:((a:Int) == b) = false:=by simp;omega
 have d3:((a:Int) == 1) = false:=by simp;omega
 have d4:((na:Int) == b) = false:=by simp;omega
 have hq:=hn B s s1 w a na h he
 replace he:=Lib.hid he
 replace hsp1:=Lib.hid hsp1
 replace hsp2:=Lib.hid hsp2
 replace hall:=Lib.hid hall
 replace hmk:=Lib.hid hmk
 replace e1:=Lib.hid e1
 replace e2:=Lib.hid e2
 replace hmeet:=Lib.hid hmeet
 have hor:(decide ((y:Int) < x) = true∧y < x∧a = y∧b = x)∨(decide ((y:Int) < x) = false∧¬ y < x∧a = x∧b = y):=by
  rcases ho with ⟨h1,h2,h3⟩ | ⟨h1,h2,h3⟩
  ·exact .inl ⟨decide_eq_true (by omega),h1,h2,h3⟩
  ·exact .inr ⟨decide_eq_false (by omega),h1,h2,h3⟩
 clear ho h
 rcases hor with ⟨d0,hcc,rfl,rfl⟩ | ⟨d0,hcc,rfl,rfl⟩
 all_goals
  go_enter Tryz.func154,Tryz.ntmps154
  go_wp2_with fail
  refine hq.mono ?_
  rintro e w1 ⟨rfl,B1,hR1,hS1⟩
  have hsb:B1.sb = B.sb:=hS1.sb
  have hbox:=heap_alloc_new w1 (.cells #[.int .i64 a,.int .i64 b] 165)
  have hx1:Ext w1 (w1.alloc (.cells #[.int .i64 a,.int .i64 b] 165)):=(Ext.refl w1).alloc _
  clear hq
  replace hR1:=Lib.hid hR1
  go_wp2_with fail
  generalize w1.alloc (.cells #[.int .i64 a,.int .i64 b] 165) = w2 at *
  obtain ⟨b0,b1⟩:=pbox_cells hbox
  have F1:∀ w':World,Ext w2 w'→w'.cell? ⟨w1.heap.size,0,none⟩ = some (.int .i64 a)∧w'.cell? ⟨w1.heap.size,1,none⟩ = some (.int .i64 b)∧w'.cell? ⟨B.sb,4,none⟩ = some (.map (some B1.ab)) ∧
    (Instr.lookup 161 (.map (some B1.ab)) (.agg #[.int .i64 (a:Int),.int .i64 (b:Int)]) true).run Tryz.prog w' = .ok (.tuple #[.int .i64 0,.bool false]) w':=fun w' hw'=>by
   have hR:=hR1.out.below (hx1.trans hw').below
   obtain ⟨cap,_,_,_,_,c4,_⟩:=hR.cells
   rw [hsb] at c4
   have hl:=hR.andLook a b
   rw [hc] at hl
   exact ⟨hw'.cell b0,hw'.cell b1,c4,hl⟩
  replace F1:=Lib.hid F1
  replace hc:=Lib.hid hc
  replace hbox:=Lib.hid hbox
  clear b0 b1
  (refine wp_region_below (by kernel_rfl) (by kernel_rfl) ?_
   repeat (refine wpQuiet_step (fun K hK=>?_)
           go_simp
           first
            | (refine hK _ ?_;clear hK K)
            | (replace hK:=Lib.hid hK
               apply Exists.intro
               refine ⟨fun wq hq=>?_,hK.out _ ?_⟩
               ·(obtain ⟨f1,f2,f3,f4⟩:=F1.out wq hq)
                go_simp
                first
                 | done
                 | rfl
                 | exact ⟨rfl,rfl⟩
                 | fail
               clear hK K))
   refine wpQuiet_nil ?_)
  intro w3 hw3
  clear F1
  have hR3:=hR1.out.below (hx1.trans hw3).below
  obtain ⟨cap,ct,_,cn,_,_,_⟩:=hR3.cells
  rw [hsb] at ct cn
  obtain ⟨ai,na0⟩:=hR3.plAt e1.out
  obtain ⟨bi,nb0⟩:=hR3.plAt e2.out
  have ga0:(0:Int)≤a:=by omega
  have ga1:(a:Int) < s1.nodes.length:=by omega
  have gb0:(0:Int)≤b:=by omega
  have gb1:(b:Int) < s1.nodes.length:=by omega
  go_wp2_with fail
  have F2:∀ w':World,Ext w3 w'→w'.cell? ⟨B.sb,0,none⟩ = some (.slice (some ⟨B1.tb,0,none⟩) s1.tree.length B1.tc)∧w'.cell? ⟨B.sb,2,none⟩ = some (.slice (some ⟨B1.nb,0,none⟩) s1.nodes.length cap)∧w'.cell? ⟨B1.nb,a * 5,none⟩ = some (.int .i64 p)∧w'.cell? ⟨B1.nb,b * 5,none⟩ = some (.int .i64 q) :=
   fun w' hw'=>⟨hw'.cell ct,hw'.cell cn,hw'.cell na0,hw'.cell nb0⟩
  replace F2:=Lib.hid F2
  have htree:=Lib.hid hR3.treeAt
  replace hR3:=Lib.hid hR3
  replace hck:=Lib.hid hck
  clear ct cn na0 nb0
  (refine wp_region_below (by kernel_rfl) (by kernel_rfl) ?_
   repeat (refine wpQuiet_step (fun K hK=>?_)
           go_simp
           first
            | (refine hK _ ?_;clear hK K)
            | (replace hK:=Lib.hid hK
               apply Exists.intro
               refine ⟨fun wq hq=>?_,hK.out _ ?_⟩
               ·(obtain ⟨f1,f2,f3,f4⟩:=F2.out wq hq)
                go_simp
                first
                 | done
                 | rfl
                 | exact ⟨rfl,rfl⟩
                 | (refine (meet_any wq B1.tb 0 B1.tc (htree.out.ext hq) hck.out p q hp2 hq2).mono ?_;rintro e w' ⟨rfl,hb⟩;exact ⟨rfl,hq.trans hb⟩)
               clear hK K))
   refine wpQuiet_nil ?_)
  intro w4 hw4
  clear F2
  have hR4:=hR3.out.below hw4.below
  have hS4:Stp [] B w B1 w4:=hS1.then (Stp.of_below ((hx1.trans hw3).trans hw4).below)
  have hq1:=spread_any hn hR4 hsp1.out
  rw [hsb] at hq1
  have hbox4:=((hw3.trans hw4).below.block _ (Array.getElem?_eq_some_iff.1 hbox.out).1).trans hbox.out
  replace hbox4:=Lib.hid hbox4
  replace hR4:=Lib.hid hR4
  go_wp2_with fail
  refine hq1.mono ?_
  rintro e w5 ⟨v1,rfl,hE1,B2,hR5,hS5⟩
  have hq2:=spread_any hn hR5 hsp2.out
  have hrl:=spread_len hR4.out hsp1.out
  have hll:=spread_len hR5 hsp2.out
  rw [hS5.sb,hsb] at hq2
  have hbox5:=hS5.keep hbox4.out (hR4.out.not_mut hbox4.out (by decide) (by decide)) (by simp)
  replace hbox5:=Lib.hid hbox5
  replace hE1:=Lib.hid hE1
  replace hR5:=Lib.hid hR5
  clear hq1
  go_wp2_with fail
  refine hq2.mono ?_
  rintro e w6 ⟨v2,rfl,hE2,B3,hR6,hS6⟩
  have hE1':=hE1.out.stp hR5.out hS6
  have hbox6:=hS6.keep hbox5.out (hR5.out.not_mut hbox5.out (by decide) (by decide)) (by simp)
  have hSt:Stp [] B w B3 w6:=(hS4.then hS5).then hS6
  clear hq2
  obtain ⟨ba1,cp1,rfl,_⟩:=id hE1'
  obtain ⟨ba2,cp2,rfl,_⟩:=id hE2
  obtain ⟨_,hr1⟩:=hE1'.rowsB
  obtain ⟨_,hr2⟩:=hE2.rowsB
  have hbase:gPow < w6.heap.size∧gTz < w6.heap.size:=⟨hR6.pow.lt,hR6.tz.lt'⟩
  have hwb:w.heap.size≤w6.heap.size:=hSt.fr.size
  have hlen:l.length≤1048576:=by
   have:=hmk.out
   unfold makeF at this
   by_cases hl:l.length≤1048576
   ·exact hl
   ·simp [hl] at this
  have hloop0:Hid (AndOut af B w w6.heap.size [(w1.heap.size,a,b)] ba1 ba2 right left (l,s4) 0 (.slice none 0 0) w6):=Lib.hid
   ⟨B3,s3,[],⟨hR6,hSt,fun g hg=>by simp [Value.ownBlock] at hg,fun x hx=>by simp at hx;subst hx;exact ⟨hbox6,by simp [Value.ownBlock]⟩,Nat.le_refl _,World.ownsRow_nil _ _ _ _,hr1,hr2⟩,hall.out⟩
  obtain ⟨ip,hip,hpz,hps,hpb⟩:=info_parts info_pair
  replace hbase:=Lib.hid hbase
  clear hE1' hE2 hE1 hR6 hSt hr1 hr2 hbox6 hbox5 hbox4 hbox hR5 hS6 hS5 hS4 hR4 hR3 hR1 hS1 hall hx1 hw3 hw4
  go_wp2_with fail
  generalize w6.heap.size = base at *
  generalize w1.heap.size = kb at *
  go_loopw [11,87] (fun v i wr=>∃ k:Nat,k≤left.length∧i = .int .i64 k∧Hid (AndOut af B w base [(kb,a,b)] ba1 ba2 right left (l,s4) k v wr))
   (fun _ i _=>left.length - (intOf i).toNat)
  case atStart=>exact ⟨0,Nat.zero_le _,rfl,hloop0⟩
  case round =>
   clear hloop0
   obtain ⟨k,hk,rfl,hI⟩:=hrel
   obtain ⟨B4,sk,out,hC,hal⟩:=hI.out
   clear hI
   by_cases hlt:k < left.length
   ·rw [List.drop_eq_getElem_cons hlt] at hal
    obtain ⟨vb,vo,rfl,e0,e1⟩:=hC.r2.at hlt
    generalize left[k] = p at *
    obtain ⟨p1,p2⟩:=p
    simp only at e0 e1
    obtain ⟨out',s',hrow,hrest⟩:=andAll_cons hal
    have hB:=hC.boxed (p1,p2)
    have hin0:Hid (AndIn af B w base [(wr.heap.size,p1,p2),(kb,a,b)] ba1 (some ⟨vb,vo,none⟩) right left (p1,p2) k (l,s4) 0 u11 (wr.alloc (.cells #[.int .i64 (p1:Int),.int .i64 (p2:Int)] 165))):=Lib.hid ⟨B4,sk,out,out',s',hB,hrow,hrest⟩
    clear hB hrow hrest hal
    have hbs:=hC.bs
    clear hC
    go_wp2_with fail
    generalize wr.alloc (.cells #[.int .i64 (p1:Int),.int .i64 (p2:Int)] 165) = wi at *
    generalize wr.heap.size = pb at *
    go_loopw [11,93] (fun v i wr=>∃ j:Nat,j≤right.length∧i = .int .i64 j∧Hid (AndIn af B w base [(pb,p1,p2),(kb,a,b)] ba1 (some ⟨vb,vo,none⟩) right left (p1,p2) k (l,s4) j v wr))
     (fun _ i _=>right.length - (intOf i).toNat)
    case atStart=>exact ⟨0,Nat.zero_le _,rfl,hin0⟩
    case round =>
     clear hin0
     obtain ⟨j,hj,rfl,hI⟩:=hrel
     obtain ⟨B5,sk5,out5,out',s',hC,hrow,hrest⟩:=hI.out
     clear hI
     by_cases hjt:j < right.length
     ·rw [List.drop_eq_getElem_cons hjt] at hrow
      obtain ⟨rb,ro,rfl,e0,e1⟩:=hC.r1.at hjt
      generalize right[j] = q at *
      obtain ⟨q1,q2⟩:=q
      simp only at e0 e1
      have hC2:=hC.boxed (q1,q2)
      obtain ⟨p0,p1'⟩:=pbox_cells (hC2.box (pb,p1,p2) (by simp)).1
      obtain ⟨q0,q1'⟩:=pbox_cells (hC2.box (_,q1,q2) (List.mem_cons_self ..)).1
      simp only at p0 p1' q0 q1'
      have hsb2:B5.sb = B.sb:=hC2.stp.sb
      rcases andRow_cons hrow with ⟨s6,h1,hrow2⟩ | ⟨pr,s6,su,s7,h1,hpr,h2,hrow2⟩
      ·have c1:=ih B5 sk5 s6 _ p1 q1 0 hC2.rep h1
       rw [hsb2] at c1
       clear hrow hC
       replace hrow2:=Lib.hid hrow2
       replace hrest:=Lib.hid hrest
       replace h1:=Lib.hid h1
       replace hC2:=Lib.hid hC2
       go_wp2_with fail
       generalize wr.alloc (.cells #[.int .i64 (q1:Int),.int .i64 (q2:Int)] 165) = w7 at *
       refine c1.mono ?_
       rintro e w8 ⟨rfl,B6,hR6,hS6⟩
       have hC3:=(hC2.out.call hR6 hS6).fewer (by_:=[(pb,p1,p2),(kb,a,b)]) (by simp)
       replace hR6:=Lib.hid hR6
       go_wp2_with fail
       go_roundw
       case rel=>exact ⟨j+1,by omega,by go_num,Lib.hid ⟨B6,s6,out5,out',s',hC3,hrow2.out,hrest.out⟩⟩
       case measure=>simp [intOf];omega
      ·have c1:=ih B5 sk5 s6 _ p1 q1 pr hC2.rep h1
       rw [hsb2] at c1
       have hpn:((pr:Int) != 0) = true:=by simp;omega
       have hpn0:((pr:Int) == 0) = false:=by simp;omega
       clear hrow hC
       have hple:=andRow_pre _ _ _ _ _ _ _ hrow2
       have hple2:=andAll_pre _ _ _ _ _ _ _ hrest
       replace hrow2:=Lib.hid hrow2
       replace hrest:=Lib.hid hrest
       replace h1:=Lib.hid h1
       replace h2:=Lib.hid h2
       replace hC2:=Lib.hid hC2
       go_wp2_with fail
       generalize wr.alloc (.cells #[.int .i64 (q1:Int),.int .i64 (q2:Int)] 165) = w7 at *
       refine c1.mono ?_
       rintro e w8 ⟨rfl,B6,hR6,hS6⟩
       have hC3:=hC2.out.call hR6 hS6
       obtain ⟨p0',p1''⟩:=pbox_cells (hC3.box (pb,p1,p2) (by simp)).1
       obtain ⟨q0',q1''⟩:=pbox_cells (hC3.box (_,q1,q2) (List.mem_cons_self ..)).1
       simp only at p0' p1'' q0' q1''
       have c2:=ih B6 s6 s7 w8 p2 q2 su hR6 h2.out
       rw [hS6.sb,hsb2] at c2
       clear c1 p0 p1' q0 q1'
       replace hR6:=Lib.hid hR6
       replace hC3:=Lib.hid hC3
       go_wp2_with fail
       refine c2.mono ?_
       rintro e w9 ⟨rfl,B7,hR7,hS7⟩
       have hC4:=((hC3.out.call hR7 hS7).tight).fewer (by_:=[(pb,p1,p2),(kb,a,b)]) (by simp)
       have hC5:=hC4.ext ((Ext.refl w9).alloc (.cells #[.int .i64 (pr:Int),.int .i64 (su:Int)] 165))
       have hone:Hid (∀ u∈([.int .i64 (pr:Int),.int .i64 (su:Int)]:List Value),u.oneCell' = true):=Lib.hid (by intro u hu;simp at hu;rcases hu with rfl | rfl <;> rfl)
       have hno:out5.length+1≤1048576:=by simp at hple;omega
       have hbs5:=hC5.bs
       clear c2 p0' p1'' q0' q1''
       replace hR7:=Lib.hid hR7
       replace hC4:=Lib.hid hC4
       replace hC5:=Lib.hid hC5
       go_wp2_with (at_builtin;refine wpList_append_lies _ rfl _ _ 156 rfl base 165 ip _ 2 16 Tryz.underlying156 hip hpz hps hpb rfl (by decide) _ out5.length (flatP out5) rfl hC5.out.own ⟨w9.heap.size,0,none⟩ 1 1 [.int .i64 (pr:Int),.int .i64 (su:Int)] rfl rfl (World.news_of_block (cs:=#[.int .i64 (pr:Int),.int .i64 (su:Int)]) (t:=165) (fr:=(0,0)) (heap_alloc_new w9 _)) hone.out (by omega) (by unfold maxLen;omega) (by omega) hbs5 _ rfl ?_;intro g9 cap9 w10 ho9 hg9 hat9 _)
       have hC6:=hC5.out.push (p:=(pr,su)) (w':=w10) (fun k hk=>Nat.lt_of_lt_of_le (by simpa using (List.mem_filter.1 hk).2) (Below.size (Below.alloc (Below.refl _ w9) (Nat.le_refl _) _))) hbase.out hwb ho9 hg9 hat9
       go_roundw
       case rel=>exact ⟨j+1,by omega,by go_num,Lib.hid ⟨_,s7,out5++[(pr,su)],out',s',hC6,hrow2.out,hrest.out⟩⟩
       case measure=>simp [intOf];omega
     ·obtain rfl:j = right.length:=by omega
      simp only [List.drop_length,andRow,Option.some.injEq,Prod.mk.injEq] at hrow
      obtain ⟨rfl,rfl⟩:=hrow
      have hC2:=hC.fewer (by_:=[(kb,a,b)]) (by simp)
      replace hrest:=Lib.hid hrest
      replace hC:=Lib.hid hC
      replace hC2:=Lib.hid hC2
      go_wp2_with fail
      go_roundw
      case rel=>exact ⟨k+1,by omega,by go_num,Lib.hid ⟨B5,_,_,hC2.out,hrest.out⟩⟩
      case measure=>simp [intOf];omega
   ·obtain rfl:k = left.length:=by omega
    simp only [List.drop_length,andAll,Option.some.injEq,Prod.mk.injEq] at hal
    obtain ⟨rfl,rfl⟩:=hal
    have hEl:=ElAt.of_own hC.own
    have hq9:=make_any (orF_law hn ih) hC.rep hEl hmk.out
    rw [hC.stp.sb] at hq9
    obtain ⟨hbk,_⟩:=hC.box (kb,a,b) (by simp)
    have hnmk:=hC.rep.not_mut hbk (by decide) (by decide)
    have hStC:=hC.stp
    replace hbk:=Lib.hid hbk
    replace hC:=Lib.hid hC
    replace hEl:=Lib.hid hEl
    go_wp2_with fail
    refine hq9.mono ?_
    rintro e w7 ⟨rfl,B7,hR7,hS7⟩
    obtain ⟨k0,k1⟩:=pbox_cells (hS7.keep hbk.out hnmk (by simp))
    obtain ⟨_,_,_,_,_,c4,_⟩:=hR7.cells
    rw [hS7.sb,hStC.sb] at c4
    have hR8:Rep B7 s5 w7.drew:=hR7.same fun _ _ _=>rfl
    have f4:w7.drew.cell? ⟨B.sb,4,none⟩ = some (.map (some B7.ab)):=c4
    have f0:w7.drew.cell? ⟨kb,0,none⟩ = some (.int .i64 a):=k0
    have f1:w7.drew.cell? ⟨kb,1,none⟩ = some (.int .i64 b):=k1
    have hpt:(Instr.mapUpdate 161 (.map (some B7.ab)) (.agg #[.int .i64 a,.int .i64 b]) (.int .i64 c')).run Tryz.prog w7.drew = .ok () (putMap 165 Tryz.prog w7.drew B7.ab (encPr (a,b)) (encNat c')) :=
     (hR8.ands.put pairLaw (T:=161) Tryz.underlying161 (a,b) c').1
    have hR9:=hR8.putA (a,b) c'
    have hS9:Stp [] B w B7 (putMap 165 Tryz.prog w7.drew B7.ab (encPr (a,b)) (encNat c')) :=
     ((hStC.then hS7).then (Stp.of_below (X:=[]) ((Below.refl _ w7).drew))).then (putMap_stp _ _ (by simp [Blks.mut]) _ _)
    generalize putMap 165 Tryz.prog w7.drew B7.ab (encPr (a,b)) (encNat c') = w9 at *
    replace hR9:=Lib.hid hR9
    replace hR8:=Lib.hid hR8
    replace hR7:=Lib.hid hR7
    clear c4 k0 k1
    go_wp2_with fail
    go_region_law (fail)
    all_goals
     go_wp2_with fail
     go_ret
     exact ⟨rfl,B7,hR9.out,hS9⟩
end Go.Proofs.YtmnjakejhbpkoaaGreatDoor
namespace Go.Proofs.YtmnjakejhbpkoaaGreatDoor
open Go Go.RowKit Go.Shelf
theorem andOrd_law {nf:St→Nat→Option (Nat × St)} {af:St→Nat→Nat→Option (Nat × St)} (hn:NotsLaw nf) (ih:AndsLaw af) {B:Blks} {s s':St} {w:World} {x y a b r:Nat} (h:Rep B s w) (ho:Ord2 x y a b) (he:andOrd nf af s a b = some (r,s')) :
  Calls Tryz.prog 154 #[.pointer (some ⟨B.sb,0,none⟩),.int .i64 x,.int .i64 y] w (RetStp [] (.int .i64 r) B s' w):=by
 unfold andOrd at he
 split at he
 ·rename_i hc
  cases he
  exact and_triv h ho hc
 rename_i hc
 have ha0:a≠0:=fun e=>hc (.inl e)
 have hab:a≠b:=fun e=>hc (.inr e)
 split at he
 ·rename_i h1
  cases he
  subst h1
  exact and_one h ho (fun e=>hab e.symm)
 rename_i ha1
 split at he
 ·cases he
 rename_i na s1 hna
 split at he
 ·rename_i h2
  cases he
  subst h2
  exact and_neg hn h ho ha0 hab ha1 hna
 rename_i hnb
 split at he
 ·rename_i c hc2
  cases he
  exact and_hit hn h ho ha0 hab ha1 hna hnb hc2
 ·rename_i hc2
  exact and_new hn ih h ho ha0 hab ha1 hna hnb hc2 he
theorem andF_law (f:Nat):AndsLaw (andF f):=by
 induction f with
 | zero=>intro B s s' w a b r h he;cases he
 | succ f ih =>
   intro B s s' w a b r h he
   unfold andF at he
   split at he
   ·rename_i hc
    exact andOrd_law (notF_law f) ih h (.inl ⟨hc,rfl,rfl⟩) he
   ·rename_i hc
    exact andOrd_law (notF_law f) ih h (.inr ⟨hc,rfl,rfl⟩) he
end Go.Proofs.YtmnjakejhbpkoaaGreatDoor
