import Derived.Test.YtmnjakejhbpkoaaGreatDoorWNew
import Derived.Deep.LoopGhost
import Derived.Laws.EntriesVeiled
set_option linter.unusedSimpArgs false
set_option linter.unusedVariables false
namespace Go.Proofs.YtmnjakejhbpkoaaGreatDoor
open Go Go.RowKit Go.Shelf
def pickF (g:Nat→Option Bool):List (Nat × Nat)→Option Nat
 | []=>none
 | p :: r=>match g p.1 with
   | none=>none
   | some true=>some p.2
   | some false=>pickF g r
def absI (l:Int):Int:=if 0 < l then l else -l
def evalF:Nat→List SNode→Nat→VSet→Option Bool
 | 0,_,_,_=>none
 | f+1,ns,a,x=>match ns[a]? with
   | none=>none
   | some n=>if 0≤n.pl∧n.lit = 0 then
      match pickF (fun p=>evalF f ns p x) n.el with
      | none=>none
      | some b=>evalF f ns b x
     else if n.lit≠0 then some (hasS x (absI n.lit) == decide (0 < n.lit)) else some (a == 1)
def EvLaw (f:Nat):Prop:=∀ (B:Blks) (s:St) (w:World) (a:Nat) (x:VSet) (r:Bool),Rep B s w→s.tree≠[]→evalF f s.nodes a x = some r →
 Calls Tryz.prog 48 #[.pointer (some ⟨B.sb,0,none⟩),.int .i64 a,.agg #[.int .u64 (lo x),.int .u64 (hi x)]] w fun e w'=>e = .returned (.bool r)∧Ext w w'
def EvLoop (s:St) (w:World) (x:VSet) (r:Bool) (bx:Nat) (k a:Nat) (wr:World):Prop :=
 ∃ n v,Ext w wr∧s.nodes[a]? = some n∧wr.heap[bx]? = some (.cells #[.int .i64 n.pl,.int .i64 n.lit,v,.int .u64 (lo n.le),.int .u64 (hi n.le)] tNode (0,0))∧ElAt wr v n.el∧evalF k s.nodes a x = some r
theorem eval_succ {k:Nat} {ns:List SNode} {a:Nat} {x:VSet} {r:Bool} {n:SNode} (h:evalF k ns a x = some r) (hn:ns[a]? = some n):∃ f,k = f+1 ∧
  ((0≤n.pl∧n.lit = 0∧∃ b,pickF (fun p=>evalF f ns p x) n.el = some b∧evalF f ns b x = some r)∨(¬ (0≤n.pl∧n.lit = 0)∧n.lit≠0∧r = (hasS x (absI n.lit) == decide (0 < n.lit)))∨(n.pl < 0∧n.lit = 0∧r = (a == 1))):=by
 cases k with
 | zero=>cases h
 | succ f =>
   refine ⟨f,rfl,?_⟩
   unfold evalF at h
   rw [hn] at h
   simp only at h
   split at h
   ·rename_i hc
    split at h
    ·cases h
    ·rename_i b hb
     exact .inl ⟨hc.1,hc.2,b,hb,h⟩
   ·rename_i hc
    split at h
    ·rename_i hl
     exact .inr (.inl ⟨hc,hl,by simpa using h.symm⟩)
    ·rename_i hl
     have hl:n.lit = 0:=by omega
     exact .inr (.inr ⟨by omega,hl,by simpa using h.symm⟩)
theorem pick_cons {g:Nat→Option Bool} {p:Nat × Nat} {r:List (Nat × Nat)} {b:Nat} (h:pickF g (p :: r) = some b):(g p.1 = some true∧b = p.2)∨(g p.1 = some false∧pickF g r = some b):=by
 unfold pickF at h
 split at h
 ·cases h
 ·rename_i h1
  exact .inl ⟨h1,by simpa using h.symm⟩
 ·rename_i h1
  exact .inr ⟨h1,h⟩
theorem ElAt.lens {w:World} {v:Value} {l:List (Nat × Nat)} (h:ElAt w v l):∃ ba c,v = .slice ba l.length c∧∀ k (hk:k < l.length),∃ b o,ba = some ⟨b,o,none⟩∧w.cell? ⟨b,o+k * 2,none⟩ = some (.int .i64 (l[k].1:Nat))∧w.cell? ⟨b,o+k * 2+1,none⟩ = some (.int .i64 (l[k].2:Nat)):=by
 obtain ⟨ba,c,rfl,h⟩:=h
 refine ⟨ba,c,rfl,fun k hk=>?_⟩
 rcases h with ⟨_,e,_⟩ | ⟨b,o,e,hr⟩
 ·rw [e] at hk;simp at hk
 ·exact ⟨b,o,e,hr.off0 k hk⟩
set_option maxRecDepth 100000 in
set_option maxHeartbeats 4000000 in
theorem eval_law (F:Nat) (ih:∀ f,f < F→EvLaw f):EvLaw F:=by
 intro B s w a x r h ht he
 obtain ⟨n,hn⟩:∃ n,s.nodes[a]? = some n:=by
  cases F with
  | zero=>cases he
  | succ f =>
    unfold evalF at he
    split at he
    ·cases he
    ·rename_i n hn
     exact ⟨n,hn⟩
 have hai:a < s.nodes.length:=(List.getElem?_eq_some_iff.1 hn).1
 have hch:chkF s.nodes.length [(a:Int)] = 0:=by simp [chkF,hai]
 have hx1:=((Ext.refl w).alloc (.cells #[.int .u64 (lo x),.int .u64 (hi x)] 41)).alloc (.cells #[.int .i64 a] 3)
 obtain ⟨hz0,hz1⟩:=two_all w (.cells #[.int .u64 (lo x),.int .u64 (hi x)] 41) (.cells #[.int .i64 a] 3)
 replace hch:=Lib.hid hch
 replace he:=Lib.hid he
 go_enter Tryz.func48,Tryz.ntmps48
 go_wp2_with fail
 generalize (w.alloc (.cells #[.int .u64 (lo x),.int .u64 (hi x)] 41)).alloc (.cells #[.int .i64 a] 3) = w1 at *
 have hR1:=h.below hx1.below
 have hq:=sck_any hR1 ht (slI_one hz1) (by simp)
 rw [hch.out] at hq
 refine hq.mono ?_
 rintro e w2 ⟨rfl,rfl⟩
 clear hq
 obtain ⟨cap,_,_,cn,_,_,_⟩:=hR1.cells
 obtain ⟨v,hv,hve,n0,n1,n2,n3,n4⟩:=hR1.node hn
 have ga0:(0:Int)≤a:=by omega
 have ga1:(a:Int) < s.nodes.length:=by omega
 obtain ⟨hxb,hbx⟩:=nodeBox (w:=w1) n.pl n.lit v (lo n.le) (hi n.le)
 unfold tNode at hxb hbx
 obtain ⟨ba,cp,rfl,hv2⟩:=id hv
 have hsz:w.heap.size < w1.heap.size:=(Array.getElem?_eq_some_iff.1 hz0).1
 have hloop0:Hid (EvLoop s w1 x r w1.heap.size F a (w1.alloc (.cells #[.int .i64 n.pl,.int .i64 n.lit,.slice ba n.el.length cp,.int .u64 (lo n.le),.int .u64 (hi n.le)] 158))):=Lib.hid ⟨n,_,hxb,hn,hbx,hv.ext hxb,he.out⟩
 replace hR1:=Lib.hid hR1
 replace hz0:=Lib.hid hz0
 clear hv hv2 hve hbx hz1 hn he hch
 go_wp2_with fail
 clear n0 n1 n2 n3 n4 cn
 generalize w1.alloc (.cells #[.int .i64 n.pl,.int .i64 n.lit,.slice ba n.el.length cp,.int .u64 (lo n.le),.int .u64 (hi n.le)] 158) = w3 at *
 clear hxb
 go_loopg [1] F (fun k a wr=>∃ a':Nat,a = .int .i64 a'∧k≤F∧Hid (EvLoop s w1 x r w1.heap.size k a' wr))
 case atStart=>exact ⟨a,rfl,Nat.le_refl _,hloop0⟩
 case round =>
  clear hloop0
  obtain ⟨a',rfl,hgk,hI⟩:=hrel
  obtain ⟨n',v',hxr,hn',hbx,hv',he'⟩:=hI.out
  clear hI
  have hsm:=h.small.2 n' (List.mem_of_getElem? hn')
  obtain ⟨hs1,hs2,hs3,hs4,hs5,_⟩:=hsm
  obtain ⟨c0,c1,c2,c3,c4,cf⟩:=cells5 hbx
  have cf0:=cf 0
  have cf1:=cf 1
  have cf2:=cf 2
  have cf3:=cf 3
  have cf4:=cf 4
  have hxb1:=(hxr.below.block _ (Array.getElem?_eq_some_iff.1 hz0.out).1).trans hz0.out
  obtain ⟨x0,x1⟩:=pbox_cells hxb1
  clear cf
  obtain ⟨f,rfl,hcase⟩:=eval_succ he' hn'
  replace hbx:=Lib.hid hbx
  replace hxb1:=Lib.hid hxb1
  replace he':=Lib.hid he'
  obtain ⟨ba',cp',rfl,hat⟩:=hv'.lens
  replace hat:=Lib.hid hat
  rcases hcase with ⟨hp,hl,b,hb,hbe⟩ | ⟨hp,hl,hr⟩ | ⟨hp,hl,hr⟩
  ·rw [hl] at c1
   have d0:decide (n'.pl≥0) = true:=decide_eq_true hp
   replace hl:=Lib.hid hl
   replace hn':=Lib.hid hn'
   obtain ⟨wo,rfl⟩:∃ wo,wo = wr:=⟨wr,rfl⟩
   have hin0:Hid (Ext wo wo∧pickF (fun p=>evalF f s.nodes p x) (n'.el.drop 0) = some b):=Lib.hid ⟨Ext.refl wo,hb⟩
   replace hb:=Lib.hid hb
   replace hbe:=Lib.hid hbe
   go_wp2_with fail
   go_loopw [33] (fun i wi=>∃ j:Nat,j≤n'.el.length∧i = .int .i64 j∧Hid (Ext wo wi∧pickF (fun p=>evalF f s.nodes p x) (n'.el.drop j) = some b)) (fun i _=>n'.el.length - (intOf i).toNat)
   case atStart=>exact ⟨0,Nat.zero_le _,rfl,hin0⟩
   case round =>
    clear hin0
    obtain ⟨j,hj,rfl,hI⟩:=hrel
    obtain ⟨hxi,hpk⟩:=hI.out
    clear hI
    by_cases hjt:j < n'.el.length
    ·rw [List.drop_eq_getElem_cons hjt] at hpk
     obtain ⟨vb,vo,rfl,e0,e1⟩:=hat.out j hjt
     have hpc:=pick_cons hpk
     generalize n'.el[j] = p at *
     obtain ⟨p1,p2⟩:=p
     simp only at e0 e1 hpc
     have hx4:Ext wr (wr.alloc (.cells #[.int .i64 (p1:Int),.int .i64 (p2:Int)] 165)):=(Ext.refl wr).alloc _
     have hpb:=heap_alloc_new wr (.cells #[.int .i64 (p1:Int),.int .i64 (p2:Int)] 165)
     have e0:=hxi.cell e0
     have e1:=hxi.cell e1
     have hxw:=hxi.trans hx4
     have y0:=hxw.cell x0
     have y1:=hxw.cell x1
     obtain ⟨p0,p1'⟩:=pbox_cells hpb
     clear hpk
     replace hpb:=Lib.hid hpb
     rcases hpc with ⟨hg,rfl⟩ | ⟨hg,hpk⟩
     ·have hcall:=ih f (by omega) B s _ p1 x true (hR1.out.below (hxr.trans hxw).below) ht hg
      replace hg:=Lib.hid hg
      obtain ⟨n2,hn2⟩:∃ n2,s.nodes[b]? = some n2:=by
       have:=hbe.out
       cases f with
       | zero=>cases this
       | succ f =>
         unfold evalF at this
         split at this
         ·cases this
         ·rename_i n2 hn2
          exact ⟨n2,hn2⟩
      have hbi:b < s.nodes.length:=(List.getElem?_eq_some_iff.1 hn2).1
      have gb0:(0:Int)≤b:=by omega
      have gb1:(b:Int) < s.nodes.length:=by omega
      clear c0 c1 c2 c3 c4 cf0 cf1 cf2 cf3 cf4
      go_wp2_with fail
      generalize wr.alloc (.cells #[.int .i64 (p1:Int),.int .i64 (b:Int)] 165) = w4 at *
      refine hcall.mono ?_
      rintro e w5 ⟨rfl,hx5⟩
      have hxw5:=hxw.trans hx5
      have hR5:=hR1.out.below (hxr.trans hxw5).below
      obtain ⟨q0,q1⟩:=pbox_cells ((hx5.below.block _ (Array.getElem?_eq_some_iff.1 hpb.out).1).trans hpb.out)
      obtain ⟨cap5,_,_,cn5,_,_,_⟩:=hR5.cells
      obtain ⟨v5,hv5,hve5,n0,n1,n2',n3,n4⟩:=hR5.node hn2
      have hb5:=(hxw5.below.block _ (Array.getElem?_eq_some_iff.1 hbx.out).1).trans hbx.out
      obtain ⟨c0,c1,c2,c3,c4,cf⟩:=cells5 hb5
      have cf0:=cf 0
      have cf1:=cf 1
      have cf2:=cf 2
      have cf3:=cf 3
      have cf4:=cf 4
      clear cf p0 p1' e0 e1
      have hb6:=heap_set (heap_set (heap_set (heap_set (heap_set hb5 0 (.int .i64 n2.pl)) 1 (.int .i64 n2.lit)) 2 v5) 3 (.int .u64 (lo n2.le))) 4 (.int .u64 (hi n2.le))
      have hb6':(((((w5.setCell ⟨w1.heap.size,0,none⟩ (.int .i64 n2.pl)).setCell ⟨w1.heap.size,1,none⟩ (.int .i64 n2.lit)).setCell ⟨w1.heap.size,2,none⟩ v5).setCell ⟨w1.heap.size,3,none⟩ (.int .u64 (lo n2.le))).setCell ⟨w1.heap.size,4,none⟩ (.int .u64 (hi n2.le))).heap[w1.heap.size]? = some (.cells #[.int .i64 n2.pl,.int .i64 n2.lit,v5,.int .u64 (lo n2.le),.int .u64 (hi n2.le)] tNode (0,0)):=hb6
      have hx6:Ext w1 (((((w5.setCell ⟨w1.heap.size,0,none⟩ (.int .i64 n2.pl)).setCell ⟨w1.heap.size,1,none⟩ (.int .i64 n2.lit)).setCell ⟨w1.heap.size,2,none⟩ v5).setCell ⟨w1.heap.size,3,none⟩ (.int .u64 (lo n2.le))).setCell ⟨w1.heap.size,4,none⟩ (.int .u64 (hi n2.le))) :=
       (((((hxr.trans hxw5).setCell (Nat.le_refl _) _).setCell (Nat.le_refl _) _).setCell (Nat.le_refl _) _).setCell (Nat.le_refl _) _).setCell (Nat.le_refl _) _
      have hv6:ElAt (((((w5.setCell ⟨w1.heap.size,0,none⟩ (.int .i64 n2.pl)).setCell ⟨w1.heap.size,1,none⟩ (.int .i64 n2.lit)).setCell ⟨w1.heap.size,2,none⟩ v5).setCell ⟨w1.heap.size,3,none⟩ (.int .u64 (lo n2.le))).setCell ⟨w1.heap.size,4,none⟩ (.int .u64 (hi n2.le))) v5 n2.el:=hv5.same fun k c fz hk=>by
       have hne:k≠w1.heap.size:=fun e=>by
        rw [e,hb5] at hk
        simp [tNode,tPair] at hk
       rw [Below.heap_setCell _ _ _ _ hne,Below.heap_setCell _ _ _ _ hne,Below.heap_setCell _ _ _ _ hne,Below.heap_setCell _ _ _ _ hne,Below.heap_setCell _ _ _ _ hne]
      obtain ⟨ba5,cp5,rfl,_⟩:=id hv5
      have hfin:Hid (EvLoop s w1 x r w1.heap.size f b (((((w5.setCell ⟨w1.heap.size,0,none⟩ (.int .i64 n2.pl)).setCell ⟨w1.heap.size,1,none⟩ (.int .i64 n2.lit)).setCell ⟨w1.heap.size,2,none⟩ (.slice ba5 n2.el.length cp5)).setCell ⟨w1.heap.size,3,none⟩ (.int .u64 (lo n2.le))).setCell ⟨w1.heap.size,4,none⟩ (.int .u64 (hi n2.le)))):=Lib.hid
       ⟨n2,_,hx6,hn2,hb6',hv6,hbe.out⟩
      clear hb6 hb6' hx6 hv6 hb5 hv5 hve5 hR5 hn2 hxw5
      go_wp2_with fail
      go_roundg f
      case measure=>omega
      case rel=>exact ⟨b,rfl,by omega,hfin⟩
     ·have hcall:=ih f (by omega) B s _ p1 x false (hR1.out.below (hxr.trans hxw).below) ht hg
      replace hg:=Lib.hid hg
      replace hpk:=Lib.hid hpk
      go_wp2_with fail
      generalize wr.alloc (.cells #[.int .i64 (p1:Int),.int .i64 (p2:Int)] 165) = w4 at *
      refine hcall.mono ?_
      rintro e w5 ⟨rfl,hx5⟩
      go_wp2_with fail
      go_roundw
      case rel=>exact ⟨j+1,by omega,by go_num,Lib.hid ⟨hxw.trans hx5,hpk.out⟩⟩
      case measure=>simp [intOf];omega
    ·obtain rfl:j = n'.el.length:=by omega
     simp [pickF] at hpk
  ·rw [Decidable.not_and_iff_or_not] at hp
   have hl1:((n'.lit:Int) != 0) = true:=by simpa using hl
   have hl0:((n'.lit:Int) == 0) = false:=by simpa using hl
   have hneg:IntKind.i64.wrap (-n'.lit) = -n'.lit:=IntWalk.i64_in _ (by omega)
   replace hr:=Lib.hid hr
   replace hn':=Lib.hid hn'
   have F1:∀ w':World,Ext wr w'→w'.cell? ⟨w1.heap.size,1,none⟩ = some (.int .i64 n'.lit)∧w'.cell? ⟨w.heap.size,0,none⟩ = some (.int .u64 (lo x))∧w'.cell? ⟨w.heap.size,1,none⟩ = some (.int .u64 (hi x)):=fun w' hw'=>⟨hw'.cell c1,hw'.cell x0,hw'.cell x1⟩
   replace F1:=Lib.hid F1
   have hhas:=fun w'=>has_any x (absI n'.lit) w' (by unfold absI;split <;> omega) (by unfold absI;split <;> omega)
   have hsign:(0 < n'.lit∧absI n'.lit = n'.lit∧decide (n'.lit > 0) = true∧max n'.lit (-n'.lit) = n'.lit)∨(¬ 0 < n'.lit∧absI n'.lit = -n'.lit∧decide (n'.lit > 0) = false∧max n'.lit (-n'.lit) = -n'.lit):=by
    by_cases hpos:0 < n'.lit
    ·exact .inl ⟨hpos,if_pos hpos,decide_eq_true hpos,by omega⟩
    ·exact .inr ⟨hpos,if_neg hpos,decide_eq_false hpos,by omega⟩
   unfold encS at hhas
   rcases hsign with ⟨hpos,ha,hd1,hmx⟩ | ⟨hpos,ha,hd1,hmx⟩
   all_goals
    have hr2:Hid (r = (hasS x (absI n'.lit) == decide (n'.lit > 0))):=Lib.hid hr.out
    rw [ha] at hhas hr2
    replace ha:=Lib.hid ha
    by_cases hpl:0≤n'.pl
    ·have d0:decide (n'.pl≥0) = true:=decide_eq_true hpl
     go_wp2_with fail
     (refine wp_region_below (by kernel_rfl) (by kernel_rfl) ?_
      repeat (refine wpQuiet_step (fun K hK=>?_)
              go_simp
              first
               | (refine hK _ ?_;clear hK K)
               | (replace hK:=Lib.hid hK
                  apply Exists.intro
                  refine ⟨fun wq hq=>?_,hK.out _ ?_⟩
                  ·(obtain ⟨f1,f2,f3⟩:=F1.out wq hq)
                   go_simp
                   first
                    | done
                    | rfl
                    | exact ⟨rfl,rfl⟩
                    | (refine (hhas _).mono ?_;rintro e w' ⟨rfl,hb⟩;exact ⟨rfl,hq.trans hb⟩)
                  clear hK K))
      refine wpQuiet_nil ?_)
     intro w5 hw5
     go_wp2_with fail
     go_ret
     exact ⟨by rw [hr2.out,hd1];first | rfl | (simp;done) | (simp;rfl),(hx1.trans hxr).trans hw5⟩
    ·have d0:decide (n'.pl≥0) = false:=decide_eq_false hpl
     go_wp2_with fail
     (refine wp_region_below (by kernel_rfl) (by kernel_rfl) ?_
      repeat (refine wpQuiet_step (fun K hK=>?_)
              go_simp
              first
               | (refine hK _ ?_;clear hK K)
               | (replace hK:=Lib.hid hK
                  apply Exists.intro
                  refine ⟨fun wq hq=>?_,hK.out _ ?_⟩
                  ·(obtain ⟨f1,f2,f3⟩:=F1.out wq hq)
                   go_simp
                   first
                    | done
                    | rfl
                    | exact ⟨rfl,rfl⟩
                    | (refine (hhas _).mono ?_;rintro e w' ⟨rfl,hb⟩;exact ⟨rfl,hq.trans hb⟩)
                  clear hK K))
      refine wpQuiet_nil ?_)
     intro w5 hw5
     go_wp2_with fail
     go_ret
     exact ⟨by rw [hr2.out,hd1];first | rfl | (simp;done) | (simp;rfl),(hx1.trans hxr).trans hw5⟩
  ·have d0:decide (n'.pl≥0) = false:=decide_eq_false (by omega)
   have hl1:((n'.lit:Int) != 0) = false:=by simp [hl]
   replace hr:=Lib.hid hr
   replace hl:=Lib.hid hl
   replace hn':=Lib.hid hn'
   clear hp
   go_wp2_with fail
   go_ret
   exact ⟨by rw [hr.out,show ((a' == 1) = ((a':Int) == 1)) from by rw [Bool.eq_iff_iff];simp;omega] <;> rfl,hx1.trans hxr⟩
end Go.Proofs.YtmnjakejhbpkoaaGreatDoor
namespace Go.Proofs.YtmnjakejhbpkoaaGreatDoor
open Go Go.RowKit Go.Shelf
theorem evalF_law (F:Nat):EvLaw F:=by
 induction F using Nat.strongRecOn with
 | ind F ih=>exact eval_law F ih
end Go.Proofs.YtmnjakejhbpkoaaGreatDoor
