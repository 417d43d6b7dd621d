import Derived.Test.YtemnmcfmabamcaaGreatDoorXNew
import Derived.Deep.LoopGhost
import Derived.Laws.EntriesVeiled
set_option linter.unusedSimpArgs false
set_option linter.unusedVariables false
namespace Go.Proofs.YtemnmcfmabamcaaGreatDoor
open Go Go.RowKit Go.Shelf
def pickF (g:Nat→Option Bool):List (Nat × Nat)→Option Nat
 | []=>none
 | p :: r=>match g p.1 with
   | none=>none
   | some true=>some p.2
   | some false=>pickF g r
def absI (l:Int):Int:=if 0 < l then l else -l
def evalF:Nat→List SNode→Nat→VSet→Option Bool
 | 0,_,_,_=>none
 | f+1,ns,a,x=>match ns[a]? with
   | none=>none
   | some n=>if 0≤n.pl∧n.lit = 0 then
      match pickF (fun p=>evalF f ns p x) n.el with
      | none=>none
      | some b=>evalF f ns b x
     else if n.lit≠0 then some (hasS x (absI n.lit) == decide (0 < n.lit)) else some (a == 1)
def EvLaw (f:Nat):Prop:=∀ (B:Blks) (s:St) (w:World) (a:Nat) (x:VSet) (r:Bool),Rep B s w→s.tree≠[]→evalF f s.nodes a x = some r →
 Calls Tryz.prog 34 #[.pointer (some ⟨B.sb,0,none⟩),.int .i64 a,.agg #[.int .u64 (lo x),.int .u64 (hi x)]] w fun e w'=>e = .returned (.bool r)∧Ext w w'
def EvLoop (s:St) (w:World) (x:VSet) (r:Bool) (bx:Nat) (k a:Nat) (wr:World):Prop :=
 ∃ n v,Ext w wr∧s.nodes[a]? = some n∧wr.heap[bx]? = some (.cells #[.int .i64 n.pl,.int .i64 n.lit,v,.int .u64 (lo n.le),.int .u64 (hi n.le)] tNode (0,0))∧ElAt wr v n.el∧evalF k s.nodes a x = some r
theorem eval_succ {k:Nat} {ns:List SNode} {a:Nat} {x:VSet} {r:Bool} {n:SNode} (h:evalF k ns a x = some r) (hn:ns[a]? = some n):∃ f,k = f+1 ∧
  ((0≤n.pl∧n.lit = 0∧∃ b,pickF (fun p=>evalF f ns p x) n.el = some b∧evalF f ns b x = some r)∨(¬ (0≤n.pl∧n.lit = 0)∧n.lit≠0∧r = (hasS x (absI n.lit) == decide (0 < n.lit)))∨(n.pl < 0∧n.lit = 0∧r = (a == 1))):=by
 cases k with
 | zero=>cases h
 | succ f =>
   refine ⟨f,rfl,?_⟩
   unfold evalF at h
   rw [hn] at h
   simp only at h
   split at h
   ·rename_i hc
    split at h
    ·cases h
    ·rename_i b hb
     exact .inl ⟨hc.1,hc.2,b,hb,h⟩
   ·rename_i hc
    split at h
    ·rename_i hl
     exact .inr (.inl ⟨hc,hl,by simpa using h.symm⟩)
    ·rename_i hl
     have hl:n.lit = 0:=by omega
     exact .inr (.inr ⟨by omega,hl,by simpa using h.symm⟩)
theorem pick_cons {g:Nat→Option Bool} {p:Nat × Nat} {r:List (Nat × Nat)} {b:Nat} (h:pickF g (p :: r) = some b):(g p.1 = some true∧b = p.2)∨(g p.1 = some false∧pickF g r = some b):=by
 unfold pickF at h
 split at h
 ·cases h
 ·rename_i h1
  exact .inl ⟨h1,by simpa using h.symm⟩
 ·rename_i h1
  exact .inr ⟨h1,h⟩
theorem ElAt.lens {w:World} {v:Value} {l:List (Nat × Nat)} (h:ElAt w v l):∃ ba c,v = .slice ba l.length c∧∀ k (hk:k < l.length),∃ b o,ba = some ⟨b,o,none⟩∧w.cell? ⟨b,o+k * 2,none⟩ = some (.int .i64 (l[k].1:Nat))∧w.cell? ⟨b,o+k * 2+1,none⟩ = some (.int .i64 (l[k].2:Nat)):=by
 obtain ⟨ba,c,rfl,h⟩:=h
 refine ⟨ba,c,rfl,fun k hk=>?_⟩
 rcases h with ⟨_,e,_⟩ | ⟨b,o,e,hr⟩
 ·rw [e] at hk;simp at hk
 ·exact ⟨b,o,e,hr.off0 k hk⟩
set_option maxRecDepth 100000 in
set_option maxHeartbeats 4000000 in
theorem eval_law (F:Nat) (ih:∀ f,f < F→EvLaw f):EvLaw F:=by
 intro B s w a x r h ht he
 obtain ⟨n,hn⟩:∃ n,s.nodes[a]? = some n:=by
  cases F with
  | zero=>cases he
  | succ f =>
    unfold evalF at he
    split at he
    ·cases he
    ·rename_i n hn
     exact ⟨n,hn⟩
 have hai:a < s.nodes.length:=(List.getElem?_eq_some_iff.1 hn).1
 have hch:chkF s.nodes.length [(a:Int)] = 0:=by simp [chkF,hai]
 have hx1:=((Ext.refl w).alloc (.cells #[.int .u64 (lo x),.int .u64 (hi x)] 82)).alloc (.cells #[.int .i64 a] 3)
 obtain ⟨hz0,hz1⟩:=two_all w (.cells #[.int .u64 (lo x),.int .u64 (hi x)] 82) (.cells #[.int .i64 a] 3)
 replace hch:=Lib.hid hch
 replace he:=Lib.hid he
 go_enter Tryz.func34,Tryz.ntmps34
 go_wp2_with fail
 generalize (w.alloc (.cells #[.int .u64 (lo x),.int .u64 (hi x)] 82)).alloc (.cells #[.int .i64 a] 3) = w1 at *
 have hR1:=h.below hx1.below
 have hq:=sck_any hR1 ht (slI_one hz1) (by simp)
 rw [hch.out] at hq
 refine hq.mono ?_
 rintro e w2 ⟨rfl,rfl⟩
 clear hq
 obtain ⟨cap,_,_,cn,_,_,_⟩:=hR1.cells
 obtain ⟨v,hv,hve,n0,n1,n2,n3,n4⟩:=hR1.node hn
 have ga0:(0:Int)≤a:=by omega
 have ga1:(a:Int) < s.nodes.length:=by omega
 obtain ⟨hxb,hbx⟩:=nodeBox (w:=w1) n.pl n.lit v (lo n.le) (hi n.le)
 unfold tNode at hxb hbx
 obtain ⟨ba,cp,rfl,hv2⟩:=id hv
 have hsz:w.heap.size < w1.heap.size:=(Array.getElem?_eq_some_iff.1 hz0).1
 have hloop0:Hid (EvLoop s w1 x r w1.heap.size F a (w1.alloc (.cells #[.int .i64 n.pl,.int .i64 n.lit,.slice ba n.el.length cp,.int .u64 (lo n.le),.int .u64 (hi n.le)] 101))):=Lib.hid ⟨n,_,hxb,hn,hbx,hv.ext hxb,he.out⟩
 replace hR1:=Lib.hid hR1
 replace hz0:=Lib.hid hz0
 clear hv hv2 hve hbx hz1 hn he hch
 go_wp2_with fail
 clear n0 n1 n2 n3 n4 cn
 generalize w1.alloc (.cells #[.int .i64 n.pl,.int .i64 n.lit,.slice ba n.el.length cp,.int .u64 (lo n.le),.int .u64 (hi n.le)] 101) = w3 at *
 clear hxb
 go_loopg [1] F (fun k a wr=>∃ a':Nat,a = .int .i64 a'∧k≤F∧Hid (EvLoop s w1 x r w1.heap.size k a' wr))
 case atStart=>exact ⟨a,rfl,Nat.le_refl _,hloop0⟩
 case round =>
  clear hloop0
  obtain ⟨a',rfl,hgk,hI⟩:=hrel
  obtain ⟨n',v',hxr,hn',hbx,hv',he'⟩:=hI.out
  clear hI
  have hsm:=h.small.2 n' (List.mem_of_getElem? hn')
  obtain ⟨hs1,hs2,hs3,hs4,hs5,_⟩:=hsm
  obtain ⟨c0,c1,c2,c3,c4,cf⟩:=cells5 hbx
  have cf0:=cf 0
  have cf1:=cf 1
  have cf2:=cf 2
  have cf3:=cf 3
  have cf4:=cf 4
  have hxb1:=(hxr.below.block _ (Array.getElem?_eq_some_iff.1 hz0.out).1).trans hz0.out
  obtain ⟨x0,x1⟩:=pbox_cells hxb1
  clear cf
  obtain ⟨f,rfl,hcase⟩:=eval_succ he' hn'
  replace hbx:=Lib.hid hbx
  replace hxb1:=Lib.hid hxb1
  replace he':=Lib.hid he'
  obtain ⟨ba',cp',rfl,hat⟩:=hv'.lens
  replace hat:=Lib.hid hat
  rcases hcase with ⟨hp,hl,b,hb,hbe⟩ | ⟨hp,hl,hr⟩ | ⟨hp,hl,hr⟩
  ·rw [hl] at c1
   have d0:decide (n'.pl≥0) = true:=decide_eq_true hp
   replace hl:=Lib.hid hl
   replace hn':=Lib.hid hn'
   obtain ⟨wo,rfl⟩:∃ wo,wo = wr:=⟨wr,rfl⟩
   have hin0:Hid (Ext wo wo∧pickF (fun p=>evalF f s.nodes p x) (n'.el.drop 0) = some b):=Lib.hid ⟨Ext.refl wo,hb⟩
   replace hb:=Lib.hid hb
   replace hbe:=Lib.hid hbe
   go_wp2_with fail
   go_loopw [33] (fun i wi=>∃ j:Nat,j≤n'.el.length∧i = .int .i64 j∧Hid (Ext wo wi∧pickF (fun p=>evalF f s.nodes p x) (n'.el.drop j) = some b)) (fun i _=>n'.el.length - (intOf i).toNat)
   case atStart=>exact ⟨0,Nat.zero_le _,rfl,hin0⟩
   case round =>
    clear hin0
    obtain ⟨j,hj,rfl,hI⟩:=hrel
    obtain ⟨hxi,hpk⟩:=hI.out
    clear hI
    by_cases hjt:j < n'.el.length
    ·rw [List.drop_eq_getElem_cons hjt] at hpk
     obtain ⟨vb,vo,rfl,e0,e1⟩:=hat.out j hjt
     have hpc:=pick_cons hpk
     generalize n'.el[j] = p at *
     obtain ⟨p1,p2⟩:=p
     simp only at e0 e1 hpc
     have hx4:Ext wr (wr.alloc (.cells #[.int .i64 (p1:Int),.int .i64 (p2:Int)] 130)):=(Ext.refl wr).alloc _
     have hpb:=heap_alloc_new wr (.cells #[.int .i64 (p1:Int),.int .i64 (p2:Int)] 130)
     have e0:=hxi.cell e0
     have e1:=hxi.cell e1
     have hxw:=hxi.trans hx4
     have y0:=hxw.cell x0
     have y1:=hxw.cell x1
     obtain ⟨p0,p1'⟩:=pbox_cells hpb
     clear hpk
     replace hpb:=Lib.hid hpb
     rcases hpc with ⟨hg,rfl⟩ | ⟨hg,hpk⟩
     ·have hcall:=ih f (by omega) B s _ p1 x true (hR1.out.below (hxr.trans hxw).below) ht hg
      replace hg:=Lib.hid hg
      obtain ⟨n2,hn2⟩:∃ n2,s.nodes[b]? = some n2:=by
       have:=hbe.out
       cases f with
       | zero=>cases this
       | succ f =>
         unfold evalF at this
         split at this
         ·cases this
         ·rename_i n2 hn2
          exact ⟨n2,hn2⟩
      have hbi:b < s.nodes.length:=(List.getElem?_eq_some_iff.1 hn2).1
      have gb0:(0:Int)≤b:=by omega
      have gb1:(b:Int) < s.nodes.length:=by omega
      clear c0 c1 c2 c3 c4 cf0 cf1 cf2 cf3 cf4
      go_wp2_with fail
      generalize wr.alloc (.cells #[.int .i64 (p1:Int),.int .i64 (b:Int)] 130) = w4 at *
      refine hcall.mono ?_
      rintro e w5 ⟨rfl,hx5⟩
      have hxw5:=hxw.trans hx5
      have hR5:=hR1.out.below (hxr.trans hxw5).below
      obtain ⟨q0,q1⟩:=pbox_cells ((hx5.below.block _ (Array.getElem?_eq_some_iff.1 hpb.out).1).trans hpb.out)
      obtain ⟨cap5,_,_,cn5,_,_,_⟩:=hR5.cells
      obtain ⟨v5,hv5,hve5,n0,n1,n2',n3,n4⟩:=hR5.node hn2
      have hb5:=(hxw5.below.block _ (Array.getElem?_eq_some_iff.1 hbx.out).1).trans hbx.out
      obtain ⟨c0,c1,c2,c3,c4,cf⟩:=cells5 hb5
      have cf0:=cf 0
      have cf1:=cf 1
      have cf2:=cf 2
      have cf3:=cf 3
      have cf4:=cf 4
      clear cf p0 p1' e0 e1
      have hb6:=heap_set (heap_set (heap_set (heap_set (heap_set hb5 0 (.int .i64 n2.pl)) 1 (.int .i64 n2.lit)) 2 v5) 3 (.int .u64 (lo n2.le))) 4 (.int .u64 (hi n2.le))
      have hb6':(((((w5.setCell ⟨w1.heap.size,0,none⟩ (.int .i64 n2.pl)).setCell ⟨w1.heap.size,1,none⟩ (.int .i64 n2.lit)).setCell ⟨w1.heap.size,2,none⟩ v5).setCell ⟨w1.heap.size,3,none⟩ (.int .u64 (lo n2.le))).setCell ⟨w1.heap.size,4,none⟩ (.int .u64 (hi n2.le))).heap[w1.heap.size]? = some (.cells #[.int .i64 n2.pl,.int .i64 n2.lit,v5,.int .u64 (lo n2.le),.int .u64 (hi n2.le)] tNode (0,0)):=hb6
      have hx6:Ext w1 (((((w5.setCell ⟨w1.heap.size,0,none⟩ (.int .i64 n2.pl)).setCell ⟨w1.heap.size,1,none⟩ (.int .i64 n2.lit)).setCell ⟨w1.heap.size,2,none⟩ v5).setCell ⟨w1.heap.size,3,none⟩ (.int .u64 (lo n2.le))).setCell ⟨w1.heap.size,4,none⟩ (.int .u64 (hi n2.le))) :=
       (((((hxr.trans hxw5).setCell (Nat.le_refl _) _).setCell (Nat.le_refl _) _).setCell (Nat.le_refl _) _).setCell (Nat.le_refl _) _).setCell (Nat.le_refl _) _
      have hv6:ElAt (((((w5.setCell ⟨w1.heap.size,0,none⟩ (.int .i64 n2.pl)).setCell ⟨w1.heap.size,1,none⟩ (.int .i64 n2.lit)).setCell ⟨w1.heap.size,2,none⟩ v5).setCell ⟨w1.heap.size,3,none⟩ (.int .u64 (lo n2.le))).setCell ⟨w1.heap.size,4,none⟩ (.int .u64 (hi n2.le))) v5 n2.el:=hv5.same fun k c fz hk=>by
       have hne:k≠w1.heap.size:=fun e=>by
        rw [e,hb5] at hk
        simp [tNode,tPair] at hk
       rw [Below.heap_setCell _ _ _ _ hne,Below.heap_setCell _ _ _ _ hne,Below.heap_setCell _ _ _ _ hne,Below.heap_setCell _ _ _ _ hne,Below.heap_setCell _ _ _ _ hne]
      obtain ⟨ba5,cp5,rfl,_⟩:=id hv5
      have hfin:Hid (EvLoop s w1 x r w1.heap.size f b (((((w5.setCell ⟨w1.heap.size,0,none⟩ (.int .i64 n2.pl)).setCell ⟨w1.heap.size,1,none⟩ (.int .i64 n2.lit)).setCell ⟨w1.heap.size,2,none⟩ (.slice ba5 n2.el.length cp5)).setCell ⟨w1.heap.size,3,none⟩ (.int .u64 (lo n2.le))).setCell ⟨w1.heap.size,4,none⟩ (.int .u64 (hi n2.le)))):=Lib.hid
       ⟨n2,_,hx6,hn2,hb6',hv6,hbe.out⟩
      clear hb6 hb6' hx6 hv6 hb5 hv5 hve5 hR5 hn2 hxw5
      go_wp2_with fail
      go_roundg f
      case measure=>omega
      case rel=>exact ⟨b,rfl,by omega,hfin⟩
     ·have hcall:=ih f (by omega) B s _ p1 x false (hR1.out.below (hxr.trans hxw).below) ht hg
      replace hg:=Lib.hid hg
      replace hpk:=Lib.hid hpk
      go_wp2_with fail
      generalize wr.alloc (.cells #[.int .i64 (p1:Int),.int .i64 (p2:Int)] 130) = w4 at *
      refine hcall.mono ?_
      rintro e w5 ⟨rfl,hx5⟩
      go_wp2_with fail
      go_roundw
      case rel=>exact ⟨j+1,by omega,by go_num,Lib.hid ⟨hxw.trans hx5,hpk.out⟩⟩
      case measure=>simp [intOf];omega
    ·obtain rfl:j = n'.el.length:=by omega
     simp [pickF] at hpk
  ·rw [Decidable.not_and_iff_or_not] at hp
   have hl1:((n'.lit:Int) != 0) = true:=by simpa using hl
   have hl0:((n'.lit:Int) == 0) = false:=by simpa using hl
   have hneg:IntKind.i64.wrap (-n'.lit) = -n'.lit:=IntWalk.i64_in _ (by omega)
   replace hr:=Lib.hid hr
   replace hn':=Lib.hid hn'
   have F1:∀ w':World,Ext wr w'→w'.cell? ⟨w1.heap.size,1,none⟩ = some (.int .i64 n'.lit)∧w'.cell? ⟨w.heap.size,0,none⟩ = some (.int .u64 (lo x))∧w'.cell? ⟨w.heap.size,1,none⟩ = some (.int .u64 (hi x)):=fun w' hw'=>⟨hw'.cell c1,hw'.cell x0,hw'.cell x1⟩
   replace F1:=Lib.hid F1
   have hhas:=fun w'=>has_any x (absI n'.lit) w' (by unfold absI;split <;> omega) (by unfold absI;split <;> omega)
   have hsign:(0 < n'.lit∧absI n'.lit = n'.lit∧decide (n'.lit > 0) = true∧max n'.lit (-n'.lit) = n'.lit)∨(¬ 0 < n'.lit∧absI n'.lit = -n'.lit∧decide (n'.lit > 0) = false∧max n'.lit (-n'.lit) = -n'.lit):=by
    by_cases hpos:0 < n'.lit
    ·exact .inl ⟨hpos,if_pos hpos,decide_eq_true hpos,by omega⟩
    ·exact .inr ⟨hpos,if_neg hpos,decide_eq_false hpos,by omega⟩
   unfold encS at hhas
   rcases hsign with ⟨hpos,ha,hd1,hmx⟩ | ⟨hpos,ha,hd1,hmx⟩
   all_goals
    have hr2:Hid (r = (hasS x (absI n'.lit) == decide (n'.lit > 0))):=Lib.hid hr.out
    rw [ha] at hhas hr2
    replace ha:=Lib.hid ha
    by_cases hpl:0≤n'.pl
    ·have d0:decide (n'.pl≥0) = true:=decide_eq_true hpl
     go_wp2_with fail
     (refine wp_region_below (by kernel_rfl) (by kernel_rfl) ?_
      repeat (refine wpQuiet_step (fun K hK=>?_)
              go_simp
              first
               | (refine hK _ ?_;clear hK K)
               | (replace hK:=Lib.hid hK
                  apply Exists.intro
                  refine ⟨fun wq hq=>?_,hK.out _ ?_⟩
                  ·(obtain ⟨f1,f2,f3⟩:=F1.out wq hq)
                   go_simp
                   first
                    | done
                    | rfl
                    | exact ⟨rfl,rfl⟩
                    | (refine (hhas _).mono ?_;rintro e w' ⟨rfl,hb⟩;exact ⟨rfl,hq.trans hb⟩)
                  clear hK K))
      refine wpQuiet_nil ?_)
     intro w5 hw5
     go_wp2_with fail
     go_ret
     exact ⟨by rw [hr2.out,hd1];first | rfl | (simp;done) | (simp;rfl),(hx1.trans hxr).trans hw5⟩
    ·have d0:decide (n'.pl≥0) = false:=decide_eq_false hpl
     go_wp2_with fail
     (refine wp_region_below (by kernel_rfl) (by kernel_rfl) ?_
      repeat (refine wpQuiet_step (fun K hK=>?_)
              go_simp
              first
               | (refine hK _ ?_;clear hK K)
               | (replace hK:=Lib.hid hK
                  apply Exists.intro
                  refine ⟨fun wq hq=>?_,hK.out _ ?_⟩
                  ·(obtain ⟨f1,f2,f3⟩:=F1.out wq hq)
                   go_simp
                   first
                    | done
                    | rfl
                    | exact ⟨rfl,rfl⟩
                    | (refine (hhas _).mono ?_;rintro e w' ⟨rfl,hb⟩;exact ⟨rfl,hq.trans hb⟩)
                  clear hK K))
      refine wpQuiet_nil ?_)
     intro w5 hw5
     go_wp2_with fail
     go_ret
     exact ⟨by rw [hr2.out,hd1];first | rfl | (simp;done) | (simp;rfl),(hx1.trans hxr).trans hw5⟩
  ·have d0:decide (n'.pl≥0) = false:=decide_eq_false (by omega)
   have hl1:((n'.lit:Int) != 0) = false:=by simp [hl]
   replace hr:=Lib.hid hr
   replace hl:=Lib.hid hl
   replace hn':=Lib.hid hn'
   clear hp
   go_wp2_with fail
   go_ret
   exact ⟨by rw [hr.out,show ((a' == 1) = ((a':Int) == 1)) from by rw [Bool.eq_iff_iff];simp;omega] <;> rfl,hx1.trans hxr⟩
end Go.Proofs.YtemnmcfmabamcaaGreatDoor
namespace Go.Proofs.YtemnmcfmabamcaaGreatDoor
open Go Go.RowKit Go.Shelf
theorem evalF_law (F:Nat):EvLaw F:=by
 induction F using Nat.strongRecOn with
 | ind F ih=>exact eval_law F ih
def visL (g:Nat→List Nat→Option (List Nat)):List (Nat × Nat)→List Nat→Option (List Nat)
 | [],out=>some out
 | p :: r,out=>match g p.1 out with
   | none=>none
   | some o1=>match g p.2 o1 with
     | none=>none
     | some o2=>visL g r o2
def visF:Nat→List SNode→Nat→List Nat→Option (List Nat)
 | 0,_,_,_=>none
 | f+1,ns,a,out=>if a∈out then some out else
   match ns[a]? with
   | none=>none
   | some n=>if out.length < 1048576 then visL (visF f ns) n.el (out++[a]) else none
def visAll (g:Nat→List Nat→Option (List Nat)):List Nat→List Nat→Option (List Nat)
 | [],out=>some out
 | a :: r,out=>match g a out with
   | none=>none
   | some o1=>visAll g r o1
theorem visL_cons {g:Nat→List Nat→Option (List Nat)} {p:Nat × Nat} {r:List (Nat × Nat)} {out o:List Nat} (h:visL g (p :: r) out = some o):∃ o1 o2,g p.1 out = some o1∧g p.2 o1 = some o2∧visL g r o2 = some o:=by
 unfold visL at h
 split at h
 ·cases h
 ·rename_i o1 h1
  split at h
  ·cases h
  ·rename_i o2 h2
   exact ⟨o1,o2,h1,h2,h⟩
theorem visAll_cons {g:Nat→List Nat→Option (List Nat)} {a:Nat} {r out o:List Nat} (h:visAll g (a :: r) out = some o):∃ o1,g a out = some o1∧visAll g r o1 = some o:=by
 unfold visAll at h
 split at h
 ·cases h
 ·rename_i o1 h1
  exact ⟨o1,h1,h⟩
def encB (b:Bool):Value:=.bool b
def memF (out:List Nat):Nat→Option Bool:=fun a=>if a∈out then some true else none
theorem memF_snoc (out:List Nat) (a:Nat):memF (out++[a]) = upd (memF out) a true:=by
 funext x
 simp only [memF,upd,List.mem_append,List.mem_singleton]
 by_cases h:x = a <;> by_cases h2:x∈out <;> simp [h,h2]
structure VisC (B:Blks) (w0:World) (out:List Nat) (wr:World):Prop where
 below:Below w0.heap.size w0 wr
 bt:wr.heap[w0.heap.size]? = some (.cells #[.pointer (some ⟨B.sb,0,none⟩)] 28 (0,0))
 mb:MapAt encNat encB wr (w0.heap.size+1) (memF out)
 bs:wr.heap[w0.heap.size+2]? = some (.cells #[.map (some (w0.heap.size+1))] 140 (0,0))
 bo:∃ v,wr.heap[w0.heap.size+3]? = some (.cells #[v] 76 (0,0))∧wr.ownsRow (w0.heap.size+5) 3 1 v out.length (out.map encI)
 bf:wr.heap[w0.heap.size+4]? = some (.cells #[.func (.func 80) #[] #[.pointer (some ⟨w0.heap.size+2,0,none⟩),.pointer (some ⟨w0.heap.size+3,0,none⟩),.pointer (some ⟨w0.heap.size,0,none⟩),.pointer (some ⟨w0.heap.size+4,0,none⟩)]] 112 (0,0))
def PairsStay (w w':World):Prop:=w.heap.size≤w'.heap.size∧∀ (k:Nat) (c:Array Value) (f:Nat × Nat),w.heap[k]? = some (.cells c tPair f)→w'.heap[k]? = some (.cells c tPair f)
theorem PairsStay.refl (w:World):PairsStay w w:=⟨Nat.le_refl _,fun _ _ _ h=>h⟩
theorem PairsStay.trans {a b c:World} (h:PairsStay a b) (k:PairsStay b c):PairsStay a c:=⟨Nat.le_trans h.1 k.1,fun i x f hi=>k.2 i x f (h.2 i x f hi)⟩
theorem PairsStay.alloc (w:World) (o:Obj):PairsStay w (w.alloc o):=⟨by simp,fun k c f h=>(Below.heap_alloc _ _ _ (Array.getElem?_eq_some_iff.1 h).1).trans h⟩
theorem VisC.alloc {B:Blks} {w0 wr:World} {out:List Nat} (h:VisC B w0 out wr) (o:Obj):VisC B w0 out (wr.alloc o) where
 below:=h.below.alloc h.below.size o
 bt:=(Below.heap_alloc _ _ _ (Array.getElem?_eq_some_iff.1 h.bt).1).trans h.bt
 mb:=h.mb.same (Below.heap_alloc _ _ _ h.mb.lt)
 bs:=(Below.heap_alloc _ _ _ (Array.getElem?_eq_some_iff.1 h.bs).1).trans h.bs
 bo:=by
  obtain ⟨v,h1,h2⟩:=h.bo
  exact ⟨v,(Below.heap_alloc _ _ _ (Array.getElem?_eq_some_iff.1 h1).1).trans h1,h2.alloc _⟩
 bf:=(Below.heap_alloc _ _ _ (Array.getElem?_eq_some_iff.1 h.bf).1).trans h.bf
theorem VisC.push {B:Blks} {w0 wr w2:World} {out:List Nat} {a:Nat} {v v':Value} (h:VisC B w0 out wr) (hv:wr.heap[w0.heap.size+3]? = some (.cells #[v] 76 (0,0))) (hO:wr.ownsRow (w0.heap.size+5) 3 1 v out.length (out.map encI))
  (hM:MapAt encNat encB (putMap 3 Tryz.prog wr (w0.heap.size+1) (encNat a) (encB true)) (w0.heap.size+1) (memF (out++[a])))
  (ho:w2.ownsRow (w0.heap.size+5) 3 1 v' (out.length+1) (out.map encI++[.int .i64 (a:Int)]))
  (hg:((putMap 3 Tryz.prog wr (w0.heap.size+1) (encNat a) (encB true)).alloc (.cells #[.int .i64 (a:Int)] 3)).grownBy w2 v.ownBlock) :
  VisC B w0 (out++[a]) (w2.setCell ⟨w0.heap.size+3,0,none⟩ v')∧PairsStay wr (w2.setCell ⟨w0.heap.size+3,0,none⟩ v'):=by
 have hsz:wr.heap.size+1≤w2.heap.size:=by have:=hg.size;simpa [putMap_size] using this
 have hge:∀ k,v.ownBlock = some k→w0.heap.size+5≤k:=fun k hk=>own_ge hO hk
 have hk:∀ k,k < wr.heap.size→k≠w0.heap.size+1→v.ownBlock≠some k→w2.heap[k]? = wr.heap[k]?:=fun k hk h1 h2=>by
  rw [hg.block k (by simp [putMap_size];omega) (fun e=>h2 e.symm),Below.heap_alloc _ _ _ (by rw [putMap_size];exact hk)]
  exact putMap_other _ _ _ _ _ k h1
 have hl3:=(Array.getElem?_eq_some_iff.1 h.bf).1
 have hne:∀ k,k < w0.heap.size+5→v.ownBlock≠some k:=fun k hk e=>by have:=hge k e;omega
 have hset:∀ k,k≠w0.heap.size+3→(w2.setCell ⟨w0.heap.size+3,0,none⟩ v').heap[k]? = w2.heap[k]?:=fun k hk=>Below.heap_setCell _ _ _ _ hk
 have hkk:∀ k,k < wr.heap.size→k≠w0.heap.size+1→v.ownBlock≠some k→k≠w0.heap.size+3→(w2.setCell ⟨w0.heap.size+3,0,none⟩ v').heap[k]? = wr.heap[k]?:=fun k h1 h2 h3 h4=>(hset k h4).trans (hk k h1 h2 h3)
 obtain ⟨p1,p2,p3,_⟩:=putMap_rest (P:=Tryz.prog) 3 wr (w0.heap.size+1) (encNat a) (encB true)
 refine ⟨⟨⟨hg.os.trans (p1.trans h.below.os),hg.tape.trans (p2.trans h.below.tape),hg.output.trans (p3.trans h.below.output),?_,fun k hk0=>?_⟩,?_,?_,?_,⟨v',?_,?_⟩,?_⟩,?_,fun k c f hc=>?_⟩
 ·have:=h.below.size
  simp [World.setCell];omega
 ·exact (hkk k (by omega) (by omega) (hne k (by omega)) (by omega)).trans (h.below.block k hk0)
 ·exact (hkk _ (by omega) (by omega) (hne _ (by omega)) (by omega)).trans h.bt
 ·refine hM.same ?_
  rw [hset _ (by omega),hg.block _ (by simp [putMap_size];omega) (fun e=>hne _ (by omega) e.symm),Below.heap_alloc _ _ _ (by rw [putMap_size];omega)]
 ·exact (hkk _ (by omega) (by omega) (hne _ (by omega)) (by omega)).trans h.bs
 ·have:=(hk (w0.heap.size+3) (by omega) (by omega) (hne _ (by omega))).trans hv
  exact heap_set this 0 v'
 ·refine ownsRow_same (own_cast ho (by simp) (by simp [encI])) (fun k hk2=>hset k ?_)
  have:=own_ge ho hk2
  omega
 ·exact (hkk _ (by omega) (by omega) (hne _ (by omega)) (by omega)).trans h.bf
 ·simp [World.setCell];omega
 ·have hlt:=(Array.getElem?_eq_some_iff.1 hc).1
  refine (hkk k hlt ?_ ?_ ?_).trans hc
  ·intro e
   obtain ⟨L,cl,hb,_⟩:=h.mb
   rw [e,hb] at hc;simp at hc
  ·intro e
   obtain ⟨_,c',hc'⟩:=own_lt hO e
   rw [hc] at hc';simp [tPair] at hc'
  ·intro e
   rw [e,hv] at hc;simp [tPair] at hc
end Go.Proofs.YtemnmcfmabamcaaGreatDoor
namespace Go.Proofs.YtemnmcfmabamcaaGreatDoor
open Go Go.RowKit Go.Shelf
def VisLaw (B:Blks) (s:St) (w0:World) (g:Nat→List Nat→Option (List Nat)):Prop:=∀ (a:Nat) (out o:List Nat) (wr:World),VisC B w0 out wr→g a out = some o →
 Calls Tryz.prog 80 #[.int .i64 a,.pointer (some ⟨w0.heap.size+2,0,none⟩),.pointer (some ⟨w0.heap.size+3,0,none⟩),.pointer (some ⟨w0.heap.size,0,none⟩),.pointer (some ⟨w0.heap.size+4,0,none⟩)] wr
  fun e w'=>e = .returned (.tuple #[])∧VisC B w0 o w'∧PairsStay wr w'
theorem zeroBool:∀ w,(zeroValue 4).run Tryz.prog w = .ok (.bool false) w:=fun w=>by kernel_rfl
theorem VisC.look {B:Blks} {w0 wr:World} {out:List Nat} (h:VisC B w0 out wr) (a:Nat) :
  (Instr.lookup 140 (.map (some (w0.heap.size+1))) (.int .i64 a) false).run Tryz.prog wr = .ok (.bool (decide (a∈out))) wr:=by
 have h1:=h.mb.look1 natLaw (T:=140) Tryz.underlying140 _ zeroBool a
 have h2:((memF out a).map encB).getD (.bool false) = .bool (decide (a∈out)):=by
  unfold memF
  by_cases hm:a∈out <;> simp [hm,encB]
 rw [h2] at h1
 exact h1
theorem VisC.cells {B:Blks} {w0 wr:World} {out:List Nat} (h:VisC B w0 out wr) :
  wr.cell? ⟨w0.heap.size,0,none⟩ = some (.pointer (some ⟨B.sb,0,none⟩))∧wr.cell? ⟨w0.heap.size+2,0,none⟩ = some (.map (some (w0.heap.size+1))) ∧
  wr.cell? ⟨w0.heap.size+4,0,none⟩ = some (.func (.func 80) #[] #[.pointer (some ⟨w0.heap.size+2,0,none⟩),.pointer (some ⟨w0.heap.size+3,0,none⟩),.pointer (some ⟨w0.heap.size,0,none⟩),.pointer (some ⟨w0.heap.size+4,0,none⟩)]):=by
 refine ⟨?_,?_,?_⟩
 ·simp [World.cell?,h.bt]
 ·simp [World.cell?,h.bs]
 ·simp [World.cell?,h.bf]
def VisLoop (B:Blks) (w0:World) (g:Nat→List Nat→Option (List Nat)) (n:SNode) (w:World) (o:List Nat) (k:Nat) (wr:World):Prop :=
 ∃ out,VisC B w0 out wr∧PairsStay w wr∧visL g (n.el.drop k) out = some o
set_option maxRecDepth 100000 in
set_option maxHeartbeats 4000000 in
theorem vis_law {B:Blks} {s:St} {w0:World} (h:Rep B s w0) (f:Nat) (ih:VisLaw B s w0 (visF f s.nodes)):VisLaw B s w0 (visF (f+1) s.nodes):=by
 intro a out o wr hC he
 have hlk:=hC.look a
 obtain ⟨c0,c2,c4⟩:=hC.cells
 unfold visF at he
 split at he
 ·rename_i hm
  cases he
  have hd:decide (a∈out) = true:=decide_eq_true hm
  rw [hd] at hlk
  clear hd
  replace hm:=Lib.hid hm
  go_enter Tryz.func80,Tryz.ntmps80
  go_wp2_with fail
  exact bodyPost_ret (results_none rfl _ _ _) rfl ⟨rfl,hC,PairsStay.refl _⟩
 rename_i hm
 split at he
 ·cases he
 rename_i n hn
 split at he
 rotate_left
 ·cases he
 rename_i hlen
 have hd:decide (a∈out) = false:=decide_eq_false hm
 rw [hd] at hlk
 clear hd
 replace hm:=Lib.hid hm
 have hK:∀ (c:Array Value) (w:World),(callFunc 80 c).run Tryz.prog w = .ok (.enter 80 c) w:=fun c w=>by simp [go_sem,Tryz.func80]
 obtain ⟨i0,hi0,hz0,hz1,hz2⟩:=info_parts info_int
 obtain ⟨v,hv,hO⟩:=hC.bo
 obtain ⟨hpt,hM⟩:=hC.mb.put natLaw (T:=140) Tryz.underlying140 a true
 rw [←memF_snoc] at hM
 have hpt2:(Instr.mapUpdate 140 (.map (some (w0.heap.size+1))) (.int .i64 a) (.bool true)).run Tryz.prog wr = .ok () (putMap 3 Tryz.prog wr (w0.heap.size+1) (encNat a) (encB true)):=hpt
 have hpush:=Lib.hid (fun (w2:World) (v':Value) ho hg=>hC.push (w2:=w2) (v':=v') hv hO hM ho hg)
 have hl4:=(Array.getElem?_eq_some_iff.1 hC.bf).1
 have hoth:∀ j,j≠w0.heap.size+1→(putMap 3 Tryz.prog wr (w0.heap.size+1) (encNat a) (encB true)).heap[j]? = wr.heap[j]?:=fun j hj=>putMap_other _ _ _ _ _ j hj
 have hv1:=(hoth (w0.heap.size+3) (by omega)).trans hv
 have c01:=(World.cell?_of_block (a:=⟨w0.heap.size,0,none⟩) (hoth w0.heap.size (by omega))).trans c0
 have hO1:=ownsRow_same (w':=putMap 3 Tryz.prog wr (w0.heap.size+1) (encNat a) (encB true)) hO (fun k hk=>hoth k (by have:=own_ge hO hk;omega))
 have hs1:(putMap 3 Tryz.prog wr (w0.heap.size+1) (encNat a) (encB true)).heap.size = wr.heap.size:=putMap_size _ _ _ _ _
 have e3:(putMap 3 Tryz.prog wr (w0.heap.size+1) (encNat a) (encB true)).cell? ⟨w0.heap.size+3,0,none⟩ = some v:=by simp [World.cell?,hv1]
 have hge:∀ k,v.ownBlock = some k→w0.heap.size+5≤k:=fun k hk=>own_ge hO hk
 replace he:=Lib.hid he
 replace hC:=Lib.hid hC
 replace hO1:=Lib.hid hO1
 replace hge:=Lib.hid hge
 replace hv1:=Lib.hid hv1
 clear hoth hpt hM hv hO
 obtain ⟨capn,_,_,cn,_⟩:=h.cells
 obtain ⟨v5,hv5,_,_,_,n2,_,_⟩:=h.node hn
 obtain ⟨ba,cp,rfl,hat⟩:=hv5.lens
 have hsm:=(h.small.2 n (List.mem_of_getElem? hn)).2.2.2.2.1
 have hai:a < s.nodes.length:=(List.getElem?_eq_some_iff.1 hn).1
 have ga0:(0:Int)≤a:=by omega
 have ga1:(a:Int) < s.nodes.length:=by omega
 have hns:=h.small.1
 replace hat:=Lib.hid hat
 replace cn:=Lib.hid cn
 replace n2:=Lib.hid n2
 replace hn:=Lib.hid hn
 clear hv5
 generalize hw1:putMap 3 Tryz.prog wr (w0.heap.size+1) (encNat a) (encB true) = w1 at *
 replace hw1:=Lib.hid hw1
 have e3a:(w1.alloc (.cells #[.int .i64 (a:Int)] 3)).cell? ⟨w0.heap.size+3,0,none⟩ = some v:=(World.cell?_of_block (a:=⟨w0.heap.size+3,0,none⟩) (Below.heap_alloc w1 (.cells #[.int .i64 (a:Int)] 3) (w0.heap.size+3) (by rw [hs1];omega))).trans e3
 replace hs1:=Lib.hid hs1
 have hl5:w0.heap.size+4 < w1.heap.size:=by rw [hs1.out];exact hl4
 have hfar:∀ k,k < w0.heap.size+5→some k≠v.ownBlock:=fun k hk e=>by
  have:=hge.out _ e.symm
  omega
 replace hfar:=Lib.hid hfar
 have c0a:=(World.cell?_of_block (w:=w1) (w':=w1.alloc (.cells #[.int .i64 (a:Int)] 3)) (a:=⟨w0.heap.size,0,none⟩) (Below.heap_alloc w1 (.cells #[.int .i64 (a:Int)] 3) w0.heap.size (by omega))).trans c01
 have fza:(w1.alloc (.cells #[.int .i64 (a:Int)] 3)).frozen? ⟨w0.heap.size+3,0,none⟩ = false:=by
  have:=(Below.heap_alloc w1 (.cells #[.int .i64 (a:Int)] 3) (w0.heap.size+3) (by omega)).trans hv1.out
  simp [World.frozen?,this]
 go_enter Tryz.func80,Tryz.ntmps80
 go_wp2_with (at_builtin;refine wpList_append_lies _ rfl _ _ 76 rfl (w0.heap.size+5) 3 i0 (.int .i64 0) 1 8 Tryz.underlying76 hi0 hz0 hz1 hz2 rfl (by decide) _ _ _ rfl (hO1.out.alloc _) ⟨w1.heap.size,0,none⟩ 1 1 [.int .i64 (a:Int)] rfl rfl (cell_one_at _ _ _ _ rfl) (by simp [Value.oneCell']) (by omega) (by unfold maxLen;omega) (by omega) (by simp;omega) _ rfl ?_;intro g3 cap3 w3 ho3 hg3 _ _;have f3:=(hg3.cell_far ⟨w0.heap.size+3,0,none⟩ (by simp;omega) (hfar.out _ (by simp))).trans e3a;have f3z:w3.frozen? ⟨w0.heap.size+3,0,none⟩ = false:=(hg3.frozen_far ⟨w0.heap.size+3,0,none⟩ (by simp;omega) (hfar.out _ (by simp))).trans fza;have f0:=(hg3.cell_far ⟨w0.heap.size,0,none⟩ (by simp;omega) (hfar.out _ (by simp))).trans c0a;have hP:=hpush.out w3 (.slice (some ⟨g3,0,none⟩) (out.length+1) cap3) ho3 hg3;have m0:=(hP.1.below.cell (World.block_lt_of_cell? w0 _ cn.out)).trans cn.out;have m2:=(hP.1.below.cell (World.block_lt_of_cell? w0 _ n2.out)).trans n2.out;have m3:=hP.1.cells.1)
 have hl0:Hid (VisLoop B w0 (visF f s.nodes) n wr o 0 (w3.setCell ⟨w0.heap.size+3,0,none⟩ (.slice (some ⟨g3,0,none⟩) (out.length+1) cap3))):=Lib.hid ⟨out++[a],hP.1,hP.2,he.out⟩
 clear hP ho3 hg3 f3 f3z f0 m0 m2 m3 c0a fza e3a e3 c01 c0 c2 c4 hlk
 generalize w3.setCell ⟨w0.heap.size+3,0,none⟩ (.slice (some ⟨g3,0,none⟩) (out.length+1) cap3) = w4 at *
 obtain ⟨wo,rfl⟩:∃ wo,wo = wr:=⟨wr,rfl⟩
 go_loopw [26] (fun i wr=>∃ k:Nat,k≤n.el.length∧i = .int .i64 k∧Hid (VisLoop B w0 (visF f s.nodes) n wo o k wr)) (fun i _=>n.el.length - (intOf i).toNat)
 case atStart=>exact ⟨0,Nat.zero_le _,rfl,hl0⟩
 case round =>
  clear hl0
  obtain ⟨k,hk,rfl,hI⟩:=hrel
  obtain ⟨ok,hCk,hPk,hvl⟩:=hI.out
  clear hI
  by_cases hlt:k < n.el.length
  ·rw [List.drop_eq_getElem_cons hlt] at hvl
   obtain ⟨vb,vo,rfl,e0,e1⟩:=hat.out k hlt
   have e0:=(hCk.below.cell (World.block_lt_of_cell? w0 _ e0)).trans e0
   have e1:=(hCk.below.cell (World.block_lt_of_cell? w0 _ e1)).trans e1
   obtain ⟨o1,o2,h1,h2,hvl2⟩:=visL_cons hvl
   clear hvl
   generalize n.el[k] = p at *
   obtain ⟨p1,p2⟩:=p
   simp only at e0 e1 h1 h2
   have hCa:=hCk.alloc (.cells #[.int .i64 (p1:Int),.int .i64 (p2:Int)] 130)
   have hpb:=heap_alloc_new wr (.cells #[.int .i64 (p1:Int),.int .i64 (p2:Int)] 130)
   have hPa:=PairsStay.alloc wr (.cells #[.int .i64 (p1:Int),.int .i64 (p2:Int)] 130)
   obtain ⟨p0,p1'⟩:=pbox_cells hpb
   obtain ⟨_,_,b4⟩:=hCa.cells
   have hq1:=ih p1 ok o1 _ hCa h1
   replace hCa:=Lib.hid hCa
   replace hpb:=Lib.hid hpb
   replace h1:=Lib.hid h1
   replace h2:=Lib.hid h2
   replace hvl2:=Lib.hid hvl2
   replace hCk:=Lib.hid hCk
   go_wp2_with fail
   generalize wr.alloc (.cells #[.int .i64 (p1:Int),.int .i64 (p2:Int)] 130) = w5 at *
   refine hq1.mono ?_
   rintro e w6 ⟨rfl,hC6,hP6⟩
   obtain ⟨q0,q1⟩:=pbox_cells (hP6.2 _ _ _ hpb.out)
   obtain ⟨_,_,b6⟩:=hC6.cells
   have hq2:=ih p2 o1 o2 _ hC6 h2.out
   replace hC6:=Lib.hid hC6
   clear hq1 p0 p1' b4
   go_wp2_with fail
   refine hq2.mono ?_
   rintro e w7 ⟨rfl,hC7,hP7⟩
   go_wp2_with fail
   go_roundw
   case rel=>exact ⟨k+1,by omega,by go_num,Lib.hid ⟨o2,hC7,((hPk.trans hPa).trans hP6).trans hP7,hvl2.out⟩⟩
   case measure=>simp [intOf];omega
  ·obtain rfl:k = n.el.length:=by omega
   simp only [List.drop_length,visL,Option.some.injEq] at hvl
   subst hvl
   replace hCk:=Lib.hid hCk
   go_wp2_with fail
   go_end0
   exact ⟨rfl,hCk.out,hPk⟩
theorem visF_law {B:Blks} {s:St} {w0:World} (h:Rep B s w0) (f:Nat):VisLaw B s w0 (visF f s.nodes):=by
 induction f with
 | zero=>intro a out o wr _ he;cases he
 | succ f ih=>exact vis_law h f ih
end Go.Proofs.YtemnmcfmabamcaaGreatDoor
namespace Go.Proofs.YtemnmcfmabamcaaGreatDoor
open Go Go.RowKit Go.Shelf
theorem five_all (w:World) (a b c d e:Obj):(((((w.alloc a).alloc b).alloc c).alloc d).alloc e).heap[w.heap.size]? = some a∧(((((w.alloc a).alloc b).alloc c).alloc d).alloc e).heap[w.heap.size+1]? = some b∧(((((w.alloc a).alloc b).alloc c).alloc d).alloc e).heap[w.heap.size+2]? = some c ∧
  (((((w.alloc a).alloc b).alloc c).alloc d).alloc e).heap[w.heap.size+3]? = some d∧(((((w.alloc a).alloc b).alloc c).alloc d).alloc e).heap[w.heap.size+4]? = some e:=by
 obtain ⟨h0,h1,h2,h3⟩:=four_all w a b c d
 refine ⟨?_,?_,?_,?_,?_⟩
 ·rw [Below.heap_alloc _ _ _ (by simp;omega)];exact h0
 ·rw [Below.heap_alloc _ _ _ (by simp)];exact h1
 ·rw [Below.heap_alloc _ _ _ (by simp)];exact h2
 ·rw [Below.heap_alloc _ _ _ (by simp)];exact h3
 ·exact heap_new_at _ _ _ (by simp)
def RetBelow (out:List Nat) (w:World) (e:Ending) (w':World):Prop:=∃ v,e = .returned v∧w'.ownsRow (w.heap.size+5) 3 1 v out.length (out.map encI)∧Below w.heap.size w w'
set_option maxRecDepth 100000 in
set_option maxHeartbeats 4000000 in
theorem below_any {B:Blks} {s:St} {w:World} {v:Value} {l o:List Nat} {f:Nat} (h:Rep B s w) (hv:SlI w v (l.map fun n:Nat=>(n:Int))) (hl:l.length≤1048576) (he:visAll (visF f s.nodes) l [] = some o) :
  Calls Tryz.prog 48 #[.pointer (some ⟨B.sb,0,none⟩),v] w (RetBelow o w):=by
 have hmf:∀ (fn:Fn) (first cap:Array Value) (w:World),(Instr.makeFunc fn first cap).run Tryz.prog w = .ok (.func fn first cap) w:=fun _ _ _ _=>rfl
 have hmm:∀ w,(Instr.makeMap 140 none).run Tryz.prog w = .ok (.map (some w.heap.size)) (w.alloc (.map #[] 0)):=fun w=>rfl
 have hK:∀ (c:Array Value) (w:World),(callFunc 80 c).run Tryz.prog w = .ok (.enter 80 c) w:=fun c w=>by simp [go_sem,Tryz.func80]
 obtain ⟨ba,c,rfl,hv2⟩:=hv
 have hv3:∀ j (hj:j < l.length),∃ b o,ba = some ⟨b,o,none⟩∧w.cell? ⟨b,o+j,none⟩ = some (.int .i64 (l[j]:Nat)):=fun j hj=>by
  rcases hv2 with ⟨_,e,_⟩ | ⟨b,o,e,hc⟩
  ·have:(l.map fun n:Nat=>(n:Int)).length = 0:=by rw [e];rfl
   simp at this;rw [this] at hj;simp at hj
  ·have:=hc j (by simpa using hj)
   rw [List.getElem_map] at this
   exact ⟨b,o,e,this⟩
 clear hv2
 replace hv3:=Lib.hid hv3
 rw [List.length_map]
 obtain ⟨g0,g1,g2,g3,g4⟩:=five_all w (.cells #[.pointer (some ⟨B.sb,0,none⟩)] 28) (.map #[] 0) (.cells #[.map (some (w.heap.size+1))] 140) (.cells #[.slice none 0 0] 76) (.cells #[.func (.func 80) #[] #[.pointer (some ⟨w.heap.size+2,0,none⟩),.pointer (some ⟨w.heap.size+3,0,none⟩),.pointer (some ⟨w.heap.size,0,none⟩),.pointer (some ⟨w.heap.size+4,0,none⟩)]] 112)
 have hb0:Below w.heap.size w (((((w.alloc (.cells #[.pointer (some ⟨B.sb,0,none⟩)] 28)).alloc (.map #[] 0)).alloc (.cells #[.map (some (w.heap.size+1))] 140)).alloc (.cells #[.slice none 0 0] 76)).alloc (.cells #[.func (.func 80) #[] #[.pointer (some ⟨w.heap.size+2,0,none⟩),.pointer (some ⟨w.heap.size+3,0,none⟩),.pointer (some ⟨w.heap.size,0,none⟩),.pointer (some ⟨w.heap.size+4,0,none⟩)]] 112)):=((((((Ext.refl w).alloc _).alloc _).alloc _).alloc _).alloc _).below
 have hinit:Hid (∃ ok,VisC B w ok (((((w.alloc (.cells #[.pointer (some ⟨B.sb,0,none⟩)] 28)).alloc (.map #[] 0)).alloc (.cells #[.map (some (w.heap.size+1))] 140)).alloc (.cells #[.slice none 0 0] 76)).alloc (.cells #[.func (.func 80) #[] #[.pointer (some ⟨w.heap.size+2,0,none⟩),.pointer (some ⟨w.heap.size+3,0,none⟩),.pointer (some ⟨w.heap.size,0,none⟩),.pointer (some ⟨w.heap.size+4,0,none⟩)]] 112))∧visAll (visF f s.nodes) (l.drop 0) ok = some o):=Lib.hid
  ⟨[],⟨hb0,g0,mapEmpty _ _ g1,g2,⟨_,g3,World.ownsRow_nil _ _ _ _⟩,g4⟩,he⟩
 clear g0 g1 g2 g3 g4 hb0
 replace he:=Lib.hid he
 go_enter Tryz.func48,Tryz.ntmps48
 go_wp2_with fail
 generalize ((((w.alloc (.cells #[.pointer (some ⟨B.sb,0,none⟩)] 28)).alloc (.map #[] 0)).alloc (.cells #[.map (some (w.heap.size+1))] 140)).alloc (.cells #[.slice none 0 0] 76)).alloc (.cells #[.func (.func 80) #[] #[.pointer (some ⟨w.heap.size+2,0,none⟩),.pointer (some ⟨w.heap.size+3,0,none⟩),.pointer (some ⟨w.heap.size,0,none⟩),.pointer (some ⟨w.heap.size+4,0,none⟩)]] 112) = w1 at *
 go_loopw [14] (fun i wr=>∃ k:Nat,k≤l.length∧i = .int .i64 k∧Hid (∃ ok,VisC B w ok wr∧visAll (visF f s.nodes) (l.drop k) ok = some o)) (fun i _=>l.length - (intOf i).toNat)
 case atStart=>exact ⟨0,Nat.zero_le _,rfl,hinit⟩
 case round =>
  clear hinit
  obtain ⟨k,hk,rfl,hI⟩:=hrel
  obtain ⟨ok,hC,hva⟩:=hI.out
  clear hI
  by_cases hlt:k < l.length
  ·rw [List.drop_eq_getElem_cons hlt] at hva
   obtain ⟨b,o',rfl,e0⟩:=hv3.out k hlt
   have e0:=(hC.below.cell (World.block_lt_of_cell? w _ e0)).trans e0
   obtain ⟨o1,h1,hva2⟩:=visAll_cons hva
   clear hva
   generalize l[k] = a at *
   obtain ⟨_,_,b4⟩:=hC.cells
   have hq:=visF_law h f a ok o1 _ hC h1
   replace h1:=Lib.hid h1
   replace hC:=Lib.hid hC
   replace hva2:=Lib.hid hva2
   go_wp2_with fail
   refine hq.mono ?_
   rintro e w6 ⟨rfl,hC6,_⟩
   go_wp2_with fail
   go_roundw
   case rel=>first | exact ⟨k+1,by omega,by go_num,Lib.hid ⟨o1,hC6,hva2.out⟩⟩ | ((repeat apply Exists.intro);exact ⟨⟨k+1,by omega,by go_num,Lib.hid ⟨o1,hC6,hva2.out⟩⟩,rfl⟩)
   case measure=>simp [intOf];omega
  ·obtain rfl:k = l.length:=by omega
   simp only [List.drop_length,visAll,Option.some.injEq] at hva
   subst hva
   obtain ⟨v6,hv6,ho6⟩:=hC.bo
   have f6:wr.cell? ⟨w.heap.size+3,0,none⟩ = some v6:=by simp [World.cell?,hv6]
   have hb:=hC.below
   have hend:Hid (RetBelow ok w (.returned v6) wr):=Lib.hid ⟨v6,rfl,ho6,hb⟩
   clear hv6 ho6 hb
   replace hC:=Lib.hid hC
   go_wp2_with fail
   go_ret
   exact hend.out
def sumEl (ns:List SNode):List Nat→Nat
 | []=>0
 | b :: r=>(match ns[b]? with | some n=>n.el.length | none=>0)+sumEl ns r
theorem sumEl_snoc (ns:List SNode) (l:List Nat) (b:Nat):sumEl ns (l++[b]) = sumEl ns l+(match ns[b]? with | some n=>n.el.length | none=>0):=by
 induction l with
 | nil=>simp [sumEl]
 | cons x r ih=>simp only [List.cons_append,sumEl,ih];omega
theorem sumEl_le {B:Blks} {s:St} {w:World} (h:Rep B s w) (l:List Nat):sumEl s.nodes l≤l.length * 1048576:=by
 induction l with
 | nil=>simp [sumEl]
 | cons x r ih =>
   simp only [sumEl,List.length_cons]
   have:(match s.nodes[x]? with | some n=>n.el.length | none=>0)≤1048576:=by
    split
    ·rename_i n hn
     exact (h.small.2 n (List.mem_of_getElem? hn)).2.2.2.2.1
    ·omega
   omega
end Go.Proofs.YtemnmcfmabamcaaGreatDoor
namespace Go.Proofs.YtemnmcfmabamcaaGreatDoor
open Go Go.RowKit Go.Shelf
def OutOk (ns:List SNode) (out:List Nat):Prop:=out.length≤1048576∧∀ b∈out,b < ns.length
theorem visL_ok {ns:List SNode} {g:Nat→List Nat→Option (List Nat)} (hg:∀ a out o,g a out = some o→OutOk ns out→OutOk ns o):∀ (l:List (Nat × Nat)) (out o:List Nat),visL g l out = some o→OutOk ns out→OutOk ns o
 | [],out,o,h,h0=>by
   simp only [visL,Option.some.injEq] at h
   exact h ▸ h0
 | p :: r,out,o,h,h0=>by
   obtain ⟨o1,o2,h1,h2,h3⟩:=visL_cons h
   exact visL_ok hg r o2 o h3 (hg _ _ _ h2 (hg _ _ _ h1 h0))
theorem visF_ok (ns:List SNode):∀ (f a:Nat) (out o:List Nat),visF f ns a out = some o→OutOk ns out→OutOk ns o
 | 0,_,_,_,h,_=>by cases h
 | f+1,a,out,o,h,h0=>by
   unfold visF at h
   split at h
   ·cases h;exact h0
   ·split at h
    ·cases h
    ·rename_i n hn
     split at h
     ·rename_i hl
      refine visL_ok (fun a out o=>visF_ok ns f a out o) _ _ _ h ⟨by simp;omega,fun b hb=>?_⟩
      rcases List.mem_append.1 hb with hb | hb
      ·exact h0.2 b hb
      ·simp at hb;subst hb
       exact (List.getElem?_eq_some_iff.1 hn).1
     ·cases h
theorem visAll_ok (ns:List SNode) (f:Nat):∀ (l out o:List Nat),visAll (visF f ns) l out = some o→OutOk ns out→OutOk ns o
 | [],out,o,h,h0=>by
   simp only [visAll,Option.some.injEq] at h
   exact h ▸ h0
 | a :: r,out,o,h,h0=>by
   obtain ⟨o1,h1,h2⟩:=visAll_cons h
   exact visAll_ok ns f r o1 o h2 (visF_ok ns f a out o1 h1 h0)
def sizeF (f:Nat) (ns:List SNode) (a:Nat):Option Nat:=match visAll (visF f ns) [a] [] with
 | none=>none
 | some o=>some (sumEl ns o)
set_option maxRecDepth 100000 in
set_option maxHeartbeats 4000000 in
theorem size_any {B:Blks} {s:St} {w:World} {a f z:Nat} (h:Rep B s w) (ht:s.tree≠[]) (ha:a < s.nodes.length) (he:sizeF f s.nodes a = some z) :
  Calls Tryz.prog 20 #[.pointer (some ⟨B.sb,0,none⟩),.int .i64 a] w fun e w'=>e = .returned (.tuple #[.int .i64 z,.int .i64 0])∧Below w.heap.size w w':=by
 unfold sizeF at he
 split at he
 ·cases he
 rename_i o ho
 simp only [Option.some.injEq] at he
 obtain ⟨hol,hom⟩:=visAll_ok s.nodes f [a] [] o ho ⟨by simp,fun b hb=>absurd hb (by simp)⟩
 have hch:chkF s.nodes.length [(a:Int)] = 0:=by simp [chkF,ha]
 have hns:=h.small.1
 replace hch:=Lib.hid hch
 replace ho:=Lib.hid ho
 replace he:=Lib.hid he
 replace hom:=Lib.hid hom
 obtain ⟨cap,_,_,cn,_⟩:=h.cells
 have hx1:=(Ext.refl w).alloc (.cells #[.int .i64 a] 3)
 have hz1:=heap_alloc_new w (.cells #[.int .i64 a] 3)
 go_enter Tryz.func20,Tryz.ntmps20
 go_wp2_with fail
 generalize w.alloc (.cells #[.int .i64 a] 3) = w1 at *
 have hR1:=h.below hx1.below
 have hq:=sck_any hR1 ht (slI_one hz1) (by simp)
 rw [hch.out] at hq
 clear hz1
 refine hq.mono ?_
 rintro e w2 ⟨rfl,rfl⟩
 have hx2:=(Ext.refl w1).alloc (.cells #[.int .i64 a] 3)
 have hz2:=heap_alloc_new w1 (.cells #[.int .i64 a] 3)
 clear hq
 replace hR1:=Lib.hid hR1
 go_wp2_with fail
 generalize w1.alloc (.cells #[.int .i64 a] 3) = w2 at *
 have hR2:=hR1.out.below hx2.below
 have hq2:=below_any (l:=[a]) hR2 (slI_one hz2) (by simp) ho.out
 clear hz2
 refine hq2.mono ?_
 rintro e w3 ⟨v3,rfl,ho3,hb3⟩
 have hbw:Below w.heap.size w w3:=(hx1.trans hx2).below.trans (hb3.mono (hx1.trans hx2).size)
 have hcell:∃ ba cp,v3 = .slice ba o.length cp∧∀ k (hk:k < o.length),∃ g,ba = some ⟨g,0,none⟩∧w3.cell? ⟨g,k,none⟩ = some (.int .i64 (o[k]:Nat)):=by
  obtain ⟨_,⟨rfl,e⟩ | ⟨g,cp,cur,rfl,hg,hh,hn,hm,hcs,ht⟩⟩:=ho3
  ·exact ⟨none,0,by rw [e],fun k hk=>by omega⟩
  ·refine ⟨_,cp,rfl,fun k hk=>⟨g,rfl,?_⟩⟩
   have h1:(o.map encI)[k]? = some (encI o[k]):=by rw [List.getElem?_map,List.getElem?_eq_getElem hk];rfl
   rw [←ht,List.getElem?_take] at h1
   split at h1
   ·have h2:cur[k]? = some (encI o[k]):=by simpa using h1
    simp [World.cell?,hh,h2,encI]
   ·simp at h1
 obtain ⟨ba,cp,rfl,hcell⟩:=hcell
 replace hcell:=Lib.hid hcell
 have hR3:=h.below hbw
 have cn3:=(hbw.cell (World.block_lt_of_cell? w _ cn)).trans cn
 clear cn ho3 hq2
 replace hR3:=Lib.hid hR3
 replace hR2:=Lib.hid hR2
 have hsum:=fun k=>sumEl_le hR3.out (o.take k)
 have hlt:=fun k=>List.length_take_le k o
 replace hsum:=Lib.hid hsum
 replace hlt:=Lib.hid hlt
 go_wp2_with fail
 go_loopw [7,22] (fun n i wr=>∃ k:Nat,k≤o.length∧i = .int .i64 k∧n = .int .i64 (sumEl s.nodes (o.take k):Nat)∧w3 = wr) (fun _ i _=>o.length - (intOf i).toNat)
 case atStart=>exact ⟨0,Nat.zero_le _,rfl,rfl,rfl⟩
 case round =>
  obtain ⟨k,hk,rfl,rfl,rfl⟩:=hrel
  by_cases hlk:k < o.length
  ·obtain ⟨g,rfl,e0⟩:=hcell.out k hlk
   have hbi:=hom.out _ (List.getElem_mem hlk)
   have hs1:=hsum.out k
   have hs2:=hlt.out k
   have hsn:=sumEl_snoc s.nodes (o.take k) o[k]
   have hts:o.take (k+1) = o.take k++[o[k]]:=List.take_succ_eq_append_getElem hlk
   rw [←hts] at hsn
   clear hts
   generalize o[k] = b at *
   obtain ⟨v5,hv5,_,_,_,n2,_,_⟩:=hR3.out.node (List.getElem?_eq_getElem hbi)
   have hsm:=(hR3.out.small.2 _ (List.getElem_mem hbi)).2.2.2.2.1
   rw [List.getElem?_eq_getElem hbi] at hsn
   simp only at hsn
   generalize s.nodes[b] = n at *
   obtain ⟨ba5,cp5,rfl,_⟩:=hv5
   have gb0:(0:Int)≤b:=by omega
   have gb1:(b:Int) < s.nodes.length:=by omega
   replace hsn:=Lib.hid hsn
   generalize sumEl s.nodes (o.take k) = z0 at *
   go_wp2_with fail
   go_roundw
   case rel=>exact ⟨k+1,by omega,by go_num,by rw [hsn.out];go_num,by first | rfl | trivial⟩
   case measure=>simp [intOf];omega
  ·obtain rfl:k = o.length:=by omega
   have hfin:Hid (sumEl s.nodes (o.take o.length) = z):=Lib.hid (by rw [List.take_length];exact he.out)
   go_wp2_with fail
   go_ret2
   exact ⟨by rw [hfin.out] <;> rfl,hbw⟩
end Go.Proofs.YtemnmcfmabamcaaGreatDoor
