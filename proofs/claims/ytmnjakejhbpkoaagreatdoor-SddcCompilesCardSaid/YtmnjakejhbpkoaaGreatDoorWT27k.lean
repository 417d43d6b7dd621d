import Derived.Test.YtmnjakejhbpkoaaGreatDoorWT27t
import Derived.Test.YtmnjakejhbpkoaaGreatDoorWT27l
section
set_option linter.unusedSimpArgs false
set_option linter.unusedVariables false
namespace Go.Proofs.YtmnjakejhbpkoaaGreatDoor
open Go Go.RowKit Go.Shelf
def CpL (n:Int) (w:World) (T:List (List Int)) (k:Nat) (wr:World):Prop :=
 ∃ (vL:Value) (us:List Value),wr.heap[w.heap.size+1+1]? = some (.cells #[.int .i64 n,vL] 24 (0,0))∧wr.ownsRow w.heap.size 45 1 vL k us∧RowsOf wr w.heap.size us (T.take k)∧wr.heap[w.heap.size+1]? = some (.cells #[.int .i64 0,.slice none 0 0] 24 (0,0))∧Below w.heap.size w wr
theorem ownsRow_keep {w w':World} {base n size:Nat} {e:TypeId} {v:Value} {xs:List Value} (h:w.ownsRow base e size v n xs) (hk:∀ (g:Nat) (c:Array Value),w.heap[g]? = some (.cells c e (0,0))→w'.heap[g]? = w.heap[g]?):w'.ownsRow base e size v n xs:=by
 obtain ⟨a,h3 | ⟨g,cap,cur,rfl,hgb,hgh,hr⟩⟩:=h
 ·exact ⟨a,.inl h3⟩
 ·exact ⟨a,.inr ⟨g,cap,cur,rfl,hgb,(hk g cur hgh).trans hgh,hr⟩⟩
theorem grown_other {w w':World} {base n size:Nat} {e e':TypeId} {v:Value} {xs:List Value} (h:w.ownsRow base e size v n xs) (hg:w.grownBy w' v.ownBlock) {g:Nat} {c:Array Value} (h1:w.heap[g]? = some (.cells c e' (0,0))) (hne:e'≠e):w'.heap[g]? = w.heap[g]?:=by
 refine hg.block g (Array.getElem?_eq_some_iff.1 h1).1 fun he=>?_
 obtain ⟨_,⟨rfl,_⟩ | ⟨g',cap,cur,rfl,hgb,hgh,hr⟩⟩:=h
 ·simp [Value.ownBlock] at he
 ·simp [Value.ownBlock] at he
  subst he
  rw [h1] at hgh
  simp only [Option.some.injEq,Obj.cells.injEq] at hgh
  exact hne hgh.2.1
theorem wp_append_ints {w:World} {o:Oper} {a:Act} {K:Act→World→Prop} {Q:Exit→Act→World→Prop} (s x:Operand) (ho:o.op = .call { callee:=.builtin .append,args:=#[s,x],argTypes:=#[45,45] })
  (base:Nat) (i:TypeInfo) (hi:Tryz.prog.info? 3 = some i) (hz:i.zero = some (.int .i64 0)) (hsize:i.size = 1) (hby:i.bytes = 8)
  (v:Value) (n:Nat) (xs:List Value) (hs:a.eval s = v) (hown:w.ownsRow base 3 1 v n xs) (cb:Option Addr) (cc:Nat) (c:List Int) (hx:a.eval x = .slice cb c.length cc)
  (hcc:∀ j (hj:j < c.length),∃ b o,cb = some ⟨b,o,none⟩∧w.cell? ⟨b,o+j,none⟩ = some (.int .i64 c[j])) (hn:n+c.length≤1048576) (hbase:base≤w.heap.size)
  (h:∀ v' w',w'.ownsRow base 3 1 v' (n+c.length) (xs++c.map encZ)→w.grownBy w' v.ownBlock→K (a.put o.dst v') w'):o.wp Tryz.prog a w K Q:=by
 cases cb with
 | none =>
   have hc:c = []:=by
    cases c with
    | nil=>rfl
    | cons y r=>obtain ⟨b,o',h1,_⟩:=hcc 0 (by simp);cases h1
   subst hc
   exact wp_append_none_any s x 45 ho base 3 i 1 Tryz.underlying45 hi v n xs hs hown cc hx (h v w (by simpa using hown) ⟨rfl,rfl,rfl,Nat.le_refl _,fun _ _ _=>rfl⟩)
 | some ad =>
   refine wp_append_own w s x 45 ho base 3 i _ 1 8 Tryz.underlying45 hi hz hsize hby rfl (by decide) v n xs hs hown ad c.length cc (c.map encZ) hx (by simp) (fun j u hj=>?_) (fun u hu=>?_) (by unfold maxLen;omega) (by omega) hbase (fun v' w' h1 h2 _=>h v' w' h1 h2)
   ·obtain ⟨z,hz1,rfl⟩:=List.getElem?_map .. ▸ hj |> Option.map_eq_some_iff.1
    obtain ⟨hjl,rfl⟩:=List.getElem?_eq_some_iff.1 hz1
    obtain ⟨b,o',h1,h2⟩:=hcc j hjl
    cases h1
    rw [Addr.add_lit]
    exact h2
   ·obtain ⟨z,_,rfl⟩:=List.mem_map.1 hu
    rfl
theorem sl_info:(Tryz.prog.info? 45).map (fun i=>(i.zero,i.size,i.bytes)) = some (some (.slice none 0 0),1,24):=by kernel_rfl
set_option maxRecDepth 100000 in
set_option maxHeartbeats 8000000 in
theorem copy5_any {n:Int} {T:List (List Int)} {v:Value} {w:World} (hv:SlT w v T) (hl:T.length≤60) (hr:∀ c∈T,c.length≤140) :
  Calls Tryz.prog 17 #[.agg #[.int .i64 n,v]] w fun e w'=>∃ vL us,e = .returned (.agg #[.int .i64 n,vL])∧w'.ownsRow w.heap.size 45 1 vL T.length us∧RowsOf w' w.heap.size us T∧Below w.heap.size w w':=by
 obtain ⟨iv,hiv,hzv,hsv,hbv⟩:=info_parts sl_info
 obtain ⟨i0,hi0,hz0,hz1,hz2⟩:=info_parts int_info
 obtain ⟨ba,cp,rfl,hcs⟩:=hv.shape
 clear hv
 obtain ⟨e1,e2,e3⟩:=alloc3h w (.cells #[.int .i64 n,.slice ba T.length cp] 24) (.cells #[.int .i64 0,.slice none 0 0] 24) (.cells #[.int .i64 n,.slice none 0 0] 24)
 have hx3:Ext w (((w.alloc (.cells #[.int .i64 n,.slice ba T.length cp] 24)).alloc (.cells #[.int .i64 0,.slice none 0 0] 24)).alloc (.cells #[.int .i64 n,.slice none 0 0] 24)):=(((Ext.refl w).alloc _).alloc _).alloc _
 have hC:Hid (CpL n w T 0 (((w.alloc (.cells #[.int .i64 n,.slice ba T.length cp] 24)).alloc (.cells #[.int .i64 0,.slice none 0 0] 24)).alloc (.cells #[.int .i64 n,.slice none 0 0] 24))) :=
  Lib.hid ⟨.slice none 0 0,[],e3,⟨rfl,.inl ⟨rfl,rfl⟩⟩,RowsOf.nil _ _,e2,hx3.below⟩
 replace hcs:=Lib.hid hcs
 replace hr:=Lib.hid hr
 clear e1 e2 e3 hx3
 go_enter Tryz.func17,Tryz.ntmps17
 go_wp2_with fail
 go_loopw [12] (fun i wr=>∃ k:Nat,k≤T.length∧i = .int .i64 (k:Int)∧Hid (CpL n w T k wr)) (fun i _=>T.length - (intOf i).toNat)
 case atStart=>exact ⟨0,by omega,rfl,hC⟩
 case round =>
  clear hC
  obtain ⟨k,hk,rfl,hI⟩:=hrel
  obtain ⟨vL,us,hb,ho,hR,hz,hB⟩:=hI.out
  by_cases hlt:k < T.length
  ·have d0:decide ((k:Int) < (T.length:Int)) = true:=decide_eq_true (by omega)
   have g0:(0:Int)≤(k:Int):=by omega
   have g1:(k:Int) < (T.length:Int):=by omega
   obtain ⟨b,o,u,rfl,hc,hu⟩:=hcs.out k hlt
   have hcl:=hr.out _ (List.getElem_mem hlt)
   have hc':=(hB.cell (World.block_lt_of_cell? w _ hc)).trans hc
   have hu':=hu.ext hB
   have htk:T.take (k+1) = T.take k++[T[k]]:=List.take_succ_eq_append_getElem hlt
   generalize T[k] = c at *
   obtain ⟨cb,cc,rfl,hcc⟩:=hu'.shape
   have y1:wr.cell? ⟨w.heap.size+1+1,1,none⟩ = some vL:=by rw [World.cell?,hb];rfl
   replace htk:=Lib.hid htk
   replace hb:=Lib.hid hb
   replace hz:=Lib.hid hz
   clear hu hu'
   go_wp2_with fail
   (refine wp_region_z (S:=(fun V=>V.cell? ⟨w.heap.size+1+1,1,none⟩ = some vL)) 8 (by kernel_rfl) ?_ (fun hHeld=>?_))
   ·exact y1
   (refine wpZ_take (i:=0) (v:=?_) rfl (by kernel_rfl) (by decide) (by kernel_rfl) (by kernel_rfl) (by kernel_rfl) (fun _ _ _ h=>h) (Or.inl ⟨by rfl,?_⟩) (by assumption) ?_)
   rotate_left
   ·(intro w hSw;(try dsimp only at hSw);skip;go_simp;first | done | with_reducible rfl)
   (try simp only [Act.put,List.setIfInBounds_toArray,List.set_cons_zero,List.set_cons_succ])
   (refine wpZ_take (i:=1) (v:=?_) rfl (by kernel_rfl) (by decide) (by kernel_rfl) (by kernel_rfl) (by kernel_rfl) (fun _ _ _ h=>h) (Or.inl ⟨by rfl,?_⟩) (by assumption) ?_)
   rotate_left
   ·(intro w hSw;(try dsimp only at hSw);skip;go_simp;first | done | with_reducible rfl)
   (try simp only [Act.put,List.setIfInBounds_toArray,List.set_cons_zero,List.set_cons_succ])
   (refine wpZ_take (i:=3) (v:=?_) rfl (by kernel_rfl) (by decide) (by kernel_rfl) (by kernel_rfl) (by kernel_rfl) (fun _ _ _ h=>h) (Or.inl ⟨by rfl,?_⟩) (by assumption) ?_)
   rotate_left
   ·(intro w hSw;(try dsimp only at hSw);skip;go_simp;first | done | with_reducible rfl)
   (try simp only [Act.put,List.setIfInBounds_toArray,List.set_cons_zero,List.set_cons_succ])
   (refine wpZ_one (i:=2) (by kernel_rfl) rfl (fun K hK=>?_))
   (rw [if_pos (by rfl)])
   go_simp
   have hro:((wr.alloc (.cells #[] 3)).drew).ownsRow w.heap.size 3 1 (.slice (some ⟨wr.heap.size,0,none⟩) 0 0) 0 []:=World.ownsRow_lit wr #[] 0 hB.size (by unfold maxLen;omega) rfl
   have ha:Below wr.heap.size wr ((wr.alloc (.cells #[] 3)).drew):=((Below.refl _ wr).alloc (Nat.le_refl _) _).drew
   have hS:∀ W,Below wr.heap.size wr W→W.cell? ⟨w.heap.size+1+1,1,none⟩ = some vL:=fun W h=>(h.cell (World.block_lt_of_cell? wr _ y1)).trans y1
   have hcc':∀ j (hj:j < c.length),∃ b o,cb = some ⟨b,o,none⟩∧((wr.alloc (.cells #[] 3)).drew).cell? ⟨b,o+j,none⟩ = some (.int .i64 c[j]):=fun j hj=>by
    obtain ⟨b',o',h1,h2⟩:=hcc j hj
    exact ⟨b',o',h1,(ha.cell (World.block_lt_of_cell? wr _ h2)).trans h2⟩
   refine hK.out _ _ (hS _ ha) (fun hHeld=>?_)
   generalize hwa:(wr.alloc (.cells #[] 3)).drew = wa at *
   replace hwa:=Lib.hid hwa
   clear hK K hHeld hcc
   (try simp only [Act.put,List.setIfInBounds_toArray,List.set_cons_zero,List.set_cons_succ])
   (refine wpZ_one (i:=4) (by kernel_rfl) rfl (fun K hK=>?_))
   (rw [if_pos (by rfl)])
   refine wp_append_ints _ _ rfl w.heap.size i0 hi0 hz0 hz1 hz2 _ 0 [] rfl hro cb cc c rfl hcc' (by omega) (Nat.le_trans hB.size ha.size) (fun v4 w4 ho4 hg4=>?_)
   rw [List.nil_append,Nat.zero_add] at ho4
   have hb4:Below wr.heap.size wr w4:=Below.grown ha hg4 ha.size (fun k e=>Nat.le_of_eq (Option.some.inj (show some wr.heap.size = some k from e)))
   refine hK.out _ _ (hS _ hb4) (fun hHeld=>?_)
   clear hK K hHeld
   (try simp only [Act.put,List.setIfInBounds_toArray,List.set_cons_zero,List.set_cons_succ])
   obtain ⟨a4,c4,rfl⟩:∃ ba cp,v4 = .slice ba c.length cp:=by obtain ⟨ba,cp,h,_⟩:=owns_slI (l:=c) ho4;exact ⟨ba,cp,h⟩
   (refine wpZ_one (i:=5) (by kernel_rfl) rfl (fun K hK=>?_))
   (rw [if_pos (by rfl)])
   go_simp
   have h5:Below w4.heap.size w4 (w4.alloc (.cells #[.slice a4 c.length c4] 45)):=(Below.refl _ w4).alloc (Nat.le_refl _) _
   have hn5:(w4.alloc (.cells #[.slice a4 c.length c4] 45)).heap[w4.heap.size]? = some (.cells #[.slice a4 c.length c4] 45):=heap_alloc_new w4 _
   refine hK.out _ _ (hS _ (hb4.trans (h5.mono hb4.size))) (fun hHeld=>?_)
   generalize hw5:w4.alloc (.cells #[.slice a4 c.length c4] 45) = w5 at *
   replace hw5:=Lib.hid hw5
   clear hK K hHeld
   (try simp only [Act.put,List.setIfInBounds_toArray,List.set_cons_zero,List.set_cons_succ])
   have hb5:=hb4.trans (h5.mono hb4.size)
   have ho5:=ownsRow_keep ho (fun g c h=>hb5.block g (Array.getElem?_eq_some_iff.1 h).1)
   have hB5:Below w.heap.size w w5:=hB.trans (hb5.mono hB.size)
   have hn5':=World.news_of_block (cs:=#[.slice a4 c.length c4]) (t:=45) (fr:=(0,0)) hn5
   (refine wpZ_one (i:=6) (by kernel_rfl) rfl (fun K hK=>?_))
   (rw [if_pos (by rfl)])
   refine wp_append_own w5 _ _ 22 rfl w.heap.size 45 iv _ 1 24 Tryz.underlying22 hiv hzv hsv hbv rfl (by decide) vL k us rfl ho5 ⟨w4.heap.size,0,none⟩ 1 1 [.slice a4 c.length c4] rfl rfl hn5' (by simp [Value.oneCell']) (by unfold maxLen;omega) (by omega) hB5.size (fun v6 w6 ho6 hg6 _=>?_)
   have hb6:w6.heap[w.heap.size+1+1]? = some (.cells #[.int .i64 n,vL] 24 (0,0)):=by
    have h:=(hb5.block _ (Array.getElem?_eq_some_iff.1 hb.out).1).trans hb.out
    exact (grown_other ho5 hg6 h (by decide)).trans h
   have hz6:w6.heap[w.heap.size+1]? = some (.cells #[.int .i64 0,.slice none 0 0] 24 (0,0)):=by
    have h:=(hb5.block _ (Array.getElem?_eq_some_iff.1 hz.out).1).trans hz.out
    exact (grown_other ho5 hg6 h (by decide)).trans h
   have hR6:RowsOf w6 w.heap.size us (T.take k):=hR.keep (fun g c h=>by
    have h':=hb5.block g (Array.getElem?_eq_some_iff.1 h).1
    exact (grown_other ho5 hg6 (h'.trans h) (by decide)).trans h')
   have ho46:w6.ownsRow w.heap.size 3 1 (.slice a4 c.length c4) c.length (c.map encZ):=ownsRow_keep ho4 (fun g c h=>by
    have h':=h5.block g (Array.getElem?_eq_some_iff.1 h).1
    exact (grown_other ho5 hg6 (h'.trans h) (by decide)).trans h')
   have hR7:=hR6.snoc ho46
   rw [←htk.out] at hR7
   have hB6:Below w.heap.size w w6:=Below.grown hB5 hg6 hB5.size (fun k e=>own_ge ho5 e)
   have hS6:w6.cell? ⟨w.heap.size+1+1,1,none⟩ = some vL:=by rw [World.cell?,hb6];rfl
   obtain ⟨g6,c6,rfl⟩:∃ g c,v6 = .slice (some ⟨g,0,none⟩) (k+1) c:=by
    obtain ⟨_,⟨_,e⟩ | ⟨g,cap,cur,h,_⟩⟩:=ho6
    ·omega
    ·exact ⟨g,cap,h⟩
   have hend:Hid (CpL n w T (k+1) (w6.setCell ⟨w.heap.size+1+1,1,none⟩ (.slice (some ⟨g6,0,none⟩) (k+1) c6))):=by
    have hne:∀ (g:Nat) (cs:Array Value) (ty:TypeId),w6.heap[g]? = some (.cells cs ty (0,0))→ty≠24→(w6.setCell ⟨w.heap.size+1+1,1,none⟩ (.slice (some ⟨g6,0,none⟩) (k+1) c6)).heap[g]? = w6.heap[g]?:=fun g cs ty h1 h2=>by
     refine Below.heap_setCell _ _ _ _ fun e=>?_
     rw [e,hb6] at h1
     simp only [Option.some.injEq,Obj.cells.injEq] at h1
     exact h2 h1.2.1.symm
    exact Lib.hid ⟨_,_,heap_set hb6 1 _,ownsRow_keep ho6 (fun g c h=>hne g c _ h (by decide)),hR7.keep (fun g c h=>hne g c _ h (by decide)),(Below.heap_setCell _ _ _ _ (by simp)).trans hz6,hB6.setCell (by show _≤w.heap.size+1+1;omega) _⟩
   have y2:w6.frozen? ⟨w.heap.size+1+1,1,none⟩ = false:=by simp [World.frozen?,hb6]
   refine hK.out _ _ hS6 (fun hHeld=>?_)
   clear hK K hHeld ho6 hR6 hR7 ho46 ho5 ho4 hb6 hz6 hg6
   (try simp only [Act.put,List.setIfInBounds_toArray,List.set_cons_zero,List.set_cons_succ])
   (refine wpZ_take (i:=7) (v:=?_) rfl (by kernel_rfl) (by decide) (by kernel_rfl) (by kernel_rfl) (by kernel_rfl) (fun _ _ _ h=>h) (Or.inl ⟨by rfl,?_⟩) (by assumption) ?_)
   rotate_left
   ·(intro w hSw;(try dsimp only at hSw);skip;go_simp;first | done | with_reducible rfl)
   (try simp only [Act.put,List.setIfInBounds_toArray,List.set_cons_zero,List.set_cons_succ])
   (refine wpZ_last (by kernel_rfl) rfl (by kernel_rfl) (fun K hK=>?_))
   ((rw [if_pos (by rfl)]);go_simp;refine hK.out _ _ ?_)
   (clear hK K)
   (try simp only [Act.put,List.setIfInBounds_toArray,List.set_cons_zero,List.set_cons_succ])
   go_wp2_with fail
   go_roundw
   case rel=>exact ⟨k+1,by omega,by go_num,hend⟩
   case measure=>simp [intOf];omega
  ·obtain rfl:k = T.length:=by omega
   have d0:decide ((T.length:Int) < (T.length:Int)) = false:=decide_eq_false (by omega)
   obtain ⟨bL,nL,cL,rfl⟩:∃ b n c,vL = .slice b n c:=by
    obtain ⟨_,⟨rfl,_⟩ | ⟨g,cap,cur,rfl,_⟩⟩:=ho
    ·exact ⟨_,_,_,rfl⟩
    ·exact ⟨_,_,_,rfl⟩
   rw [List.take_length] at hR
   have p0:wr.cell? ⟨w.heap.size+1+1,0,none⟩ = some (.int .i64 n):=by rw [World.cell?,hb];rfl
   have p1:wr.cell? ⟨w.heap.size+1+1,1,none⟩ = some (.slice bL nL cL):=by rw [World.cell?,hb];rfl
   have x0:wr.cell? ⟨w.heap.size+1,0,none⟩ = some (.int .i64 0):=by rw [World.cell?,hz];rfl
   have x1:wr.cell? ⟨w.heap.size+1,1,none⟩ = some (.slice none 0 0):=by rw [World.cell?,hz];rfl
   have y0:wr.frozen? ⟨w.heap.size+1,0,none⟩ = false:=by simp [World.frozen?,hz]
   have y1:wr.frozen? ⟨w.heap.size+1,1,none⟩ = false:=by simp [World.frozen?,hz]
   obtain ⟨r0,r1⟩:=box2_set hz (.int .i64 n) (.slice bL nL cL)
   have hne:∀ (g:Nat) (cs:Array Value) (ty:TypeId),wr.heap[g]? = some (.cells cs ty (0,0))→ty≠24→((wr.setCell ⟨w.heap.size+1,0,none⟩ (.int .i64 n)).setCell ⟨w.heap.size+1,1,none⟩ (.slice bL nL cL)).heap[g]? = wr.heap[g]?:=fun g cs ty h1 h2=>by
    have hgf:g≠w.heap.size+1:=by
     intro e
     rw [e,hz] at h1
     simp only [Option.some.injEq,Obj.cells.injEq] at h1
     exact h2 h1.2.1.symm
    exact (Below.heap_setCell _ _ _ _ hgf).trans (Below.heap_setCell _ _ _ _ hgf)
   have hfin:=Lib.hid (And.intro (ownsRow_keep ho (fun g c h=>hne g c _ h (by decide))) (And.intro (hR.keep (fun g c h=>hne g c _ h (by decide))) ((hB.setCell (Nat.le_succ _) (.int .i64 n) (p:=⟨w.heap.size+1,0,none⟩)).setCell (Nat.le_succ _) (.slice bL nL cL) (p:=⟨w.heap.size+1,1,none⟩))))
   replace hb:=Lib.hid hb
   replace hz:=Lib.hid hz
   replace r0:=Lib.hid r0
   replace r1:=Lib.hid r1
   clear hne ho hR hB
   go_wp2_with fail
   exact bodyPost_ret (v:=.agg #[.int .i64 n,.slice bL nL cL]) (by simp [results,Tryz.results17,go_sem,r0.out,r1.out]) rfl ⟨_,us,rfl,hfin.out.1,hfin.out.2.1,hfin.out.2.2⟩
end Go.Proofs.YtmnjakejhbpkoaaGreatDoor
end
section
set_option linter.unusedSimpArgs false
set_option linter.unusedVariables false
namespace Go.Proofs.YtmnjakejhbpkoaaGreatDoor
open Go Go.RowKit Go.Shelf
theorem RowsOf.slT {w:World} {base:Nat} {vL:Value} {us:List Value} {T:List (List Int)} (ho:w.ownsRow base 45 1 vL T.length us) (h:RowsOf w base us T):SlT w vL T:=by
 obtain ⟨_,⟨rfl,e⟩ | ⟨g,cap,cur,rfl,hgb,hgh,hn,hm,hcs,ht⟩⟩:=ho
 ·have:T = []:=List.length_eq_zero_iff.1 e
  subst this
  exact ⟨none,0,rfl,.inl ⟨rfl,rfl,rfl⟩⟩
 ·refine ⟨_,cap,rfl,.inr ⟨g,0,rfl,fun j hj=>?_⟩⟩
  have hju:j < us.length:=by rw [h.1];exact hj
  refine ⟨us[j],?_,owns_slI (h.2 j us[j] T[j] (List.getElem?_eq_getElem hju) (List.getElem?_eq_getElem hj))⟩
  have h1:us[j]? = some us[j]:=List.getElem?_eq_getElem hju
  generalize us[j] = x at *
  rw [←ht,List.getElem?_take_of_lt (by omega)] at h1
  rw [World.cell?,hgh]
  show cur[0+j]? = some x
  rw [Nat.zero_add,←Array.getElem?_toList]
  exact h1
set_option maxRecDepth 100000 in
set_option maxHeartbeats 4000000 in
theorem copiedN_any (w:World) (cap:Nat) :
  Calls Tryz.prog 18 #[.slice none 0 cap] w fun e w'=>e = .returned (.slice (some ⟨w.heap.size,0,none⟩) 0 0)∧Below w.heap.size w w':=by
 obtain ⟨iv,hiv,hzv,hsv,hbv⟩:=info_parts vn27_info
 have hro:(w.alloc (.cells #[] 106)).ownsRow w.heap.size 106 3 (.slice (some ⟨w.heap.size,0,none⟩) 0 0) 0 []:=World.ownsRow_lit w #[] 0 (Nat.le_refl _) (by unfold maxLen;omega) rfl
 have hb1:Below w.heap.size w (w.alloc (.cells #[] 106)):=(Below.refl _ _).alloc (Nat.le_refl _) _
 go_enter Tryz.func18,Tryz.ntmps18
 go_wp2_with (at_builtin;refine wpList_plain rfl fun K hK=>wp_append_none_any _ _ 26 rfl w.heap.size 106 iv 3 Tryz.underlying26 hiv _ 0 [] rfl hro cap rfl (hK _ _ ?_))
 go_ret
 exact ⟨rfl,hb1⟩
end Go.Proofs.YtmnjakejhbpkoaaGreatDoor
end
section
set_option linter.unusedSimpArgs false
set_option linter.unusedVariables false
namespace Go.Proofs.YtmnjakejhbpkoaaGreatDoor
open Go Go.RowKit Go.Shelf
theorem light_sizes {n:Int} {T:List (List Int)} (h:light27B n T = true):T.length≤60∧∀ c∈T,c.length≤140:=by
 unfold light27B at h
 rw [Bool.and_eq_true] at h
 have h1:=h.1
 unfold lightB at h1
 simp only [Bool.and_eq_true,decide_eq_true_eq,List.all_eq_true] at h1
 first
  | exact ⟨h1.2,h1.1⟩
  | exact ⟨h1.1,h1.2⟩
theorem few_300 {t:List VN} (h:few27B t = true):t.length≤300:=by
 unfold few27B at h
 split at h
 ·simpa using h
 ·have:t.length≤11:=by simpa using h
  omega
theorem copied_all {t:List VN} (w:World) (ba:Option Addr) (cap:Nat) (ht:t = []∨∃ b o,ba = some ⟨b,o,none⟩∧TreeAt w b o t) (hl:t.length≤300) :
  Calls Tryz.prog 18 #[.slice ba t.length cap] w fun e w'=>∃ b c,e = .returned (.slice (some ⟨b,0,none⟩) t.length c)∧TreeAt w' b 0 t∧Below w.heap.size w w':=by
 cases ba with
 | none =>
   obtain rfl:t = []:=ht.resolve_right (by rintro ⟨b,o,h,_⟩;cases h)
   refine (copiedN_any w cap).mono fun e w' hh=>?_
   exact ⟨w.heap.size,0,hh.1,fun j u hj=>by simp [treeCells] at hj,hh.2⟩
 | some a =>
   refine (copied_any w (some a) cap ht (fun h=>by cases h) hl).mono fun e w' hh=>?_
   obtain ⟨b,c,h1,_,_,h4,h5⟩:=hh
   exact ⟨b,c,h1,h4,h5⟩
end Go.Proofs.YtmnjakejhbpkoaaGreatDoor
end
section
set_option linter.unusedSimpArgs false
set_option linter.unusedVariables false
namespace Go.Proofs.YtmnjakejhbpkoaaGreatDoor
open Go Go.RowKit Go.Shelf
def cntTo (f:Nat→Bool) (k:Nat):Nat:=((List.range k).filter f).length
theorem cntTo_le (f:Nat→Bool) (k:Nat):cntTo f k≤k:=by
 have:=List.length_filter_le f (List.range k)
 simpa [cntTo] using this
theorem cntTo_succ (f:Nat→Bool) (k:Nat):cntTo f (k+1) = cntTo f k+(if f k = true then 1 else 0):=by
 unfold cntTo
 rw [List.range_succ,List.filter_append,List.length_append]
 cases h:f k <;> simp [h]
set_option maxRecDepth 100000 in
set_option maxHeartbeats 8000000 in
theorem fnCount_any {φ:L.Asg→Bool} {vf:Value} {l:List Int} {w:World} (hf:FnAt w vf l φ) (hnd:l.Nodup) (hl:l.length≤12) :
  Calls Tryz.prog 31 #[vf] w fun e w'=>e = .returned (.int .i64 (L.cnt l φ:Nat))∧Ext w w':=by
 obtain ⟨vl,g0,c0,rfl,hvl,hb0⟩:=hf
 have hg0:=hb0.lt
 have hN:=pow_le4096 hl
 have hcr:=L.cnt_range l φ hnd
 have e0:=heap_alloc_new w (.cells #[vl,.slice (some ⟨g0,0,none⟩) (2 ^ l.length) c0] 48)
 have hx1:Ext w (w.alloc (.cells #[vl,.slice (some ⟨g0,0,none⟩) (2 ^ l.length) c0] 48)):=(Ext.refl w).alloc _
 obtain ⟨w1,hw1⟩:∃ w1,w1 = w.alloc (.cells #[vl,.slice (some ⟨g0,0,none⟩) (2 ^ l.length) c0] 48):=⟨_,rfl⟩
 rw [←hw1] at e0 hx1
 have hc0:∀ (j:Nat),j < 2 ^ l.length→w1.cell? ⟨g0,j,none⟩ = some (.bool (φ (L.nth l j))):=fun j hj=>((hb0.same (hx1.below.block _ hg0)).cell hj).1
 generalize hNN:2 ^ l.length = N at *
 clear hvl hnd hb0
 have c1:w1.cell? ⟨w.heap.size,1,none⟩ = some (.slice (some ⟨g0,0,none⟩) N c0):=by rw [World.cell?,e0];rfl
 obtain ⟨f,hff⟩:∃ f:Nat→Bool,f = fun k=>φ (L.nth l k):=⟨_,rfl⟩
 have hc1:∀ (j:Nat),j < N→w1.cell? ⟨g0,j,none⟩ = some (.bool (f j)):=fun j hj=>by rw [hff];exact hc0 j hj
 have hct:cntTo f N = L.cnt l φ:=by rw [hff];exact hcr
 clear hc0 hcr
 rw [←hct]
 replace hct:=Lib.hid hct
 replace hff:=Lib.hid hff
 replace hNN:=Lib.hid hNN
 replace hc1:=Lib.hid hc1
 replace e0:=Lib.hid e0
 go_enter Tryz.func31,Tryz.ntmps31
 go_wp2_with fail
 rw [←hw1]
 replace hw1:=Lib.hid hw1
 go_wp2_with fail
 go_loopw [3,4] (fun n i wr=>∃ k:Nat,k≤N∧i = .int .i64 (k:Int)∧n = .int .i64 (cntTo f k:Nat)∧wr = w1) (fun _ i _=>N - (intOf i).toNat)
 case atStart=>exact ⟨0,by omega,rfl,rfl,rfl⟩
 case round =>
  obtain ⟨k,hk,rfl,rfl,rfl⟩:=hrel
  by_cases hlt:k < N
  ·have d0:decide ((k:Int) < (N:Int)) = true:=decide_eq_true (by omega)
   have g0':(0:Int)≤(k:Int):=by omega
   have g1:(k:Int) < (N:Int):=by omega
   have hc:=hc1.out k hlt
   have hs:=cntTo_succ f k
   have hle:=cntTo_le f k
   generalize cntTo f k = q at *
   cases hB:f k
   ·rw [hB] at hc
    have hs':Hid (cntTo f (k+1) = q):=Lib.hid (by rw [hs,hB];rfl)
    clear hs
    go_wp2_with fail
    go_roundw
    case rel=>exact ⟨k+1,by omega,by go_num,by rw [hs'.out],by first | rfl | trivial⟩
    case measure=>simp [intOf];omega
   ·rw [hB] at hc
    have hs':Hid (cntTo f (k+1) = q+1):=Lib.hid (by rw [hs,hB];rfl)
    clear hs
    go_wp2_with fail
    go_roundw
    case rel=>exact ⟨k+1,by omega,by go_num,by rw [hs'.out] <;> go_num,by first | rfl | trivial⟩
    case measure=>simp [intOf];omega
  ·obtain rfl:k = N:=by omega
   have d0:decide ((k:Int) < (k:Int)) = false:=decide_eq_false (by omega)
   go_wp2_with fail
   go_ret
   exact ⟨rfl,hx1⟩
end Go.Proofs.YtmnjakejhbpkoaaGreatDoor
end
