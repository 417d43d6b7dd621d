import Derived.Test.YtmnjakejhbpkoaaGreatDoorWEval
import Derived.Lib.AppendStr
import Derived.Lib.SlBytesConst
import Derived.Deep.AppendLies
set_option linter.unusedSimpArgs false
set_option linter.unusedVariables false
namespace Go.Proofs.YtmnjakejhbpkoaaGreatDoor
open Go Go.RowKit Go.Shelf
def encT (b:List UInt8):Value:=.string ⟨b.toArray⟩
def ascT (m:List (Nat × List UInt8)) (a:Nat):List UInt8:=match asc m a with
 | some t=>t
 | none=>[]
def elsT (m:List (Nat × List UInt8)):List (Nat × Nat)→List UInt8
 | []=>[]
 | p :: r=>(ascT m p.1++[32]++ascT m p.2)++(r.flatMap fun q=>[59,32]++(ascT m q.1++[32]++ascT m q.2))
def partT (m:List (Nat × List UInt8)) (l:List (Nat × Nat)):List UInt8:=[40]++elsT m l
theorem partT_snoc (m:List (Nat × List UInt8)) (l:List (Nat × Nat)) (p:Nat × Nat):partT m (l++[p]) = partT m l++(if l = [] then [] else [59,32])++ascT m p.1++[32]++ascT m p.2:=by
 cases l with
 | nil=>simp [partT,elsT]
 | cons q r=>simp [partT,elsT]
def wrL (g:Nat→List (Nat × List UInt8)→Option (List (Nat × List UInt8))):List (Nat × Nat)→List (Nat × List UInt8)→Nat→Option (List (Nat × List UInt8) × Nat)
 | [],m,z=>some (m,z)
 | p :: r,m,z=>match g p.1 m with
   | none=>none
   | some m1=>match g p.2 m1 with
     | none=>none
     | some m2=>if (ascT m2 p.1).length≤1048576∧(ascT m2 p.2).length≤1048576 then wrL g r m2 (z+((ascT m2 p.1).length+(ascT m2 p.2).length+3)) else none
def writeF:Nat→List SNode→Nat→List (Nat × List UInt8)→Option (List (Nat × List UInt8))
 | 0,_,_,_=>none
 | f+1,ns,a,m=>match asc m a with
   | some _=>some m
   | none=>match ns[a]? with
     | none=>none
     | some n=>if n.el = [] then some ((a,if n.lit≠0 then Lib.itoa n.lit else if a = 1 then [84] else [70]) :: m) else
       match wrL (writeF f ns) n.el m 0 with
       | none=>none
       | some (m1,z)=>if z≤1048576∧(partT m1 n.el).length≤4194304∧(∀ p∈n.el,(0 < (ascT m1 p.1).length∧(ascT m1 p.1).length≤1048576)∧(0 < (ascT m1 p.2).length∧(ascT m1 p.2).length≤1048576)) then some ((a,partT m1 n.el++[41]) :: m1) else none
theorem wrL_cons {g:Nat→List (Nat × List UInt8)→Option (List (Nat × List UInt8))} {p:Nat × Nat} {r:List (Nat × Nat)} {m:List (Nat × List UInt8)} {z:Nat} {fin:List (Nat × List UInt8) × Nat} (h:wrL g (p :: r) m z = some fin) :
  ∃ m1 m2,g p.1 m = some m1∧g p.2 m1 = some m2∧(ascT m2 p.1).length≤1048576∧(ascT m2 p.2).length≤1048576∧wrL g r m2 (z+((ascT m2 p.1).length+(ascT m2 p.2).length+3)) = some fin:=by
 unfold wrL at h
 split at h
 ·cases h
 ·rename_i m1 h1
  split at h
  ·cases h
  ·rename_i m2 h2
   split at h
   ·rename_i hc
    exact ⟨m1,m2,h1,h2,hc.1,hc.2,h⟩
   ·cases h
structure WrC (w0:World) (pm:Nat) (m:List (Nat × List UInt8)) (wr:World):Prop where
 below:Below w0.heap.size w0 wr
 mb:MapAt encNat encT wr pm (asc m)
 pml:w0.heap.size≤pm
def CellsStay (w w':World):Prop:=w.heap.size≤w'.heap.size∧∀ (k:Nat) (c:Array Value) (t:TypeId) (f:Nat × Nat),w.heap[k]? = some (.cells c t f)→w'.heap[k]? = some (.cells c t f)
theorem CellsStay.refl (w:World):CellsStay w w:=⟨Nat.le_refl _,fun _ _ _ _ h=>h⟩
theorem CellsStay.trans {a b c:World} (h:CellsStay a b) (k:CellsStay b c):CellsStay a c:=⟨Nat.le_trans h.1 k.1,fun i x t f hi=>k.2 i x t f (h.2 i x t f hi)⟩
theorem CellsStay.of_below {w w':World} (h:Below w.heap.size w w'):CellsStay w w':=⟨h.size,fun k c t f hk=>(h.block k (Array.getElem?_eq_some_iff.1 hk).1).trans hk⟩
theorem WrC.on {w0 wr w':World} {pm:Nat} {m:List (Nat × List UInt8)} (h:WrC w0 pm m wr) (hb:Below wr.heap.size wr w'):WrC w0 pm m w' where
 below:=h.below.trans (hb.mono h.below.size)
 mb:=h.mb.same (hb.block _ h.mb.lt)
 pml:=h.pml
theorem WrC.put {w0 wr:World} {pm:Nat} {m:List (Nat × List UInt8)} (h:WrC w0 pm m wr) (a:Nat) (t:List UInt8) :
  (Instr.mapUpdate 182 (.map (some pm)) (.int .i64 a) (.string ⟨t.toArray⟩)).run Tryz.prog wr = .ok () (putMap 3 Tryz.prog wr pm (encNat a) (encT t))∧WrC w0 pm ((a,t) :: m) (putMap 3 Tryz.prog wr pm (encNat a) (encT t))∧CellsStay wr (putMap 3 Tryz.prog wr pm (encNat a) (encT t)):=by
 obtain ⟨h1,h2⟩:=h.mb.put natLaw (T:=182) Tryz.underlying182 a t
 obtain ⟨p1,p2,p3,_⟩:=putMap_rest (P:=Tryz.prog) 3 wr pm (encNat a) (encT t)
 have hpl:=h.pml
 refine ⟨h1,⟨⟨p1.trans h.below.os,p2.trans h.below.tape,p3.trans h.below.output,by rw [putMap_size];exact h.below.size,fun k hk=>(putMap_other _ _ _ _ _ k (by omega)).trans (h.below.block k hk)⟩,by rw [asc_cons];exact h2,hpl⟩,by rw [putMap_size];exact Nat.le_refl _,fun k c t f hk=>?_⟩
 refine (putMap_other _ _ _ _ _ k ?_).trans hk
 intro e
 obtain ⟨L,cl,hb,_⟩:=h.mb
 rw [e,hb] at hk;simp at hk
theorem zeroStr:∀ w,(zeroValue 9).run Tryz.prog w = .ok (.string ⟨#[]⟩) w:=fun w=>by kernel_rfl
theorem WrC.look {w0 wr:World} {pm:Nat} {m:List (Nat × List UInt8)} (h:WrC w0 pm m wr) (a:Nat) :
  (Instr.lookup 182 (.map (some pm)) (.int .i64 a) true).run Tryz.prog wr = .ok (.tuple #[((asc m a).map encT).getD (.string ⟨#[]⟩),.bool (asc m a).isSome]) wr :=
 h.mb.look natLaw (T:=182) Tryz.underlying182 _ zeroStr a
theorem WrC.look1 {w0 wr:World} {pm:Nat} {m:List (Nat × List UInt8)} (h:WrC w0 pm m wr) (a:Nat) :
  (Instr.lookup 182 (.map (some pm)) (.int .i64 a) false).run Tryz.prog wr = .ok (.string ⟨(ascT m a).toArray⟩) wr:=by
 have h1:=h.mb.look1 natLaw (T:=182) Tryz.underlying182 _ zeroStr a
 have h2:((asc m a).map encT).getD (.string ⟨#[]⟩) = .string ⟨(ascT m a).toArray⟩:=by
  unfold ascT
  cases asc m a <;> rfl
 rw [h2] at h1
 exact h1
def WrLaw (s:St) (w0:World) (pm:Nat) (sb:Nat) (g:Nat→List (Nat × List UInt8)→Option (List (Nat × List UInt8))):Prop:=∀ (a:Nat) (m m':List (Nat × List UInt8)) (wr:World),WrC w0 pm m wr→g a m = some m' →
 Calls Tryz.prog 131 #[.pointer (some ⟨sb,0,none⟩),.int .i64 a,.map (some pm)] wr fun e w'=>e = .returned (.bool true)∧WrC w0 pm m' w'∧CellsStay wr w'
def OwnT (w:World) (base:Nat) (v:Value) (n:Nat) (l:List UInt8):Prop :=
 w.ownsRow base 5 1 v n (Lib.byteCells l)∨∃ g cur fz,v = .slice (some ⟨g,0,none⟩) n n∧base≤g∧w.heap[g]? = some (.cells cur 5 fz)∧cur.toList = Lib.byteCells l∧l.length = n
theorem OwnT.same {w w':World} {base n:Nat} {v:Value} {l:List UInt8} (h:OwnT w base v n l) (hs:∀ k,v.ownBlock = some k→w'.heap[k]? = w.heap[k]?):OwnT w' base v n l:=by
 rcases h with h | ⟨g,cur,fz,rfl,h1,h2,h3,h4⟩
 ·exact .inl (ownsRow_same h hs)
 ·exact .inr ⟨g,cur,fz,rfl,h1,(hs g rfl).trans h2,h3,h4⟩
theorem OwnT.lt {w:World} {base n:Nat} {v:Value} {l:List UInt8} (h:OwnT w base v n l) {k:Nat} (hk:v.ownBlock = some k):base≤k∧k < w.heap.size:=by
 rcases h with h | ⟨g,cur,fz,rfl,h1,h2,h3,h4⟩
 ·exact ⟨own_ge h hk,(own_lt h hk).1⟩
 ·simp [Value.ownBlock] at hk
  subst hk
  exact ⟨h1,(Array.getElem?_eq_some_iff.1 h2).1⟩
theorem run_append_T {w:World} {base n:Nat} {v:Value} {l:List UInt8} (h:OwnT w base v n l) (s:List UInt8) (h0:0 < s.length) (hb:n+s.length≤8388608) (hbase:base≤w.heap.size) (ty:TypeId) :
  ∃ v' w',(Builtin.append_ #[204,9] ty #[v,.string ⟨s.toArray⟩]).run Tryz.prog w = .ok v' w'∧w'.ownsRow base 5 1 v' (n+s.length) (Lib.byteCells (l++s))∧w.grownBy w' v.ownBlock:=by
 obtain ⟨i0,hi0,hz0,hz1,hz2⟩:=info_parts info_u8
 have hs:(⟨s.toArray⟩:ByteArray).size = s.length:=by simp [ByteArray.size]
 have hcells:Lib.strCells ⟨s.toArray⟩ = Lib.byteCells s:=by simp [Lib.strCells,Lib.byteCells]
 have happ:Lib.byteCells (l++s) = Lib.byteCells l++Lib.byteCells s:=by simp [Lib.byteCells]
 rcases h with h | ⟨g,cur,fz,rfl,h1,h2,h3,h4⟩
 ·obtain ⟨v',w',r1,r2,r3,_⟩:=Lib.run_append_own_string (P:=Tryz.prog) w base 204 9 ty 5 i0 Tryz.underlying204 Tryz.underlying9 hi0 hz0 hz1 hz2 v n _ h ⟨s.toArray⟩ (by rw [hs];unfold maxLen;omega) (by rw [hs];omega) hbase
  rw [hs,hcells] at r2
  exact ⟨v',w',r1,by rw [happ];exact r2,r3⟩
 ·have hxl:(Lib.byteCells l).length = n:=by simp [Lib.byteCells,h4]
  have holds:∀ j u,(Lib.byteCells l)[j]? = some u→w.cell? ((⟨g,0,none⟩:Addr).add j) = some u:=fun j u hj=>World.news_of_block h2 j u (by rw [h3];exact hj)
  have hr:=Lib.run_append_grow_string (P:=Tryz.prog) w 204 9 ty 5 i0 (.int .u8 0) Tryz.underlying204 Tryz.underlying9 hi0 hz0 ⟨g,0,none⟩ n n (Lib.byteCells l) (by rw [hz1];simpa using hxl) holds ⟨s.toArray⟩ (by rw [hs];omega) (by rw [hs];omega) (by rw [hz2];exact growslice_fits (by rw [hs];omega) (by rw [hs];omega))
  have hge:=grownCap_ge w (n+(⟨s.toArray⟩:ByteArray).size) n 5
  have hcm2:grownCap w (n+(⟨s.toArray⟩:ByteArray).size) n 5≤maxLen:=grownCap_le_maxLen w (n+(⟨s.toArray⟩:ByteArray).size) n 5 (by rw [hs];unfold maxLen;omega)
  rw [hs] at hge hcm2
  rw [hs] at hr
  refine ⟨_,_,hr,⟨by simp [Lib.byteCells,h4],.inr ⟨w.heap.size,_,_,rfl,hbase,heap_alloc_new w.drew _,hge,hcm2,?_,?_⟩⟩,⟨rfl,rfl,rfl,by simp,fun k hk _=>Below.heap_alloc w.drew _ k hk⟩⟩
  ·have hz1:(Value.int IntKind.u8 0).cells.size = 1:=rfl
   simp only [Array.size_append,List.size_toArray,size_zeroCells,hz1,hxl,Lib.strCells_length,hs]
   omega
  ·simp only [Array.toList_append,List.append_assoc]
   rw [←List.append_assoc,hcells,happ,Nat.mul_one]
   have hll:(Lib.byteCells l++Lib.byteCells s).length = n+s.length:=by simp [Lib.byteCells,h4]
   rw [←hll]
   exact List.take_left
theorem step_append_T {w:World} {ops:Array Oper} {o:Oper} {a:Act} {K:Act→World→Prop} {Q:Exit→Act→World→Prop} {E:Prop} (hgd:o.guard = none) (sl x:Operand)
  (ho:o.op = .call { callee:=.builtin .append,args:=#[sl,x],argTypes:=#[204,9] })
  (base:Nat) (v:Value) (n:Nat) (l:List UInt8) (hs:a.eval sl = v) (hown:OwnT w base v n l) (s:List UInt8) (hx:a.eval x = .string ⟨s.toArray⟩)
  (h0:0 < s.length) (hb:n+s.length≤8388608) (hbase:base≤w.heap.size)
  (h:∀ v' w',w'.ownsRow base 5 1 v' (n+s.length) (Lib.byteCells (l++s))→w.grownBy w' v.ownBlock→K (a.put o.dst v') w') :
  if Region.wanted o (yielded ops a.tmps) = true then Oper.wp Tryz.prog o a w K Q else E:=by
 have hw:Region.wanted o (yielded ops a.tmps) = true:=by simp [Region.wanted,hgd]
 rw [if_pos hw]
 obtain ⟨v',w',hr,h2,h3⟩:=run_append_T hown s h0 hb hbase o.type
 unfold Oper.wp execOp
 simp only [ho,resolve,invoke,builtin,Sem.run_bind,Sem.run_pure,Result.andThen_ok,List.map_toArray,List.map_cons,List.map_nil,hs,hx,hr]
 exact h v' w' h2 h3
theorem wpList_append_T {w:World} {ops:Array Oper} {rest:List Oper} {o:Oper} {a:Act} {Q:Exit→Act→World→Prop} (hgd:o.guard = none) (sl x:Operand)
  (ho:o.op = .call { callee:=.builtin .append,args:=#[sl,x],argTypes:=#[204,9] })
  (base:Nat) (v:Value) (n:Nat) (l:List UInt8) (hs:a.eval sl = v) (hown:OwnT w base v n l) (s:List UInt8) (hx:a.eval x = .string ⟨s.toArray⟩)
  (h0:0 < s.length) (hb:n+s.length≤8388608) (hbase:base≤w.heap.size)
  (h:∀ v' w',w'.ownsRow base 5 1 v' (n+s.length) (Lib.byteCells (l++s))→w.grownBy w' v.ownBlock→wpList Tryz.prog ops Q rest (a.put o.dst v') w'):wpList Tryz.prog ops Q (o :: rest) a w:=by
 refine wpList_plain hgd fun K hK=>?_
 obtain ⟨v',w',hr,h2,h3⟩:=run_append_T hown s h0 hb hbase o.type
 unfold Oper.wp execOp
 simp only [ho,resolve,invoke,builtin,Sem.run_bind,Sem.run_pure,Result.andThen_ok,List.map_toArray,List.map_cons,List.map_nil,hs,hx,hr]
 exact hK _ _ (h v' w' h2 h3)
end Go.Proofs.YtmnjakejhbpkoaaGreatDoor
namespace Go.Proofs.YtmnjakejhbpkoaaGreatDoor
open Go Go.RowKit Go.Shelf
theorem itoa_below (B:Nat) {w w':World} (h:∃ k os,w' = Go.Sort.grow (w.drewN k) os) (hB:B≤w.heap.size):Below B w w':=by
 obtain ⟨k,os,rfl⟩:=h
 exact Lib.below_grow B w hB k os
set_option maxRecDepth 100000 in
set_option maxHeartbeats 4000000 in
theorem write_hit {s:St} {w0:World} {pm sb a:Nat} {m:List (Nat × List UInt8)} {wr:World} {t:List UInt8} (hC:WrC w0 pm m wr) (ht:asc m a = some t) :
  Calls Tryz.prog 131 #[.pointer (some ⟨sb,0,none⟩),.int .i64 a,.map (some pm)] wr fun e w'=>e = .returned (.bool true)∧WrC w0 pm m w'∧CellsStay wr w':=by
 have hlk:=hC.look a
 rw [ht] at hlk
 have hlk2:(Instr.lookup 182 (.map (some pm)) (.int .i64 a) true).run Tryz.prog wr = .ok (.tuple #[.string ⟨t.toArray⟩,.bool true]) wr:=hlk
 clear hlk
 replace ht:=Lib.hid ht
 go_enter Tryz.func131,Tryz.ntmps131
 go_wp2_with fail
 go_ret
 exact ⟨rfl,hC,CellsStay.refl _⟩
set_option maxRecDepth 100000 in
set_option maxHeartbeats 4000000 in
theorem write_leaf {B:Blks} {s:St} {w0:World} {pm a:Nat} {m:List (Nat × List UInt8)} {wr:World} {n:SNode} (h:Rep B s w0) (hC:WrC w0 pm m wr) (hm:asc m a = none) (hn:s.nodes[a]? = some n) (hel:n.el = []) :
  Calls Tryz.prog 131 #[.pointer (some ⟨B.sb,0,none⟩),.int .i64 a,.map (some pm)] wr fun e w'=>e = .returned (.bool true)∧WrC w0 pm ((a,if n.lit≠0 then Lib.itoa n.lit else if a = 1 then [84] else [70]) :: m) w'∧CellsStay wr w':=by
 have hlk:=hC.look a
 rw [hm] at hlk
 have hlk2:(Instr.lookup 182 (.map (some pm)) (.int .i64 a) true).run Tryz.prog wr = .ok (.tuple #[.string ⟨#[]⟩,.bool false]) wr:=hlk
 clear hlk
 have hR:=h.below hC.below
 obtain ⟨cap,_,_,cn,_⟩:=hR.cells
 obtain ⟨v,hv,_,n0,n1,n2,n3,n4⟩:=hR.node hn
 obtain ⟨ba,cp,rfl,_⟩:=hv
 have hsm:=h.small.2 n (List.mem_of_getElem? hn)
 obtain ⟨_,_,hs3,hs4,_⟩:=hsm
 have hns:=h.small.1
 have hai:a < s.nodes.length:=(List.getElem?_eq_some_iff.1 hn).1
 have ga0:(0:Int)≤a:=by omega
 have ga1:(a:Int) < s.nodes.length:=by omega
 have hl0:n.el.length = 0:=by rw [hel];rfl
 rw [hl0] at n2
 have hx1:Ext wr (wr.alloc (.cells #[.int .i64 n.pl,.int .i64 n.lit,.slice ba 0 cp,.int .u64 (lo n.le),.int .u64 (hi n.le)] 158)):=(Ext.refl wr).alloc _
 have hz1:=heap_alloc_new wr (.cells #[.int .i64 n.pl,.int .i64 n.lit,.slice ba 0 cp,.int .u64 (lo n.le),.int .u64 (hi n.le)] 158)
 have hC1:=hC.on hx1.below
 have hP1:=hR.pow.below hx1.below
 replace hR:=Lib.hid hR
 replace hm:=Lib.hid hm
 replace hn:=Lib.hid hn
 replace hel:=Lib.hid hel
 replace hl0:=Lib.hid hl0
 by_cases hl:n.lit = 0
 ·have d0:((n.lit:Int) != 0) = false:=by simp [hl]
  by_cases ha:a = 1
  ·have hres:Hid ((if n.lit≠0 then Lib.itoa n.lit else if a = 1 then [84] else [70]) = [84]):=Lib.hid (by simp [hl,ha])
   rw [hres.out]
   have d1:((a:Int) == 1) = true:=by simp;omega
   replace ha:=Lib.hid ha
   replace hl:=Lib.hid hl
   obtain ⟨hpt,hC2,hS2⟩:=hC1.put a [84]
   replace hC1:=Lib.hid hC1
   have hS1:=CellsStay.of_below hx1.below
   obtain ⟨c0,c1,c2,c3,c4,_⟩:=cells5 hz1
   clear hz1
   go_enter Tryz.func131,Tryz.ntmps131
   go_wp2_with fail
   go_ret
   exact ⟨rfl,hC2,hS1.trans hS2⟩
  ·have hres:Hid ((if n.lit≠0 then Lib.itoa n.lit else if a = 1 then [84] else [70]) = [70]):=Lib.hid (by simp [hl,ha])
   rw [hres.out]
   have d1:((a:Int) == 1) = false:=by simp;omega
   replace ha:=Lib.hid ha
   replace hl:=Lib.hid hl
   obtain ⟨hpt,hC2,hS2⟩:=hC1.put a [70]
   replace hC1:=Lib.hid hC1
   have hS1:=CellsStay.of_below hx1.below
   obtain ⟨c0,c1,c2,c3,c4,_⟩:=cells5 hz1
   clear hz1
   go_enter Tryz.func131,Tryz.ntmps131
   go_wp2_with fail
   go_ret
   exact ⟨rfl,hC2,hS1.trans hS2⟩
 ·have hres:Hid ((if n.lit≠0 then Lib.itoa n.lit else if a = 1 then [84] else [70]) = Lib.itoa n.lit):=Lib.hid (by simp [hl])
  rw [hres.out]
  have d0:((n.lit:Int) != 0) = true:=by simpa using hl
  replace hl:=Lib.hid hl
  have hit1:=Tryz.strconv_Itoa n.lit (by omega) (by omega) _ hP1
  have hS1:=CellsStay.of_below hx1.below
  obtain ⟨c0,c1,c2,c3,c4,_⟩:=cells5 hz1
  clear hz1
  replace hC1:=Lib.hid hC1
  replace hP1:=Lib.hid hP1
  go_enter Tryz.func131,Tryz.ntmps131
  go_wp2_with fail
  generalize wr.alloc (.cells #[.int .i64 n.pl,.int .i64 n.lit,.slice ba 0 cp,.int .u64 (lo n.le),.int .u64 (hi n.le)] 158) = w1 at *
  refine hit1.mono ?_
  rintro e w2 ⟨rfl,hw2⟩
  have hb2:=itoa_below w1.heap.size hw2 (Nat.le_refl _)
  clear hw2
  obtain ⟨hpt,hC2,hS2⟩:=(hC1.out.on hb2).put a (Lib.itoa n.lit)
  go_wp2_with fail
  go_ret
  exact ⟨rfl,hC2,(hS1.trans (CellsStay.of_below hb2)).trans hS2⟩
end Go.Proofs.YtmnjakejhbpkoaaGreatDoor
namespace Go.Proofs.YtmnjakejhbpkoaaGreatDoor
open Go Go.RowKit Go.Shelf
def WrLoop1 (w0:World) (pm:Nat) (ws:World) (g:Nat→List (Nat × List UInt8)→Option (List (Nat × List UInt8))) (l:List (Nat × Nat)) (fin:List (Nat × List UInt8) × Nat) (k z:Nat) (wr:World):Prop :=
 ∃ m,WrC w0 pm m wr∧CellsStay ws wr∧wrL g (l.drop k) m z = some fin
def WrLoop2 (ws:World) (m:List (Nat × List UInt8)) (l:List (Nat × Nat)) (k:Nat) (v:Value) (wr:World):Prop :=
 OwnT wr ws.heap.size v (partT m (l.take k)).length (partT m (l.take k))∧(0 < k→wr.ownsRow ws.heap.size 5 1 v (partT m (l.take k)).length (Lib.byteCells (partT m (l.take k))))∧Below ws.heap.size ws wr
theorem MapAt.lookT {w:World} {pm:Nat} {m:List (Nat × List UInt8)} (h:MapAt encNat encT w pm (asc m)) (a:Nat) :
  (Instr.lookup 182 (.map (some pm)) (.int .i64 a) false).run Tryz.prog w = .ok (.string ⟨(ascT m a).toArray⟩) w:=by
 have h1:=h.look1 natLaw (T:=182) Tryz.underlying182 _ zeroStr a
 have h2:((asc m a).map encT).getD (.string ⟨#[]⟩) = .string ⟨(ascT m a).toArray⟩:=by
  unfold ascT
  cases asc m a <;> rfl
 rw [h2] at h1
 exact h1
theorem OwnT.drew {w:World} {base n:Nat} {v:Value} {l:List UInt8} (h:OwnT w base v n l):OwnT w.drew base v n l:=h.same (fun _ _=>rfl)
theorem OwnT.alloc {w:World} {base n:Nat} {v:Value} {l:List UInt8} (h:OwnT w base v n l) (o:Obj):OwnT (w.alloc o) base v n l:=h.same (fun k hk=>Below.heap_alloc w o k (h.lt hk).2)
structure Cur (w5 wb:World) (pb pm:Nat) (w:World):Prop where
 p:pb < w.heap.size
 b:wb.heap.size≤w.heap.size
 m:pm < wb.heap.size
 hp:w.heap[pb]? = w5.heap[pb]?
 hm:w.heap[pm]? = w5.heap[pm]?
 bl:Below wb.heap.size wb w
theorem Cur.drew {w5 wb:World} {pb pm:Nat} {w:World} (h:Cur w5 wb pb pm w):Cur w5 wb pb pm w.drew:=⟨h.p,h.b,h.m,h.hp,h.hm,h.bl.drew⟩
theorem Cur.alloc {w5 wb:World} {pb pm:Nat} {w:World} (h:Cur w5 wb pb pm w) (o:Obj):Cur w5 wb pb pm (w.alloc o) :=
 ⟨by have:=h.p;simp;omega,by have:=h.b;simp;omega,h.m,(Below.heap_alloc w o pb h.p).trans h.hp,(Below.heap_alloc w o pm (Nat.lt_of_lt_of_le h.m h.b)).trans h.hm,h.bl.alloc h.b o⟩
theorem Cur.grown {w5 wb:World} {pb pm:Nat} {w w':World} {v:Value} (h:Cur w5 wb pb pm w) (hg:w.grownBy w' v.ownBlock) (hv:∀ j,v.ownBlock = some j→wb.heap.size≤j∧j≠pb):Cur w5 wb pb pm w' :=
 ⟨Nat.lt_of_lt_of_le h.p hg.size,Nat.le_trans h.b hg.size,h.m,(hg.block pb h.p (fun e=>(hv pb e.symm).2 rfl)).trans h.hp,(hg.block pm (Nat.lt_of_lt_of_le h.m h.b) (fun e=>by have:=(hv pm e.symm).1;have:=h.m;omega)).trans h.hm,
   h.bl.trans ⟨hg.os,hg.tape,hg.output,hg.size,fun j hj=>hg.block j (Nat.lt_of_lt_of_le hj h.b) (fun e=>by have:=(hv j e.symm).1;omega)⟩⟩
theorem own_off {w5 wb w':World} {pb pm n:Nat} {v:Value} {xs:List Value} {c:Array Value} {f:Nat × Nat} (h:w'.ownsRow wb.heap.size 5 1 v n xs) (hc:Cur w5 wb pb pm w') (hb:w5.heap[pb]? = some (.cells c tPair f)):∀ j,v.ownBlock = some j→wb.heap.size≤j∧j≠pb:=fun j hj=>by
 obtain ⟨_,c',hc'⟩:=own_lt h hj
 refine ⟨own_ge h hj,fun e=>?_⟩
 rw [e,hc.hp,hb] at hc'
 simp [tPair] at hc'
theorem part_le (m:List (Nat × List UInt8)):∀ (l r:List (Nat × Nat)),(partT m l).length≤(partT m (l++r)).length
 | l,[]=>by simp
 | l,p :: r=>by
   have:=part_le m (l++[p]) r
   rw [List.append_assoc] at this
   refine Nat.le_trans ?_ this
   rw [partT_snoc]
   simp only [List.length_append]
   omega
set_option maxRecDepth 100000 in
set_option maxHeartbeats 8000000 in
theorem write_inner {B:Blks} {s:St} {w0:World} {pm a:Nat} {m m1:List (Nat × List UInt8)} {wr:World} {n:SNode} {z:Nat} {g:Nat→List (Nat × List UInt8)→Option (List (Nat × List UInt8))} (h:Rep B s w0) (ih:WrLaw s w0 pm B.sb g) (hC:WrC w0 pm m wr) (hm:asc m a = none) (hn:s.nodes[a]? = some n) (hel:n.el≠[])
  (hw:wrL g n.el m 0 = some (m1,z)) (hz:z≤1048576) (hpl:(partT m1 n.el).length≤4194304) (hsm:∀ p∈n.el,(0 < (ascT m1 p.1).length∧(ascT m1 p.1).length≤1048576)∧(0 < (ascT m1 p.2).length∧(ascT m1 p.2).length≤1048576)) :
  Calls Tryz.prog 131 #[.pointer (some ⟨B.sb,0,none⟩),.int .i64 a,.map (some pm)] wr fun e w'=>e = .returned (.bool true)∧WrC w0 pm ((a,partT m1 n.el++[41]) :: m1) w'∧CellsStay wr w':=by
 have hlk:=hC.look a
 rw [hm] at hlk
 have hlk2:(Instr.lookup 182 (.map (some pm)) (.int .i64 a) true).run Tryz.prog wr = .ok (.tuple #[.string ⟨#[]⟩,.bool false]) wr:=hlk
 clear hlk
 have hR:=h.below hC.below
 obtain ⟨cap,_,_,cn,_⟩:=hR.cells
 obtain ⟨v,hv0,_,_,_,k2,_,_⟩:=h.node hn
 obtain ⟨v',_,_,n0,n1,n2,n3,n4⟩:=hR.node hn
 have hvv:v' = v:=by
  have e1:=(hC.below.cell (World.block_lt_of_cell? w0 _ k2)).trans k2
  have e2:some v' = some v:=by
   have hnb:B.nb * 0 = 0:=Nat.mul_zero _
   exact n2.symm.trans e1
  exact Option.some.inj e2
 subst hvv
 obtain ⟨ba,cp,rfl,hat⟩:=hv0.lens
 have hs5:=(h.small.2 n (List.mem_of_getElem? hn)).2.2.2.2.1
 have hns:=h.small.1
 have hai:a < s.nodes.length:=(List.getElem?_eq_some_iff.1 hn).1
 have ga0:(0:Int)≤a:=by omega
 have ga1:(a:Int) < s.nodes.length:=by omega
 have hl0:((n.el.length:Int) == 0) = false:=by
  have:=List.length_pos_iff.2 hel
  simp;omega
 have hx1:Ext wr (wr.alloc (.cells #[.int .i64 n.pl,.int .i64 n.lit,.slice ba n.el.length cp,.int .u64 (lo n.le),.int .u64 (hi n.le)] 158)):=(Ext.refl wr).alloc _
 have hz1:=heap_alloc_new wr (.cells #[.int .i64 n.pl,.int .i64 n.lit,.slice ba n.el.length cp,.int .u64 (lo n.le),.int .u64 (hi n.le)] 158)
 have hC1:=hC.on hx1.below
 have hS1:=CellsStay.of_below hx1.below
 obtain ⟨c0,c1,c2,c3,c4,_⟩:=cells5 hz1
 have hloop0:Hid (WrLoop1 w0 pm (wr.alloc (.cells #[.int .i64 n.pl,.int .i64 n.lit,.slice ba n.el.length cp,.int .u64 (lo n.le),.int .u64 (hi n.le)] 158)) g n.el (m1,z) 0 0 (wr.alloc (.cells #[.int .i64 n.pl,.int .i64 n.lit,.slice ba n.el.length cp,.int .u64 (lo n.le),.int .u64 (hi n.le)] 158))):=Lib.hid
  ⟨m,hC1,CellsStay.refl _,hw⟩
 replace hz1:=Lib.hid hz1
 replace hR:=Lib.hid hR
 replace hm:=Lib.hid hm
 replace hn:=Lib.hid hn
 replace hel:=Lib.hid hel
 replace hat:=Lib.hid hat
 replace hC1:=Lib.hid hC1
 replace hC:=Lib.hid hC
 replace hsm:=Lib.hid hsm
 replace hw:=Lib.hid hw
 replace hpl:=Lib.hid hpl
 clear hv0
 go_enter Tryz.func131,Tryz.ntmps131
 go_wp2_with fail
 clear n0 n1 n2 n3 n4 cn k2 hlk2 c0 c1 c2 c3 c4
 generalize hws:wr.alloc (.cells #[.int .i64 n.pl,.int .i64 n.lit,.slice ba n.el.length cp,.int .u64 (lo n.le),.int .u64 (hi n.le)] 158) = ws at *
 obtain ⟨wo,rfl⟩:∃ wo,wo = wr:=⟨wr,rfl⟩
 replace hws:=Lib.hid hws
 go_loopw [10,53] (fun sz i wr=>∃ k z':Nat,k≤n.el.length∧i = .int .i64 k∧sz = .int .i64 z'∧z'≤k * 2097155∧Hid (WrLoop1 w0 pm ws g n.el (m1,z) k z' wr)) (fun _ i _=>n.el.length - (intOf i).toNat)
 case atStart=>exact ⟨0,0,Nat.zero_le _,rfl,rfl,Nat.zero_le _,hloop0⟩
 case round =>
  clear hloop0
  obtain ⟨k,z',hk,rfl,rfl,hzk,hI⟩:=hrel
  obtain ⟨mk,hCk,hSk,hwl⟩:=hI.out
  clear hI
  by_cases hlt:k < n.el.length
  ·rw [List.drop_eq_getElem_cons hlt] at hwl
   obtain ⟨vb,vo,rfl,e0,e1⟩:=hat.out k hlt
   have e0:=(hCk.below.cell (World.block_lt_of_cell? w0 _ e0)).trans e0
   have e1:=(hCk.below.cell (World.block_lt_of_cell? w0 _ e1)).trans e1
   obtain ⟨ma,mb,h1,h2,hl1,hl2,hwl2⟩:=wrL_cons hwl
   clear hwl
   generalize n.el[k] = p at *
   obtain ⟨p1,p2⟩:=p
   simp only at e0 e1 h1 h2 hl1 hl2 hwl2
   have hpb:=heap_alloc_new wr (.cells #[.int .i64 (p1:Int),.int .i64 (p2:Int)] 165)
   have hba:Below wr.heap.size wr (wr.alloc (.cells #[.int .i64 (p1:Int),.int .i64 (p2:Int)] 165)):=(Below.refl _ wr).alloc (Nat.le_refl _) _
   have hCa:=hCk.on hba
   obtain ⟨p0,p1'⟩:=pbox_cells hpb
   have hq1:=ih p1 mk ma _ hCa h1
   replace hCa:=Lib.hid hCa
   replace hpb:=Lib.hid hpb
   replace h1:=Lib.hid h1
   replace h2:=Lib.hid h2
   replace hwl2:=Lib.hid hwl2
   replace hCk:=Lib.hid hCk
   go_wp2_with fail
   generalize wr.alloc (.cells #[.int .i64 (p1:Int),.int .i64 (p2:Int)] 165) = w5 at *
   refine hq1.mono ?_
   rintro e w6 ⟨rfl,hC6,hS6⟩
   obtain ⟨q0,q1⟩:=pbox_cells (hS6.2 _ _ _ _ hpb.out)
   have hq2:=ih p2 ma mb _ hC6 h2.out
   replace hC6:=Lib.hid hC6
   clear hq1 p0 p1'
   go_wp2_with fail
   refine hq2.mono ?_
   rintro e w7 ⟨rfl,hC7,hS7⟩
   obtain ⟨r0,r1⟩:=pbox_cells (hS7.2 _ _ _ _ (hS6.2 _ _ _ _ hpb.out))
   have hk1:=hC7.look1 p1
   have hk2:=hC7.look1 p2
   have hsz1:(⟨(ascT mb p1).toArray⟩:ByteArray).size = (ascT mb p1).length:=by simp [ByteArray.size]
   have hsz2:(⟨(ascT mb p2).toArray⟩:ByteArray).size = (ascT mb p2).length:=by simp [ByteArray.size]
   generalize hz1':ascT mb p1 = t1 at *
   generalize hz2':ascT mb p2 = t2 at *
   have hkm:k * 2097155≤1048576 * 2097155:=Nat.mul_le_mul (by omega) (Nat.le_refl _)
   have hkn:(k+1) * 2097155 = k * 2097155+2097155:=Nat.succ_mul _ _
   replace hC7:=Lib.hid hC7
   replace hz1':=Lib.hid hz1'
   replace hz2':=Lib.hid hz2'
   replace hkn:=Lib.hid hkn
   clear q0 q1 hq2
   go_wp2_with fail
   go_roundw
   case rel=>exact ⟨k+1,z'+(t1.length+t2.length+3),by omega,by go_num,by go_num,by rw [hkn.out];omega,Lib.hid ⟨mb,hC7.out,(hSk.trans (CellsStay.of_below hba)).trans (hS6.trans hS7),hwl2.out⟩⟩
   case measure=>simp [intOf];omega
  ·obtain rfl:k = n.el.length:=by omega
   simp only [List.drop_length,wrL,Option.some.injEq,Prod.mk.injEq] at hwl
   obtain ⟨rfl,rfl⟩:=hwl
   have dz:decide ((z':Int) > 1048576) = false:=decide_eq_false (by omega)
   obtain ⟨c0,c1,c2,c3,c4,_⟩:=cells5 (hSk.2 _ _ _ _ hz1.out)
   have hbx:=hSk.2 _ _ _ _ hz1.out
   have kc:=Lib.run_convert_bytes_const (P:=Tryz.prog) wr 204 5 #[.int .u8 40] 1 1 Tryz.underlying204 Tryz.underlying5
   have kc2:(convert 204 204 (.slice (some ⟨wr.heap.size,0,none⟩) 1 1)).run Tryz.prog (wr.alloc (.cells #[.int .u8 40] 5)) = .ok (.slice (some ⟨wr.heap.size,0,none⟩) 1 1) (wr.alloc (.cells #[.int .u8 40] 5 (1,2))):=kc
   clear kc
   have hx5:Ext wr (wr.alloc (.cells #[.int .u8 40] 5 (1,2))):=(Ext.refl wr).alloc _
   have hn5:=heap_new_at wr (.cells #[.int .u8 40] 5 (1,2)) wr.heap.size rfl
   have hloop2:Hid (WrLoop2 wr mk n.el 0 (.slice (some ⟨wr.heap.size,0,none⟩) 1 1) (wr.alloc (.cells #[.int .u8 40] 5 (1,2)))):=Lib.hid
    ⟨.inr ⟨wr.heap.size,#[.int .u8 40],(1,2),rfl,Nat.le_refl _,hn5,rfl,rfl⟩,fun e=>absurd e (by omega),hx5.below⟩
   have e5:=hx5.cell c2
   have hbb:=(Array.getElem?_eq_some_iff.1 hbx).1
   have hpmb:pm < wr.heap.size:=hCk.mb.lt
   replace hCk:=Lib.hid hCk
   replace hbx:=Lib.hid hbx
   have hgl:gPow < wr.heap.size∧gTz < wr.heap.size:=by
    have:=h.pow.lt
    have:=h.tz.lt'
    have:=hCk.out.below.size
    omega
   replace hgl:=Lib.hid hgl
   clear hn5
   go_wp2_with fail
   generalize wr.alloc (.cells #[.int .u8 40] 5 (1,2)) = w9 at *
   obtain ⟨wb,rfl⟩:∃ wb,wb = wr:=⟨wr,rfl⟩
   clear kc2 c0 c1 c2 c3 c4 e5
   obtain ⟨i0,hi0,hz0,hz1',hz2'⟩:=info_parts info_u8
   go_loopw [13,93] (fun v i wr=>∃ k:Nat,k≤n.el.length∧i = .int .i64 k∧Hid (WrLoop2 wb mk n.el k v wr)) (fun _ i _=>n.el.length - (intOf i).toNat)
   case atStart=>exact ⟨0,Nat.zero_le _,rfl,hloop2⟩
   case round =>
    clear hloop2
    obtain ⟨k,hk,rfl,hI⟩:=hrel
    obtain ⟨hO,hO2,hB⟩:=hI.out
    clear hI
    by_cases hlt:k < n.el.length
    ·have hpp:=partT_snoc mk (n.el.take k) (n.el[k])
     have hts:n.el.take (k+1) = n.el.take k++[n.el[k]]:=List.take_succ_eq_append_getElem hlt
     rw [←hts] at hpp
     clear hts
     obtain ⟨⟨hp10,hp11⟩,⟨hp20,hp21⟩⟩:=hsm.out _ (List.getElem_mem hlt)
     have hlen:=part_le mk (n.el.take k) (n.el.drop k)
     rw [List.take_append_drop] at hlen
     have hlp:=hpl.out
     obtain ⟨vb,vo,rfl,e0,e1⟩:=hat.out k hlt
     have hblt:=World.block_lt_of_cell? w0 _ e0
     have hw0:=hCk.out.below.size
     have e0:=(hB.cell (p:=⟨vb,vo+k * 2,none⟩) (Nat.lt_of_lt_of_le hblt hw0)).trans ((hCk.out.below.cell hblt).trans e0)
     have e1:=(hB.cell (p:=⟨vb,vo+k * 2+1,none⟩) (Nat.lt_of_lt_of_le hblt hw0)).trans ((hCk.out.below.cell (p:=⟨vb,vo+k * 2+1,none⟩) hblt).trans e1)
     have hnil:(n.el.take k = []↔k = 0):=by
      constructor
      ·intro e
       rcases List.take_eq_nil_iff.1 e with e | e
       ·exact e
       ·exact absurd e hel.out
      ·rintro rfl;rfl
     generalize hpk:n.el[k] = p at *
     obtain ⟨p1,p2⟩:=p
     simp only at e0 e1 hpp hp10 hp11 hp20 hp21
     have hpb:=heap_alloc_new wr (.cells #[.int .i64 (p1:Int),.int .i64 (p2:Int)] 165)
     obtain ⟨p0,p1'⟩:=pbox_cells hpb
     have hba:Below wr.heap.size wr (wr.alloc (.cells #[.int .i64 (p1:Int),.int .i64 (p2:Int)] 165)):=(Below.refl _ wr).alloc (Nat.le_refl _) _
     have hbs:=hB.size
     have hBa:=hB.trans (hba.mono hbs)
     have hOa:=hO.same (w':=wr.alloc (.cells #[.int .i64 (p1:Int),.int .i64 (p2:Int)] 165)) (fun j hj=>hba.block j (hO.lt hj).2)
     have hown:∀ j,u13.ownBlock = some j→wb.heap.size≤j∧j≠wr.heap.size:=fun j hj=>⟨(hO.lt hj).1,by have:=(hO.lt hj).2;omega⟩
     have hsz5:wr.heap.size < (wr.alloc (.cells #[.int .i64 (p1:Int),.int .i64 (p2:Int)] 165)).heap.size:=by simp
     generalize hcur:partT mk (n.el.take k) = cur at *
     replace hpp:=Lib.hid hpp
     replace hpk:=Lib.hid hpk
     replace hcur:=Lib.hid hcur
     replace hO:=Lib.hid hO
     replace hO2:=Lib.hid hO2
     replace hOa:=Lib.hid hOa
     replace hpb:=Lib.hid hpb
     replace hB:=Lib.hid hB
     replace hBa:=Lib.hid hBa
     replace hown:=Lib.hid hown
     replace hnil:=Lib.hid hnil
     have hcur5:Cur (wr.alloc (.cells #[.int .i64 (p1:Int),.int .i64 (p2:Int)] 165)) wb wr.heap.size pm (wr.alloc (.cells #[.int .i64 (p1:Int),.int .i64 (p2:Int)] 165)):=⟨hsz5,Nat.le_trans hbs (Nat.le_of_lt hsz5),hpmb,rfl,rfl,hBa.out⟩
     have F:Hid (∀ W,Cur (wr.alloc (.cells #[.int .i64 (p1:Int),.int .i64 (p2:Int)] 165)) wb wr.heap.size pm W→W.cell? ⟨wr.heap.size,0,none⟩ = some (.int .i64 p1)∧W.cell? ⟨wr.heap.size,1,none⟩ = some (.int .i64 p2) ∧
       (Instr.lookup 182 (.map (some pm)) (.int .i64 p1) false).run Tryz.prog W = .ok (.string ⟨(ascT mk p1).toArray⟩) W∧(Instr.lookup 182 (.map (some pm)) (.int .i64 p2) false).run Tryz.prog W = .ok (.string ⟨(ascT mk p2).toArray⟩) W):=Lib.hid (fun W hW=>by
      obtain ⟨x0,x1⟩:=pbox_cells (hW.hp.trans hpb.out)
      have hM:=hCk.out.mb.same (hW.hm.trans (hBa.out.block pm hpmb))
      exact ⟨x0,x1,hM.lookT p1,hM.lookT p2⟩)
     generalize ht1:ascT mk p1 = t1 at *
     generalize ht2:ascT mk p2 = t2 at *
     replace ht1:=Lib.hid ht1
     replace ht2:=Lib.hid ht2
     replace hcur5:=Lib.hid hcur5
     by_cases hk0:k = 0
     ·have dk:decide ((k:Int) > 0) = false:=decide_eq_false (by omega)
      have dk2:decide (0 < (k:Int)) = false:=decide_eq_false (by omega)
      have dk3:decide (0 < k) = false:=decide_eq_false (by omega)
      replace hk0:=Lib.hid hk0
      go_wp2_with fail
      generalize wr.alloc (.cells #[.int .i64 (p1:Int),.int .i64 (p2:Int)] 165) = w5 at *
      go_region_held3 (fun W=>W.cell? ⟨wr.heap.size,0,none⟩ = some (.int .i64 p1)∧W.cell? ⟨wr.heap.size,1,none⟩ = some (.int .i64 p2)∧(Instr.lookup 182 (.map (some pm)) (.int .i64 p1) false).run Tryz.prog W = .ok (.string ⟨t1.toArray⟩) W∧(Instr.lookup 182 (.map (some pm)) (.int .i64 p2) false).run Tryz.prog W = .ok (.string ⟨t2.toArray⟩) W)
       (first | exact F.out _ hcur5.out | exact F.out _ hcur5.out.drew | exact F.out _ (hcur5.out.alloc _).drew | exact F.out _ (hcur5.out.alloc _) | exact F.out _ hc3.out | exact F.out _ (hc3.out.alloc _) | exact F.out _ hc4.out | exact F.out _ hc7.out | go_keep)
       (first
         | (refine step_append_T (by rfl) _ _ (by rfl) wb.heap.size u13 cur.length (cur) (by rfl) hOa.out.drew t1 (by rfl) hp10 (by omega) (by exact hcur5.out.drew.b) ?_;intro v3 w3 ho3 hg3;have hc3:=Lib.hid (hcur5.out.drew.grown hg3 hown.out);have hO3:=Lib.hid (own_off ho3 hc3.out hpb.out);clear hg3;have ho3:=Lib.hid ho3)
         | (refine step_append_T (by rfl) _ _ (by rfl) wb.heap.size u13 cur.length (cur) (by rfl) (hOa.out.alloc _).drew t1 (by rfl) hp10 (by omega) (by exact (hcur5.out.alloc _).drew.b) ?_;intro v3 w3 ho3 hg3;have hc3:=Lib.hid ((hcur5.out.alloc _).drew.grown hg3 hown.out);have hk3:=Lib.hid ((hg3.block w5.heap.size (by simp [World.drew]) (fun e=>Nat.lt_irrefl _ (hOa.out.lt e.symm).2)).trans (heap_alloc_new w5 (.cells #[.int .u8 32] 5)));have hO3:=Lib.hid (own_off ho3 hc3.out hpb.out);clear hg3;have ho3:=Lib.hid ho3)
         | (refine step_append_lies (w3.alloc (.cells #[.int .u8 32] 5)) (by rfl) _ _ 204 (by rfl) wb.heap.size 5 i0 (.int .u8 0) 1 1 Tryz.underlying204 hi0 hz0 hz1' hz2' rfl (by decide) v3 (cur.length+t1.length) (Lib.byteCells (cur++t1)) (by rfl) (ho3.out.alloc _) ⟨w3.heap.size,0,none⟩ 1 1 [.int .u8 32] (by rfl) (by rfl) (cell_one_at _ _ _ _ rfl) (by simp [Value.oneCell']) (by omega) (by unfold maxLen;omega) (by omega) (by exact (hc3.out.alloc _).b) _ rfl ?_;intro g4 cap4 w4 ho4 hg4 hat4 _;have hc4:=Lib.hid ((hc3.out.alloc _).grown hg4 (fun j hj=>hO3.out j hj));have hO4:=Lib.hid (own_off ho4 hc4.out hpb.out);clear hg4 hat4;have ho4:=Lib.hid ho4)
         | (refine step_append_lies w3 (by rfl) _ _ 204 (by rfl) wb.heap.size 5 i0 (.int .u8 0) 1 1 Tryz.underlying204 hi0 hz0 hz1' hz2' rfl (by decide) v3 (cur.length+t1.length) (Lib.byteCells (cur++t1)) (by rfl) ho3.out ⟨w5.heap.size,0,none⟩ 1 1 [.int .u8 32] (by rfl) (by rfl) (World.news_of_block (cs:=#[.int .u8 32]) hk3.out) (by simp [Value.oneCell']) (by omega) (by unfold maxLen;omega) (by omega) (by exact hc3.out.b) _ rfl ?_;intro g4 cap4 w4 ho4 hg4 hat4 _;have hc4:=Lib.hid (hc3.out.grown hg4 (fun j hj=>hO3.out j hj));have hO4:=Lib.hid (own_off ho4 hc4.out hpb.out);clear hg4 hat4;have ho4:=Lib.hid ho4)
         | (refine step_append_T (by rfl) _ _ (by rfl) wb.heap.size (.slice (some ⟨g4,0,none⟩) (cur.length+t1.length+1) cap4) (cur.length+t1.length+1) ((cur++t1)++[32]) (by rfl) (.inl (own_cast ho4.out rfl (by simp [Lib.byteCells]))) t2 (by rfl) hp20 (by omega) (by exact hc4.out.b) ?_;intro v7 w7 ho7 hg7;have hc7:=Lib.hid (hc4.out.grown hg7 (fun j hj=>hO4.out j hj));clear hg7;have ho7:=Lib.hid ho7))
      all_goals
       have hfinal:Hid (WrLoop2 wb mk n.el (k+1) v7 w7):=Lib.hid (by
        have e1:partT mk (n.el.take (k+1)) = ((cur++t1)++[32])++t2:=by rw [hpp.out,if_pos (hnil.out.2 hk0.out)];simp
        have o1:w7.ownsRow wb.heap.size 5 1 v7 (partT mk (n.el.take (k+1))).length (Lib.byteCells (partT mk (n.el.take (k+1)))):=own_cast ho7.out (by rw [e1];simp;omega) (by rw [e1])
        exact ⟨.inl o1,fun _=>o1,hc7.out.bl⟩)
       go_wp2_with fail
       go_roundw
       case rel=>exact ⟨k+1,by omega,by go_num,hfinal⟩
       case measure=>simp [intOf];omega
     ·have dk:decide ((k:Int) > 0) = true:=decide_eq_true (by omega)
      have dk2:decide (0 < (k:Int)) = true:=decide_eq_true (by omega)
      have dk3:decide (0 < k) = true:=decide_eq_true (by omega)
      go_wp2_with (at_builtin;refine wpList_append_T rfl _ _ rfl wb.heap.size u13 cur.length cur rfl hOa.out [59,32] rfl (by decide) (by simp;omega) (by exact hcur5.out.b) ?_;intro v2 w2 ho2 hg2;have hcur6:=Lib.hid (hcur5.out.grown hg2 hown.out);clear hg2;have ho2:=Lib.hid ho2)
      generalize wr.alloc (.cells #[.int .i64 (p1:Int),.int .i64 (p2:Int)] 165) = w5 at *
      have hown6:=Lib.hid (own_off ho2.out hcur6.out hpb.out)
      have hO6:Hid (OwnT w2 wb.heap.size v2 (cur.length+2) (cur++[59,32])):=Lib.hid (.inl ho2.out)
      go_region_held3 (fun W=>W.cell? ⟨wr.heap.size,0,none⟩ = some (.int .i64 p1)∧W.cell? ⟨wr.heap.size,1,none⟩ = some (.int .i64 p2)∧(Instr.lookup 182 (.map (some pm)) (.int .i64 p1) false).run Tryz.prog W = .ok (.string ⟨t1.toArray⟩) W∧(Instr.lookup 182 (.map (some pm)) (.int .i64 p2) false).run Tryz.prog W = .ok (.string ⟨t2.toArray⟩) W)
       (first | exact F.out _ hcur6.out | exact F.out _ hcur6.out.drew | exact F.out _ (hcur6.out.alloc _).drew | exact F.out _ (hcur6.out.alloc _) | exact F.out _ hc3.out | exact F.out _ (hc3.out.alloc _) | exact F.out _ hc4.out | exact F.out _ hc7.out | go_keep)
       (first
         | (refine step_append_T (by rfl) _ _ (by rfl) wb.heap.size v2 (cur.length+2) ((cur++[59,32])) (by rfl) hO6.out.drew t1 (by rfl) hp10 (by omega) (by exact hcur6.out.drew.b) ?_;intro v3 w3 ho3 hg3;have hc3:=Lib.hid (hcur6.out.drew.grown hg3 hown6.out);have hO3:=Lib.hid (own_off ho3 hc3.out hpb.out);clear hg3;have ho3:=Lib.hid ho3)
         | (refine step_append_T (by rfl) _ _ (by rfl) wb.heap.size v2 (cur.length+2) ((cur++[59,32])) (by rfl) (hO6.out.alloc _).drew t1 (by rfl) hp10 (by omega) (by exact (hcur6.out.alloc _).drew.b) ?_;intro v3 w3 ho3 hg3;have hc3:=Lib.hid ((hcur6.out.alloc _).drew.grown hg3 hown6.out);have hk3:=Lib.hid ((hg3.block w2.heap.size (by simp [World.drew]) (fun e=>Nat.lt_irrefl _ (hO6.out.lt e.symm).2)).trans (heap_alloc_new w2 (.cells #[.int .u8 32] 5)));have hO3:=Lib.hid (own_off ho3 hc3.out hpb.out);clear hg3;have ho3:=Lib.hid ho3)
         | (refine step_append_lies (w3.alloc (.cells #[.int .u8 32] 5)) (by rfl) _ _ 204 (by rfl) wb.heap.size 5 i0 (.int .u8 0) 1 1 Tryz.underlying204 hi0 hz0 hz1' hz2' rfl (by decide) v3 ((cur.length+2)+t1.length) (Lib.byteCells ((cur++[59,32])++t1)) (by rfl) (ho3.out.alloc _) ⟨w3.heap.size,0,none⟩ 1 1 [.int .u8 32] (by rfl) (by rfl) (cell_one_at _ _ _ _ rfl) (by simp [Value.oneCell']) (by omega) (by unfold maxLen;omega) (by omega) (by exact (hc3.out.alloc _).b) _ rfl ?_;intro g4 cap4 w4 ho4 hg4 hat4 _;have hc4:=Lib.hid ((hc3.out.alloc _).grown hg4 (fun j hj=>hO3.out j hj));have hO4:=Lib.hid (own_off ho4 hc4.out hpb.out);clear hg4 hat4;have ho4:=Lib.hid ho4)
         | (refine step_append_lies w3 (by rfl) _ _ 204 (by rfl) wb.heap.size 5 i0 (.int .u8 0) 1 1 Tryz.underlying204 hi0 hz0 hz1' hz2' rfl (by decide) v3 ((cur.length+2)+t1.length) (Lib.byteCells ((cur++[59,32])++t1)) (by rfl) ho3.out ⟨w2.heap.size,0,none⟩ 1 1 [.int .u8 32] (by rfl) (by rfl) (World.news_of_block (cs:=#[.int .u8 32]) hk3.out) (by simp [Value.oneCell']) (by omega) (by unfold maxLen;omega) (by omega) (by exact hc3.out.b) _ rfl ?_;intro g4 cap4 w4 ho4 hg4 hat4 _;have hc4:=Lib.hid (hc3.out.grown hg4 (fun j hj=>hO3.out j hj));have hO4:=Lib.hid (own_off ho4 hc4.out hpb.out);clear hg4 hat4;have ho4:=Lib.hid ho4)
         | (refine step_append_T (by rfl) _ _ (by rfl) wb.heap.size (.slice (some ⟨g4,0,none⟩) ((cur.length+2)+t1.length+1) cap4) ((cur.length+2)+t1.length+1) (((cur++[59,32])++t1)++[32]) (by rfl) (.inl (own_cast ho4.out rfl (by simp [Lib.byteCells]))) t2 (by rfl) hp20 (by omega) (by exact hc4.out.b) ?_;intro v7 w7 ho7 hg7;have hc7:=Lib.hid (hc4.out.grown hg7 (fun j hj=>hO4.out j hj));clear hg7;have ho7:=Lib.hid ho7))
      all_goals
       have hfinal:Hid (WrLoop2 wb mk n.el (k+1) v7 w7):=Lib.hid (by
        have e1:partT mk (n.el.take (k+1)) = (((cur++[59,32])++t1)++[32])++t2:=by rw [hpp.out,if_neg (fun e=>hk0 (hnil.out.1 e))]
        have o1:w7.ownsRow wb.heap.size 5 1 v7 (partT mk (n.el.take (k+1))).length (Lib.byteCells (partT mk (n.el.take (k+1)))):=own_cast ho7.out (by rw [e1];simp;omega) (by rw [e1])
        exact ⟨.inl o1,fun _=>o1,hc7.out.bl⟩)
       go_wp2_with fail
       go_roundw
       case rel=>exact ⟨k+1,by omega,by go_num,hfinal⟩
       case measure=>simp [intOf];omega
    ·obtain rfl:k = n.el.length:=by omega
     rw [List.take_length] at hO hO2
     have hO3:=hO2 (List.length_pos_iff.2 hel.out)
     have hbs:=hB.size
     have hpl':=hpl.out
     clear hO hO2
     replace hB:=Lib.hid hB
     go_wp2_with (at_builtin;refine wpList_append_own _ rfl _ _ 204 rfl wb.heap.size 5 i0 (.int .u8 0) 1 1 Tryz.underlying204 hi0 hz0 hz1' hz2' rfl (by decide) _ _ _ rfl (hO3.alloc _) ⟨wr.heap.size,0,none⟩ 1 1 [.int .u8 41] rfl rfl (cell_one_at _ _ _ _ rfl) (by simp [Value.oneCell']) (by unfold maxLen;omega) (by omega) (by simp;omega) ?_;intro v3 w3 ho3 hg3 _;have ho4:=own_cast (n':=(partT mk n.el++[41]).length) (xs':=Lib.byteCells (partT mk n.el++[41])) ho3 (by simp) (by simp [Lib.byteCells]);have hcv:=run_convert_own ho4;have hb3:Below wb.heap.size wb w3:=((hB.out.alloc hbs _).trans ⟨hg3.os,hg3.tape,hg3.output,hg3.size,fun j hj=>hg3.block j (by simp;omega) (fun e=>by have:=own_ge hO3 e.symm;omega)⟩);obtain ⟨hpt,hC9,hS9⟩:=(hCk.out.on hb3).put a (partT mk n.el++[41]))
     go_ret
     exact ⟨rfl,hC9,((hS1.trans hSk).trans (CellsStay.of_below hb3)).trans hS9⟩
end Go.Proofs.YtmnjakejhbpkoaaGreatDoor
namespace Go.Proofs.YtmnjakejhbpkoaaGreatDoor
open Go Go.RowKit Go.Shelf
theorem writeF_law {B:Blks} {s:St} {w0:World} {pm:Nat} (h:Rep B s w0) (f:Nat):WrLaw s w0 pm B.sb (writeF f s.nodes):=by
 induction f with
 | zero=>intro a m m' wr _ he;cases he
 | succ f ih =>
   intro a m m' wr hC he
   unfold writeF at he
   split at he
   ·rename_i t ht
    cases he
    exact write_hit (s:=s) hC ht
   ·rename_i hm
    split at he
    ·cases he
    ·rename_i n hn
     split at he
     ·rename_i hel
      cases he
      exact write_leaf h hC hm hn hel
     ·rename_i hel
      split at he
      ·cases he
      ·rename_i m1 z hw
       split at he
       ·rename_i hc
        cases he
        exact write_inner h ih hC hm hn hel hw hc.1 hc.2.1 hc.2.2
       ·cases he
def textF (f:Nat) (ns:List SNode) (a:Nat):Option (List UInt8):=match writeF f ns a [] with
 | none=>none
 | some m=>some (ascT m a)
set_option maxRecDepth 100000 in
set_option maxHeartbeats 4000000 in
theorem text_any {B:Blks} {s:St} {w:World} {a f:Nat} {t:List UInt8} (h:Rep B s w) (ht:s.tree≠[]) (ha:a < s.nodes.length) (he:textF f s.nodes a = some t) :
  Calls Tryz.prog 65 #[.pointer (some ⟨B.sb,0,none⟩),.int .i64 a] w fun e w'=>e = .returned (.tuple #[.string ⟨t.toArray⟩,.int .i64 0])∧Below w.heap.size w w':=by
 unfold textF at he
 split at he
 ·cases he
 rename_i m hm
 simp only [Option.some.injEq] at he
 have hch:chkF s.nodes.length [(a:Int)] = 0:=by simp [chkF,ha]
 have hmm:∀ w,(Instr.makeMap 182 none).run Tryz.prog w = .ok (.map (some w.heap.size)) (w.alloc (.map #[] 0)):=fun w=>rfl
 replace hch:=Lib.hid hch
 replace hm:=Lib.hid hm
 replace he:=Lib.hid he
 have hx1:=(Ext.refl w).alloc (.cells #[.int .i64 a] 3)
 have hz1:=heap_alloc_new w (.cells #[.int .i64 a] 3)
 go_enter Tryz.func65,Tryz.ntmps65
 go_wp2_with fail
 generalize w.alloc (.cells #[.int .i64 a] 3) = w1 at *
 have hR1:=h.below hx1.below
 have hq:=sck_any hR1 ht (slI_one hz1) (by simp)
 rw [hch.out] at hq
 clear hz1
 refine hq.mono ?_
 rintro e w2 ⟨rfl,rfl⟩
 have hb2:Below w1.heap.size w1 (w1.alloc (.map #[] 0)):=(Below.refl _ w1).alloc (Nat.le_refl _) _
 have hC:WrC w1 w1.heap.size [] (w1.alloc (.map #[] 0)):=⟨hb2,mapNew _ _ _,Nat.le_refl _⟩
 have hq2:=writeF_law (pm:=w1.heap.size) hR1 f a [] m _ hC hm.out
 replace hR1:=Lib.hid hR1
 replace hC:=Lib.hid hC
 clear hq
 go_wp2_with fail
 refine hq2.mono ?_
 rintro e w3 ⟨rfl,hC3,hS3⟩
 have hlk:=hC3.look1 a
 rw [he.out] at hlk
 go_wp2_with fail
 go_ret2
 exact ⟨rfl,hx1.below.trans (hC3.below.mono hx1.size)⟩
end Go.Proofs.YtmnjakejhbpkoaaGreatDoor
