import Derived.Test.YtmnjakejhbpkoaaGreatDoorProg
import Derived.Handy
import Derived.WalkSpells
import Derived.WalkLawsBesides
import Derived.Deep.RegionHeld3
import Derived.Deep.QuietTactic
import Derived.BigQuiet
import Derived.KernelRfl
import Derived.Lib.Hide
import Derived.RangeFuncRecord
import Derived.Laws.StructEq
import Derived.Lib.ItoaNum
set_option linter.unusedSimpArgs false
set_option linter.unusedVariables false
namespace Go.Proofs.YtmnjakejhbpkoaaGreatDoor
open Go Go.RowKit
abbrev VSet:=BitVec 128
def lo (s:VSet):Int:=((s.setWidth 64).toNat:Int)
def hi (s:VSet):Int:=(((s >>> 64).setWidth 64).toNat:Int)
def encS (s:VSet):Value:=.agg #[.int .u64 (lo s),.int .u64 (hi s)]
theorem bits_or_bv (x y:BitVec 64):bits .or .u64 (x.toNat:Int) (y.toNat:Int) = ((x ||| y).toNat:Int):=by
 rw [bits_or_u64_nat _ _ x.isLt y.isLt,BitVec.toNat_or]
theorem bits_and_bv (x y:BitVec 64):bits .and .u64 (x.toNat:Int) (y.toNat:Int) = ((x &&& y).toNat:Int):=by
 rw [bits_and_u64_nat _ _ x.isLt y.isLt,BitVec.toNat_and]
theorem bits_andNot_bv (x y:BitVec 64):bits .andNot .u64 (x.toNat:Int) (y.toNat:Int) = ((x &&& ~~~y).toNat:Int):=by
 show IntKind.u64.wrap ((BitVec.ofInt 64 (x.toNat:Int) &&& ~~~ BitVec.ofInt 64 (y.toNat:Int)).toNat:Int) = _
 have e:∀ z:BitVec 64,BitVec.ofInt 64 (z.toNat:Int) = z:=fun z=>by rw [BitVec.ofInt_natCast];simp
 rw [e,e,IntKind.wrap_u64]
 have:=(x &&& ~~~y).isLt
 omega
theorem or_lo (a b:VSet):bits .or .u64 (lo a) (lo b) = lo (a ||| b):=by
 unfold lo;rw [bits_or_bv,BitVec.setWidth_or]
theorem or_hi (a b:VSet):bits .or .u64 (hi a) (hi b) = hi (a ||| b):=by
 unfold hi;rw [bits_or_bv,BitVec.ushiftRight_or_distrib,BitVec.setWidth_or]
theorem andNot_lo (a b:VSet):bits .andNot .u64 (lo a) (lo b) = lo (a &&& ~~~b):=by
 unfold lo;rw [bits_andNot_bv];congr 2;ext i h;simp
theorem andNot_hi (a b:VSet):bits .andNot .u64 (hi a) (hi b) = hi (a &&& ~~~b):=by
 unfold hi;rw [bits_andNot_bv];congr 2;ext i h;simp [show 64+i < 128 from by omega]
structure Ext (w w':World):Prop where
 below:Below w.heap.size w w'
 drawn:w.drawn≤w'.drawn
theorem Ext.refl (w:World):Ext w w:=⟨Below.refl _ w,Nat.le_refl _⟩
theorem Ext.trans {a b c:World} (h:Ext a b) (k:Ext b c):Ext a c:=⟨h.below.trans (k.below.mono h.below.size),Nat.le_trans h.drawn k.drawn⟩
theorem Ext.alloc {a w:World} (h:Ext a w) (o:Obj):Ext a (w.alloc o):=⟨h.below.alloc h.below.size o,h.drawn⟩
theorem Ext.drew {a w:World} (h:Ext a w):Ext a w.drew:=⟨h.below.drew,Nat.le_succ_of_le h.drawn⟩
theorem Ext.setCell {a w:World} (h:Ext a w) {p:Addr} (hp:a.heap.size≤p.block) (u:Value):Ext a (w.setCell p u):=⟨h.below.setCell hp u,h.drawn⟩
theorem Ext.size {w w':World} (h:Ext w w'):w.heap.size≤w'.heap.size:=h.below.size
theorem Ext.cell {W w':World} (h:Ext W w') {a:Addr} {v:Value} (hc:W.cell? a = some v):w'.cell? a = some v :=
 (h.below.cell (World.block_lt_of_cell? W _ hc)).trans hc
theorem wp_region_below {P:Program} {l:List Oper} {id:Nat} {Q:Exit→Act→World→Prop} {a:Act} {w:World} (hm:P.follows .mixedOrders = true) (hB:Region.lexB .any l.toArray = true)
  (h:wpQuiet P l.toArray (Ext w) (fun a'=>∀ w',Ext w w'→Q .normal a' w') l a):(Code.region id l.toArray true).wp P Q a w :=
 wp_region_quiet (C:=Ext w) hm hB (Ext.refl w).drew (by simpa using h)
def firstS (s:VSet):Nat:=match (List.range 128).find? (fun i=>s.getLsbD i) with | some i=>i+1 | none=>0
def hasS (s:VSet) (v:Int):Bool:=decide (1≤v) && decide (v≤128) && s.getLsbD (v - 1).toNat
def lessS (a b:VSet):Bool:=let o:=firstS ((a &&& ~~~b) ||| (b &&& ~~~a));decide (0 < o) && !hasS a o
theorem firstS_le (s:VSet):firstS s≤128:=by
 unfold firstS
 split
 ·rename_i i h
  have:=List.mem_of_find?_eq_some h
  simp at this;omega
 ·omega
def withS (s:VSet) (v:Int):VSet:=if 1≤v∧v≤128 then s ||| BitVec.twoPow 128 (v - 1).toNat else s
def ofS (l:List Int):VSet:=l.foldl withS 0
def SlI (w:World) (v:Value) (l:List Int):Prop :=
 ∃ ba c,v = .slice ba l.length c∧((c = c∧l = []∧c = c)∨∃ b o,ba = some ⟨b,o,none⟩∧∀ j (hj:j < l.length),w.cell? ⟨b,o+j,none⟩ = some (.int .i64 l[j]))
theorem SlI.ext {w w':World} {v:Value} {l:List Int} (h:SlI w v l) (hb:Below w.heap.size w w'):SlI w' v l:=by
 obtain ⟨ba,c,rfl,h⟩:=h
 refine ⟨ba,c,rfl,h.imp id ?_⟩
 rintro ⟨b,o,rfl,hc⟩
 exact ⟨b,o,rfl,fun j hj=>(hb.cell (World.block_lt_of_cell? w _ (hc j hj))).trans (hc j hj)⟩
theorem heap_set {w:World} {b:Nat} {cs:Array Value} {t:TypeId} {fz:Nat × Nat} (h:w.heap[b]? = some (.cells cs t fz)) (o:Nat) (v:Value):(w.setCell ⟨b,o,none⟩ v).heap[b]? = some (.cells (cs.setIfInBounds o v) t fz):=by
 simp only [World.setCell,Array.getElem?_modify,if_true,h]
 rfl
theorem heap_set2 {w:World} {b:Nat} {x y:Value} {t:TypeId} {fz:Nat × Nat} (h:w.heap[b]? = some (.cells #[x,y] t fz)) (u v:Value):((w.setCell ⟨b,0,none⟩ u).setCell ⟨b,1,none⟩ v).heap[b]? = some (.cells #[u,v] t fz) :=
 heap_set (heap_set h 0 u) 1 v
end Go.Proofs.YtmnjakejhbpkoaaGreatDoor
namespace Go.Proofs.YtmnjakejhbpkoaaGreatDoor
open Go Go.RowKit
set_option linter.unusedSectionVars false
section
variable {P:Program} {α β:Type} [DecidableEq α]
def mkE (enc:α→Value) (e:α × Value × Nat):MapEntry:={ key:=enc e.1,val:=e.2.1,born:=e.2.2 }
def findL (a:α):List (α × Value × Nat)→Nat→Option (Nat × Value)
 | [],_=>none
 | e :: r,i=>if a = e.1 then some (i,e.2.1) else findL a r (i+1)
structure KeyLaw (P:Program) (K:TypeId) (enc:α→Value):Prop where
 check:∀ e a w,(Instr.checkKey e 10000 K (enc a)).run P w = .ok () w
 find:∀ a L w,(Instr.findKey K (enc a) (L.map (mkE enc))).run P w = .ok (findL a L 0) w
 same:∀ a,Instr.sameBits 10000 (enc a) (enc a) = true
def Good (L:List (α × Value × Nat)) (clock:Nat):Prop:=(∀ e∈L,e.2.2 < clock)∧(L.map (fun e=>e.2.2)).Nodup
theorem Good.push {L:List (α × Value × Nat)} {clock:Nat} (h:Good L clock) (a:α) (v:Value):Good (L++[(a,v,clock)]) (clock+1):=by
 refine ⟨fun e he=>?_,?_⟩
 ·rcases List.mem_append.1 he with he | he
  ·have:=h.1 e he;omega
  ·simp only [List.mem_singleton] at he;subst he;exact Nat.lt_succ_self _
 ·rw [List.map_append]
  refine List.nodup_append.2 ⟨h.2,by simp,fun a ha c hc e=>?_⟩
  simp only [List.map_cons,List.map_nil,List.mem_singleton] at hc
  obtain ⟨x,hx,rfl⟩:=List.mem_map.1 ha
  have:=h.1 x hx
  omega
theorem stamps_modify (f:α × Value × Nat→α × Value × Nat) (hf:∀ e,(f e).2.2 = e.2.2):∀ (L:List (α × Value × Nat)) (i:Nat),(L.modify i f).map (fun e=>e.2.2) = L.map (fun e=>e.2.2)
 | [],i=>by cases i <;> rfl
 | e :: r,0=>by simp [hf]
 | e :: r,i+1=>by simp [List.modify_succ_cons,stamps_modify f hf r i]
theorem mem_of_stamp {L M:List (α × Value × Nat)} (h:L.map (fun e=>e.2.2) = M.map (fun e=>e.2.2)) {clock:Nat} (hg:Good M clock):Good L clock:=by
 refine ⟨fun e he=>?_,h ▸ hg.2⟩
 have:e.2.2∈M.map (fun e=>e.2.2):=h ▸ List.mem_map_of_mem he
 obtain ⟨x,hx,e1⟩:=List.mem_map.1 this
 have:=hg.1 x hx
 omega
theorem Good.mod {L:List (α × Value × Nat)} {clock:Nat} (h:Good L clock) (f:α × Value × Nat→α × Value × Nat) (hf:∀ e,(f e).2.2 = e.2.2) (i:Nat):Good (L.modify i f) clock :=
 mem_of_stamp (stamps_modify f hf L i) h
def MapAt (enc:α→Value) (encV:β→Value) (w:World) (b:Nat) (m:α→Option β):Prop :=
 ∃ L clock,w.heap[b]? = some (.map (L.map (mkE enc)).toArray clock)∧(∀ a,(findL a L 0).map (·.2) = (m a).map encV)∧Good L clock
theorem findL_shift (a:α) (L:List (α × Value × Nat)):∀ i,findL a L i = (findL a L 0).map (fun p=>(p.1+i,p.2)):=by
 induction L with
 | nil=>intro i;rfl
 | cons e r ih =>
   intro i
   unfold findL
   split
   ·simp
   ·rw [ih (i+1),ih (0+1),Option.map_map]
    congr 1
    funext p
    simp;omega
theorem findL_append (a b:α) (v:Value) (n:Nat) (L:List (α × Value × Nat)):(findL a (L++[(b,v,n)]) 0).map (·.2) = match (findL a L 0).map (·.2) with
  | some x=>some x
  | none=>if a = b then some v else none:=by
 induction L with
 | nil=>by_cases h:a = b <;> simp [findL,h]
 | cons e r ih =>
   simp only [List.cons_append,findL]
   by_cases h:a = e.1
   ·simp [h]
   ·simp only [h,if_false]
    rw [findL_shift a _ 1,findL_shift a r 1,Option.map_map,Option.map_map]
    exact ih
theorem findL_get (a:α) (L:List (α × Value × Nat)):∀ i v,findL a L 0 = some (i,v)→∃ n,L[i]? = some (a,v,n):=by
 induction L with
 | nil=>intro i v h;simp [findL] at h
 | cons e r ih =>
   intro i v h
   unfold findL at h
   split at h
   ·rename_i he
    simp at h
    obtain ⟨rfl,rfl⟩:=h
    exact ⟨e.2.2,by subst he;rfl⟩
   ·rw [findL_shift] at h
    simp at h
    obtain ⟨j,hj,rfl⟩:=h
    obtain ⟨n,hn⟩:=ih j v hj
    exact ⟨n,by simpa using hn⟩
theorem findL_modify (a b:α) (v:Value) (L:List (α × Value × Nat)):∀ i u,findL b L 0 = some (i,u) →
  (findL a (L.modify i fun e=>(b,v,e.2.2)) 0).map (·.2) = if a = b then some v else (findL a L 0).map (·.2):=by
 induction L with
 | nil=>intro i u h;simp [findL] at h
 | cons e r ih =>
   intro i u h
   unfold findL at h
   split at h
   ·rename_i he
    simp at h
    obtain ⟨rfl,rfl⟩:=h
    simp only [List.modify_zero_cons,findL]
    by_cases hab:a = b
    ·simp [hab]
    ·simp [hab,show a≠e.1 from he ▸ hab]
   ·rename_i he
    rw [findL_shift] at h
    simp at h
    obtain ⟨j,hj,rfl⟩:=h
    simp only [List.modify_succ_cons,findL]
    by_cases hae:a = e.1
    ·have:a≠b:=fun h=>he (h ▸ hae)
     simp [hae,show e.1≠b from fun h=>he h.symm]
    ·simp only [hae,if_false]
     rw [findL_shift a _ 1,findL_shift a r 1,Option.map_map,Option.map_map]
     exact ih j u hj
theorem MapAt.look {K E T:TypeId} {enc:α→Value} {encV:β→Value} {w:World} {b:Nat} {m:α→Option β} (h:MapAt enc encV w b m) (law:KeyLaw P K enc)
  (hT:P.underlying T = some (.map K E)) (z:Value) (hz:∀ w,(zeroValue E).run P w = .ok z w) (a:α) :
  (Instr.lookup T (.map (some b)) (enc a) true).run P w = .ok (.tuple #[((m a).map encV).getD z,.bool (m a).isSome]) w:=by
 obtain ⟨L,clock,hb,hm,_⟩:=h
 have hf:=hm a
 have h2:=law.find a L w
 cases hl:findL a L 0 with
 | none =>
   rw [hl] at hf h2
   have hma:m a = none:=by simpa using hf.symm
   simp [Instr.lookup,run_underlying hT,Sem.run_bind,getObj,Sem.run,hb,Result.andThen,law.check,h2,hz,hma]
 | some p =>
   rw [hl] at hf h2
   obtain ⟨v,hv,hpv⟩:∃ v,m a = some v∧encV v = p.2:=by
    cases hma:m a with
    | none=>rw [hma] at hf;simp at hf
    | some v=>rw [hma] at hf;exact ⟨v,rfl,by simpa using hf.symm⟩
   simp [Instr.lookup,run_underlying hT,Sem.run_bind,getObj,Sem.run,hb,Result.andThen,law.check,h2,hv,hpv]
def upd (m:α→Option β) (a:α) (v:β):α→Option β:=fun x=>if x = a then some v else m x
def putMap (K:TypeId) (P:Program) (w:World) (b:Nat) (k v:Value):World :=
 match w.heap[b]? with
 | some (.map es clock) =>
   match (Instr.findKey K k es.toList).run P w with
   | .ok (some (i,_)) _=>w.putObj b (.map (es.modify i fun e=>{ e with key:=k,val:=v }) clock)
   | _=>w.putObj b (.map (es.push { key:=k,val:=v,born:=clock }) (clock+1))
 | _=>w
theorem putMap_other (K:TypeId) (w:World) (b:Nat) (k v:Value) (j:Nat) (h:j≠b):(putMap K P w b k v).heap[j]? = w.heap[j]?:=by
 unfold putMap
 split
 ·split <;> exact World.putObj_heap_other h
 ·rfl
theorem putMap_size (K:TypeId) (w:World) (b:Nat) (k v:Value):(putMap K P w b k v).heap.size = w.heap.size:=by
 unfold putMap
 split
 ·split <;> simp
 ·rfl
theorem putMap_rest (K:TypeId) (w:World) (b:Nat) (k v:Value):(putMap K P w b k v).os = w.os∧(putMap K P w b k v).tape = w.tape∧(putMap K P w b k v).output = w.output∧(putMap K P w b k v).drawn = w.drawn:=by
 unfold putMap
 split
 ·split <;> exact ⟨rfl,rfl,rfl,rfl⟩
 ·exact ⟨rfl,rfl,rfl,rfl⟩
theorem MapAt.put {K E T:TypeId} {enc:α→Value} {encV:β→Value} {w:World} {b:Nat} {m:α→Option β} (h:MapAt enc encV w b m) (law:KeyLaw P K enc)
  (hT:P.underlying T = some (.map K E)) (a:α) (v:β) :
  (Instr.mapUpdate T (.map (some b)) (enc a) (encV v)).run P w = .ok () (putMap K P w b (enc a) (encV v))∧MapAt enc encV (putMap K P w b (enc a) (encV v)) b (upd m a v):=by
 obtain ⟨L,clock,hb,hm,hg⟩:=h
 have h2:=law.find a L w
 have hlt:=(Array.getElem?_eq_some_iff.1 hb).1
 cases hl:findL a L 0 with
 | none =>
   rw [hl] at h2
   have hp:putMap K P w b (enc a) (encV v) = w.putObj b (.map ((L++[(a,encV v,clock)]).map (mkE enc)).toArray (clock+1)):=by
    simp [putMap,hb,h2,mkE]
   refine ⟨?_,L++[(a,encV v,clock)],clock+1,by rw [hp];exact World.putObj_heap_same hlt,fun x=>?_,hg.push a (encV v)⟩
   ·rw [hp]
    simp [Instr.mapUpdate,run_underlying hT,Sem.run_bind,getObj,setObj,Sem.run,hb,Result.andThen,law.check,h2,World.putObj,mkE]
   ·rw [findL_append]
    have:=hm x
    by_cases hx:x = a
    ·subst hx
     simp [hl,upd]
    ·rw [this]
     cases hmx:m x <;> simp [upd,hx,hmx]
 | some p =>
   obtain ⟨i,u⟩:=p
   rw [hl] at h2
   obtain ⟨n,hn⟩:=findL_get a L i u hl
   have hmod:((L.map (mkE enc)).toArray.modify i fun e=>{ e with key:=enc a,val:=encV v }) = ((L.modify i fun e=>(a,encV v,e.2.2)).map (mkE enc)).toArray:=by
    apply Array.ext_getElem?
    intro j
    simp only [Array.getElem?_modify,List.getElem?_toArray,List.getElem?_map,List.getElem?_modify]
    by_cases hj:i = j
    ·subst hj;simp [hn,mkE]
    ·simp [hj]
   have hp:putMap K P w b (enc a) (encV v) = w.putObj b (.map ((L.modify i fun e=>(a,encV v,e.2.2)).map (mkE enc)).toArray clock):=by
    simp [putMap,hb,h2,hmod]
   refine ⟨?_,_,clock,by rw [hp];exact World.putObj_heap_same hlt,fun x=>?_,hg.mod (fun e=>(a,encV v,e.2.2)) (fun _=>rfl) i⟩
   ·rw [hp,←hmod]
    simp [Instr.mapUpdate,run_underlying hT,Sem.run_bind,getObj,setObj,Sem.run,hb,Result.andThen,law.check,h2,World.putObj,hn,Instr.keyThatStays,law.same,mkE]
   ·rw [findL_modify x a (encV v) L i u hl]
    by_cases hx:x = a
    ·simp [upd,hx]
    ·simp [upd,hx,hm x]
def Ent (L:List (α × Value × Nat)) (a:α) (st:Nat):Prop:=∃ i u,findL a L 0 = some (i,u)∧L[i]? = some (a,u,st)
def lookL (L:List (α × Value × Nat)) (a:α):Option Value:=(findL a L 0).map (·.2)
def MapL (enc:α→Value) (w:World) (b:Nat) (L:List (α × Value × Nat)):Prop:=∃ clock,w.heap[b]? = some (.map (L.map (mkE enc)).toArray clock)∧Good L clock
def But (b:Nat) (w w':World):Prop:=(∀ k,k≠b→w'.heap[k]? = w.heap[k]?)∧w'.heap.size = w.heap.size∧w'.os = w.os∧w'.tape = w.tape∧w'.output = w.output∧w'.drawn = w.drawn
theorem But.trans {b:Nat} {w w1 w2:World} (h:But b w w1) (k:But b w1 w2):But b w w2 :=
 ⟨fun j hj=>(k.1 j hj).trans (h.1 j hj),k.2.1.trans h.2.1,k.2.2.1.trans h.2.2.1,k.2.2.2.1.trans h.2.2.2.1,k.2.2.2.2.1.trans h.2.2.2.2.1,k.2.2.2.2.2.trans h.2.2.2.2.2⟩
theorem But.put (b:Nat) (w:World) (o:Obj):But b w (w.putObj b o):=⟨fun _ hj=>World.putObj_heap_other hj,by simp,rfl,rfl,rfl,rfl⟩
theorem findL_none_append (a c:α) (v:Value) (n:Nat) (L:List (α × Value × Nat)) (i:Nat) (u:Value) (h:findL c L 0 = some (i,u)):findL c (L++[(a,v,n)]) 0 = some (i,u):=by
 induction L generalizing i with
 | nil=>simp [findL] at h
 | cons e r ih =>
   unfold findL at h
   simp only [List.cons_append]
   unfold findL
   split at h
   ·rename_i he
    rw [if_pos he];exact h
   ·rename_i he
    rw [if_neg he]
    rw [findL_shift] at h ⊢
    simp at h
    obtain ⟨j,hj,rfl⟩:=h
    rw [ih j hj]
    rfl
theorem findL_new (a:α) (v:Value) (n:Nat) (L:List (α × Value × Nat)) (h:findL a L 0 = none):findL a (L++[(a,v,n)]) 0 = some (L.length,v):=by
 induction L with
 | nil=>simp [findL]
 | cons e r ih =>
   unfold findL at h
   split at h
   ·cases h
   ·rename_i he
    simp only [List.cons_append]
    unfold findL
    rw [if_neg he,findL_shift,ih (by rw [findL_shift] at h;simpa using h)]
    simp
theorem findIdx_stamp (enc:α→Value) (L:List (α × Value × Nat)) (hn:(L.map (fun e=>e.2.2)).Nodup) (i:Nat) (a:α) (u:Value) (st:Nat) (h:L[i]? = some (a,u,st)) :
  (L.map (mkE enc)).findIdx? (fun e=>(e.born:Int) == (st:Int)) = some i:=by
 induction L generalizing i with
 | nil=>simp at h
 | cons e r ih =>
   rw [List.map_cons,List.nodup_cons] at hn
   rw [List.map_cons,List.findIdx?_cons]
   cases i with
   | zero =>
     simp only [List.getElem?_cons_zero,Option.some.injEq] at h
     subst h
     simp [mkE]
   | succ i =>
     simp only [List.getElem?_cons_succ] at h
     have hm:=List.mem_of_getElem? h
     have hne:e.2.2≠st:=fun he=>hn.1 (List.mem_map.2 ⟨_,hm,he.symm⟩)
     rw [if_neg (by simp [mkE];omega),ih hn.2 i h]
     rfl
theorem findL_modify_some (c:α) (f:α × Value × Nat→α × Value × Nat) (hf:∀ e,(f e).1 = e.1):∀ (L:List (α × Value × Nat)) (i j:Nat) (u:Value) ,findL c L 0 = some (j,u)→∃ u',findL c (L.modify i f) 0 = some (j,u'):=by
 intro L
 induction L with
 | nil=>intro i j u h;simp [findL] at h
 | cons e r ih =>
   intro i j u h
   unfold findL at h
   split at h
   ·rename_i he
    simp at h
    obtain ⟨rfl,rfl⟩:=h
    cases i with
    | zero=>exact ⟨(f e).2.1,by simp [findL,hf,he]⟩
    | succ i=>exact ⟨e.2.1,by simp [findL,he]⟩
   ·rename_i he
    rw [findL_shift] at h
    simp at h
    obtain ⟨j',hj',rfl⟩:=h
    cases i with
    | zero=>exact ⟨u,by simp only [List.modify_zero_cons,findL,hf,if_neg he];rw [findL_shift,hj'];rfl⟩
    | succ i =>
      obtain ⟨u',hu'⟩:=ih i j' u hj'
      exact ⟨u',by simp only [List.modify_succ_cons,findL,if_neg he];rw [findL_shift,hu'];rfl⟩
theorem ent_run {K E T:TypeId} {enc:α→Value} {w:World} {b:Nat} {L:List (α × Value × Nat)} (h:MapL enc w b L) (law:KeyLaw P K enc)
  (hT:P.underlying T = some (.map K E)) (z:Value) (hz:∀ w,(zeroValue E).run P w = .ok z w) (a:α) :
  ∃ p st w' L',(Instr.mapEntry T (.map (some b)) (enc a)).run P w = .ok (.tuple #[p,goInt (st:Nat)]) w'∧MapL enc w' b L'∧But b w w'∧Ent L' a st ∧
    (∀ x,x≠a→lookL L' x = lookL L x)∧(∀ c sc,Ent L c sc→Ent L' c sc):=by
 obtain ⟨clock,hb,hg⟩:=h
 have h2:=law.find a L w
 have hlt:=(Array.getElem?_eq_some_iff.1 hb).1
 cases hl:findL a L 0 with
 | none =>
   rw [hl] at h2
   refine ⟨z,clock,w.putObj b (.map ((L++[(a,z,clock)]).map (mkE enc)).toArray (clock+1)),L++[(a,z,clock)],?_,⟨clock+1,World.putObj_heap_same hlt,hg.push _ _⟩,But.put _ _ _,⟨L.length,z,findL_new a z clock L hl,by simp⟩,fun x hx=>?_,fun c sc hc=>?_⟩
   ·simp [Instr.mapEntry,run_underlying hT,Sem.run_bind,getObj,setObj,Sem.run,hb,Result.andThen,law.check,h2,hz,World.putObj,mkE]
   ·unfold lookL
    rw [findL_append]
    cases hx2:findL x L 0 <;> simp [hx]
   ·obtain ⟨i,u,h3,h4⟩:=hc
    exact ⟨i,u,findL_none_append _ _ _ _ _ _ _ h3,by rw [List.getElem?_append_left (List.getElem?_eq_some_iff.1 h4).1];exact h4⟩
 | some p =>
   obtain ⟨i,u⟩:=p
   rw [hl] at h2
   obtain ⟨n,hn⟩:=findL_get a L i u hl
   have hself:((L.map (mkE enc)).toArray.modify i fun e=>{ e with key:=enc a }) = (L.map (mkE enc)).toArray:=by
    apply Array.ext_getElem?
    intro j
    simp only [Array.getElem?_modify,List.getElem?_toArray,List.getElem?_map]
    by_cases hj:i = j
    ·subst hj;simp [hn,mkE]
    ·simp [hj]
   refine ⟨u,n,w.putObj b (.map (L.map (mkE enc)).toArray clock),L,?_,⟨clock,World.putObj_heap_same hlt,hg⟩,But.put _ _ _,⟨i,u,hl,hn⟩,fun _ _=>rfl,fun _ _ h=>h⟩
   have hself':∀ x,((L.map (mkE enc)).toArray.modify i fun e=>({ key:=enc a,val:=e.val,born:=e.born }:MapEntry)) = x→x = (L.map (mkE enc)).toArray:=fun x hx=>hx.symm.trans hself
   simp [Instr.mapEntry,run_underlying hT,Sem.run_bind,getObj,setObj,Sem.run,hb,Result.andThen,law.check,h2,World.putObj,hn,Instr.keyThatStays,law.same,mkE]
   first | done | (try simp [mkE] at hself;simp [hself])
theorem store_run {T:TypeId} {enc:α→Value} {w:World} {b:Nat} {L:List (α × Value × Nat)} (h:MapL enc w b L) {a:α} {st:Nat} (he:Ent L a st) (v:Value) :
  ∃ w' L',(Instr.entryStore T (.map (some b)) (goInt (st:Nat)) v).run P w = .ok () w'∧MapL enc w' b L'∧But b w w' ∧
    (∀ x,lookL L' x = if x = a then some v else lookL L x)∧(∀ c sc,Ent L c sc→Ent L' c sc):=by
 obtain ⟨clock,hb,hg⟩:=h
 obtain ⟨i,u,h1,h2⟩:=he
 have hlt:=(Array.getElem?_eq_some_iff.1 hb).1
 have hidx:=findIdx_stamp enc L hg.2 i a u st h2
 have hmod:((L.map (mkE enc)).toArray.modify i fun e=>{ e with val:=v }) = ((L.modify i fun e=>(e.1,v,e.2.2)).map (mkE enc)).toArray:=by
  apply Array.ext_getElem?
  intro j
  simp only [Array.getElem?_modify,List.getElem?_toArray,List.getElem?_map,List.getElem?_modify]
  by_cases hj:i = j
  ·subst hj;simp [h2,mkE]
  ·simp [hj]
 have hmm:(L.modify i fun e=>(e.1,v,e.2.2)) = (L.modify i fun e=>(a,v,e.2.2)):=by
  apply List.ext_getElem?
  intro j
  simp only [List.getElem?_modify]
  by_cases hj:i = j
  ·subst hj;simp [h2]
  ·simp [hj]
 refine ⟨w.putObj b (.map ((L.modify i fun e=>(e.1,v,e.2.2)).map (mkE enc)).toArray clock),_,?_,⟨clock,World.putObj_heap_same hlt,hg.mod (fun e=>(e.1,v,e.2.2)) (fun _=>rfl) i⟩,But.put _ _ _,fun x=>?_,fun c sc hc=>?_⟩
 ·have hidx':(L.map (mkE enc)).toArray.findIdx? (fun e=>(e.born:Int) == (st:Int)) = some i:=by
   rw [List.findIdx?_toArray];exact hidx
  rw [←hmod]
  simp only [Instr.entryStore,Sem.run_bind,getObj,setObj,Sem.run,hb,Result.andThen,asInt,asIntOf,goInt,hidx',World.putObj]
  simp [Sem.run,hb,Result.andThen,hidx',World.putObj]
 ·unfold lookL
  rw [hmm]
  exact findL_modify x a v L i u h1
 ·obtain ⟨j,y,h3,h4⟩:=hc
  obtain ⟨y',h5⟩:=findL_modify_some c (fun e=>(e.1,v,e.2.2)) (fun _=>rfl) L i j y h3
  obtain ⟨n,hn⟩:=findL_get c _ j y' h5
  refine ⟨j,y',h5,?_⟩
  rw [hn]
  rw [List.getElem?_modify] at hn
  simp [h4] at hn
  by_cases hij:i = j
  ·simp [hij] at hn;simp [hn]
  ·simp [hij] at hn;simp [hn]
end
theorem intLaw {P:Program} {α:Type} [DecidableEq α] {K:TypeId} (hK:P.underlying K = some (.int .i64)) (f:α→Int) (hf:∀ a b,f a = f b→a = b):KeyLaw P K (fun n:α=>Value.int .i64 (f n)) where
 check e a w:=by rw [Instr.checkKey];simp [run_underlying hK]
 same a:=by rw [Instr.sameBits];simp
 find a L w:=by
  have:∀ L i,Instr.findNow (.int .i64) (.int .i64 (f a)) (L.map (mkE fun n:α=>Value.int .i64 (f n))) i = some (findL a L i):=by
   intro L
   induction L with
   | nil=>intro i;rfl
   | cons x r ih =>
     intro i
     simp only [List.map_cons,Instr.findNow,mkE,Instr.sameNow,findL,if_true]
     by_cases h:a = x.1
     ·simp [h]
     ·have:(f a == f x.1) = false:=by simp;exact fun e=>h (hf _ _ e)
      simp only [this,h,if_false]
      exact ih (i+1)
  simp [Instr.findKey,run_underlying hK,this]
theorem strLaw {P:Program} {α:Type} [DecidableEq α] {K:TypeId} (hK:P.underlying K = some .string) (f:α→List UInt8) (hf:∀ a b,f a = f b→a = b):KeyLaw P K (fun n:α=>Value.string ⟨(f n).toArray⟩) where
 check e a w:=by rw [Instr.checkKey];simp [run_underlying hK]
 same a:=by
  rw [Instr.sameBits]
  show ((f a).toArray == (f a).toArray) = true
  simp
 find a L w:=by
  have:∀ L i,Instr.findNow .string (.string ⟨(f a).toArray⟩) (L.map (mkE fun n:α=>Value.string ⟨(f n).toArray⟩)) i = some (findL a L i):=by
   intro L
   induction L with
   | nil=>intro i;rfl
   | cons x r ih =>
     intro i
     simp only [List.map_cons,Instr.findNow,mkE,Instr.sameNow,findL]
     by_cases h:a = x.1
     ·have:((⟨(f a).toArray⟩:ByteArray) == ⟨(f x.1).toArray⟩) = true:=by
       rw [h]
       show ((f x.1).toArray == (f x.1).toArray) = true
       simp
      rw [if_pos h,this]
     ·have:((⟨(f a).toArray⟩:ByteArray) == ⟨(f x.1).toArray⟩) = false:=by
       show ((f a).toArray == (f x.1).toArray) = false
       rw [beq_eq_false_iff_ne]
       intro e
       exact h (hf _ _ (by simpa using e))
      simp only [this,h,if_false]
      exact ih (i+1)
  simp [Instr.findKey,run_underlying hK,this]
theorem pairCheck (e:Bool) (a:Nat × Nat) (w:World):(Instr.checkKey e 10000 165 (.agg #[.int .i64 (a.1:Int),.int .i64 (a.2:Int)])).run Tryz.prog w = .ok () w:=by kernel_rfl
theorem pairEq (a b:Nat × Nat) (w:World):(Op.equal 165 (.agg #[.int .i64 (a.1:Int),.int .i64 (a.2:Int)]) (.agg #[.int .i64 (b.1:Int),.int .i64 (b.2:Int)])).run Tryz.prog w = .ok (decide (a = b)) w:=by
 unfold Op.equal Op.maxDepth
 rw [run_equalIn_agg w _ _ _ _ (by kernel_rfl) (by kernel_rfl)]
 simp only [Program.fieldsOf,Tryz.underlying165,List.toArray,Op.eqFields]
 simp [go_sem,Op.eqFields,Tryz.underlying3]
 by_cases h1:(a.1:Int) = b.1 <;> by_cases h2:(a.2:Int) = b.2 <;> simp [h1,h2,Prod.ext_iff] <;> omega
theorem askFind {P:Program} {α:Type} [DecidableEq α] {K:TypeId} {enc:α→Value} (heq:∀ a b w,(Op.equal K (enc a) (enc b)).run P w = .ok (decide (a = b)) w) (a:α) (w:World) :
  ∀ L i,(Instr.findAsking K (enc a) (L.map (mkE enc)) i).run P w = .ok (findL a L i) w:=by
 intro L
 induction L with
 | nil=>intro i;simp [Instr.findAsking,findL]
 | cons x r ih =>
   intro i
   simp only [List.map_cons,Instr.findAsking,mkE,Sem.run_bind,heq,Result.andThen,findL]
   by_cases h:a = x.1
   ·simp [h]
   ·simp only [h,decide_false,Bool.false_eq_true,if_false]
    exact ih (i+1)
theorem askLaw {P:Program} {α:Type} [DecidableEq α] {K:TypeId} {kind:TypeDesc} {enc:α→Value} (hK:P.underlying K = some kind)
  (hc:∀ e a w,(Instr.checkKey e 10000 K (enc a)).run P w = .ok () w) (hs:∀ a,Instr.sameBits 10000 (enc a) (enc a) = true)
  (hn:∀ a b,Instr.sameNow kind (enc a) (enc b) = none) (heq:∀ a b w,(Op.equal K (enc a) (enc b)).run P w = .ok (decide (a = b)) w):KeyLaw P K enc where
 check:=hc
 same:=hs
 find a L w:=by
  cases L with
  | nil=>simp [Instr.findKey,run_underlying hK,Instr.findNow,findL]
  | cons x r =>
    have h1:Instr.findNow kind (enc a) ((x :: r).map (mkE enc)) 0 = none:=by
     simp [Instr.findNow,mkE,hn]
    simp only [Instr.findKey,Sem.run_bind,run_underlying hK,Result.andThen,h1]
    exact askFind heq a w (x :: r) 0
def encPr (a:Nat × Nat):Value:=.agg #[.int .i64 (a.1:Int),.int .i64 (a.2:Int)]
theorem pairLaw:KeyLaw Tryz.prog 165 encPr :=
 askLaw (kind:=.struct (Tryz.prog.fieldsOf 165)) (by kernel_rfl) pairCheck (fun a=>by
  unfold encPr;rw [Instr.sameBits];simp;exact ⟨by rw [Instr.sameBits];simp,by rw [Instr.sameBits];simp⟩) (fun _ _=>rfl) pairEq
end Go.Proofs.YtmnjakejhbpkoaaGreatDoor
namespace Go.Proofs.YtmnjakejhbpkoaaGreatDoor
open Go Go.RowKit
structure VN where
 left:Int
 right:Int
 var:Int
 deriving DecidableEq,Inhabited
structure SNode where
 pl:Int
 lit:Int
 el:List (Nat × Nat)
 le:VSet
 deriving DecidableEq,Inhabited
def keyB (pl lit:Int) (el:List (Nat × Nat)):List UInt8 :=
 Lib.itoa pl++[32]++Lib.itoa lit++el.flatMap fun p=>[32]++Lib.itoa p.1++[32]++Lib.itoa p.2
abbrev Key:=Int × Int × List (Nat × Nat)
def asc {α β:Type} [DecidableEq α] (l:List (α × β)) (a:α):Option β:=match l with
 | []=>none
 | p :: r=>if a = p.1 then some p.2 else asc r a
structure St where
 tree:List VN
 nodes:List SNode
 uniq:List (Key × Nat)
 ands:List ((Nat × Nat) × Nat)
 nots:List (Nat × Nat)
def leafAt (t:List VN) (v:Nat):Option Nat:=t.findIdx? fun x=>decide (x.left < 0) && decide (x.var = (v:Int))
end Go.Proofs.YtmnjakejhbpkoaaGreatDoor
namespace Go.Proofs.YtmnjakejhbpkoaaGreatDoor
open Go Go.RowKit
def decVal (l:List UInt8):Nat:=l.foldl (fun a d=>10 * a+(d.toNat - 48)) 0
theorem decVal_digits (n:Nat):decVal (Lib.decDigits n) = n:=by
 induction n using Nat.strongRecOn with
 | _ n ih =>
   rw [Lib.decDigits]
   split
   ·rename_i h
    simp [decVal]
    omega
   ·rename_i h
    have:=ih (n / 10) (by omega)
    unfold decVal at *
    rw [List.foldl_append,this]
    simp
    omega
theorem dec_range (n:Nat):∀ d∈Lib.decDigits n,48≤d.toNat∧d.toNat≤57:=by
 induction n using Nat.strongRecOn with
 | _ n ih =>
   rw [Lib.decDigits]
   split
   ·rename_i h
    intro d hd
    simp at hd
    subst hd
    simp
    omega
   ·rename_i h
    intro d hd
    rw [List.mem_append] at hd
    rcases hd with hd | hd
    ·exact ih (n / 10) (by omega) d hd
    ·simp at hd
     subst hd
     simp
     omega
theorem itoa_no32 (i:Int):(32:UInt8)∉Lib.itoa i:=by
 intro h
 unfold Lib.itoa at h
 split at h
 ·rw [List.mem_cons] at h
  rcases h with h | h
  ·simp at h
  ·have:=(dec_range _ _ h).1;simp at this
 ·have:=(dec_range _ _ h).1;simp at this
theorem itoa_inj (i j:Int) (h:Lib.itoa i = Lib.itoa j):i = j:=by
 unfold Lib.itoa at h
 have key:∀ a b:Nat,Lib.decDigits a = Lib.decDigits b→a = b:=fun a b e=>by
  have:=congrArg decVal e;rwa [decVal_digits,decVal_digits] at this
 have nodash:∀ (a:Nat) (l:List UInt8),Lib.decDigits a = 45 :: l→False:=fun a l e=>by
  have:=(dec_range a 45 (by rw [e];simp)).1
  simp at this
 split at h <;> split at h
 ·have:=key _ _ (List.cons.inj h).2;omega
 ·exact (nodash _ _ h.symm).elim
 ·exact (nodash _ _ h).elim
 ·have:=key _ _ h;omega
theorem split32 (x y x' y':List UInt8) (hx:(32:UInt8)∉x) (hx':(32:UInt8)∉x') (h:x++32 :: y = x'++32 :: y'):x = x'∧y = y':=by
 induction x generalizing x' with
 | nil =>
   cases x' with
   | nil=>simpa using h
   | cons a r =>
     simp at h
     exact absurd (by simp [h.1]) hx'
 | cons a r ih =>
   cases x' with
   | nil =>
     simp at h
     exact absurd (by simp [h.1]) hx
   | cons b r' =>
     simp at h
     obtain ⟨rfl,h⟩:=h
     obtain ⟨h1,h2⟩:=ih r' (fun e=>hx (List.mem_cons_of_mem _ e)) (fun e=>hx' (List.mem_cons_of_mem _ e)) h
     exact ⟨by rw [h1],h2⟩
def keyT (el:List (Nat × Nat)):List UInt8:=el.flatMap fun p=>[32]++Lib.itoa p.1++[32]++Lib.itoa p.2
theorem split32' (x y x' y':List UInt8) (hx:(32:UInt8)∉x) (hx':(32:UInt8)∉x') (hy:y = []∨∃ t,y = 32 :: t) (hy':y' = []∨∃ t,y' = 32 :: t) (h:x++y = x'++y'):x = x'∧y = y':=by
 rcases hy with rfl | ⟨t,rfl⟩ <;> rcases hy' with rfl | ⟨t',rfl⟩
 ·simpa using h
 ·exact absurd (by rw [show x = x'++32 :: t' by simpa using h];simp) hx
 ·exact absurd (by rw [show x' = x++32 :: t by simpa using h.symm];simp) hx'
 ·obtain ⟨h1,h2⟩:=split32 _ _ _ _ hx hx' h
  exact ⟨h1,by rw [h2]⟩
theorem keyT_head (el:List (Nat × Nat)):keyT el = []∨∃ t,keyT el = 32 :: t:=by
 cases el with
 | nil=>exact .inl rfl
 | cons p r=>exact .inr ⟨Lib.itoa p.1++32 :: (Lib.itoa p.2++keyT r),by simp [keyT]⟩
theorem keyT_inj:∀ el el':List (Nat × Nat),keyT el = keyT el'→el = el':=by
 intro el
 induction el with
 | nil =>
   intro el' h
   cases el' with
   | nil=>rfl
   | cons p r=>simp [keyT] at h
 | cons p r ih =>
   intro el' h
   cases el' with
   | nil=>simp [keyT] at h
   | cons p' r' =>
     have e:∀ (p:Nat × Nat) (r:List (Nat × Nat)),keyT (p :: r) = 32 :: (Lib.itoa p.1++32 :: (Lib.itoa p.2++keyT r)):=fun p r=>by simp [keyT]
     rw [e,e] at h
     obtain ⟨h1,h2⟩:=split32 _ _ _ _ (itoa_no32 _) (itoa_no32 _) (List.cons.inj h).2
     obtain ⟨h3,h4⟩:=split32' _ _ _ _ (itoa_no32 _) (itoa_no32 _) (keyT_head r) (keyT_head r') h2
     have a:=itoa_inj _ _ h1
     have b:=itoa_inj _ _ h3
     rw [ih r' h4]
     congr 1
     exact Prod.ext (by omega) (by omega)
def keyOf (k:Key):List UInt8:=keyB k.1 k.2.1 k.2.2
theorem keyOf_inj (a b:Key) (h:keyOf a = keyOf b):a = b:=by
 obtain ⟨a1,a2,a3⟩:=a
 obtain ⟨b1,b2,b3⟩:=b
 have e:∀ x y z,keyOf (x,y,z) = Lib.itoa x++32 :: (Lib.itoa y++keyT z):=fun x y z=>by simp [keyOf,keyB,keyT]
 rw [e,e] at h
 obtain ⟨h1,h2⟩:=split32 _ _ _ _ (itoa_no32 _) (itoa_no32 _) h
 obtain ⟨h3,h4⟩:=split32' _ _ _ _ (itoa_no32 _) (itoa_no32 _) (keyT_head a3) (keyT_head b3) h2
 rw [itoa_inj _ _ h1,itoa_inj _ _ h3,keyT_inj _ _ h4]
end Go.Proofs.YtmnjakejhbpkoaaGreatDoor
namespace Go.Proofs.YtmnjakejhbpkoaaGreatDoor
open Go Go.RowKit
def smallN (n:SNode):Prop:=-1≤n.pl∧n.pl≤1048576∧-1048576≤n.lit∧n.lit≤1048576∧n.el.length≤1048576∧∀ p∈n.el,p.1≤1048576∧p.2≤1048576
instance (n:SNode):Decidable (smallN n):=by unfold smallN;infer_instance
def addF (s:St) (n:SNode):Option (Nat × St) :=
 if smallN n then
  match asc s.uniq (n.pl,n.lit,n.el) with
  | some i=>some (i,s)
  | none=>if s.nodes.length < 1048576 then
     some (s.nodes.length,{ s with nodes:=s.nodes++[n],uniq:=((n.pl,n.lit,n.el),s.nodes.length) :: s.uniq })
    else none
 else none
def litN (l pl:Int):SNode:={ pl:=pl,lit:=l,el:=[],le:=if 0 < l then ofS [l] else 0 }
def literalF (s:St) (l pl:Int):Option (Nat × St):=addF s (litN l pl)
def leOf (ns:List SNode) (i:Nat):VSet:=match ns[i]? with
 | some n=>n.le
 | none=>0
def lessP (ns:List SNode) (p q:Nat × Nat):Bool:=lessS (leOf ns p.1) (leOf ns q.1)
def insF {α:Type} (lt:α→α→Bool) (p:α):List α→List α
 | []=>[p]
 | q :: r=>if lt p q then p :: q :: r else q :: insF lt p r
def sortF {α:Type} (lt:α→α→Bool):List α→List α
 | []=>[]
 | p :: r=>insF lt p (sortF lt r)
def aparts {α:Type} (lt:α→α→Bool):List α→Bool
 | []=>true
 | p :: r=>(r.all fun q=>lt p q || lt q p) && aparts lt r
def leastStep (ns:List SNode) (a:Bool × VSet) (p:Nat × Nat):Bool × VSet :=
 if p.2 = 0 then a else
  let x:=leOf ns p.1 ||| leOf ns p.2
  if a.1 || lessS x a.2 then (false,x) else a
def leastF (ns:List SNode) (l:List (Nat × Nat)):Bool × VSet:=l.foldl (leastStep ns) (true,0)
def decideF (s:St) (pl:Int) (l:List (Nat × Nat)):Option (Nat × St) :=
 if l≠[]∧(l.all fun p=>decide (p.1 < s.nodes.length) && decide (p.2 < s.nodes.length)) = true∧aparts (lessP s.nodes) l = true then
  let l':=sortF (lessP s.nodes) l
  addF s { pl:=pl,lit:=0,el:=l',le:=(leastF s.nodes l').2 }
 else none
end Go.Proofs.YtmnjakejhbpkoaaGreatDoor
namespace Go.Proofs.YtmnjakejhbpkoaaGreatDoor
open Go Go.RowKit
def mapSubs (g:St→Nat→Option (Nat × St)):St→List (Nat × Nat)→Option (List (Nat × Nat) × St)
 | s,[]=>some ([],s)
 | s,p :: r =>
   match g s p.2 with
   | none=>none
   | some (q,s1) =>
     match mapSubs g s1 r with
     | none=>none
     | some (l,s2)=>some ((p.1,q) :: l,s2)
def putNots (a:Nat):Option (Nat × St)→Option (Nat × St)
 | none=>none
 | some (b,s)=>some (b,{ s with nots:=(b,a) :: (a,b) :: s.nots })
def notNew (g:St→Nat→Option (Nat × St)) (s:St) (n:SNode):Option (Nat × St) :=
 if n.lit = 0 then
  match mapSubs g s n.el with
  | none=>none
  | some (l,s1)=>decideF s1 n.pl l
 else literalF s (-n.lit) n.pl
def notF:Nat→St→Nat→Option (Nat × St)
 | 0,_,_=>none
 | f+1,s,a =>
   if a < 2 then some (1 - a,s) else
    match asc s.nots a with
    | some b=>some (b,s)
    | none =>
      match s.nodes[a]? with
      | none=>none
      | some n=>putNots a (notNew (notF f) s n)
end Go.Proofs.YtmnjakejhbpkoaaGreatDoor
namespace Go.Proofs.YtmnjakejhbpkoaaGreatDoor
open Go Go.RowKit
theorem insF_perm {α:Type} (lt:α→α→Bool) (p:α):∀ l,(insF lt p l).Perm (p :: l)
 | []=>by simp [insF]
 | q :: r=>by
   unfold insF
   split
   ·exact .refl _
   ·exact ((insF_perm lt p r).cons q).trans (.swap p q r)
theorem sortF_perm {α:Type} (lt:α→α→Bool):∀ l,(sortF lt l).Perm l
 | []=>.refl _
 | p :: r=>(insF_perm lt p _).trans ((sortF_perm lt r).cons p)
theorem sorted_unique {α:Type} (lt:α→α→Bool) (irr:∀ x,lt x x = false) (tr:∀ x y z,lt x y = true→lt y z = true→lt x z = true) :
  ∀ l l':List α,l.Perm l'→l.Pairwise (fun a b=>lt a b = true)→l'.Pairwise (fun a b=>lt a b = true)→l = l'
 | [],l',h,_,_=>(List.nil_perm.1 h).symm ▸ rfl
 | a :: l,[],h,_,_=>by simpa using h.length_eq
 | a :: l,b :: l',h,h1,h2=>by
   have asym:∀ x y,lt x y = true→lt y x = true→False:=fun x y e1 e2=>by have:=tr x y x e1 e2;rw [irr] at this;cases this
   have hab:a = b:=by
    rw [List.pairwise_cons] at h1 h2
    have ha:a∈b :: l':=h.mem_iff.1 (List.mem_cons_self ..)
    have hb:b∈a :: l:=h.mem_iff.2 (List.mem_cons_self ..)
    rcases List.mem_cons.1 ha with e | e
    ·exact e
    ·rcases List.mem_cons.1 hb with e' | e'
     ·exact e'.symm
     ·exact (asym _ _ (h2.1 a e) (h1.1 b e')).elim
   subst hab
   rw [List.pairwise_cons] at h1 h2
   rw [sorted_unique lt irr tr l l' (List.Perm.cons_inv h) h1.2 h2.2]
theorem insF_sorted {α:Type} (lt:α→α→Bool) (tr:∀ x y z,lt x y = true→lt y z = true→lt x z = true) (p:α):∀ l:List α,l.Pairwise (fun a b=>lt a b = true)→(∀ q∈l,lt p q = true∨lt q p = true)→(insF lt p l).Pairwise (fun a b=>lt a b = true)
 | [],_,_=>by simp [insF]
 | q :: r,h,ha=>by
   unfold insF
   rw [List.pairwise_cons] at h
   split
   ·rename_i hpq
    rw [List.pairwise_cons]
    refine ⟨fun x hx=>?_,by rw [List.pairwise_cons];exact h⟩
    rcases List.mem_cons.1 hx with rfl | hx
    ·exact hpq
    ·exact tr _ _ _ hpq (h.1 x hx)
   ·rename_i hpq
    rw [List.pairwise_cons]
    refine ⟨fun x hx=>?_,insF_sorted lt tr p r h.2 (fun x hx=>ha x (List.mem_cons_of_mem _ hx))⟩
    rcases List.mem_cons.1 ((insF_perm lt p r).mem_iff.1 hx) with rfl | hx
    ·exact (ha q (List.mem_cons_self ..)).resolve_left hpq
    ·exact h.1 x hx
theorem aparts_mem {α:Type} (lt:α→α→Bool) (p:α) (r:List α) (h:aparts lt (p :: r) = true):(∀ q∈r,lt p q = true∨lt q p = true)∧aparts lt r = true:=by
 unfold aparts at h
 simp only [Bool.and_eq_true,List.all_eq_true,Bool.or_eq_true] at h
 exact h
theorem sortF_sorted {α:Type} (lt:α→α→Bool) (tr:∀ x y z,lt x y = true→lt y z = true→lt x z = true):∀ l:List α,aparts lt l = true→(sortF lt l).Pairwise (fun a b=>lt a b = true)
 | [],_=>by simp [sortF]
 | p :: r,h=>by
   obtain ⟨h1,h2⟩:=aparts_mem lt p r h
   exact insF_sorted lt tr p _ (sortF_sorted lt tr r h2) (fun q hq=>h1 q ((sortF_perm lt r).mem_iff.1 hq))
theorem aparts_iff {α:Type} (lt:α→α→Bool):∀ l:List α,aparts lt l = true↔l.Pairwise (fun a b=>lt a b = true∨lt b a = true)
 | []=>by simp [aparts]
 | p :: r=>by
   rw [List.pairwise_cons,←aparts_iff lt r]
   simp [aparts]
theorem aparts_perm {α:Type} (lt:α→α→Bool) {l l':List α} (h:l.Perm l') (ha:aparts lt l = true):aparts lt l' = true:=by
 rw [aparts_iff] at *
 exact (h.pairwise_iff (fun h=>h.symm)).1 ha
theorem sorted_of {α:Type} (lt:α→α→Bool) (l:List α) (ha:aparts lt l = true) (h:l.Pairwise (fun a b=>lt b a = false)):l.Pairwise (fun a b=>lt a b = true):=by
 rw [aparts_iff] at ha
 refine List.Pairwise.imp (fun {a b} h=>?_) (ha.and h)
 rcases h with ⟨h1 | h1,h2⟩
 ·exact h1
 ·rw [h1] at h2;cases h2
theorem firstS_spec (s:VSet):(firstS s = 0∧s = 0)∨(∃ i,firstS s = i+1∧i < 128∧s.getLsbD i = true∧∀ j,j < i→s.getLsbD j = false):=by
 unfold firstS
 split
 ·rename_i i h
  rw [List.find?_eq_some_iff_append] at h
  obtain ⟨hi,pr,bs,hr,hall⟩:=h
  have hlen:pr.length = i:=by
   have h1:(List.range 128)[pr.length]? = some i:=by rw [hr];simp
   rw [List.getElem?_range] at h1
   ·simpa using h1
   ·rw [List.getElem?_eq_some_iff] at h1
    obtain ⟨h,_⟩:=h1
    simpa using h
  have hi128:i < 128:=by
   have:pr.length < (List.range 128).length:=by rw [hr];simp
   simp at this;omega
  refine .inr ⟨i,rfl,hi128,hi,fun j hj=>?_⟩
  have hj2:pr[j]? = some j:=by
   have h1:(List.range 128)[j]? = some j:=List.getElem?_range (by omega)
   rw [hr,List.getElem?_append_left (by omega)] at h1
   exact h1
  have:=hall j (List.mem_of_getElem? hj2)
  simpa using this
 ·rename_i h
  left
  refine ⟨rfl,?_⟩
  rw [List.find?_eq_none] at h
  apply BitVec.eq_of_getLsbD_eq
  intro i hi
  have:=h i (by simpa using hi)
  simpa using this
theorem lessS_iff (a b:VSet):lessS a b = true↔∃ i,i < 128∧a.getLsbD i = false∧b.getLsbD i = true∧∀ j,j < i→a.getLsbD j = b.getLsbD j:=by
 unfold lessS
 rcases firstS_spec ((a &&& ~~~b) ||| (b &&& ~~~a)) with ⟨h1,h2⟩ | ⟨i,h1,h2,h3,h4⟩
 ·simp only [h1]
  constructor
  ·intro h;simp at h
  ·rintro ⟨i,hi,ha,hb,_⟩
   have:=congrArg (fun s=>s.getLsbD i) h2
   simp only [BitVec.getLsbD_or,BitVec.getLsbD_and,BitVec.getLsbD_not,hi,ha,hb] at this
   simp at this
 ·simp only [h1,hasS]
  have e:((i+1:Nat):Int) - 1 = i:=by omega
  have d:∀ j,j < 128→((a &&& ~~~b) ||| (b &&& ~~~a)).getLsbD j = (a.getLsbD j != b.getLsbD j):=fun j hj=>by
   simp only [BitVec.getLsbD_or,BitVec.getLsbD_and,BitVec.getLsbD_not,hj,decide_true,Bool.true_and]
   cases a.getLsbD j <;> cases b.getLsbD j <;> rfl
  rw [e]
  simp only [Int.toNat_natCast]
  constructor
  ·intro h
   simp at h
   have ha:a.getLsbD i = false:=by
    rcases h with h | h
    ·omega
    ·exact h
   refine ⟨i,h2,ha,?_,fun j hj=>?_⟩
   ·rw [d i h2,ha] at h3;simpa using h3
   ·have:=h4 j hj
    rw [d j (by omega)] at this
    simpa using this
  ·rintro ⟨k,hk,ka,kb,kj⟩
   have hik:i = k:=by
    rcases Nat.lt_trichotomy i k with h | h | h
    ·rw [d i h2,kj i h] at h3;simp at h3
    ·exact h
    ·have:=h4 k h;rw [d k hk,ka,kb] at this;simp at this
   subst hik
   simp [ka]
theorem lessS_irr (x:VSet):lessS x x = false:=by
 rw [Bool.eq_false_iff]
 intro h
 obtain ⟨i,_,h1,h2,_⟩:=(lessS_iff x x).1 h
 rw [h1] at h2;cases h2
theorem lessS_tr (x y z:VSet) (h1:lessS x y = true) (h2:lessS y z = true):lessS x z = true:=by
 obtain ⟨i,hi,a1,a2,a3⟩:=(lessS_iff x y).1 h1
 obtain ⟨j,hj,b1,b2,b3⟩:=(lessS_iff y z).1 h2
 rw [lessS_iff]
 rcases Nat.lt_trichotomy i j with h | h | h
 ·exact ⟨i,hi,a1,by rw [←b3 i h];exact a2,fun k hk=>(a3 k hk).trans (b3 k (by omega))⟩
 ·subst h;rw [a2] at b1;cases b1
 ·exact ⟨j,hj,by rw [a3 j h];exact b1,b2,fun k hk=>(a3 k (by omega)).trans (b3 k hk)⟩
theorem lessS_tot (x y:VSet) (h1:lessS x y = false) (h2:lessS y x = false):x = y:=by
 rcases firstS_spec ((x &&& ~~~y) ||| (y &&& ~~~x)) with ⟨_,h⟩ | ⟨i,_,hi,h3,h4⟩
 ·apply BitVec.eq_of_getLsbD_eq
  intro i hi
  have:=congrArg (fun s=>s.getLsbD i) h
  simp [hi] at this
  cases hx:x.getLsbD i <;> cases hy:y.getLsbD i <;> simp_all
 ·exfalso
  have d:∀ j,j < 128→((x &&& ~~~y) ||| (y &&& ~~~x)).getLsbD j = (x.getLsbD j != y.getLsbD j):=fun j hj=>by
   simp only [BitVec.getLsbD_or,BitVec.getLsbD_and,BitVec.getLsbD_not,hj,decide_true,Bool.true_and]
   cases x.getLsbD j <;> cases y.getLsbD j <;> rfl
  have heq:∀ j,j < i→x.getLsbD j = y.getLsbD j:=fun j hj=>by
   have:=h4 j hj;rw [d j (by omega)] at this;simpa using this
  rw [d i hi] at h3
  cases hx:x.getLsbD i <;> cases hy:y.getLsbD i
  ·rw [hx,hy] at h3;cases h3
  ·rw [(lessS_iff x y).2 ⟨i,hi,hx,hy,heq⟩] at h1;cases h1
  ·rw [(lessS_iff y x).2 ⟨i,hi,hy,hx,fun j hj=>(heq j hj).symm⟩] at h2;cases h2
  ·rw [hx,hy] at h3;cases h3
theorem lessS_ntr (x y z:VSet) (h1:lessS x y = false) (h2:lessS y z = false):lessS x z = false:=by
 cases h:lessS x z
 ·rfl
 ·exfalso
  cases h3:lessS y x
  ·rw [lessS_tot x y h1 h3,h2] at h;cases h
  ·rw [lessS_tr y x z h3 h] at h2;cases h2
end Go.Proofs.YtmnjakejhbpkoaaGreatDoor
