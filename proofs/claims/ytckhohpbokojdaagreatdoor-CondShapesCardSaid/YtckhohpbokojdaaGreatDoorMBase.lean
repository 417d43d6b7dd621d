import Derived.Test.YtckhohpbokojdaaGreatDoorProg
import Derived.Handy
import Derived.WalkSpells
import Derived.WalkLawsBesides
import Derived.Deep.RegionHeld3
import Derived.Deep.QuietTactic
import Derived.BigQuiet
import Derived.KernelRfl
import Derived.Lib.Hide
import Derived.RangeFuncRecord
import Derived.Laws.StructEq
import Derived.Lib.ItoaNum
set_option linter.unusedSimpArgs false
set_option linter.unusedVariables false
namespace Go.Proofs.YtckhohpbokojdaaGreatDoor
open Go Go.RowKit
abbrev VSet:=BitVec 128
def lo (s:VSet):Int:=((s.setWidth 64).toNat:Int)
def hi (s:VSet):Int:=(((s >>> 64).setWidth 64).toNat:Int)
def encS (s:VSet):Value:=.agg #[.int .u64 (lo s),.int .u64 (hi s)]
theorem bits_or_bv (x y:BitVec 64):bits .or .u64 (x.toNat:Int) (y.toNat:Int) = ((x ||| y).toNat:Int):=by
 rw [bits_or_u64_nat _ _ x.isLt y.isLt,BitVec.toNat_or]
theorem bits_and_bv (x y:BitVec 64):bits .and .u64 (x.toNat:Int) (y.toNat:Int) = ((x &&& y).toNat:Int):=by
 rw [bits_and_u64_nat _ _ x.isLt y.isLt,BitVec.toNat_and]
theorem or_lo (a b:VSet):bits .or .u64 (lo a) (lo b) = lo (a ||| b):=by
 unfold lo;rw [bits_or_bv,BitVec.setWidth_or]
theorem or_hi (a b:VSet):bits .or .u64 (hi a) (hi b) = hi (a ||| b):=by
 unfold hi;rw [bits_or_bv,BitVec.ushiftRight_or_distrib,BitVec.setWidth_or]
theorem and_lo (a b:VSet):bits .and .u64 (lo a) (lo b) = lo (a &&& b):=by
 unfold lo;rw [bits_and_bv,BitVec.setWidth_and]
theorem and_hi (a b:VSet):bits .and .u64 (hi a) (hi b) = hi (a &&& b):=by
 unfold hi;rw [bits_and_bv,BitVec.ushiftRight_and_distrib,BitVec.setWidth_and]
structure Ext (w w':World):Prop where
 below:Below w.heap.size w w'
 drawn:w.drawn≤w'.drawn
theorem Ext.refl (w:World):Ext w w:=⟨Below.refl _ w,Nat.le_refl _⟩
theorem Ext.trans {a b c:World} (h:Ext a b) (k:Ext b c):Ext a c:=⟨h.below.trans (k.below.mono h.below.size),Nat.le_trans h.drawn k.drawn⟩
theorem Ext.alloc {a w:World} (h:Ext a w) (o:Obj):Ext a (w.alloc o):=⟨h.below.alloc h.below.size o,h.drawn⟩
theorem Ext.drew {a w:World} (h:Ext a w):Ext a w.drew:=⟨h.below.drew,Nat.le_succ_of_le h.drawn⟩
theorem Ext.setCell {a w:World} (h:Ext a w) {p:Addr} (hp:a.heap.size≤p.block) (u:Value):Ext a (w.setCell p u):=⟨h.below.setCell hp u,h.drawn⟩
theorem Ext.size {w w':World} (h:Ext w w'):w.heap.size≤w'.heap.size:=h.below.size
theorem Ext.cell {W w':World} (h:Ext W w') {a:Addr} {v:Value} (hc:W.cell? a = some v):w'.cell? a = some v :=
 (h.below.cell (World.block_lt_of_cell? W _ hc)).trans hc
theorem wp_region_below {P:Program} {l:List Oper} {id:Nat} {Q:Exit→Act→World→Prop} {a:Act} {w:World} (hm:P.follows .mixedOrders = true) (hB:Region.lexB .any l.toArray = true)
  (h:wpQuiet P l.toArray (Ext w) (fun a'=>∀ w',Ext w w'→Q .normal a' w') l a):(Code.region id l.toArray true).wp P Q a w :=
 wp_region_quiet (C:=Ext w) hm hB (Ext.refl w).drew (by simpa using h)
def firstS (s:VSet):Nat:=match (List.range 128).find? (fun i=>s.getLsbD i) with | some i=>i+1 | none=>0
def hasS (s:VSet) (v:Int):Bool:=decide (1≤v) && decide (v≤128) && s.getLsbD (v - 1).toNat
def lessS (a b:VSet):Bool:=let o:=firstS ((a &&& ~~~b) ||| (b &&& ~~~a));decide (0 < o) && !hasS a o
def withS (s:VSet) (v:Int):VSet:=if 1≤v∧v≤128 then s ||| BitVec.twoPow 128 (v - 1).toNat else s
def ofS (l:List Int):VSet:=l.foldl withS 0
def SlI (w:World) (v:Value) (l:List Int):Prop :=
 ∃ ba c,v = .slice ba l.length c∧((c = c∧l = []∧c = c)∨∃ b o,ba = some ⟨b,o,none⟩∧∀ j (hj:j < l.length),w.cell? ⟨b,o+j,none⟩ = some (.int .i64 l[j]))
theorem SlI.ext {w w':World} {v:Value} {l:List Int} (h:SlI w v l) (hb:Below w.heap.size w w'):SlI w' v l:=by
 obtain ⟨ba,c,rfl,h⟩:=h
 refine ⟨ba,c,rfl,h.imp id ?_⟩
 rintro ⟨b,o,rfl,hc⟩
 exact ⟨b,o,rfl,fun j hj=>(hb.cell (World.block_lt_of_cell? w _ (hc j hj))).trans (hc j hj)⟩
theorem heap_set {w:World} {b:Nat} {cs:Array Value} {t:TypeId} {fz:Nat × Nat} (h:w.heap[b]? = some (.cells cs t fz)) (o:Nat) (v:Value):(w.setCell ⟨b,o,none⟩ v).heap[b]? = some (.cells (cs.setIfInBounds o v) t fz):=by
 simp only [World.setCell,Array.getElem?_modify,if_true,h]
 rfl
theorem heap_set2 {w:World} {b:Nat} {x y:Value} {t:TypeId} {fz:Nat × Nat} (h:w.heap[b]? = some (.cells #[x,y] t fz)) (u v:Value):((w.setCell ⟨b,0,none⟩ u).setCell ⟨b,1,none⟩ v).heap[b]? = some (.cells #[u,v] t fz) :=
 heap_set (heap_set h 0 u) 1 v
end Go.Proofs.YtckhohpbokojdaaGreatDoor
namespace Go.Proofs.YtckhohpbokojdaaGreatDoor
open Go Go.RowKit
set_option linter.unusedSectionVars false
section
variable {P:Program} {α β:Type} [DecidableEq α]
def mkE (enc:α→Value) (e:α × Value × Nat):MapEntry:={ key:=enc e.1,val:=e.2.1,born:=e.2.2 }
def findL (a:α):List (α × Value × Nat)→Nat→Option (Nat × Value)
 | [],_=>none
 | e :: r,i=>if a = e.1 then some (i,e.2.1) else findL a r (i+1)
structure KeyLaw (P:Program) (K:TypeId) (enc:α→Value):Prop where
 check:∀ e a w,(Instr.checkKey e 10000 K (enc a)).run P w = .ok () w
 find:∀ a L w,(Instr.findKey K (enc a) (L.map (mkE enc))).run P w = .ok (findL a L 0) w
 same:∀ a,Instr.sameBits 10000 (enc a) (enc a) = true
def Good (L:List (α × Value × Nat)) (clock:Nat):Prop:=(∀ e∈L,e.2.2 < clock)∧(L.map (fun e=>e.2.2)).Nodup
theorem Good.push {L:List (α × Value × Nat)} {clock:Nat} (h:Good L clock) (a:α) (v:Value):Good (L++[(a,v,clock)]) (clock+1):=by
 refine ⟨fun e he=>?_,?_⟩
 ·rcases List.mem_append.1 he with he | he
  ·have:=h.1 e he;omega
  ·simp only [List.mem_singleton] at he;subst he;exact Nat.lt_succ_self _
 ·rw [List.map_append]
  refine List.nodup_append.2 ⟨h.2,by simp,fun a ha c hc e=>?_⟩
  simp only [List.map_cons,List.map_nil,List.mem_singleton] at hc
  obtain ⟨x,hx,rfl⟩:=List.mem_map.1 ha
  have:=h.1 x hx
  omega
theorem stamps_modify (f:α × Value × Nat→α × Value × Nat) (hf:∀ e,(f e).2.2 = e.2.2):∀ (L:List (α × Value × Nat)) (i:Nat),(L.modify i f).map (fun e=>e.2.2) = L.map (fun e=>e.2.2)
 | [],i=>by cases i <;> rfl
 | e :: r,0=>by simp [hf]
 | e :: r,i+1=>by simp [List.modify_succ_cons,stamps_modify f hf r i]
theorem mem_of_stamp {L M:List (α × Value × Nat)} (h:L.map (fun e=>e.2.2) = M.map (fun e=>e.2.2)) {clock:Nat} (hg:Good M clock):Good L clock:=by
 refine ⟨fun e he=>?_,h ▸ hg.2⟩
 have:e.2.2∈M.map (fun e=>e.2.2):=h ▸ List.mem_map_of_mem he
 obtain ⟨x,hx,e1⟩:=List.mem_map.1 this
 have:=hg.1 x hx
 omega
theorem Good.mod {L:List (α × Value × Nat)} {clock:Nat} (h:Good L clock) (f:α × Value × Nat→α × Value × Nat) (hf:∀ e,(f e).2.2 = e.2.2) (i:Nat):Good (L.modify i f) clock :=
 mem_of_stamp (stamps_modify f hf L i) h
def MapAt (enc:α→Value) (encV:β→Value) (w:World) (b:Nat) (m:α→Option β):Prop :=
 ∃ L clock,w.heap[b]? = some (.map (L.map (mkE enc)).toArray clock)∧(∀ a,(findL a L 0).map (·.2) = (m a).map encV)∧Good L clock
theorem findL_shift (a:α) (L:List (α × Value × Nat)):∀ i,findL a L i = (findL a L 0).map (fun p=>(p.1+i,p.2)):=by
 induction L with
 | nil=>intro i;rfl
 | cons e r ih =>
   intro i
   unfold findL
   split
   ·simp
   ·rw [ih (i+1),ih (0+1),Option.map_map]
    congr 1
    funext p
    simp;omega
theorem findL_append (a b:α) (v:Value) (n:Nat) (L:List (α × Value × Nat)):(findL a (L++[(b,v,n)]) 0).map (·.2) = match (findL a L 0).map (·.2) with
  | some x=>some x
  | none=>if a = b then some v else none:=by
 induction L with
 | nil=>by_cases h:a = b <;> simp [findL,h]
 | cons e r ih =>
   simp only [List.cons_append,findL]
   by_cases h:a = e.1
   ·simp [h]
   ·simp only [h,if_false]
    rw [findL_shift a _ 1,findL_shift a r 1,Option.map_map,Option.map_map]
    exact ih
theorem findL_get (a:α) (L:List (α × Value × Nat)):∀ i v,findL a L 0 = some (i,v)→∃ n,L[i]? = some (a,v,n):=by
 induction L with
 | nil=>intro i v h;simp [findL] at h
 | cons e r ih =>
   intro i v h
   unfold findL at h
   split at h
   ·rename_i he
    simp at h
    obtain ⟨rfl,rfl⟩:=h
    exact ⟨e.2.2,by subst he;rfl⟩
   ·rw [findL_shift] at h
    simp at h
    obtain ⟨j,hj,rfl⟩:=h
    obtain ⟨n,hn⟩:=ih j v hj
    exact ⟨n,by simpa using hn⟩
theorem findL_modify (a b:α) (v:Value) (L:List (α × Value × Nat)):∀ i u,findL b L 0 = some (i,u) →
  (findL a (L.modify i fun e=>(b,v,e.2.2)) 0).map (·.2) = if a = b then some v else (findL a L 0).map (·.2):=by
 induction L with
 | nil=>intro i u h;simp [findL] at h
 | cons e r ih =>
   intro i u h
   unfold findL at h
   split at h
   ·rename_i he
    simp at h
    obtain ⟨rfl,rfl⟩:=h
    simp only [List.modify_zero_cons,findL]
    by_cases hab:a = b
    ·simp [hab]
    ·simp [hab,show a≠e.1 from he ▸ hab]
   ·rename_i he
    rw [findL_shift] at h
    simp at h
    obtain ⟨j,hj,rfl⟩:=h
    simp only [List.modify_succ_cons,findL]
    by_cases hae:a = e.1
    ·have:a≠b:=fun h=>he (h ▸ hae)
     simp [hae,show e.1≠b from fun h=>he h.symm]
    ·simp only [hae,if_false]
     rw [findL_shift a _ 1,findL_shift a r 1,Option.map_map,Option.map_map]
     exact ih j u hj
theorem MapAt.look {K E T:TypeId} {enc:α→Value} {encV:β→Value} {w:World} {b:Nat} {m:α→Option β} (h:MapAt enc encV w b m) (law:KeyLaw P K enc)
  (hT:P.underlying T = some (.map K E)) (z:Value) (hz:∀ w,(zeroValue E).run P w = .ok z w) (a:α) :
  (Instr.lookup T (.map (some b)) (enc a) true).run P w = .ok (.tuple #[((m a).map encV).getD z,.bool (m a).isSome]) w:=by
 obtain ⟨L,clock,hb,hm,_⟩:=h
 have hf:=hm a
 have h2:=law.find a L w
 cases hl:findL a L 0 with
 | none =>
   rw [hl] at hf h2
   have hma:m a = none:=by simpa using hf.symm
   simp [Instr.lookup,run_underlying hT,Sem.run_bind,getObj,Sem.run,hb,Result.andThen,law.check,h2,hz,hma]
 | some p =>
   rw [hl] at hf h2
   obtain ⟨v,hv,hpv⟩:∃ v,m a = some v∧encV v = p.2:=by
    cases hma:m a with
    | none=>rw [hma] at hf;simp at hf
    | some v=>rw [hma] at hf;exact ⟨v,rfl,by simpa using hf.symm⟩
   simp [Instr.lookup,run_underlying hT,Sem.run_bind,getObj,Sem.run,hb,Result.andThen,law.check,h2,hv,hpv]
def upd (m:α→Option β) (a:α) (v:β):α→Option β:=fun x=>if x = a then some v else m x
def putMap (K:TypeId) (P:Program) (w:World) (b:Nat) (k v:Value):World :=
 match w.heap[b]? with
 | some (.map es clock) =>
   match (Instr.findKey K k es.toList).run P w with
   | .ok (some (i,_)) _=>w.putObj b (.map (es.modify i fun e=>{ e with key:=k,val:=v }) clock)
   | _=>w.putObj b (.map (es.push { key:=k,val:=v,born:=clock }) (clock+1))
 | _=>w
theorem putMap_other (K:TypeId) (w:World) (b:Nat) (k v:Value) (j:Nat) (h:j≠b):(putMap K P w b k v).heap[j]? = w.heap[j]?:=by
 unfold putMap
 split
 ·split <;> exact World.putObj_heap_other h
 ·rfl
theorem putMap_size (K:TypeId) (w:World) (b:Nat) (k v:Value):(putMap K P w b k v).heap.size = w.heap.size:=by
 unfold putMap
 split
 ·split <;> simp
 ·rfl
theorem putMap_rest (K:TypeId) (w:World) (b:Nat) (k v:Value):(putMap K P w b k v).os = w.os∧(putMap K P w b k v).tape = w.tape∧(putMap K P w b k v).output = w.output∧(putMap K P w b k v).drawn = w.drawn:=by
 unfold putMap
 split
 ·split <;> exact ⟨rfl,rfl,rfl,rfl⟩
 ·exact ⟨rfl,rfl,rfl,rfl⟩
theorem MapAt.put {K E T:TypeId} {enc:α→Value} {encV:β→Value} {w:World} {b:Nat} {m:α→Option β} (h:MapAt enc encV w b m) (law:KeyLaw P K enc)
  (hT:P.underlying T = some (.map K E)) (a:α) (v:β) :
  (Instr.mapUpdate T (.map (some b)) (enc a) (encV v)).run P w = .ok () (putMap K P w b (enc a) (encV v))∧MapAt enc encV (putMap K P w b (enc a) (encV v)) b (upd m a v):=by
 obtain ⟨L,clock,hb,hm,hg⟩:=h
 have h2:=law.find a L w
 have hlt:=(Array.getElem?_eq_some_iff.1 hb).1
 cases hl:findL a L 0 with
 | none =>
   rw [hl] at h2
   have hp:putMap K P w b (enc a) (encV v) = w.putObj b (.map ((L++[(a,encV v,clock)]).map (mkE enc)).toArray (clock+1)):=by
    simp [putMap,hb,h2,mkE]
   refine ⟨?_,L++[(a,encV v,clock)],clock+1,by rw [hp];exact World.putObj_heap_same hlt,fun x=>?_,hg.push a (encV v)⟩
   ·rw [hp]
    simp [Instr.mapUpdate,run_underlying hT,Sem.run_bind,getObj,setObj,Sem.run,hb,Result.andThen,law.check,h2,World.putObj,mkE]
   ·rw [findL_append]
    have:=hm x
    by_cases hx:x = a
    ·subst hx
     simp [hl,upd]
    ·rw [this]
     cases hmx:m x <;> simp [upd,hx,hmx]
 | some p =>
   obtain ⟨i,u⟩:=p
   rw [hl] at h2
   obtain ⟨n,hn⟩:=findL_get a L i u hl
   have hmod:((L.map (mkE enc)).toArray.modify i fun e=>{ e with key:=enc a,val:=encV v }) = ((L.modify i fun e=>(a,encV v,e.2.2)).map (mkE enc)).toArray:=by
    apply Array.ext_getElem?
    intro j
    simp only [Array.getElem?_modify,List.getElem?_toArray,List.getElem?_map,List.getElem?_modify]
    by_cases hj:i = j
    ·subst hj;simp [hn,mkE]
    ·simp [hj]
   have hp:putMap K P w b (enc a) (encV v) = w.putObj b (.map ((L.modify i fun e=>(a,encV v,e.2.2)).map (mkE enc)).toArray clock):=by
    simp [putMap,hb,h2,hmod]
   refine ⟨?_,_,clock,by rw [hp];exact World.putObj_heap_same hlt,fun x=>?_,hg.mod (fun e=>(a,encV v,e.2.2)) (fun _=>rfl) i⟩
   ·rw [hp,←hmod]
    simp [Instr.mapUpdate,run_underlying hT,Sem.run_bind,getObj,setObj,Sem.run,hb,Result.andThen,law.check,h2,World.putObj,hn,Instr.keyThatStays,law.same,mkE]
   ·rw [findL_modify x a (encV v) L i u hl]
    by_cases hx:x = a
    ·simp [upd,hx]
    ·simp [upd,hx,hm x]
end
theorem intLaw {P:Program} {α:Type} [DecidableEq α] {K:TypeId} (hK:P.underlying K = some (.int .i64)) (f:α→Int) (hf:∀ a b,f a = f b→a = b):KeyLaw P K (fun n:α=>Value.int .i64 (f n)) where
 check e a w:=by rw [Instr.checkKey];simp [run_underlying hK]
 same a:=by rw [Instr.sameBits];simp
 find a L w:=by
  have:∀ L i,Instr.findNow (.int .i64) (.int .i64 (f a)) (L.map (mkE fun n:α=>Value.int .i64 (f n))) i = some (findL a L i):=by
   intro L
   induction L with
   | nil=>intro i;rfl
   | cons x r ih =>
     intro i
     simp only [List.map_cons,Instr.findNow,mkE,Instr.sameNow,findL,if_true]
     by_cases h:a = x.1
     ·simp [h]
     ·have:(f a == f x.1) = false:=by simp;exact fun e=>h (hf _ _ e)
      simp only [this,h,if_false]
      exact ih (i+1)
  simp [Instr.findKey,run_underlying hK,this]
theorem strLaw {P:Program} {α:Type} [DecidableEq α] {K:TypeId} (hK:P.underlying K = some .string) (f:α→List UInt8) (hf:∀ a b,f a = f b→a = b):KeyLaw P K (fun n:α=>Value.string ⟨(f n).toArray⟩) where
 check e a w:=by rw [Instr.checkKey];simp [run_underlying hK]
 same a:=by
  rw [Instr.sameBits]
  show ((f a).toArray == (f a).toArray) = true
  simp
 find a L w:=by
  have:∀ L i,Instr.findNow .string (.string ⟨(f a).toArray⟩) (L.map (mkE fun n:α=>Value.string ⟨(f n).toArray⟩)) i = some (findL a L i):=by
   intro L
   induction L with
   | nil=>intro i;rfl
   | cons x r ih =>
     intro i
     simp only [List.map_cons,Instr.findNow,mkE,Instr.sameNow,findL]
     by_cases h:a = x.1
     ·have:((⟨(f a).toArray⟩:ByteArray) == ⟨(f x.1).toArray⟩) = true:=by
       rw [h]
       show ((f x.1).toArray == (f x.1).toArray) = true
       simp
      rw [if_pos h,this]
     ·have:((⟨(f a).toArray⟩:ByteArray) == ⟨(f x.1).toArray⟩) = false:=by
       show ((f a).toArray == (f x.1).toArray) = false
       rw [beq_eq_false_iff_ne]
       intro e
       exact h (hf _ _ (by simpa using e))
      simp only [this,h,if_false]
      exact ih (i+1)
  simp [Instr.findKey,run_underlying hK,this]
end Go.Proofs.YtckhohpbokojdaaGreatDoor
namespace Go.Proofs.YtckhohpbokojdaaGreatDoor
open Go Go.RowKit
structure VN where
 left:Int
 right:Int
 var:Int
 deriving DecidableEq,Inhabited
structure SNode where
 pl:Int
 lit:Int
 el:List (Nat × Nat)
 le:VSet
 deriving DecidableEq,Inhabited
abbrev Key:=Int × Int × List (Nat × Nat)
structure St where
 tree:List VN
 nodes:List SNode
 uniq:List (Key × Nat)
 ands:List ((Nat × Nat) × Nat)
 nots:List (Nat × Nat)
end Go.Proofs.YtckhohpbokojdaaGreatDoor
namespace Go.Proofs.YtckhohpbokojdaaGreatDoor
open Go Go.RowKit
def decVal (l:List UInt8):Nat:=l.foldl (fun a d=>10 * a+(d.toNat - 48)) 0
theorem decVal_digits (n:Nat):decVal (Lib.decDigits n) = n:=by
 induction n using Nat.strongRecOn with
 | _ n ih =>
   rw [Lib.decDigits]
   split
   ·rename_i h
    simp [decVal]
    omega
   ·rename_i h
    have:=ih (n / 10) (by omega)
    unfold decVal at *
    rw [List.foldl_append,this]
    simp
    omega
theorem dec_range (n:Nat):∀ d∈Lib.decDigits n,48≤d.toNat∧d.toNat≤57:=by
 induction n using Nat.strongRecOn with
 | _ n ih =>
   rw [Lib.decDigits]
   split
   ·rename_i h
    intro d hd
    simp at hd
    subst hd
    simp
    omega
   ·rename_i h
    intro d hd
    rw [List.mem_append] at hd
    rcases hd with hd | hd
    ·exact ih (n / 10) (by omega) d hd
    ·simp at hd
     subst hd
     simp
     omega
theorem itoa_no32 (i:Int):(32:UInt8)∉Lib.itoa i:=by
 intro h
 unfold Lib.itoa at h
 split at h
 ·rw [List.mem_cons] at h
  rcases h with h | h
  ·simp at h
  ·have:=(dec_range _ _ h).1;simp at this
 ·have:=(dec_range _ _ h).1;simp at this
theorem itoa_inj (i j:Int) (h:Lib.itoa i = Lib.itoa j):i = j:=by
 unfold Lib.itoa at h
 have key:∀ a b:Nat,Lib.decDigits a = Lib.decDigits b→a = b:=fun a b e=>by
  have:=congrArg decVal e;rwa [decVal_digits,decVal_digits] at this
 have nodash:∀ (a:Nat) (l:List UInt8),Lib.decDigits a = 45 :: l→False:=fun a l e=>by
  have:=(dec_range a 45 (by rw [e];simp)).1
  simp at this
 split at h <;> split at h
 ·have:=key _ _ (List.cons.inj h).2;omega
 ·exact (nodash _ _ h.symm).elim
 ·exact (nodash _ _ h).elim
 ·have:=key _ _ h;omega
theorem split32 (x y x' y':List UInt8) (hx:(32:UInt8)∉x) (hx':(32:UInt8)∉x') (h:x++32 :: y = x'++32 :: y'):x = x'∧y = y':=by
 induction x generalizing x' with
 | nil =>
   cases x' with
   | nil=>simpa using h
   | cons a r =>
     simp at h
     exact absurd (by simp [h.1]) hx'
 | cons a r ih =>
   cases x' with
   | nil =>
     simp at h
     exact absurd (by simp [h.1]) hx
   | cons b r' =>
     simp at h
     obtain ⟨rfl,h⟩:=h
     obtain ⟨h1,h2⟩:=ih r' (fun e=>hx (List.mem_cons_of_mem _ e)) (fun e=>hx' (List.mem_cons_of_mem _ e)) h
     exact ⟨by rw [h1],h2⟩
end Go.Proofs.YtckhohpbokojdaaGreatDoor
namespace Go.Proofs.YtckhohpbokojdaaGreatDoor
open Go Go.RowKit
def smallN (n:SNode):Prop:=-1≤n.pl∧n.pl≤1048576∧-1048576≤n.lit∧n.lit≤1048576∧n.el.length≤1048576∧∀ p∈n.el,p.1≤1048576∧p.2≤1048576
instance (n:SNode):Decidable (smallN n):=by unfold smallN;infer_instance
def leOf (ns:List SNode) (i:Nat):VSet:=match ns[i]? with
 | some n=>n.le
 | none=>0
def lessP (ns:List SNode) (p q:Nat × Nat):Bool:=lessS (leOf ns p.1) (leOf ns q.1)
def insF {α:Type} (lt:α→α→Bool) (p:α):List α→List α
 | []=>[p]
 | q :: r=>if lt p q then p :: q :: r else q :: insF lt p r
def sortF {α:Type} (lt:α→α→Bool):List α→List α
 | []=>[]
 | p :: r=>insF lt p (sortF lt r)
def leastStep (ns:List SNode) (a:Bool × VSet) (p:Nat × Nat):Bool × VSet :=
 if p.2 = 0 then a else
  let x:=leOf ns p.1 ||| leOf ns p.2
  if a.1 || lessS x a.2 then (false,x) else a
def leastF (ns:List SNode) (l:List (Nat × Nat)):Bool × VSet:=l.foldl (leastStep ns) (true,0)
end Go.Proofs.YtckhohpbokojdaaGreatDoor
