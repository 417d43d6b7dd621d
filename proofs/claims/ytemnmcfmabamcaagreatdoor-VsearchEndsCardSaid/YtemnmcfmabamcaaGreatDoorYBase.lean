import Derived.Test.YtemnmcfmabamcaaGreatDoorProg
import Derived.Handy
import Derived.WalkSpells
import Derived.WalkLawsBesides
import Derived.Deep.RegionHeld3
import Derived.BigQuiet
import Derived.Lib.Hide
import Derived.RangeFuncRecord
import Derived.Lib.ItoaNum
set_option linter.unusedSimpArgs false
set_option linter.unusedVariables false
set_option maxRecDepth 100000
namespace Go.Proofs.YtemnmcfmabamcaaGreatDoor
open Go Go.RowKit
theorem Zrr{p:Prop}(h:p):Hid p:=Lib.hid h
theorem Zrs{α:Type}(l:List α)(i:Nat)(a:α):l.toArray.setIfInBounds i a=(l.set i a).toArray:=List.setIfInBounds_toArray ..
theorem Zrt{α:Type}(a b:α)(l:List α):(a::l).set 0 b=b::l:=rfl
theorem Zru{α:Type}(a b:α)(l:List α)(i:Nat):(a::l).set (i+1) b=a::l.set i b:=rfl
theorem Zrv{α:Type}{a:Array α}{i:Nat}{x:α}(h:a[i]? = some x):∃h:i<a.size,a[i]=x:=Array.getElem?_eq_some_iff.1 h
theorem Zrw{α:Type}{a:List α}{i:Nat}{x:α}(h:a[i]? = some x):∃h:i<a.length,a[i]=x:=List.getElem?_eq_some_iff.1 h
theorem Zrx(w:World)(a:Addr){v:Value}(h:w.cell? a = some v):a.block<w.heap.size:=World.block_lt_of_cell? w a h
theorem Zry{α:Type}{l:List α}{i:Nat}(h:i<l.length):l[i]? = some l[i]:=List.getElem?_eq_getElem h
theorem Zrz(w:World)(o:Obj):(w.alloc o).heap[w.heap.size]? = some o:=heap_alloc_new w o
theorem ZrA{α:Type}(y:α){a:α}{l:List α}(h:a∈l):a∈y::l:=List.mem_cons_of_mem y h
theorem ZrB{α:Type}{a b:List α}:(a++b).length = a.length+b.length:=List.length_append
theorem ZrC{a b c:Nat}(h:a≤b)(k:b≤c):a≤c:=Nat.le_trans h k
theorem ZrD{a b c:Nat}(h:a<b)(k:b≤c):a<c:=Nat.lt_of_lt_of_le h k
theorem ZrE(B:Nat)(w:World):Below B w w:=Below.refl B w
theorem ZrF{w v:World}{a:Addr}(h:v.heap[a.block]? = w.heap[a.block]?):v.cell? a = w.cell? a:=World.cell?_of_block h
theorem ZrG{α:Type}{l:List α}{i:Nat}{a:α}:l.getD i a = l[i]?.getD a:=List.getD_eq_getElem?_getD
theorem ZrH{p:Prop}[Decidable p](h:¬p):decide p = false:=decide_eq_false h
theorem ZrI{p:Prop}[Decidable p](h:p):decide p = true:=decide_eq_true h
theorem ZrJ{α:Type}(a b:α):(some a = some b) = (a = b):=Option.some.injEq a b
theorem ZrK(a b:Bool):((a&&b) = true) = (a = true∧b = true):=Bool.and_eq_true a b
theorem ZrL{α:Type}{a:α}{l:List α}:a∈a::l:=List.mem_cons_self ..
theorem ZrM{α:Type}{l:List α}{n:Nat}(h:n<l.length):l[n]∈l:=List.getElem_mem h
theorem ZrN{p:Prop}[Decidable p]:(decide p = true) = p:=decide_eq_true_eq
theorem ZrO{p:Prop}(h:¬p→False):p:=Classical.byContradiction h
theorem ZrP{α:Type}{a:α}{l:List α}:(a::l).length = l.length+1:=List.length_cons
theorem ZrQ(n:Nat):n≤n:=Nat.le_refl n
abbrev Zax:=BitVec 128
def lo (s:Zax):Int:=((s.setWidth 64).toNat:Int)
def hi (s:Zax):Int:=(((s >>> 64).setWidth 64).toNat:Int)
def ZbU (s:Zax):Value:=.agg #[.int .u64 (lo s),.int .u64 (hi s)]
theorem Zdj(x y:BitVec 64):bits .or .u64 (x.toNat:Int) (y.toNat:Int)=((x ||| y).toNat:Int):=by
 rw[bits_or_u64_nat _ _ x.isLt y.isLt,BitVec.toNat_or]
theorem Ziv(x y:BitVec 64):bits .and .u64 (x.toNat:Int) (y.toNat:Int)=((x &&& y).toNat:Int):=by
 rw[bits_and_u64_nat _ _ x.isLt y.isLt,BitVec.toNat_and]
theorem ZdE(x y:BitVec 64):bits .andNot .u64 (x.toNat:Int) (y.toNat:Int)=((x &&& ~~~y).toNat:Int):=by
 show IntKind.u64.wrap ((BitVec.ofInt 64 (x.toNat:Int) &&& ~~~ BitVec.ofInt 64 (y.toNat:Int)).toNat:Int)=_
 have e:∀z:BitVec 64,BitVec.ofInt 64 (z.toNat:Int)=z:=fun z=>by rw[BitVec.ofInt_natCast];simp
 rw[e,e,IntKind.wrap_u64];have:=(x &&& ~~~y).isLt;omega
theorem Zrh(a b:Zax):bits .or .u64 (lo a) (lo b)=lo (a ||| b):=by
 unfold lo;rw[Zdj,BitVec.setWidth_or]
theorem Zrg(a b:Zax):bits .or .u64 (hi a) (hi b)=hi (a ||| b):=by
 unfold hi;rw[Zdj,BitVec.ushiftRight_or_distrib,BitVec.setWidth_or]
theorem Zlu(a b:Zax):bits .andNot .u64 (lo a) (lo b)=lo (a &&& ~~~b):=by
 unfold lo;rw[ZdE];congr 2;ext i h;simp
theorem Zlt(a b:Zax):bits .andNot .u64 (hi a) (hi b)=hi (a &&& ~~~b):=by
 unfold hi;rw[ZdE];congr 2;ext i h;simp[show 64+i<128 from by omega]
structure Ext (w w':World):Prop where
 below:Below w.heap.size w w'
 drawn:w.drawn≤w'.drawn
theorem Ext.refl(w:World):Ext w w:=⟨ZrE _ w,ZrQ _⟩
theorem Ext.trans{a b c:World}(h:Ext a b)(k:Ext b c):Ext a c:=⟨h.below.trans (k.below.mono h.below.size),ZrC h.drawn k.drawn⟩
theorem Ext.alloc{a w:World}(h:Ext a w)(o:Obj):Ext a (w.alloc o):=⟨h.below.alloc h.below.size o,h.drawn⟩
theorem Ext.drew{a w:World}(h:Ext a w):Ext a w.drew:=⟨h.below.drew,Nat.le_succ_of_le h.drawn⟩
theorem Ext.setCell{a w:World}(h:Ext a w){p:Addr}(hp:a.heap.size≤p.block)(u:Value):Ext a (w.setCell p u):=⟨h.below.setCell hp u,h.drawn⟩
theorem Ext.size{w w':World}(h:Ext w w'):w.heap.size≤w'.heap.size:=h.below.size
theorem Ext.cell{W w':World}(h:Ext W w'){a:Addr}{v:Value}(hc:W.cell? a=some v):w'.cell? a=some v :=
 (h.below.cell (Zrx W _ hc)).trans hc
theorem Zaf{P:Program}{l:List Oper}{id:Nat}{Q:Exit→Act→World→Prop}{a:Act}{w:World}(hm:P.follows .mixedOrders=true)(hB:Region.lexB .any l.toArray=true)
  (h:wpQuiet P l.toArray (Ext w) (fun a'=>∀w',Ext w w'→Q .normal a' w') l a):(Code.region id l.toArray true).wp P Q a w :=
 wp_region_quiet (C:=Ext w) hm hB (Ext.refl w).drew (by simpa using h)
def Zb2 (s:Zax):Nat:=match (List.range 128).find? (fun i=>s.getLsbD i) with|some i=>i+1|none=>0
def ZaZ (s:Zax)(v:Int):Bool:=decide (1≤v) && decide (v≤128) && s.getLsbD (v - 1).toNat
def ZaX (a b:Zax):Bool:=let o:=Zb2 ((a &&& ~~~b) ||| (b &&& ~~~a));decide (0<o) && !ZaZ a o
theorem ZlR(s:Zax):Zb2 s≤128:=by
 unfold Zb2
 split
 ·rename_i i h
  have:=List.mem_of_find?_eq_some h;simp at this;omega
 ·omega
def Zb8 (s:Zax)(v:Int):Zax:=if 1≤v∧v≤128 then s ||| BitVec.twoPow 128 (v - 1).toNat else s
def ofS (l:List Int):Zax:=l.foldl Zb8 0
def SlI (w:World)(v:Value)(l:List Int):Prop :=
 ∃ba c,v= .slice ba l.length c∧((ba=none∧l=[]∧c=0)∨∃b o,ba=some ⟨b,o,none⟩∧∀j (hj:j<l.length),w.cell? ⟨b,o+j,none⟩=some (.int .i64 l[j]))
theorem Zaj{w:World}{b:Nat}{cs:Array Value}{t:TypeId}{fz:Nat × Nat}(h:w.heap[b]? =some (.cells cs t fz))(o:Nat)(v:Value):(w.setCell ⟨b,o,none⟩ v).heap[b]? =some (.cells (cs.setIfInBounds o v) t fz):=by
 simp only[World.setCell,Array.getElem?_modify,if_true,h]
 rfl
theorem Zbn{w:World}{b:Nat}{x y:Value}{t:TypeId}{fz:Nat × Nat}(h:w.heap[b]? =some (.cells #[x,y] t fz))(u v:Value):((w.setCell ⟨b,0,none⟩ u).setCell ⟨b,1,none⟩ v).heap[b]? =some (.cells #[u,v] t fz) :=
 Zaj (Zaj h 0 u) 1 v
end Go.Proofs.YtemnmcfmabamcaaGreatDoor
namespace Go.Proofs.YtemnmcfmabamcaaGreatDoor
open Go Go.RowKit
set_option linter.unusedSectionVars false
section
variable {P:Program}{α β:Type} [DecidableEq α]
def mkE (enc:α→Value)(e:α × Value × Nat):MapEntry:={ key:=enc e.1,val:=e.2.1,born:=e.2.2 }
def ZaK (a:α):List (α × Value × Nat)→Nat→Option (Nat × Value)
 | [],_=>none
 | e :: r,i=>if a=e.1 then some (i,e.2.1) else ZaK a r (i+1)
structure ZcY (P:Program) (K:TypeId) (enc:α→Value):Prop where
 check:∀e a w,(Instr.checkKey e 10000 K (enc a)).run P w= .ok () w
 find:∀a L w,(Instr.findKey K (enc a) (L.map (mkE enc))).run P w= .ok (ZaK a L 0) w
 same:∀a,Instr.sameBits 10000 (enc a) (enc a)=true
def Znr (L:List (α × Value × Nat))(clock:Nat):Prop:=(∀e∈L,e.2.2<clock)∧(L.map (fun e=>e.2.2)).Nodup
theorem Znr.push{L:List (α × Value × Nat)}{clock:Nat}(h:Znr L clock)(a:α)(v:Value):Znr (L++[(a,v,clock)]) (clock+1):=by
 refine⟨fun e he=>?_,?_⟩
 ·rcases List.mem_append.1 he with he|he
  ·have:=h.1 e he;omega
  ·simp only[List.mem_singleton]at he;subst he;exact Nat.lt_succ_self _
 ·rw[List.map_append]
  refine List.nodup_append.2 ⟨h.2,by simp,fun a ha c hc e=>?_⟩;simp only[List.map_cons,List.map_nil,List.mem_singleton]at hc;obtain⟨x,hx,rfl⟩:=List.mem_map.1 ha;have:=h.1 x hx;omega
theorem Zd9(f:α × Value × Nat→α × Value × Nat)(hf:∀e,(f e).2.2=e.2.2):∀(L:List (α × Value × Nat)) (i:Nat),(L.modify i f).map (fun e=>e.2.2)=L.map (fun e=>e.2.2)
 | [],i=>by cases i <;> rfl
 | e :: r,0=>by simp[hf]
 | e :: r,i+1=>by simp[List.modify_succ_cons,Zd9 f hf r i]
theorem ZhX{L M:List (α × Value × Nat)}(h:L.map (fun e=>e.2.2)=M.map (fun e=>e.2.2)){clock:Nat}(hg:Znr M clock):Znr L clock:=by
 refine⟨fun e he=>?_,h ▸ hg.2⟩;have:e.2.2∈M.map (fun e=>e.2.2):=h ▸ List.mem_map_of_mem he;obtain⟨x,hx,e1⟩:=List.mem_map.1 this;have:=hg.1 x hx;omega
theorem Znr.mod{L:List (α × Value × Nat)}{clock:Nat}(h:Znr L clock)(f:α × Value × Nat→α × Value × Nat)(hf:∀e,(f e).2.2=e.2.2)(i:Nat):Znr (L.modify i f) clock :=
 ZhX (Zd9 f hf L i) h
def ZaI (enc:α→Value)(encV:β→Value)(w:World)(b:Nat)(m:α→Option β):Prop :=
 ∃L clock,w.heap[b]? =some (.map (L.map (mkE enc)).toArray clock)∧(∀a,(ZaK a L 0).map (·.2)=(m a).map encV)∧Znr L clock
theorem ZaQ(a:α)(L:List (α × Value × Nat)):∀i,ZaK a L i=(ZaK a L 0).map (fun p=>(p.1+i,p.2)):=by
 induction L with
 | nil=>intro i;rfl
 | cons e r ih =>
   intro i;unfold ZaK
   split
   ·simp
   ·rw[ih (i+1),ih (0+1),Option.map_map]
    congr 1
    funext p
    simp;omega
theorem ZeI(a b:α)(v:Value)(n:Nat)(L:List (α × Value × Nat)):(ZaK a (L++[(b,v,n)]) 0).map (·.2)=match (ZaK a L 0).map (·.2) with
  | some x=>some x
  | none=>if a=b then some v else none:=by
 induction L with
 | nil=>by_cases h:a=b <;> simp[ZaK,h]
 | cons e r ih =>
   simp only[List.cons_append,ZaK]
   by_cases h:a=e.1
   ·simp[h]
   ·simp only[h,if_false]
    rw[ZaQ a _ 1,ZaQ a r 1,Option.map_map,Option.map_map];exact ih
theorem Zfq(a:α)(L:List (α × Value × Nat)):∀i v,ZaK a L 0=some (i,v)→∃n,L[i]? =some (a,v,n):=by
 induction L with
 | nil=>intro i v h;simp[ZaK]at h
 | cons e r ih =>
   intro i v h;unfold ZaK at h
   split at h
   ·rename_i he
    simp at h;obtain⟨rfl,rfl⟩:=h;exact⟨e.2.2,by subst he;rfl⟩
   ·rw[ZaQ]at h
    simp at h;obtain⟨j,hj,rfl⟩:=h;obtain⟨n,hn⟩:=ih j v hj;exact⟨n,by simpa using hn⟩
theorem ZeJ(a b:α)(v:Value)(L:List (α × Value × Nat)):∀i u,ZaK b L 0=some (i,u) →
  (ZaK a (L.modify i fun e=>(b,v,e.2.2)) 0).map (·.2)=if a=b then some v else (ZaK a L 0).map (·.2):=by
 induction L with
 | nil=>intro i u h;simp[ZaK]at h
 | cons e r ih =>
   intro i u h;unfold ZaK at h
   split at h
   ·rename_i he
    simp at h;obtain⟨rfl,rfl⟩:=h;simp only[List.modify_zero_cons,ZaK]
    by_cases bT:a=b
    ·simp[bT]
    ·simp[bT,show a≠e.1 from he ▸ bT]
   ·rename_i he
    rw[ZaQ]at h;simp at h;obtain⟨j,hj,rfl⟩:=h;simp only[List.modify_succ_cons,ZaK]
    by_cases hae:a=e.1
    ·have:a≠b:=fun h=>he (h ▸ hae)
     simp[hae,show e.1≠b from fun h=>he h.symm]
    ·simp only[hae,if_false]
     rw[ZaQ a _ 1,ZaQ a r 1,Option.map_map,Option.map_map];exact ih j u hj
theorem ZaI.look{K E T:TypeId}{enc:α→Value}{encV:β→Value}{w:World}{b:Nat}{m:α→Option β}(h:ZaI enc encV w b m)(law:ZcY P K enc)
  (hT:P.underlying T=some (.map K E)) (z:Value) (hz:∀w,(zeroValue E).run P w= .ok z w) (a:α) :
  (Instr.lookup T (.map (some b)) (enc a) true).run P w= .ok (.tuple #[((m a).map encV).getD z,.bool (m a).isSome]) w:=by
 obtain⟨L,clock,hb,hm,_⟩:=h;have hf:=hm a;have h2:=law.find a L w
 cases hl:ZaK a L 0 with
 | none =>
   rw[hl]at hf h2;have ig:m a=none:=by simpa using hf.symm
   simp[Instr.lookup,run_underlying hT,Sem.run_bind,getObj,Sem.run,hb,Result.andThen,law.check,h2,hz,ig]
 | some p =>
   rw[hl]at hf h2
   obtain⟨v,hv,hpv⟩:∃v,m a=some v∧encV v=p.2:=by
    cases ig:m a with
    | none=>rw[ig]at hf;simp at hf
    | some v=>rw[ig]at hf;exact⟨v,rfl,by simpa using hf.symm⟩
   simp[Instr.lookup,run_underlying hT,Sem.run_bind,getObj,Sem.run,hb,Result.andThen,law.check,h2,hv,hpv]
def upd (m:α→Option β)(a:α)(v:β):α→Option β:=fun x=>if x=a then some v else m x
def Zas (K:TypeId)(P:Program)(w:World)(b:Nat)(k v:Value):World :=
 match w.heap[b]? with
 | some (.map es clock) =>
   match (Instr.findKey K k es.toList).run P w with
   | .ok (some (i,_)) _=>w.putObj b (.map (es.modify i fun e=>{ e with key:=k,val:=v }) clock)
   | _=>w.putObj b (.map (es.push { key:=k,val:=v,born:=clock }) (clock+1))
 | _=>w
theorem Zan(K:TypeId)(w:World)(b:Nat)(k v:Value)(j:Nat)(h:j≠b):(Zas K P w b k v).heap[j]? =w.heap[j]?:=by
 unfold Zas
 split
 ·split <;> exact World.putObj_heap_other h
 ·rfl
theorem Zaw(K:TypeId)(w:World)(b:Nat)(k v:Value):(Zas K P w b k v).heap.size=w.heap.size:=by
 unfold Zas
 split
 ·split <;> simp
 ·rfl
theorem Za6(K:TypeId)(w:World)(b:Nat)(k v:Value):(Zas K P w b k v).os=w.os∧(Zas K P w b k v).tape=w.tape∧(Zas K P w b k v).output=w.output∧(Zas K P w b k v).drawn=w.drawn:=by
 unfold Zas
 split
 ·split <;> exact⟨rfl,rfl,rfl,rfl⟩
 ·exact⟨rfl,rfl,rfl,rfl⟩
theorem ZaI.put{K E T:TypeId}{enc:α→Value}{encV:β→Value}{w:World}{b:Nat}{m:α→Option β}(h:ZaI enc encV w b m)(law:ZcY P K enc)
  (hT:P.underlying T=some (.map K E)) (a:α) (v:β) :
  (Instr.mapUpdate T (.map (some b)) (enc a) (encV v)).run P w= .ok () (Zas K P w b (enc a) (encV v))∧ZaI enc encV (Zas K P w b (enc a) (encV v)) b (upd m a v):=by
 obtain⟨L,clock,hb,hm,hg⟩:=h;have h2:=law.find a L w;have aD:=(Zrv hb).1
 cases hl:ZaK a L 0 with
 | none =>
   rw[hl]at h2
   have hp:Zas K P w b (enc a) (encV v)=w.putObj b (.map ((L++[(a,encV v,clock)]).map (mkE enc)).toArray (clock+1)):=by
    simp[Zas,hb,h2,mkE]
   refine⟨?_,L++[(a,encV v,clock)],clock+1,by rw[hp];exact World.putObj_heap_same aD,fun x=>?_,hg.push a (encV v)⟩
   ·rw[hp]
    simp[Instr.mapUpdate,run_underlying hT,Sem.run_bind,getObj,setObj,Sem.run,hb,Result.andThen,law.check,h2,World.putObj,mkE]
   ·rw[ZeI]
    have:=hm x
    by_cases hx:x=a
    ·subst hx
     simp[hl,upd]
    ·rw[this]
     cases si:m x <;> simp[upd,hx,si]
 | some p =>
   obtain⟨i,u⟩:=p;rw[hl]at h2;obtain⟨n,hn⟩:=Zfq a L i u hl
   have rI:((L.map (mkE enc)).toArray.modify i fun e=>{ e with key:=enc a,val:=encV v })=((L.modify i fun e=>(a,encV v,e.2.2)).map (mkE enc)).toArray:=by
    apply Array.ext_getElem?
    intro j;simp only[Array.getElem?_modify,List.getElem?_toArray,List.getElem?_map,List.getElem?_modify]
    by_cases hj:i=j
    ·subst hj;simp[hn,mkE]
    ·simp[hj]
   have hp:Zas K P w b (enc a) (encV v)=w.putObj b (.map ((L.modify i fun e=>(a,encV v,e.2.2)).map (mkE enc)).toArray clock):=by
    simp[Zas,hb,h2,rI]
   refine⟨?_,_,clock,by rw[hp];exact World.putObj_heap_same aD,fun x=>?_,hg.mod (fun e=>(a,encV v,e.2.2)) (fun _=>rfl) i⟩
   ·rw[hp,←rI]
    simp[Instr.mapUpdate,run_underlying hT,Sem.run_bind,getObj,setObj,Sem.run,hb,Result.andThen,law.check,h2,World.putObj,hn,Instr.keyThatStays,law.same,mkE]
   ·rw[ZeJ x a (encV v) L i u hl]
    by_cases hx:x=a
    ·simp[upd,hx]
    ·simp[upd,hx,hm x]
def Ent (L:List (α × Value × Nat))(a:α)(st:Nat):Prop:=∃i u,ZaK a L 0=some (i,u)∧L[i]? =some (a,u,st)
def Zg5 (L:List (α × Value × Nat))(a:α):Option Value:=(ZaK a L 0).map (·.2)
def Zqb (enc:α→Value)(w:World)(b:Nat)(L:List (α × Value × Nat)):Prop:=∃clock,w.heap[b]? =some (.map (L.map (mkE enc)).toArray clock)∧Znr L clock
def But (b:Nat)(w w':World):Prop:=(∀k,k≠b→w'.heap[k]? =w.heap[k]?)∧w'.heap.size=w.heap.size∧w'.os=w.os∧w'.tape=w.tape∧w'.output=w.output∧w'.drawn=w.drawn
theorem But.trans{b:Nat}{w w1 w2:World}(h:But b w w1)(k:But b w1 w2):But b w w2 :=
 ⟨fun j hj=>(k.1 j hj).trans (h.1 j hj),k.2.1.trans h.2.1,k.2.2.1.trans h.2.2.1,k.2.2.2.1.trans h.2.2.2.1,k.2.2.2.2.1.trans h.2.2.2.2.1,k.2.2.2.2.2.trans h.2.2.2.2.2⟩
theorem But.put(b:Nat)(w:World)(o:Obj):But b w (w.putObj b o):=⟨fun _ hj=>World.putObj_heap_other hj,by simp,rfl,rfl,rfl,rfl⟩
theorem Zer(a c:α)(v:Value)(n:Nat)(L:List (α × Value × Nat))(i:Nat)(u:Value)(h:ZaK c L 0=some (i,u)):ZaK c (L++[(a,v,n)]) 0=some (i,u):=by
 induction L generalizing i with
 | nil=>simp[ZaK]at h
 | cons e r ih =>
   unfold ZaK at h;simp only[List.cons_append];unfold ZaK
   split at h
   ·rename_i he
    rw[if_pos he];exact h
   ·rename_i he
    rw[if_neg he];rw[ZaQ]at h ⊢;simp at h;obtain⟨j,hj,rfl⟩:=h;rw[ih j hj]
    rfl
theorem ZlQ(a:α)(v:Value)(n:Nat)(L:List (α × Value × Nat))(h:ZaK a L 0=none):ZaK a (L++[(a,v,n)]) 0=some (L.length,v):=by
 induction L with
 | nil=>simp[ZaK]
 | cons e r ih =>
   unfold ZaK at h
   split at h
   ·cases h
   ·rename_i he
    simp only[List.cons_append];unfold ZaK;rw[if_neg he,ZaQ,ih (by rw[ZaQ]at h;simpa using h)];simp
theorem ZgU(enc:α→Value)(L:List (α × Value × Nat))(hn:(L.map (fun e=>e.2.2)).Nodup)(i:Nat)(a:α)(u:Value)(st:Nat)(h:L[i]? =some (a,u,st)) :
  (L.map (mkE enc)).findIdx? (fun e=>(e.born:Int) ==(st:Int))=some i:=by
 induction L generalizing i with
 | nil=>simp at h
 | cons e r ih =>
   rw[List.map_cons,List.nodup_cons]at hn;rw[List.map_cons,List.findIdx?_cons]
   cases i with
   | zero =>
     simp only[List.getElem?_cons_zero,ZrJ]at h;subst h;simp[mkE]
   | succ i =>
     simp only[List.getElem?_cons_succ]at h;have hm:=List.mem_of_getElem? h;have aJ:e.2.2≠st:=fun he=>hn.1 (List.mem_map.2 ⟨_,hm,he.symm⟩)
     rw[if_neg (by simp[mkE];omega),ih hn.2 i h]
     rfl
theorem Zeq(c:α)(f:α × Value × Nat→α × Value × Nat)(hf:∀e,(f e).1=e.1):∀(L:List (α × Value × Nat)) (i j:Nat) (u:Value) ,ZaK c L 0=some (j,u)→∃u',ZaK c (L.modify i f) 0=some (j,u'):=by
 intro L
 induction L with
 | nil=>intro i j u h;simp[ZaK]at h
 | cons e r ih =>
   intro i j u h;unfold ZaK at h
   split at h
   ·rename_i he
    simp at h;obtain⟨rfl,rfl⟩:=h
    cases i with
    | zero=>exact⟨(f e).2.1,by simp[ZaK,hf,he]⟩
    | succ i=>exact⟨e.2.1,by simp[ZaK,he]⟩
   ·rename_i he
    rw[ZaQ]at h;simp at h;obtain⟨j',ke,rfl⟩:=h
    cases i with
    | zero=>exact⟨u,by simp only[List.modify_zero_cons,ZaK,hf,if_neg he];rw[ZaQ,ke];rfl⟩
    | succ i =>
      obtain⟨u',pW⟩:=ih i j' u ke;exact⟨u',by simp only[List.modify_succ_cons,ZaK,if_neg he];rw[ZaQ,pW];rfl⟩
theorem ZiD{K E T:TypeId}{enc:α→Value}{w:World}{b:Nat}{L:List (α × Value × Nat)}(h:Zqb enc w b L)(law:ZcY P K enc)
  (hT:P.underlying T=some (.map K E)) (z:Value) (hz:∀w,(zeroValue E).run P w= .ok z w) (a:α) :
  ∃p st w' L',(Instr.mapEntry T (.map (some b)) (enc a)).run P w= .ok (.tuple #[p,goInt (st:Nat)]) w'∧Zqb enc w' b L'∧But b w w'∧Ent L' a st ∧
    (∀x,x≠a→Zg5 L' x=Zg5 L x)∧(∀c sc,Ent L c sc→Ent L' c sc):=by
 obtain⟨clock,hb,hg⟩:=h;have h2:=law.find a L w;have aD:=(Zrv hb).1
 cases hl:ZaK a L 0 with
 | none =>
   rw[hl]at h2;refine⟨z,clock,w.putObj b (.map ((L++[(a,z,clock)]).map (mkE enc)).toArray (clock+1)),L++[(a,z,clock)],?_,⟨clock+1,World.putObj_heap_same aD,hg.push _ _⟩,But.put _ _ _,⟨L.length,z,ZlQ a z clock L hl,by simp⟩,fun x hx=>?_,fun c sc hc=>?_⟩
   ·simp[Instr.mapEntry,run_underlying hT,Sem.run_bind,getObj,setObj,Sem.run,hb,Result.andThen,law.check,h2,hz,World.putObj,mkE]
   ·unfold Zg5
    rw[ZeI]
    cases aO:ZaK x L 0 <;> simp[hx]
   ·obtain⟨i,u,h3,h4⟩:=hc
    exact⟨i,u,Zer _ _ _ _ _ _ _ h3,by rw[List.getElem?_append_left (Zrw h4).1];exact h4⟩
 | some p =>
   obtain⟨i,u⟩:=p;rw[hl]at h2;obtain⟨n,hn⟩:=Zfq a L i u hl
   have pS:((L.map (mkE enc)).toArray.modify i fun e=>{ e with key:=enc a })=(L.map (mkE enc)).toArray:=by
    apply Array.ext_getElem?
    intro j;simp only[Array.getElem?_modify,List.getElem?_toArray,List.getElem?_map]
    by_cases hj:i=j
    ·subst hj;simp[hn,mkE]
    ·simp[hj]
   refine⟨u,n,w.putObj b (.map (L.map (mkE enc)).toArray clock),L,?_,⟨clock,World.putObj_heap_same aD,hg⟩,But.put _ _ _,⟨i,u,hl,hn⟩,fun _ _=>rfl,fun _ _ h=>h⟩;have hself':∀x,((L.map (mkE enc)).toArray.modify i fun e=>({ key:=enc a,val:=e.val,born:=e.born }:MapEntry))=x→x=(L.map (mkE enc)).toArray:=fun x hx=>hx.symm.trans pS
   simp[Instr.mapEntry,run_underlying hT,Sem.run_bind,getObj,setObj,Sem.run,hb,Result.andThen,law.check,h2,World.putObj,hn,Instr.keyThatStays,law.same,mkE]
   first|done|(try simp[mkE]at pS;simp[pS])
theorem Zcz{T:TypeId}{enc:α→Value}{w:World}{b:Nat}{L:List (α × Value × Nat)}(h:Zqb enc w b L){a:α}{st:Nat}(he:Ent L a st)(v:Value) :
  ∃w' L',(Instr.entryStore T (.map (some b)) (goInt (st:Nat)) v).run P w= .ok () w'∧Zqb enc w' b L'∧But b w w' ∧
    (∀x,Zg5 L' x=if x=a then some v else Zg5 L x)∧(∀c sc,Ent L c sc→Ent L' c sc):=by
 obtain⟨clock,hb,hg⟩:=h;obtain⟨i,u,h1,h2⟩:=he;have aD:=(Zrv hb).1;have hidx:=ZgU enc L hg.2 i a u st h2
 have rI:((L.map (mkE enc)).toArray.modify i fun e=>{ e with val:=v })=((L.modify i fun e=>(e.1,v,e.2.2)).map (mkE enc)).toArray:=by
  apply Array.ext_getElem?
  intro j;simp only[Array.getElem?_modify,List.getElem?_toArray,List.getElem?_map,List.getElem?_modify]
  by_cases hj:i=j
  ·subst hj;simp[h2,mkE]
  ·simp[hj]
 have jy:(L.modify i fun e=>(e.1,v,e.2.2))=(L.modify i fun e=>(a,v,e.2.2)):=by
  apply List.ext_getElem?
  intro j;simp only[List.getElem?_modify]
  by_cases hj:i=j
  ·subst hj;simp[h2]
  ·simp[hj]
 refine⟨w.putObj b (.map ((L.modify i fun e=>(e.1,v,e.2.2)).map (mkE enc)).toArray clock),_,?_,⟨clock,World.putObj_heap_same aD,hg.mod (fun e=>(e.1,v,e.2.2)) (fun _=>rfl) i⟩,But.put _ _ _,fun x=>?_,fun c sc hc=>?_⟩
 ·have s0:(L.map (mkE enc)).toArray.findIdx? (fun e=>(e.born:Int) ==(st:Int))=some i:=by
   rw[List.findIdx?_toArray];exact hidx
  rw[←rI];simp only[Instr.entryStore,Sem.run_bind,getObj,setObj,Sem.run,hb,Result.andThen,asInt,asIntOf,goInt,s0,World.putObj];simp[Sem.run,hb,Result.andThen,s0,World.putObj]
 ·unfold Zg5
  rw[jy];exact ZeJ x a v L i u h1
 ·obtain⟨j,y,h3,h4⟩:=hc
  obtain⟨y',h5⟩:=Zeq c (fun e=>(e.1,v,e.2.2)) (fun _=>rfl) L i j y h3;obtain⟨n,hn⟩:=Zfq c _ j y' h5;refine⟨j,y',h5,?_⟩;rw[hn];rw[List.getElem?_modify]at hn;simp[h4]at hn
  by_cases iD:i=j
  ·simp[iD]at hn;simp[hn]
  ·simp[iD]at hn;simp[hn]
end
theorem Zqz{P:Program}{α:Type}[DecidableEq α]{K:TypeId}(hK:P.underlying K=some (.int .i64))(f:α→Int)(hf:∀a b,f a=f b→a=b):ZcY P K (fun n:α=>Value.int .i64 (f n)) where
 check e a w:=by rw[Instr.checkKey];simp[run_underlying hK]
 same a:=by rw[Instr.sameBits];simp
 find a L w:=by
  have:∀L i,Instr.findNow (.int .i64) (.int .i64 (f a)) (L.map (mkE fun n:α=>Value.int .i64 (f n))) i=some (ZaK a L i):=by
   intro L
   induction L with
   | nil=>intro i;rfl
   | cons x r ih =>
     intro i;simp only[List.map_cons,Instr.findNow,mkE,Instr.sameNow,ZaK,if_true]
     by_cases h:a=x.1
     ·simp[h]
     ·have:(f a ==f x.1)=false:=by simp;exact fun e=>h (hf _ _ e)
      simp only[this,h,if_false];exact ih (i+1)
  simp[Instr.findKey,run_underlying hK,this]
theorem ZoY{P:Program}{α:Type}[DecidableEq α]{K:TypeId}(hK:P.underlying K=some .string)(f:α→List UInt8)(hf:∀a b,f a=f b→a=b):ZcY P K (fun n:α=>Value.string ⟨(f n).toArray⟩) where
 check e a w:=by rw[Instr.checkKey];simp[run_underlying hK]
 same a:=by
  rw[Instr.sameBits]
  show ((f a).toArray ==(f a).toArray)=true
  simp
 find a L w:=by
  have:∀L i,Instr.findNow .string (.string ⟨(f a).toArray⟩) (L.map (mkE fun n:α=>Value.string ⟨(f n).toArray⟩)) i=some (ZaK a L i):=by
   intro L
   induction L with
   | nil=>intro i;rfl
   | cons x r ih =>
     intro i;simp only[List.map_cons,Instr.findNow,mkE,Instr.sameNow,ZaK]
     by_cases h:a=x.1
     ·have:((⟨(f a).toArray⟩:ByteArray) ==⟨(f x.1).toArray⟩)=true:=by
       rw[h]
       show ((f x.1).toArray ==(f x.1).toArray)=true
       simp
      rw[if_pos h,this]
     ·have:((⟨(f a).toArray⟩:ByteArray) ==⟨(f x.1).toArray⟩)=false:=by
       show ((f a).toArray ==(f x.1).toArray)=false
       rw[beq_eq_false_iff_ne];intro e;exact h (hf _ _ (by simpa using e))
      simp only[this,h,if_false];exact ih (i+1)
  simp[Instr.findKey,run_underlying hK,this]
theorem Zmw(e:Bool)(a:Nat × Nat)(w:World):(Instr.checkKey e 10000 130 (.agg #[.int .i64 (a.1:Int),.int .i64 (a.2:Int)])).run Tryz.prog w= .ok () w:=by kernel_rfl
theorem ZqJ(a b:Nat × Nat)(w:World):(Op.equal 130 (.agg #[.int .i64 (a.1:Int),.int .i64 (a.2:Int)]) (.agg #[.int .i64 (b.1:Int),.int .i64 (b.2:Int)])).run Tryz.prog w= .ok (decide (a=b)) w:=by
 unfold Op.equal Op.maxDepth;rw[run_equalIn_agg w _ _ _ _ (by kernel_rfl) (by kernel_rfl)];simp only[Program.fieldsOf,Tryz.underlying130,List.toArray,Op.eqFields];simp[go_sem,Op.eqFields,Tryz.underlying3]
 by_cases h1:(a.1:Int)=b.1 <;> by_cases h2:(a.2:Int)=b.2 <;> simp[h1,h2,Prod.ext_iff] <;> omega
theorem Zpm{P:Program}{α:Type}[DecidableEq α]{K:TypeId}{enc:α→Value}(pv:∀a b w,(Op.equal K (enc a) (enc b)).run P w= .ok (decide (a=b)) w)(a:α)(w:World) :
  ∀L i,(Instr.findAsking K (enc a) (L.map (mkE enc)) i).run P w= .ok (ZaK a L i) w:=by
 intro L
 induction L with
 | nil=>intro i;simp[Instr.findAsking,ZaK]
 | cons x r ih =>
   intro i;simp only[List.map_cons,Instr.findAsking,mkE,Sem.run_bind,pv,Result.andThen,ZaK]
   by_cases h:a=x.1
   ·simp[h]
   ·simp only[h,decide_false,Bool.false_eq_true,if_false]
    exact ih (i+1)
theorem Zqq{P:Program}{α:Type}[DecidableEq α]{K:TypeId}{kind:TypeDesc}{enc:α→Value}(hK:P.underlying K=some kind)
  (hc:∀e a w,(Instr.checkKey e 10000 K (enc a)).run P w= .ok () w) (hs:∀a,Instr.sameBits 10000 (enc a) (enc a)=true)
  (hn:∀a b,Instr.sameNow kind (enc a) (enc b)=none) (pv:∀a b w,(Op.equal K (enc a) (enc b)).run P w= .ok (decide (a=b)) w):ZcY P K enc where
 check:=hc
 same:=hs
 find a L w:=by
  cases L with
  | nil=>simp[Instr.findKey,run_underlying hK,Instr.findNow,ZaK]
  | cons x r =>
    have h1:Instr.findNow kind (enc a) ((x :: r).map (mkE enc)) 0=none:=by
     simp[Instr.findNow,mkE,hn]
    simp only[Instr.findKey,Sem.run_bind,run_underlying hK,Result.andThen,h1];exact Zpm pv a w (x :: r) 0
def Zf9 (a:Nat × Nat):Value:=.agg #[.int .i64 (a.1:Int),.int .i64 (a.2:Int)]
theorem ZiW:ZcY Tryz.prog 130 Zf9 :=
 Zqq (kind:=.struct (Tryz.prog.fieldsOf 130)) (by kernel_rfl) Zmw (fun a=>by
  unfold Zf9;rw[Instr.sameBits];simp;exact⟨by rw[Instr.sameBits];simp,by rw[Instr.sameBits];simp⟩) (fun _ _=>rfl) ZqJ
end Go.Proofs.YtemnmcfmabamcaaGreatDoor
namespace Go.Proofs.YtemnmcfmabamcaaGreatDoor
open Go Go.RowKit
structure VN where
 left:Int
 right:Int
 var:Int
 deriving DecidableEq,Inhabited
structure Zac where
 pl:Int
 lit:Int
 el:List (Nat × Nat)
 le:Zax
 deriving DecidableEq,Inhabited
def Zhs (pl lit:Int)(el:List (Nat × Nat)):List UInt8 :=
 Lib.itoa pl++[32]++Lib.itoa lit++el.flatMap fun p=>[32]++Lib.itoa p.1++[32]++Lib.itoa p.2
abbrev Key:=Int × Int × List (Nat × Nat)
def asc {α β:Type}[DecidableEq α](l:List (α × β))(a:α):Option β:=match l with
 | []=>none
 | p :: r=>if a=p.1 then some p.2 else asc r a
structure St where
 tree:List VN
 nodes:List Zac
 uniq:List (Key × Nat)
 ands:List ((Nat × Nat) × Nat)
 nots:List (Nat × Nat)
def ZeL (t:List VN)(v:Nat):Option Nat:=t.findIdx? fun x=>decide (x.left<0) && decide (x.var=(v:Int))
end Go.Proofs.YtemnmcfmabamcaaGreatDoor
namespace Go.Proofs.YtemnmcfmabamcaaGreatDoor
open Go Go.RowKit
def ZjE (l:List UInt8):Nat:=l.foldl (fun a d=>10*a+(d.toNat - 48)) 0
theorem ZdX(n:Nat):ZjE (Lib.decDigits n)=n:=by
 induction n using Nat.strongRecOn with
 | _ n ih =>
   rw[Lib.decDigits]
   split
   ·rename_i h
    simp[ZjE];omega
   ·rename_i h
    have:=ih (n / 10) (by omega);unfold ZjE at *;rw[List.foldl_append,this];simp;omega
theorem Zfj(n:Nat):∀d∈Lib.decDigits n,48≤d.toNat∧d.toNat≤57:=by
 induction n using Nat.strongRecOn with
 | _ n ih =>
   rw[Lib.decDigits]
   split
   ·rename_i h
    intro d hd;simp at hd;subst hd;simp;omega
   ·rename_i h
    intro d hd;rw[List.mem_append]at hd;rcases hd with hd|hd
    ·exact ih (n / 10) (by omega) d hd
    ·simp at hd
     subst hd;simp;omega
theorem ZbK(i:Int):(32:UInt8)∉Lib.itoa i:=by
 intro h;unfold Lib.itoa at h
 split at h
 ·rw[List.mem_cons]at h
  rcases h with h|h
  ·simp at h
  ·have:=(Zfj _ _ h).1;simp at this
 ·have:=(Zfj _ _ h).1;simp at this
theorem Ze6(i j:Int)(h:Lib.itoa i=Lib.itoa j):i=j:=by
 unfold Lib.itoa at h
 have key:∀a b:Nat,Lib.decDigits a=Lib.decDigits b→a=b:=fun a b e=>by
  have:=congrArg ZjE e;rwa [ZdX,ZdX]at this
 have nodash:∀(a:Nat) (l:List UInt8),Lib.decDigits a=45 :: l→False:=fun a l e=>by
  have:=(Zfj a 45 (by rw[e];simp)).1;simp at this
 split at h <;> split at h
 ·have:=key _ _ (List.cons.inj h).2;omega
 ·exact(nodash _ _ h.symm).elim
 ·exact(nodash _ _ h).elim
 ·have:=key _ _ h;omega
theorem Zjd(x y x' y':List UInt8)(hx:(32:UInt8)∉x)(bn:(32:UInt8)∉x')(h:x++32 :: y=x'++32 :: y'):x=x'∧y=y':=by
 induction x generalizing x' with
 | nil =>
   cases x' with
   | nil=>simpa using h
   | cons a r =>
     simp at h;exact absurd (by simp[h.1]) bn
 | cons a r ih =>
   cases x' with
   | nil =>
     simp at h;exact absurd (by simp[h.1]) hx
   | cons b r' =>
     simp at h;obtain⟨rfl,h⟩:=h;obtain⟨h1,h2⟩:=ih r' (fun e=>hx (ZrA _ e)) (fun e=>bn (ZrA _ e)) h;exact⟨by rw[h1],h2⟩
def ZkE (el:List (Nat × Nat)):List UInt8:=el.flatMap fun p=>[32]++Lib.itoa p.1++[32]++Lib.itoa p.2
theorem Zj1(x y x' y':List UInt8)(hx:(32:UInt8)∉x)(bn:(32:UInt8)∉x')(hy:y=[]∨∃t,y=32 :: t)(lL:y'=[]∨∃t,y'=32 :: t)(h:x++y=x'++y'):x=x'∧y=y':=by
 rcases hy with rfl|⟨t,rfl⟩ <;> rcases lL with rfl|⟨t',rfl⟩
 ·simpa using h
 ·exact absurd (by rw[show x=x'++32 :: t' by simpa using h];simp) hx
 ·exact absurd (by rw[show x'=x++32 :: t by simpa using h.symm];simp) bn
 ·obtain⟨h1,h2⟩:=Zjd _ _ _ _ hx bn h
  exact⟨h1,by rw[h2]⟩
theorem Zd2(el:List (Nat × Nat)):ZkE el=[]∨∃t,ZkE el=32 :: t:=by
 cases el with
 | nil=>exact .inl rfl
 | cons p r=>exact .inr ⟨Lib.itoa p.1++32 :: (Lib.itoa p.2++ZkE r),by simp[ZkE]⟩
theorem Zn3:∀el mN:List (Nat × Nat),ZkE el=ZkE mN→el=mN:=by
 intro el
 induction el with
 | nil =>
   intro mN h
   cases mN with
   | nil=>rfl
   | cons p r=>simp[ZkE]at h
 | cons p r ih =>
   intro mN h
   cases mN with
   | nil=>simp[ZkE]at h
   | cons p' r' =>
     have e:∀(p:Nat × Nat) (r:List (Nat × Nat)),ZkE (p :: r)=32 :: (Lib.itoa p.1++32 :: (Lib.itoa p.2++ZkE r)):=fun p r=>by simp[ZkE]
     rw[e,e]at h;obtain⟨h1,h2⟩:=Zjd _ _ _ _ (ZbK _) (ZbK _) (List.cons.inj h).2;obtain⟨h3,h4⟩:=Zj1 _ _ _ _ (ZbK _) (ZbK _) (Zd2 r) (Zd2 r') h2;have a:=Ze6 _ _ h1;have b:=Ze6 _ _ h3;rw[ih r' h4]
     congr 1
     exact Prod.ext (by omega) (by omega)
def Zbq (k:Key):List UInt8:=Zhs k.1 k.2.1 k.2.2
theorem ZhT(a b:Key)(h:Zbq a=Zbq b):a=b:=by
 obtain⟨a1,a2,a3⟩:=a;obtain⟨b1,b2,b3⟩:=b;have e:∀x y z,Zbq (x,y,z)=Lib.itoa x++32 :: (Lib.itoa y++ZkE z):=fun x y z=>by simp[Zbq,Zhs,ZkE]
 rw[e,e]at h;obtain⟨h1,h2⟩:=Zjd _ _ _ _ (ZbK _) (ZbK _) h;obtain⟨h3,h4⟩:=Zj1 _ _ _ _ (ZbK _) (ZbK _) (Zd2 a3) (Zd2 b3) h2;rw[Ze6 _ _ h1,Ze6 _ _ h3,Zn3 _ _ h4]
end Go.Proofs.YtemnmcfmabamcaaGreatDoor
namespace Go.Proofs.YtemnmcfmabamcaaGreatDoor
open Go Go.RowKit
def Zde (n:Zac):Prop:=-1≤n.pl∧n.pl≤1048576∧-1048576≤n.lit∧n.lit≤1048576∧n.el.length≤1048576∧∀p∈n.el,p.1≤1048576∧p.2≤1048576
instance (n:Zac):Decidable (Zde n):=by unfold Zde;infer_instance
def Zqd (s:St)(n:Zac):Option (Nat × St) :=
 if Zde n then
  match asc s.uniq (n.pl,n.lit,n.el) with
  | some i=>some (i,s)
  | none=>if s.nodes.length<1048576 then
     some (s.nodes.length,{ s with nodes:=s.nodes++[n],uniq:=((n.pl,n.lit,n.el),s.nodes.length) :: s.uniq })
    else none
 else none
def ZjN (l pl:Int):Zac:={ pl:=pl,lit:=l,el:=[],le:=if 0<l then ofS [l] else 0 }
def Zbc (s:St)(l pl:Int):Option (Nat × St):=Zqd s (ZjN l pl)
def ZaG (ns:List Zac)(i:Nat):Zax:=match ns[i]? with
 | some n=>n.le
 | none=>0
def Za9 (ns:List Zac)(p q:Nat × Nat):Bool:=ZaX (ZaG ns p.1) (ZaG ns q.1)
def Zhr {α:Type}(lt:α→α→Bool)(p:α):List α→List α
 | []=>[p]
 | q :: r=>if lt p q then p :: q :: r else q :: Zhr lt p r
def Zcb {α:Type}(lt:α→α→Bool):List α→List α
 | []=>[]
 | p :: r=>Zhr lt p (Zcb lt r)
def Zbz {α:Type}(lt:α→α→Bool):List α→Bool
 | []=>true
 | p :: r=>(r.all fun q=>lt p q || lt q p) && Zbz lt r
def Zau (ns:List Zac)(a:Bool × Zax)(p:Nat × Nat):Bool × Zax :=
 if p.2=0 then a else
  let x:=ZaG ns p.1 ||| ZaG ns p.2
  if a.1 || ZaX x a.2 then (false,x) else a
def Za8 (ns:List Zac)(l:List (Nat × Nat)):Bool × Zax:=l.foldl (Zau ns) (true,0)
def ZbB (s:St)(pl:Int)(l:List (Nat × Nat)):Option (Nat × St) :=
 if l≠[]∧(l.all fun p=>decide (p.1<s.nodes.length) && decide (p.2<s.nodes.length))=true∧Zbz (Za9 s.nodes) l=true then
  let l':=Zcb (Za9 s.nodes) l
  Zqd s { pl:=pl,lit:=0,el:=l',le:=(Za8 s.nodes l').2 }
 else none
end Go.Proofs.YtemnmcfmabamcaaGreatDoor
namespace Go.Proofs.YtemnmcfmabamcaaGreatDoor
open Go Go.RowKit
def Zb4 (g:St→Nat→Option (Nat × St)):St→List (Nat × Nat)→Option (List (Nat × Nat) × St)
 | s,[]=>some ([],s)
 | s,p :: r =>
   match g s p.2 with
   | none=>none
   | some (q,s1) =>
     match Zb4 g s1 r with
     | none=>none
     | some (l,s2)=>some ((p.1,q) :: l,s2)
def Zi1 (a:Nat):Option (Nat × St)→Option (Nat × St)
 | none=>none
 | some (b,s)=>some (b,{ s with nots:=(b,a) :: (a,b) :: s.nots })
def ZhZ (g:St→Nat→Option (Nat × St))(s:St)(n:Zac):Option (Nat × St) :=
 if n.lit=0 then
  match Zb4 g s n.el with
  | none=>none
  | some (l,s1)=>ZbB s1 n.pl l
 else Zbc s (-n.lit) n.pl
def Zof:Nat→St→Nat→Option (Nat × St)
 | 0,_,_=>none
 | f+1,s,a =>
   if a<2 then some (1 - a,s) else
    match asc s.nots a with
    | some b=>some (b,s)
    | none =>
      match s.nodes[a]? with
      | none=>none
      | some n=>Zi1 a (ZhZ (Zof f) s n)
end Go.Proofs.YtemnmcfmabamcaaGreatDoor
namespace Go.Proofs.YtemnmcfmabamcaaGreatDoor
open Go Go.RowKit
theorem Zcu{α:Type}(lt:α→α→Bool)(p:α):∀l,(Zhr lt p l).Perm (p :: l)
 | []=>by simp[Zhr]
 | q :: r=>by
   unfold Zhr
   split
   ·exact .refl _
   ·exact((Zcu lt p r).cons q).trans (.swap p q r)
theorem Za4{α:Type}(lt:α→α→Bool):∀l,(Zcb lt l).Perm l
 | []=>.refl _
 | p :: r=>(Zcu lt p _).trans ((Za4 lt r).cons p)
theorem Zd8{α:Type}(lt:α→α→Bool)(irr:∀x,lt x x=false)(tr:∀x y z,lt x y=true→lt y z=true→lt x z=true) :
  ∀l l':List α,l.Perm l'→l.Pairwise (fun a b=>lt a b=true)→l'.Pairwise (fun a b=>lt a b=true)→l=l'
 | [],l',h,_,_=>(List.nil_perm.1 h).symm ▸ rfl
 | a :: l,[],h,_,_=>by simpa using h.length_eq
 | a :: l,b :: l',h,h1,h2=>by
   have asym:∀x y,lt x y=true→lt y x=true→False:=fun x y e1 e2=>by have:=tr x y x e1 e2;rw[irr]at this;cases this
   have bT:a=b:=by
    rw[List.pairwise_cons]at h1 h2;have ha:a∈b :: l':=h.mem_iff.1 (ZrL ..);have hb:b∈a :: l:=h.mem_iff.2 (ZrL ..);rcases List.mem_cons.1 ha with e|e
    ·exact e
    ·rcases List.mem_cons.1 hb with e'|e'
     ·exact e'.symm
     ·exact(asym _ _ (h2.1 a e) (h1.1 b e')).elim
   subst bT;rw[List.pairwise_cons]at h1 h2;rw[Zd8 lt irr tr l l' (List.Perm.cons_inv h) h1.2 h2.2]
theorem Zb3{α:Type}(lt:α→α→Bool)(tr:∀x y z,lt x y=true→lt y z=true→lt x z=true)(p:α):∀l:List α,l.Pairwise (fun a b=>lt a b=true)→(∀q∈l,lt p q=true∨lt q p=true)→(Zhr lt p l).Pairwise (fun a b=>lt a b=true)
 | [],_,_=>by simp[Zhr]
 | q :: r,h,ha=>by
   unfold Zhr;rw[List.pairwise_cons]at h
   split
   ·rename_i jN
    rw[List.pairwise_cons];refine⟨fun x hx=>?_,by rw[List.pairwise_cons];exact h⟩;rcases List.mem_cons.1 hx with rfl|hx
    ·exact jN
    ·exact tr _ _ _ jN (h.1 x hx)
   ·rename_i jN
    rw[List.pairwise_cons];refine⟨fun x hx=>?_,Zb3 lt tr p r h.2 (fun x hx=>ha x (ZrA _ hx))⟩;rcases List.mem_cons.1 ((Zcu lt p r).mem_iff.1 hx) with rfl|hx
    ·exact(ha q (ZrL ..)).resolve_left jN
    ·exact h.1 x hx
theorem Zki{α:Type}(lt:α→α→Bool)(p:α)(r:List α)(h:Zbz lt (p :: r)=true):(∀q∈r,lt p q=true∨lt q p=true)∧Zbz lt r=true:=by
 unfold Zbz at h;simp only[ZrK,List.all_eq_true,Bool.or_eq_true]at h;exact h
theorem ZbO{α:Type}(lt:α→α→Bool)(tr:∀x y z,lt x y=true→lt y z=true→lt x z=true):∀l:List α,Zbz lt l=true→(Zcb lt l).Pairwise (fun a b=>lt a b=true)
 | [],_=>by simp[Zcb]
 | p :: r,h=>by
   obtain⟨h1,h2⟩:=Zki lt p r h;exact Zb3 lt tr p _ (ZbO lt tr r h2) (fun q hq=>h1 q ((Za4 lt r).mem_iff.1 hq))
theorem Zek{α:Type}(lt:α→α→Bool):∀l:List α,Zbz lt l=true↔l.Pairwise (fun a b=>lt a b=true∨lt b a=true)
 | []=>by simp[Zbz]
 | p :: r=>by
   rw[List.pairwise_cons,←Zek lt r];simp[Zbz]
theorem Zit{α:Type}(lt:α→α→Bool){l l':List α}(h:l.Perm l')(ha:Zbz lt l=true):Zbz lt l'=true:=by
 rw[Zek]at *;exact(h.pairwise_iff (fun h=>h.symm)).1 ha
theorem ZmX{α:Type}(lt:α→α→Bool)(l:List α)(ha:Zbz lt l=true)(h:l.Pairwise (fun a b=>lt b a=false)):l.Pairwise (fun a b=>lt a b=true):=by
 rw[Zek]at ha;refine List.Pairwise.imp (fun {a b} h=>?_) (ha.and h);rcases h with ⟨h1|h1,h2⟩
 ·exact h1
 ·rw[h1]at h2;cases h2
theorem Zfs(s:Zax):(Zb2 s=0∧s=0)∨(∃i,Zb2 s=i+1∧i<128∧s.getLsbD i=true∧∀j,j<i→s.getLsbD j=false):=by
 unfold Zb2
 split
 ·rename_i i h
  rw[List.find?_eq_some_iff_append]at h;obtain⟨hi,pr,bs,hr,az⟩:=h
  have aX:pr.length=i:=by
   have h1:(List.range 128)[pr.length]? =some i:=by rw[hr];simp
   rw[List.getElem?_range]at h1
   ·simpa using h1
   ·rw[List.getElem?_eq_some_iff]at h1
    obtain⟨h,_⟩:=h1;simpa using h
  have yn:i<128:=by
   have:pr.length<(List.range 128).length:=by rw[hr];simp
   simp at this;omega
  refine .inr ⟨i,rfl,yn,hi,fun j hj=>?_⟩
  have py:pr[j]? =some j:=by
   have h1:(List.range 128)[j]? =some j:=List.getElem?_range (by omega);rw[hr,List.getElem?_append_left (by omega)]at h1;exact h1
  have:=az j (List.mem_of_getElem? py);simpa using this
 ·rename_i h
  left
  refine⟨rfl,?_⟩;rw[List.find?_eq_none]at h
  apply BitVec.eq_of_getLsbD_eq
  intro i hi;have:=h i (by simpa using hi);simpa using this
theorem ZaL(a b:Zax):ZaX a b=true↔∃i,i<128∧a.getLsbD i=false∧b.getLsbD i=true∧∀j,j<i→a.getLsbD j=b.getLsbD j:=by
 unfold ZaX;rcases Zfs ((a &&& ~~~b) ||| (b &&& ~~~a)) with ⟨h1,h2⟩|⟨i,h1,h2,h3,h4⟩
 ·simp only[h1]
  constructor
  ·intro h;simp at h
  ·rintro⟨i,hi,ha,hb,_⟩
   have:=congrArg (fun s=>s.getLsbD i) h2;simp only[BitVec.getLsbD_or,BitVec.getLsbD_and,BitVec.getLsbD_not,hi,ha,hb]at this;simp at this
 ·simp only[h1,ZaZ]
  have e:((i+1:Nat):Int) - 1=i:=by omega
  have d:∀j,j<128→((a &&& ~~~b) ||| (b &&& ~~~a)).getLsbD j=(a.getLsbD j !=b.getLsbD j):=fun j hj=>by
   simp only[BitVec.getLsbD_or,BitVec.getLsbD_and,BitVec.getLsbD_not,hj,decide_true,Bool.true_and]
   cases a.getLsbD j <;> cases b.getLsbD j <;> rfl
  rw[e];simp only[Int.toNat_natCast]
  constructor
  ·intro h
   simp at h
   have ha:a.getLsbD i=false:=by
    rcases h with h|h
    ·omega
    ·exact h
   refine⟨i,h2,ha,?_,fun j hj=>?_⟩
   ·rw[d i h2,ha]at h3;simpa using h3
   ·have:=h4 j hj
    rw[d j (by omega)]at this;simpa using this
  ·rintro⟨k,hk,ka,kb,kj⟩
   have s8:i=k:=by
    rcases Nat.lt_trichotomy i k with h|h|h
    ·rw[d i h2,kj i h]at h3;simp at h3
    ·exact h
    ·have:=h4 k h;rw[d k hk,ka,kb]at this;simp at this
   subst s8;simp[ka]
theorem ZhU(x:Zax):ZaX x x=false:=by
 rw[Bool.eq_false_iff];intro h;obtain⟨i,_,h1,h2,_⟩:=(ZaL x x).1 h;rw[h1]at h2;cases h2
theorem Zg4(x y z:Zax)(h1:ZaX x y=true)(h2:ZaX y z=true):ZaX x z=true:=by
 obtain⟨i,hi,a1,a2,a3⟩:=(ZaL x y).1 h1;obtain⟨j,hj,b1,b2,b3⟩:=(ZaL y z).1 h2;rw[ZaL];rcases Nat.lt_trichotomy i j with h|h|h
 ·exact⟨i,hi,a1,by rw[←b3 i h];exact a2,fun k hk=>(a3 k hk).trans (b3 k (by omega))⟩
 ·subst h;rw[a2]at b1;cases b1
 ·exact⟨j,hj,by rw[a3 j h];exact b1,b2,fun k hk=>(a3 k (by omega)).trans (b3 k hk)⟩
theorem Zmb(x y:Zax)(h1:ZaX x y=false)(h2:ZaX y x=false):x=y:=by
 rcases Zfs ((x &&& ~~~y) ||| (y &&& ~~~x)) with ⟨_,h⟩|⟨i,_,hi,h3,h4⟩
 ·apply BitVec.eq_of_getLsbD_eq
  intro i hi;have:=congrArg (fun s=>s.getLsbD i) h;simp[hi]at this
  cases hx:x.getLsbD i <;> cases hy:y.getLsbD i <;> simp_all
 ·exfalso
  have d:∀j,j<128→((x &&& ~~~y) ||| (y &&& ~~~x)).getLsbD j=(x.getLsbD j !=y.getLsbD j):=fun j hj=>by
   simp only[BitVec.getLsbD_or,BitVec.getLsbD_and,BitVec.getLsbD_not,hj,decide_true,Bool.true_and]
   cases x.getLsbD j <;> cases y.getLsbD j <;> rfl
  have pv:∀j,j<i→x.getLsbD j=y.getLsbD j:=fun j hj=>by
   have:=h4 j hj;rw[d j (by omega)]at this;simpa using this
  rw[d i hi]at h3
  cases hx:x.getLsbD i <;> cases hy:y.getLsbD i
  ·rw[hx,hy]at h3;cases h3
  ·rw[(ZaL x y).2 ⟨i,hi,hx,hy,pv⟩]at h1;cases h1
  ·rw[(ZaL y x).2 ⟨i,hi,hy,hx,fun j hj=>(pv j hj).symm⟩]at h2;cases h2
  ·rw[hx,hy]at h3;cases h3
theorem Zma(x y z:Zax)(h1:ZaX x y=false)(h2:ZaX y z=false):ZaX x z=false:=by
 cases h:ZaX x z
 ·rfl
 ·exfalso
  cases h3:ZaX y x
  ·rw[Zmb x y h1 h3,h2]at h;cases h
  ·rw[Zg4 y x z h3 h]at h2;cases h2
end Go.Proofs.YtemnmcfmabamcaaGreatDoor
