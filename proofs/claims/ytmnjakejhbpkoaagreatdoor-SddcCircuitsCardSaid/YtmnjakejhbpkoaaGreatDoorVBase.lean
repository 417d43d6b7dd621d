import Derived.Test.YtmnjakejhbpkoaaGreatDoorProg
import Derived.Handy
import Derived.WalkSpells
import Derived.WalkLawsBesides
import Derived.Deep.RegionHeld3
import Derived.BigQuiet
import Derived.Lib.Hide
import Derived.RangeFuncRecord
import Derived.Lib.ItoaNum
set_option linter.unusedSimpArgs false
set_option linter.unusedVariables false
set_option maxRecDepth 100000
namespace Go.Proofs.YtmnjakejhbpkoaaGreatDoor
open Go Go.RowKit
theorem Zpe{p:Prop}(h:p):Hid p:=Lib.hid h
theorem Zpf{α:Type}(l:List α)(i:Nat)(a:α):l.toArray.setIfInBounds i a=(l.set i a).toArray:=List.setIfInBounds_toArray ..
theorem Zpg{α:Type}(a b:α)(l:List α):(a::l).set 0 b=b::l:=rfl
theorem Zph{α:Type}(a b:α)(l:List α)(i:Nat):(a::l).set (i+1) b=a::l.set i b:=rfl
theorem Zpi{α:Type}{a:Array α}{i:Nat}{x:α}(h:a[i]? = some x):∃h:i<a.size,a[i]=x:=Array.getElem?_eq_some_iff.1 h
theorem Zpj{α:Type}{a:List α}{i:Nat}{x:α}(h:a[i]? = some x):∃h:i<a.length,a[i]=x:=List.getElem?_eq_some_iff.1 h
theorem Zpk(w:World)(a:Addr){v:Value}(h:w.cell? a = some v):a.block<w.heap.size:=World.block_lt_of_cell? w a h
theorem Zpl{α:Type}{l:List α}{i:Nat}(h:i<l.length):l[i]? = some l[i]:=List.getElem?_eq_getElem h
theorem Zpm(w:World)(o:Obj):(w.alloc o).heap[w.heap.size]? = some o:=heap_alloc_new w o
theorem Zpn{α:Type}(y:α){a:α}{l:List α}(h:a∈l):a∈y::l:=List.mem_cons_of_mem y h
theorem Zpo{α:Type}{a b:List α}:(a++b).length = a.length+b.length:=List.length_append
theorem Zpp{a b c:Nat}(h:a≤b)(k:b≤c):a≤c:=Nat.le_trans h k
theorem Zpq{a b c:Nat}(h:a<b)(k:b≤c):a<c:=Nat.lt_of_lt_of_le h k
theorem Zpr(B:Nat)(w:World):Below B w w:=Below.refl B w
theorem Zps{w v:World}{a:Addr}(h:v.heap[a.block]? = w.heap[a.block]?):v.cell? a = w.cell? a:=World.cell?_of_block h
theorem Zpt{α:Type}{l:List α}{i:Nat}{a:α}:l.getD i a = l[i]?.getD a:=List.getD_eq_getElem?_getD
theorem Zpu{p:Prop}[Decidable p](h:¬p):decide p = false:=decide_eq_false h
theorem Zpv{p:Prop}[Decidable p](h:p):decide p = true:=decide_eq_true h
theorem Zpw{α:Type}(a b:α):(some a = some b) = (a = b):=Option.some.injEq a b
theorem Zpx(a b:Bool):((a&&b) = true) = (a = true∧b = true):=Bool.and_eq_true a b
theorem Zpy{α:Type}{a:α}{l:List α}:a∈a::l:=List.mem_cons_self ..
theorem Zpz{α:Type}{l:List α}{n:Nat}(h:n<l.length):l[n]∈l:=List.getElem_mem h
theorem ZpA{p:Prop}[Decidable p]:(decide p = true) = p:=decide_eq_true_eq
theorem ZpB{p:Prop}(h:¬p→False):p:=Classical.byContradiction h
theorem ZpC{α:Type}{a:α}{l:List α}:(a::l).length = l.length+1:=List.length_cons
theorem ZpD(n:Nat):n≤n:=Nat.le_refl n
abbrev Zak:=BitVec 128
def lo (s:Zak):Int:=((s.setWidth 64).toNat:Int)
def hi (s:Zak):Int:=(((s >>> 64).setWidth 64).toNat:Int)
def ZaT (s:Zak):Value:=.agg #[.int .u64 (lo s),.int .u64 (hi s)]
theorem ZcO(x y:BitVec 64):bits .or .u64 (x.toNat:Int) (y.toNat:Int)=((x ||| y).toNat:Int):=by
 rw[bits_or_u64_nat _ _ x.isLt y.isLt,BitVec.toNat_or]
theorem ZhI(x y:BitVec 64):bits .and .u64 (x.toNat:Int) (y.toNat:Int)=((x &&& y).toNat:Int):=by
 rw[bits_and_u64_nat _ _ x.isLt y.isLt,BitVec.toNat_and]
theorem Zc1(x y:BitVec 64):bits .andNot .u64 (x.toNat:Int) (y.toNat:Int)=((x &&& ~~~y).toNat:Int):=by
 show IntKind.u64.wrap ((BitVec.ofInt 64 (x.toNat:Int) &&& ~~~ BitVec.ofInt 64 (y.toNat:Int)).toNat:Int)=_
 have e:∀z:BitVec 64,BitVec.ofInt 64 (z.toNat:Int)=z:=fun z=>by rw[BitVec.ofInt_natCast];simp
 rw[e,e,IntKind.wrap_u64];have:=(x &&& ~~~y).isLt;omega
theorem ZoX(a b:Zak):bits .or .u64 (lo a) (lo b)=lo (a ||| b):=by
 unfold lo;rw[ZcO,BitVec.setWidth_or]
theorem ZoW(a b:Zak):bits .or .u64 (hi a) (hi b)=hi (a ||| b):=by
 unfold hi;rw[ZcO,BitVec.ushiftRight_or_distrib,BitVec.setWidth_or]
theorem Zkf(a b:Zak):bits .andNot .u64 (lo a) (lo b)=lo (a &&& ~~~b):=by
 unfold lo;rw[Zc1];congr 2;ext i h;simp
theorem Zke(a b:Zak):bits .andNot .u64 (hi a) (hi b)=hi (a &&& ~~~b):=by
 unfold hi;rw[Zc1];congr 2;ext i h;simp[show 64+i<128 from by omega]
structure Ext (w w':World):Prop where
 below:Below w.heap.size w w'
 drawn:w.drawn≤w'.drawn
theorem Ext.refl(w:World):Ext w w:=⟨Zpr _ w,ZpD _⟩
theorem Ext.trans{a b c:World}(h:Ext a b)(k:Ext b c):Ext a c:=⟨h.below.trans (k.below.mono h.below.size),Zpp h.drawn k.drawn⟩
theorem Ext.alloc{a w:World}(h:Ext a w)(o:Obj):Ext a (w.alloc o):=⟨h.below.alloc h.below.size o,h.drawn⟩
theorem Ext.drew{a w:World}(h:Ext a w):Ext a w.drew:=⟨h.below.drew,Nat.le_succ_of_le h.drawn⟩
theorem Ext.setCell{a w:World}(h:Ext a w){p:Addr}(hp:a.heap.size≤p.block)(u:Value):Ext a (w.setCell p u):=⟨h.below.setCell hp u,h.drawn⟩
theorem Ext.size{w w':World}(h:Ext w w'):w.heap.size≤w'.heap.size:=h.below.size
theorem Ext.cell{W w':World}(h:Ext W w'){a:Addr}{v:Value}(hc:W.cell? a=some v):w'.cell? a=some v :=
 (h.below.cell (Zpk W _ hc)).trans hc
theorem Zah{P:Program}{l:List Oper}{id:Nat}{Q:Exit→Act→World→Prop}{a:Act}{w:World}(hm:P.follows .mixedOrders=true)(hB:Region.lexB .any l.toArray=true)
  (h:wpQuiet P l.toArray (Ext w) (fun a'=>∀w',Ext w w'→Q .normal a' w') l a):(Code.region id l.toArray true).wp P Q a w :=
 wp_region_quiet (C:=Ext w) hm hB (Ext.refl w).drew (by simpa using h)
def ZbL (s:Zak):Nat:=match (List.range 128).find? (fun i=>s.getLsbD i) with|some i=>i+1|none=>0
def Zau (s:Zak)(v:Int):Bool:=decide (1≤v) && decide (v≤128) && s.getLsbD (v - 1).toNat
def ZaM (a b:Zak):Bool:=let o:=ZbL ((a &&& ~~~b) ||| (b &&& ~~~a));decide (0<o) && !Zau a o
theorem ZkA(s:Zak):ZbL s≤128:=by
 unfold ZbL
 split
 ·rename_i i h
  have:=List.mem_of_find?_eq_some h;simp at this;omega
 ·omega
def ZaA (s:Zak)(v:Int):Zak:=if 1≤v∧v≤128 then s ||| BitVec.twoPow 128 (v - 1).toNat else s
def ofS (l:List Int):Zak:=l.foldl ZaA 0
def SlI (w:World)(v:Value)(l:List Int):Prop :=
 ∃ba c,v= .slice ba l.length c∧((c=c∧l=[]∧c=c)∨∃b o,ba=some ⟨b,o,none⟩∧∀j (hj:j<l.length),w.cell? ⟨b,o+j,none⟩=some (.int .i64 l[j]))
theorem SlI.ext{w w':World}{v:Value}{l:List Int}(h:SlI w v l)(hb:Below w.heap.size w w'):SlI w' v l:=by
 obtain⟨ba,c,rfl,h⟩:=h;refine⟨ba,c,rfl,h.imp id ?_⟩;rintro⟨b,o,rfl,hc⟩;exact⟨b,o,rfl,fun j hj=>(hb.cell (Zpk w _ (hc j hj))).trans (hc j hj)⟩
theorem Zag{w:World}{b:Nat}{cs:Array Value}{t:TypeId}{fz:Nat × Nat}(h:w.heap[b]? =some (.cells cs t fz))(o:Nat)(v:Value):(w.setCell ⟨b,o,none⟩ v).heap[b]? =some (.cells (cs.setIfInBounds o v) t fz):=by
 simp only[World.setCell,Array.getElem?_modify,if_true,h]
 rfl
theorem Zav{w:World}{b:Nat}{x y:Value}{t:TypeId}{fz:Nat × Nat}(h:w.heap[b]? =some (.cells #[x,y] t fz))(u v:Value):((w.setCell ⟨b,0,none⟩ u).setCell ⟨b,1,none⟩ v).heap[b]? =some (.cells #[u,v] t fz) :=
 Zag (Zag h 0 u) 1 v
end Go.Proofs.YtmnjakejhbpkoaaGreatDoor
namespace Go.Proofs.YtmnjakejhbpkoaaGreatDoor
open Go Go.RowKit
set_option linter.unusedSectionVars false
section
variable {P:Program}{α β:Type} [DecidableEq α]
def mkE (enc:α→Value)(e:α × Value × Nat):MapEntry:={ key:=enc e.1,val:=e.2.1,born:=e.2.2 }
def ZaE (a:α):List (α × Value × Nat)→Nat→Option (Nat × Value)
 | [],_=>none
 | e :: r,i=>if a=e.1 then some (i,e.2.1) else ZaE a r (i+1)
structure Zcx (P:Program) (K:TypeId) (enc:α→Value):Prop where
 check:∀e a w,(Instr.checkKey e 10000 K (enc a)).run P w= .ok () w
 find:∀a L w,(Instr.findKey K (enc a) (L.map (mkE enc))).run P w= .ok (ZaE a L 0) w
 same:∀a,Instr.sameBits 10000 (enc a) (enc a)=true
def ZlU (L:List (α × Value × Nat))(clock:Nat):Prop:=(∀e∈L,e.2.2<clock)∧(L.map (fun e=>e.2.2)).Nodup
theorem ZlU.push{L:List (α × Value × Nat)}{clock:Nat}(h:ZlU L clock)(a:α)(v:Value):ZlU (L++[(a,v,clock)]) (clock+1):=by
 refine⟨fun e he=>?_,?_⟩
 ·rcases List.mem_append.1 he with he|he
  ·have:=h.1 e he;omega
  ·simp only[List.mem_singleton]at he;subst he;exact Nat.lt_succ_self _
 ·rw[List.map_append]
  refine List.nodup_append.2 ⟨h.2,by simp,fun a ha c hc e=>?_⟩;simp only[List.map_cons,List.map_nil,List.mem_singleton]at hc;obtain⟨x,hx,rfl⟩:=List.mem_map.1 ha;have:=h.1 x hx;omega
theorem Zdw(f:α × Value × Nat→α × Value × Nat)(hf:∀e,(f e).2.2=e.2.2):∀(L:List (α × Value × Nat)) (i:Nat),(L.modify i f).map (fun e=>e.2.2)=L.map (fun e=>e.2.2)
 | [],i=>by cases i <;> rfl
 | e :: r,0=>by simp[hf]
 | e :: r,i+1=>by simp[List.modify_succ_cons,Zdw f hf r i]
theorem Zg6{L M:List (α × Value × Nat)}(h:L.map (fun e=>e.2.2)=M.map (fun e=>e.2.2)){clock:Nat}(hg:ZlU M clock):ZlU L clock:=by
 refine⟨fun e he=>?_,h ▸ hg.2⟩;have:e.2.2∈M.map (fun e=>e.2.2):=h ▸ List.mem_map_of_mem he;obtain⟨x,hx,e1⟩:=List.mem_map.1 this;have:=hg.1 x hx;omega
theorem ZlU.mod{L:List (α × Value × Nat)}{clock:Nat}(h:ZlU L clock)(f:α × Value × Nat→α × Value × Nat)(hf:∀e,(f e).2.2=e.2.2)(i:Nat):ZlU (L.modify i f) clock :=
 Zg6 (Zdw f hf L i) h
def ZaG (enc:α→Value)(encV:β→Value)(w:World)(b:Nat)(m:α→Option β):Prop :=
 ∃L clock,w.heap[b]? =some (.map (L.map (mkE enc)).toArray clock)∧(∀a,(ZaE a L 0).map (·.2)=(m a).map encV)∧ZlU L clock
theorem ZaH(a:α)(L:List (α × Value × Nat)):∀i,ZaE a L i=(ZaE a L 0).map (fun p=>(p.1+i,p.2)):=by
 induction L with
 | nil=>intro i;rfl
 | cons e r ih =>
   intro i;unfold ZaE
   split
   ·simp
   ·rw[ih (i+1),ih (0+1),Option.map_map]
    congr 1
    funext p
    simp;omega
theorem Zd2(a b:α)(v:Value)(n:Nat)(L:List (α × Value × Nat)):(ZaE a (L++[(b,v,n)]) 0).map (·.2)=match (ZaE a L 0).map (·.2) with
  | some x=>some x
  | none=>if a=b then some v else none:=by
 induction L with
 | nil=>by_cases h:a=b <;> simp[ZaE,h]
 | cons e r ih =>
   simp only[List.cons_append,ZaE]
   by_cases h:a=e.1
   ·simp[h]
   ·simp only[h,if_false]
    rw[ZaH a _ 1,ZaH a r 1,Option.map_map,Option.map_map];exact ih
theorem ZeK(a:α)(L:List (α × Value × Nat)):∀i v,ZaE a L 0=some (i,v)→∃n,L[i]? =some (a,v,n):=by
 induction L with
 | nil=>intro i v h;simp[ZaE]at h
 | cons e r ih =>
   intro i v h;unfold ZaE at h
   split at h
   ·rename_i he
    simp at h;obtain⟨rfl,rfl⟩:=h;exact⟨e.2.2,by subst he;rfl⟩
   ·rw[ZaH]at h
    simp at h;obtain⟨j,hj,rfl⟩:=h;obtain⟨n,hn⟩:=ih j v hj;exact⟨n,by simpa using hn⟩
theorem Zd3(a b:α)(v:Value)(L:List (α × Value × Nat)):∀i u,ZaE b L 0=some (i,u) →
  (ZaE a (L.modify i fun e=>(b,v,e.2.2)) 0).map (·.2)=if a=b then some v else (ZaE a L 0).map (·.2):=by
 induction L with
 | nil=>intro i u h;simp[ZaE]at h
 | cons e r ih =>
   intro i u h;unfold ZaE at h
   split at h
   ·rename_i he
    simp at h;obtain⟨rfl,rfl⟩:=h;simp only[List.modify_zero_cons,ZaE]
    by_cases bA:a=b
    ·simp[bA]
    ·simp[bA,show a≠e.1 from he ▸ bA]
   ·rename_i he
    rw[ZaH]at h;simp at h;obtain⟨j,hj,rfl⟩:=h;simp only[List.modify_succ_cons,ZaE]
    by_cases hae:a=e.1
    ·have:a≠b:=fun h=>he (h ▸ hae)
     simp[hae,show e.1≠b from fun h=>he h.symm]
    ·simp only[hae,if_false]
     rw[ZaH a _ 1,ZaH a r 1,Option.map_map,Option.map_map];exact ih j u hj
theorem ZaG.look{K E T:TypeId}{enc:α→Value}{encV:β→Value}{w:World}{b:Nat}{m:α→Option β}(h:ZaG enc encV w b m)(law:Zcx P K enc)
  (hT:P.underlying T=some (.map K E)) (z:Value) (hz:∀w,(zeroValue E).run P w= .ok z w) (a:α) :
  (Instr.lookup T (.map (some b)) (enc a) true).run P w= .ok (.tuple #[((m a).map encV).getD z,.bool (m a).isSome]) w:=by
 obtain⟨L,clock,hb,hm,_⟩:=h;have hf:=hm a;have h2:=law.find a L w
 cases hl:ZaE a L 0 with
 | none =>
   rw[hl]at hf h2;have kP:m a=none:=by simpa using hf.symm
   simp[Instr.lookup,run_underlying hT,Sem.run_bind,getObj,Sem.run,hb,Result.andThen,law.check,h2,hz,kP]
 | some p =>
   rw[hl]at hf h2
   obtain⟨v,hv,xj⟩:∃v,m a=some v∧encV v=p.2:=by
    cases kP:m a with
    | none=>rw[kP]at hf;simp at hf
    | some v=>rw[kP]at hf;exact⟨v,rfl,by simpa using hf.symm⟩
   simp[Instr.lookup,run_underlying hT,Sem.run_bind,getObj,Sem.run,hb,Result.andThen,law.check,h2,hv,xj]
def upd (m:α→Option β)(a:α)(v:β):α→Option β:=fun x=>if x=a then some v else m x
def Zap (K:TypeId)(P:Program)(w:World)(b:Nat)(k v:Value):World :=
 match w.heap[b]? with
 | some (.map es clock) =>
   match (Instr.findKey K k es.toList).run P w with
   | .ok (some (i,_)) _=>w.putObj b (.map (es.modify i fun e=>{ e with key:=k,val:=v }) clock)
   | _=>w.putObj b (.map (es.push { key:=k,val:=v,born:=clock }) (clock+1))
 | _=>w
theorem Zai(K:TypeId)(w:World)(b:Nat)(k v:Value)(j:Nat)(h:j≠b):(Zap K P w b k v).heap[j]? =w.heap[j]?:=by
 unfold Zap
 split
 ·split <;> exact World.putObj_heap_other h
 ·rfl
theorem Za1(K:TypeId)(w:World)(b:Nat)(k v:Value):(Zap K P w b k v).heap.size=w.heap.size:=by
 unfold Zap
 split
 ·split <;> simp
 ·rfl
theorem ZbQ(K:TypeId)(w:World)(b:Nat)(k v:Value):(Zap K P w b k v).os=w.os∧(Zap K P w b k v).tape=w.tape∧(Zap K P w b k v).output=w.output∧(Zap K P w b k v).drawn=w.drawn:=by
 unfold Zap
 split
 ·split <;> exact⟨rfl,rfl,rfl,rfl⟩
 ·exact⟨rfl,rfl,rfl,rfl⟩
theorem ZaG.put{K E T:TypeId}{enc:α→Value}{encV:β→Value}{w:World}{b:Nat}{m:α→Option β}(h:ZaG enc encV w b m)(law:Zcx P K enc)
  (hT:P.underlying T=some (.map K E)) (a:α) (v:β) :
  (Instr.mapUpdate T (.map (some b)) (enc a) (encV v)).run P w= .ok () (Zap K P w b (enc a) (encV v))∧ZaG enc encV (Zap K P w b (enc a) (encV v)) b (upd m a v):=by
 obtain⟨L,clock,hb,hm,hg⟩:=h;have h2:=law.find a L w;have aE:=(Zpi hb).1
 cases hl:ZaE a L 0 with
 | none =>
   rw[hl]at h2
   have hp:Zap K P w b (enc a) (encV v)=w.putObj b (.map ((L++[(a,encV v,clock)]).map (mkE enc)).toArray (clock+1)):=by
    simp[Zap,hb,h2,mkE]
   refine⟨?_,L++[(a,encV v,clock)],clock+1,by rw[hp];exact World.putObj_heap_same aE,fun x=>?_,hg.push a (encV v)⟩
   ·rw[hp]
    simp[Instr.mapUpdate,run_underlying hT,Sem.run_bind,getObj,setObj,Sem.run,hb,Result.andThen,law.check,h2,World.putObj,mkE]
   ·rw[Zd2]
    have:=hm x
    by_cases hx:x=a
    ·subst hx
     simp[hl,upd]
    ·rw[this]
     cases xV:m x <;> simp[upd,hx,xV]
 | some p =>
   obtain⟨i,u⟩:=p;rw[hl]at h2;obtain⟨n,hn⟩:=ZeK a L i u hl
   have mX:((L.map (mkE enc)).toArray.modify i fun e=>{ e with key:=enc a,val:=encV v })=((L.modify i fun e=>(a,encV v,e.2.2)).map (mkE enc)).toArray:=by
    apply Array.ext_getElem?
    intro j;simp only[Array.getElem?_modify,List.getElem?_toArray,List.getElem?_map,List.getElem?_modify]
    by_cases hj:i=j
    ·subst hj;simp[hn,mkE]
    ·simp[hj]
   have hp:Zap K P w b (enc a) (encV v)=w.putObj b (.map ((L.modify i fun e=>(a,encV v,e.2.2)).map (mkE enc)).toArray clock):=by
    simp[Zap,hb,h2,mX]
   refine⟨?_,_,clock,by rw[hp];exact World.putObj_heap_same aE,fun x=>?_,hg.mod (fun e=>(a,encV v,e.2.2)) (fun _=>rfl) i⟩
   ·rw[hp,←mX]
    simp[Instr.mapUpdate,run_underlying hT,Sem.run_bind,getObj,setObj,Sem.run,hb,Result.andThen,law.check,h2,World.putObj,hn,Instr.keyThatStays,law.same,mkE]
   ·rw[Zd3 x a (encV v) L i u hl]
    by_cases hx:x=a
    ·simp[upd,hx]
    ·simp[upd,hx,hm x]
def Ent (L:List (α × Value × Nat))(a:α)(st:Nat):Prop:=∃i u,ZaE a L 0=some (i,u)∧L[i]? =some (a,u,st)
def Zgl (L:List (α × Value × Nat))(a:α):Option Value:=(ZaE a L 0).map (·.2)
def ZnU (enc:α→Value)(w:World)(b:Nat)(L:List (α × Value × Nat)):Prop:=∃clock,w.heap[b]? =some (.map (L.map (mkE enc)).toArray clock)∧ZlU L clock
def But (b:Nat)(w w':World):Prop:=(∀k,k≠b→w'.heap[k]? =w.heap[k]?)∧w'.heap.size=w.heap.size∧w'.os=w.os∧w'.tape=w.tape∧w'.output=w.output∧w'.drawn=w.drawn
theorem But.trans{b:Nat}{w w1 w2:World}(h:But b w w1)(k:But b w1 w2):But b w w2 :=
 ⟨fun j hj=>(k.1 j hj).trans (h.1 j hj),k.2.1.trans h.2.1,k.2.2.1.trans h.2.2.1,k.2.2.2.1.trans h.2.2.2.1,k.2.2.2.2.1.trans h.2.2.2.2.1,k.2.2.2.2.2.trans h.2.2.2.2.2⟩
theorem But.put(b:Nat)(w:World)(o:Obj):But b w (w.putObj b o):=⟨fun _ hj=>World.putObj_heap_other hj,by simp,rfl,rfl,rfl,rfl⟩
theorem ZdJ(a c:α)(v:Value)(n:Nat)(L:List (α × Value × Nat))(i:Nat)(u:Value)(h:ZaE c L 0=some (i,u)):ZaE c (L++[(a,v,n)]) 0=some (i,u):=by
 induction L generalizing i with
 | nil=>simp[ZaE]at h
 | cons e r ih =>
   unfold ZaE at h;simp only[List.cons_append];unfold ZaE
   split at h
   ·rename_i he
    rw[if_pos he];exact h
   ·rename_i he
    rw[if_neg he];rw[ZaH]at h ⊢;simp at h;obtain⟨j,hj,rfl⟩:=h;rw[ih j hj]
    rfl
theorem Zkz(a:α)(v:Value)(n:Nat)(L:List (α × Value × Nat))(h:ZaE a L 0=none):ZaE a (L++[(a,v,n)]) 0=some (L.length,v):=by
 induction L with
 | nil=>simp[ZaE]
 | cons e r ih =>
   unfold ZaE at h
   split at h
   ·cases h
   ·rename_i he
    simp only[List.cons_append];unfold ZaE;rw[if_neg he,ZaH,ih (by rw[ZaH]at h;simpa using h)];simp
theorem Zgb(enc:α→Value)(L:List (α × Value × Nat))(hn:(L.map (fun e=>e.2.2)).Nodup)(i:Nat)(a:α)(u:Value)(st:Nat)(h:L[i]? =some (a,u,st)) :
  (L.map (mkE enc)).findIdx? (fun e=>(e.born:Int) ==(st:Int))=some i:=by
 induction L generalizing i with
 | nil=>simp at h
 | cons e r ih =>
   rw[List.map_cons,List.nodup_cons]at hn;rw[List.map_cons,List.findIdx?_cons]
   cases i with
   | zero =>
     simp only[List.getElem?_cons_zero,Zpw]at h;subst h;simp[mkE]
   | succ i =>
     simp only[List.getElem?_cons_succ]at h;have hm:=List.mem_of_getElem? h;have aH:e.2.2≠st:=fun he=>hn.1 (List.mem_map.2 ⟨_,hm,he.symm⟩)
     rw[if_neg (by simp[mkE];omega),ih hn.2 i h]
     rfl
theorem ZdI(c:α)(f:α × Value × Nat→α × Value × Nat)(hf:∀e,(f e).1=e.1):∀(L:List (α × Value × Nat)) (i j:Nat) (u:Value) ,ZaE c L 0=some (j,u)→∃u',ZaE c (L.modify i f) 0=some (j,u'):=by
 intro L
 induction L with
 | nil=>intro i j u h;simp[ZaE]at h
 | cons e r ih =>
   intro i j u h;unfold ZaE at h
   split at h
   ·rename_i he
    simp at h;obtain⟨rfl,rfl⟩:=h
    cases i with
    | zero=>exact⟨(f e).2.1,by simp[ZaE,hf,he]⟩
    | succ i=>exact⟨e.2.1,by simp[ZaE,he]⟩
   ·rename_i he
    rw[ZaH]at h;simp at h;obtain⟨j',mV,rfl⟩:=h
    cases i with
    | zero=>exact⟨u,by simp only[List.modify_zero_cons,ZaE,hf,if_neg he];rw[ZaH,mV];rfl⟩
    | succ i =>
      obtain⟨u',lw⟩:=ih i j' u mV;exact⟨u',by simp only[List.modify_succ_cons,ZaE,if_neg he];rw[ZaH,lw];rfl⟩
theorem ZhR{K E T:TypeId}{enc:α→Value}{w:World}{b:Nat}{L:List (α × Value × Nat)}(h:ZnU enc w b L)(law:Zcx P K enc)
  (hT:P.underlying T=some (.map K E)) (z:Value) (hz:∀w,(zeroValue E).run P w= .ok z w) (a:α) :
  ∃p st w' L',(Instr.mapEntry T (.map (some b)) (enc a)).run P w= .ok (.tuple #[p,goInt (st:Nat)]) w'∧ZnU enc w' b L'∧But b w w'∧Ent L' a st ∧
    (∀x,x≠a→Zgl L' x=Zgl L x)∧(∀c sc,Ent L c sc→Ent L' c sc):=by
 obtain⟨clock,hb,hg⟩:=h;have h2:=law.find a L w;have aE:=(Zpi hb).1
 cases hl:ZaE a L 0 with
 | none =>
   rw[hl]at h2;refine⟨z,clock,w.putObj b (.map ((L++[(a,z,clock)]).map (mkE enc)).toArray (clock+1)),L++[(a,z,clock)],?_,⟨clock+1,World.putObj_heap_same aE,hg.push _ _⟩,But.put _ _ _,⟨L.length,z,Zkz a z clock L hl,by simp⟩,fun x hx=>?_,fun c sc hc=>?_⟩
   ·simp[Instr.mapEntry,run_underlying hT,Sem.run_bind,getObj,setObj,Sem.run,hb,Result.andThen,law.check,h2,hz,World.putObj,mkE]
   ·unfold Zgl
    rw[Zd2]
    cases aF:ZaE x L 0 <;> simp[hx]
   ·obtain⟨i,u,h3,h4⟩:=hc
    exact⟨i,u,ZdJ _ _ _ _ _ _ _ h3,by rw[List.getElem?_append_left (Zpj h4).1];exact h4⟩
 | some p =>
   obtain⟨i,u⟩:=p;rw[hl]at h2;obtain⟨n,hn⟩:=ZeK a L i u hl
   have lJ:((L.map (mkE enc)).toArray.modify i fun e=>{ e with key:=enc a })=(L.map (mkE enc)).toArray:=by
    apply Array.ext_getElem?
    intro j;simp only[Array.getElem?_modify,List.getElem?_toArray,List.getElem?_map]
    by_cases hj:i=j
    ·subst hj;simp[hn,mkE]
    ·simp[hj]
   refine⟨u,n,w.putObj b (.map (L.map (mkE enc)).toArray clock),L,?_,⟨clock,World.putObj_heap_same aE,hg⟩,But.put _ _ _,⟨i,u,hl,hn⟩,fun _ _=>rfl,fun _ _ h=>h⟩;have xz:∀x,((L.map (mkE enc)).toArray.modify i fun e=>({ key:=enc a,val:=e.val,born:=e.born }:MapEntry))=x→x=(L.map (mkE enc)).toArray:=fun x hx=>hx.symm.trans lJ
   simp[Instr.mapEntry,run_underlying hT,Sem.run_bind,getObj,setObj,Sem.run,hb,Result.andThen,law.check,h2,World.putObj,hn,Instr.keyThatStays,law.same,mkE]
   first|done|(try simp[mkE]at lJ;simp[lJ])
theorem Zb9{T:TypeId}{enc:α→Value}{w:World}{b:Nat}{L:List (α × Value × Nat)}(h:ZnU enc w b L){a:α}{st:Nat}(he:Ent L a st)(v:Value) :
  ∃w' L',(Instr.entryStore T (.map (some b)) (goInt (st:Nat)) v).run P w= .ok () w'∧ZnU enc w' b L'∧But b w w' ∧
    (∀x,Zgl L' x=if x=a then some v else Zgl L x)∧(∀c sc,Ent L c sc→Ent L' c sc):=by
 obtain⟨clock,hb,hg⟩:=h;obtain⟨i,u,h1,h2⟩:=he;have aE:=(Zpi hb).1;have xH:=Zgb enc L hg.2 i a u st h2
 have mX:((L.map (mkE enc)).toArray.modify i fun e=>{ e with val:=v })=((L.modify i fun e=>(e.1,v,e.2.2)).map (mkE enc)).toArray:=by
  apply Array.ext_getElem?
  intro j;simp only[Array.getElem?_modify,List.getElem?_toArray,List.getElem?_map,List.getElem?_modify]
  by_cases hj:i=j
  ·subst hj;simp[h2,mkE]
  ·simp[hj]
 have ji:(L.modify i fun e=>(e.1,v,e.2.2))=(L.modify i fun e=>(a,v,e.2.2)):=by
  apply List.ext_getElem?
  intro j;simp only[List.getElem?_modify]
  by_cases hj:i=j
  ·subst hj;simp[h2]
  ·simp[hj]
 refine⟨w.putObj b (.map ((L.modify i fun e=>(e.1,v,e.2.2)).map (mkE enc)).toArray clock),_,?_,⟨clock,World.putObj_heap_same aE,hg.mod (fun e=>(e.1,v,e.2.2)) (fun _=>rfl) i⟩,But.put _ _ _,fun x=>?_,fun c sc hc=>?_⟩
 ·have nN:(L.map (mkE enc)).toArray.findIdx? (fun e=>(e.born:Int) ==(st:Int))=some i:=by
   rw[List.findIdx?_toArray];exact xH
  rw[←mX];simp only[Instr.entryStore,Sem.run_bind,getObj,setObj,Sem.run,hb,Result.andThen,asInt,asIntOf,goInt,nN,World.putObj];simp[Sem.run,hb,Result.andThen,nN,World.putObj]
 ·unfold Zgl
  rw[ji];exact Zd3 x a v L i u h1
 ·obtain⟨j,y,h3,h4⟩:=hc
  obtain⟨y',h5⟩:=ZdI c (fun e=>(e.1,v,e.2.2)) (fun _=>rfl) L i j y h3;obtain⟨n,hn⟩:=ZeK c _ j y' h5;refine⟨j,y',h5,?_⟩;rw[hn];rw[List.getElem?_modify]at hn;simp[h4]at hn
  by_cases cN:i=j
  ·simp[cN]at hn;simp[hn]
  ·simp[cN]at hn;simp[hn]
end
theorem Zom{P:Program}{α:Type}[DecidableEq α]{K:TypeId}(hK:P.underlying K=some (.int .i64))(f:α→Int)(hf:∀a b,f a=f b→a=b):Zcx P K (fun n:α=>Value.int .i64 (f n)) where
 check e a w:=by rw[Instr.checkKey];simp[run_underlying hK]
 same a:=by rw[Instr.sameBits];simp
 find a L w:=by
  have:∀L i,Instr.findNow (.int .i64) (.int .i64 (f a)) (L.map (mkE fun n:α=>Value.int .i64 (f n))) i=some (ZaE a L i):=by
   intro L
   induction L with
   | nil=>intro i;rfl
   | cons x r ih =>
     intro i;simp only[List.map_cons,Instr.findNow,mkE,Instr.sameNow,ZaE,if_true]
     by_cases h:a=x.1
     ·simp[h]
     ·have:(f a ==f x.1)=false:=by simp;exact fun e=>h (hf _ _ e)
      simp only[this,h,if_false];exact ih (i+1)
  simp[Instr.findKey,run_underlying hK,this]
theorem ZmY{P:Program}{α:Type}[DecidableEq α]{K:TypeId}(hK:P.underlying K=some .string)(f:α→List UInt8)(hf:∀a b,f a=f b→a=b):Zcx P K (fun n:α=>Value.string ⟨(f n).toArray⟩) where
 check e a w:=by rw[Instr.checkKey];simp[run_underlying hK]
 same a:=by
  rw[Instr.sameBits]
  show ((f a).toArray ==(f a).toArray)=true
  simp
 find a L w:=by
  have:∀L i,Instr.findNow .string (.string ⟨(f a).toArray⟩) (L.map (mkE fun n:α=>Value.string ⟨(f n).toArray⟩)) i=some (ZaE a L i):=by
   intro L
   induction L with
   | nil=>intro i;rfl
   | cons x r ih =>
     intro i;simp only[List.map_cons,Instr.findNow,mkE,Instr.sameNow,ZaE]
     by_cases h:a=x.1
     ·have:((⟨(f a).toArray⟩:ByteArray) ==⟨(f x.1).toArray⟩)=true:=by
       rw[h]
       show ((f x.1).toArray ==(f x.1).toArray)=true
       simp
      rw[if_pos h,this]
     ·have:((⟨(f a).toArray⟩:ByteArray) ==⟨(f x.1).toArray⟩)=false:=by
       show ((f a).toArray ==(f x.1).toArray)=false
       rw[beq_eq_false_iff_ne];intro e;exact h (hf _ _ (by simpa using e))
      simp only[this,h,if_false];exact ih (i+1)
  simp[Instr.findKey,run_underlying hK,this]
theorem Zll(e:Bool)(a:Nat × Nat)(w:World):(Instr.checkKey e 10000 165 (.agg #[.int .i64 (a.1:Int),.int .i64 (a.2:Int)])).run Tryz.prog w= .ok () w:=by kernel_rfl
theorem Zov(a b:Nat × Nat)(w:World):(Op.equal 165 (.agg #[.int .i64 (a.1:Int),.int .i64 (a.2:Int)]) (.agg #[.int .i64 (b.1:Int),.int .i64 (b.2:Int)])).run Tryz.prog w= .ok (decide (a=b)) w:=by
 unfold Op.equal Op.maxDepth;rw[run_equalIn_agg w _ _ _ _ (by kernel_rfl) (by kernel_rfl)];simp only[Program.fieldsOf,Tryz.underlying165,List.toArray,Op.eqFields];simp[go_sem,Op.eqFields,Tryz.underlying3]
 by_cases h1:(a.1:Int)=b.1 <;> by_cases h2:(a.2:Int)=b.2 <;> simp[h1,h2,Prod.ext_iff] <;> omega
theorem Znd{P:Program}{α:Type}[DecidableEq α]{K:TypeId}{enc:α→Value}(kq:∀a b w,(Op.equal K (enc a) (enc b)).run P w= .ok (decide (a=b)) w)(a:α)(w:World) :
  ∀L i,(Instr.findAsking K (enc a) (L.map (mkE enc)) i).run P w= .ok (ZaE a L i) w:=by
 intro L
 induction L with
 | nil=>intro i;simp[Instr.findAsking,ZaE]
 | cons x r ih =>
   intro i;simp only[List.map_cons,Instr.findAsking,mkE,Sem.run_bind,kq,Result.andThen,ZaE]
   by_cases h:a=x.1
   ·simp[h]
   ·simp only[h,decide_false,Bool.false_eq_true,if_false]
    exact ih (i+1)
theorem Zoa{P:Program}{α:Type}[DecidableEq α]{K:TypeId}{kind:TypeDesc}{enc:α→Value}(hK:P.underlying K=some kind)
  (hc:∀e a w,(Instr.checkKey e 10000 K (enc a)).run P w= .ok () w) (hs:∀a,Instr.sameBits 10000 (enc a) (enc a)=true)
  (hn:∀a b,Instr.sameNow kind (enc a) (enc b)=none) (kq:∀a b w,(Op.equal K (enc a) (enc b)).run P w= .ok (decide (a=b)) w):Zcx P K enc where
 check:=hc
 same:=hs
 find a L w:=by
  cases L with
  | nil=>simp[Instr.findKey,run_underlying hK,Instr.findNow,ZaE]
  | cons x r =>
    have h1:Instr.findNow kind (enc a) ((x :: r).map (mkE enc)) 0=none:=by
     simp[Instr.findNow,mkE,hn]
    simp only[Instr.findKey,Sem.run_bind,run_underlying hK,Result.andThen,h1];exact Znd kq a w (x :: r) 0
def Zga (a:Nat × Nat):Value:=.agg #[.int .i64 (a.1:Int),.int .i64 (a.2:Int)]
theorem Zh6:Zcx Tryz.prog 165 Zga :=
 Zoa (kind:=.struct (Tryz.prog.fieldsOf 165)) (by kernel_rfl) Zll (fun a=>by
  unfold Zga;rw[Instr.sameBits];simp;exact⟨by rw[Instr.sameBits];simp,by rw[Instr.sameBits];simp⟩) (fun _ _=>rfl) Zov
end Go.Proofs.YtmnjakejhbpkoaaGreatDoor
namespace Go.Proofs.YtmnjakejhbpkoaaGreatDoor
open Go Go.RowKit
structure VN where
 left:Int
 right:Int
 var:Int
 deriving DecidableEq,Inhabited
structure Zaf where
 pl:Int
 lit:Int
 el:List (Nat × Nat)
 le:Zak
 deriving DecidableEq,Inhabited
def ZgV (pl lit:Int)(el:List (Nat × Nat)):List UInt8 :=
 Lib.itoa pl++[32]++Lib.itoa lit++el.flatMap fun p=>[32]++Lib.itoa p.1++[32]++Lib.itoa p.2
abbrev Key:=Int × Int × List (Nat × Nat)
def asc {α β:Type}[DecidableEq α](l:List (α × β))(a:α):Option β:=match l with
 | []=>none
 | p :: r=>if a=p.1 then some p.2 else asc r a
structure St where
 tree:List VN
 nodes:List Zaf
 uniq:List (Key × Nat)
 ands:List ((Nat × Nat) × Nat)
 nots:List (Nat × Nat)
def Zd5 (t:List VN)(v:Nat):Option Nat:=t.findIdx? fun x=>decide (x.left<0) && decide (x.var=(v:Int))
end Go.Proofs.YtmnjakejhbpkoaaGreatDoor
namespace Go.Proofs.YtmnjakejhbpkoaaGreatDoor
open Go Go.RowKit
def Ziz (l:List UInt8):Nat:=l.foldl (fun a d=>10*a+(d.toNat - 48)) 0
theorem Zdk(n:Nat):Ziz (Lib.decDigits n)=n:=by
 induction n using Nat.strongRecOn with
 | _ n ih =>
   rw[Lib.decDigits]
   split
   ·rename_i h
    simp[Ziz];omega
   ·rename_i h
    have:=ih (n / 10) (by omega);unfold Ziz at *;rw[List.foldl_append,this];simp;omega
theorem ZeH(n:Nat):∀d∈Lib.decDigits n,48≤d.toNat∧d.toNat≤57:=by
 induction n using Nat.strongRecOn with
 | _ n ih =>
   rw[Lib.decDigits]
   split
   ·rename_i h
    intro d hd;simp at hd;subst hd;simp;omega
   ·rename_i h
    intro d hd;rw[List.mem_append]at hd;rcases hd with hd|hd
    ·exact ih (n / 10) (by omega) d hd
    ·simp at hd
     subst hd;simp;omega
theorem Zbv(i:Int):(32:UInt8)∉Lib.itoa i:=by
 intro h;unfold Lib.itoa at h
 split at h
 ·rw[List.mem_cons]at h
  rcases h with h|h
  ·simp at h
  ·have:=(ZeH _ _ h).1;simp at this
 ·have:=(ZeH _ _ h).1;simp at this
theorem Zer(i j:Int)(h:Lib.itoa i=Lib.itoa j):i=j:=by
 unfold Lib.itoa at h
 have key:∀a b:Nat,Lib.decDigits a=Lib.decDigits b→a=b:=fun a b e=>by
  have:=congrArg Ziz e;rwa [Zdk,Zdk]at this
 have nodash:∀(a:Nat) (l:List UInt8),Lib.decDigits a=45 :: l→False:=fun a l e=>by
  have:=(ZeH a 45 (by rw[e];simp)).1;simp at this
 split at h <;> split at h
 ·have:=key _ _ (List.cons.inj h).2;omega
 ·exact(nodash _ _ h.symm).elim
 ·exact(nodash _ _ h).elim
 ·have:=key _ _ h;omega
theorem Zie(x y x' y':List UInt8)(hx:(32:UInt8)∉x)(bn:(32:UInt8)∉x')(h:x++32 :: y=x'++32 :: y'):x=x'∧y=y':=by
 induction x generalizing x' with
 | nil =>
   cases x' with
   | nil=>simpa using h
   | cons a r =>
     simp at h;exact absurd (by simp[h.1]) bn
 | cons a r ih =>
   cases x' with
   | nil =>
     simp at h;exact absurd (by simp[h.1]) hx
   | cons b r' =>
     simp at h;obtain⟨rfl,h⟩:=h;obtain⟨h1,h2⟩:=ih r' (fun e=>hx (Zpn _ e)) (fun e=>bn (Zpn _ e)) h;exact⟨by rw[h1],h2⟩
def ZjD (el:List (Nat × Nat)):List UInt8:=el.flatMap fun p=>[32]++Lib.itoa p.1++[32]++Lib.itoa p.2
theorem Zi0(x y x' y':List UInt8)(hx:(32:UInt8)∉x)(bn:(32:UInt8)∉x')(hy:y=[]∨∃t,y=32 :: t)(ly:y'=[]∨∃t,y'=32 :: t)(h:x++y=x'++y'):x=x'∧y=y':=by
 rcases hy with rfl|⟨t,rfl⟩ <;> rcases ly with rfl|⟨t',rfl⟩
 ·simpa using h
 ·exact absurd (by rw[show x=x'++32 :: t' by simpa using h];simp) hx
 ·exact absurd (by rw[show x'=x++32 :: t by simpa using h.symm];simp) bn
 ·obtain⟨h1,h2⟩:=Zie _ _ _ _ hx bn h
  exact⟨h1,by rw[h2]⟩
theorem Zdo(el:List (Nat × Nat)):ZjD el=[]∨∃t,ZjD el=32 :: t:=by
 cases el with
 | nil=>exact .inl rfl
 | cons p r=>exact .inr ⟨Lib.itoa p.1++32 :: (Lib.itoa p.2++ZjD r),by simp[ZjD]⟩
theorem Zmn:∀el iN:List (Nat × Nat),ZjD el=ZjD iN→el=iN:=by
 intro el
 induction el with
 | nil =>
   intro iN h
   cases iN with
   | nil=>rfl
   | cons p r=>simp[ZjD]at h
 | cons p r ih =>
   intro iN h
   cases iN with
   | nil=>simp[ZjD]at h
   | cons p' r' =>
     have e:∀(p:Nat × Nat) (r:List (Nat × Nat)),ZjD (p :: r)=32 :: (Lib.itoa p.1++32 :: (Lib.itoa p.2++ZjD r)):=fun p r=>by simp[ZjD]
     rw[e,e]at h;obtain⟨h1,h2⟩:=Zie _ _ _ _ (Zbv _) (Zbv _) (List.cons.inj h).2;obtain⟨h3,h4⟩:=Zi0 _ _ _ _ (Zbv _) (Zbv _) (Zdo r) (Zdo r') h2;have a:=Zer _ _ h1;have b:=Zer _ _ h3;rw[ih r' h4]
     congr 1
     exact Prod.ext (by omega) (by omega)
def Zce (k:Key):List UInt8:=ZgV k.1 k.2.1 k.2.2
theorem ZgW(a b:Key)(h:Zce a=Zce b):a=b:=by
 obtain⟨a1,a2,a3⟩:=a;obtain⟨b1,b2,b3⟩:=b;have e:∀x y z,Zce (x,y,z)=Lib.itoa x++32 :: (Lib.itoa y++ZjD z):=fun x y z=>by simp[Zce,ZgV,ZjD]
 rw[e,e]at h;obtain⟨h1,h2⟩:=Zie _ _ _ _ (Zbv _) (Zbv _) h;obtain⟨h3,h4⟩:=Zi0 _ _ _ _ (Zbv _) (Zbv _) (Zdo a3) (Zdo b3) h2;rw[Zer _ _ h1,Zer _ _ h3,Zmn _ _ h4]
end Go.Proofs.YtmnjakejhbpkoaaGreatDoor
namespace Go.Proofs.YtmnjakejhbpkoaaGreatDoor
open Go Go.RowKit
def Zdu (n:Zaf):Prop:=-1≤n.pl∧n.pl≤1048576∧-1048576≤n.lit∧n.lit≤1048576∧n.el.length≤1048576∧∀p∈n.el,p.1≤1048576∧p.2≤1048576
instance (n:Zaf):Decidable (Zdu n):=by unfold Zdu;infer_instance
def ZnY (s:St)(n:Zaf):Option (Nat × St) :=
 if Zdu n then
  match asc s.uniq (n.pl,n.lit,n.el) with
  | some i=>some (i,s)
  | none=>if s.nodes.length<1048576 then
     some (s.nodes.length,{ s with nodes:=s.nodes++[n],uniq:=((n.pl,n.lit,n.el),s.nodes.length) :: s.uniq })
    else none
 else none
def ZiJ (l pl:Int):Zaf:={ pl:=pl,lit:=l,el:=[],le:=if 0<l then ofS [l] else 0 }
def Zbq (s:St)(l pl:Int):Option (Nat × St):=ZnY s (ZiJ l pl)
def ZaK (ns:List Zaf)(i:Nat):Zak:=match ns[i]? with
 | some n=>n.le
 | none=>0
def Za2 (ns:List Zaf)(p q:Nat × Nat):Bool:=ZaM (ZaK ns p.1) (ZaK ns q.1)
def ZgC {α:Type}(lt:α→α→Bool)(p:α):List α→List α
 | []=>[p]
 | q :: r=>if lt p q then p :: q :: r else q :: ZgC lt p r
def ZbS {α:Type}(lt:α→α→Bool):List α→List α
 | []=>[]
 | p :: r=>ZgC lt p (ZbS lt r)
def Zbk {α:Type}(lt:α→α→Bool):List α→Bool
 | []=>true
 | p :: r=>(r.all fun q=>lt p q || lt q p) && Zbk lt r
def Zay (ns:List Zaf)(a:Bool × Zak)(p:Nat × Nat):Bool × Zak :=
 if p.2=0 then a else
  let x:=ZaK ns p.1 ||| ZaK ns p.2
  if a.1 || ZaM x a.2 then (false,x) else a
def ZaZ (ns:List Zaf)(l:List (Nat × Nat)):Bool × Zak:=l.foldl (Zay ns) (true,0)
def Zbn (s:St)(pl:Int)(l:List (Nat × Nat)):Option (Nat × St) :=
 if l≠[]∧(l.all fun p=>decide (p.1<s.nodes.length) && decide (p.2<s.nodes.length))=true∧Zbk (Za2 s.nodes) l=true then
  let l':=ZbS (Za2 s.nodes) l
  ZnY s { pl:=pl,lit:=0,el:=l',le:=(ZaZ s.nodes l').2 }
 else none
end Go.Proofs.YtmnjakejhbpkoaaGreatDoor
namespace Go.Proofs.YtmnjakejhbpkoaaGreatDoor
open Go Go.RowKit
def ZbO (g:St→Nat→Option (Nat × St)):St→List (Nat × Nat)→Option (List (Nat × Nat) × St)
 | s,[]=>some ([],s)
 | s,p :: r =>
   match g s p.2 with
   | none=>none
   | some (q,s1) =>
     match ZbO g s1 r with
     | none=>none
     | some (l,s2)=>some ((p.1,q) :: l,s2)
def Zh9 (a:Nat):Option (Nat × St)→Option (Nat × St)
 | none=>none
 | some (b,s)=>some (b,{ s with nots:=(b,a) :: (a,b) :: s.nots })
def Zg8 (g:St→Nat→Option (Nat × St))(s:St)(n:Zaf):Option (Nat × St) :=
 if n.lit=0 then
  match ZbO g s n.el with
  | none=>none
  | some (l,s1)=>Zbn s1 n.pl l
 else Zbq s (-n.lit) n.pl
def Zlb:Nat→St→Nat→Option (Nat × St)
 | 0,_,_=>none
 | f+1,s,a =>
   if a<2 then some (1 - a,s) else
    match asc s.nots a with
    | some b=>some (b,s)
    | none =>
      match s.nodes[a]? with
      | none=>none
      | some n=>Zh9 a (Zg8 (Zlb f) s n)
end Go.Proofs.YtmnjakejhbpkoaaGreatDoor
namespace Go.Proofs.YtmnjakejhbpkoaaGreatDoor
open Go Go.RowKit
theorem Zb2{α:Type}(lt:α→α→Bool)(p:α):∀l,(ZgC lt p l).Perm (p :: l)
 | []=>by simp[ZgC]
 | q :: r=>by
   unfold ZgC
   split
   ·exact .refl _
   ·exact((Zb2 lt p r).cons q).trans (.swap p q r)
theorem ZaR{α:Type}(lt:α→α→Bool):∀l,(ZbS lt l).Perm l
 | []=>.refl _
 | p :: r=>(Zb2 lt p _).trans ((ZaR lt r).cons p)
theorem Zdv{α:Type}(lt:α→α→Bool)(irr:∀x,lt x x=false)(tr:∀x y z,lt x y=true→lt y z=true→lt x z=true) :
  ∀l l':List α,l.Perm l'→l.Pairwise (fun a b=>lt a b=true)→l'.Pairwise (fun a b=>lt a b=true)→l=l'
 | [],l',h,_,_=>(List.nil_perm.1 h).symm ▸ rfl
 | a :: l,[],h,_,_=>by simpa using h.length_eq
 | a :: l,b :: l',h,h1,h2=>by
   have asym:∀x y,lt x y=true→lt y x=true→False:=fun x y e1 e2=>by have:=tr x y x e1 e2;rw[irr]at this;cases this
   have bA:a=b:=by
    rw[List.pairwise_cons]at h1 h2;have ha:a∈b :: l':=h.mem_iff.1 (Zpy ..);have hb:b∈a :: l:=h.mem_iff.2 (Zpy ..);rcases List.mem_cons.1 ha with e|e
    ·exact e
    ·rcases List.mem_cons.1 hb with e'|e'
     ·exact e'.symm
     ·exact(asym _ _ (h2.1 a e) (h1.1 b e')).elim
   subst bA;rw[List.pairwise_cons]at h1 h2;rw[Zdv lt irr tr l l' (List.Perm.cons_inv h) h1.2 h2.2]
theorem ZbN{α:Type}(lt:α→α→Bool)(tr:∀x y z,lt x y=true→lt y z=true→lt x z=true)(p:α):∀l:List α,l.Pairwise (fun a b=>lt a b=true)→(∀q∈l,lt p q=true∨lt q p=true)→(ZgC lt p l).Pairwise (fun a b=>lt a b=true)
 | [],_,_=>by simp[ZgC]
 | q :: r,h,ha=>by
   unfold ZgC;rw[List.pairwise_cons]at h
   split
   ·rename_i et
    rw[List.pairwise_cons];refine⟨fun x hx=>?_,by rw[List.pairwise_cons];exact h⟩;rcases List.mem_cons.1 hx with rfl|hx
    ·exact et
    ·exact tr _ _ _ et (h.1 x hx)
   ·rename_i et
    rw[List.pairwise_cons];refine⟨fun x hx=>?_,ZbN lt tr p r h.2 (fun x hx=>ha x (Zpn _ hx))⟩;rcases List.mem_cons.1 ((Zb2 lt p r).mem_iff.1 hx) with rfl|hx
    ·exact(ha q (Zpy ..)).resolve_left et
    ·exact h.1 x hx
theorem Zjd{α:Type}(lt:α→α→Bool)(p:α)(r:List α)(h:Zbk lt (p :: r)=true):(∀q∈r,lt p q=true∨lt q p=true)∧Zbk lt r=true:=by
 unfold Zbk at h;simp only[Zpx,List.all_eq_true,Bool.or_eq_true]at h;exact h
theorem ZbA{α:Type}(lt:α→α→Bool)(tr:∀x y z,lt x y=true→lt y z=true→lt x z=true):∀l:List α,Zbk lt l=true→(ZbS lt l).Pairwise (fun a b=>lt a b=true)
 | [],_=>by simp[ZbS]
 | p :: r,h=>by
   obtain⟨h1,h2⟩:=Zjd lt p r h;exact ZbN lt tr p _ (ZbA lt tr r h2) (fun q hq=>h1 q ((ZaR lt r).mem_iff.1 hq))
theorem ZdF{α:Type}(lt:α→α→Bool):∀l:List α,Zbk lt l=true↔l.Pairwise (fun a b=>lt a b=true∨lt b a=true)
 | []=>by simp[Zbk]
 | p :: r=>by
   rw[List.pairwise_cons,←ZdF lt r];simp[Zbk]
theorem ZhH{α:Type}(lt:α→α→Bool){l l':List α}(h:l.Perm l')(ha:Zbk lt l=true):Zbk lt l'=true:=by
 rw[ZdF]at *;exact(h.pairwise_iff (fun h=>h.symm)).1 ha
theorem ZlD{α:Type}(lt:α→α→Bool)(l:List α)(ha:Zbk lt l=true)(h:l.Pairwise (fun a b=>lt b a=false)):l.Pairwise (fun a b=>lt a b=true):=by
 rw[ZdF]at ha;refine List.Pairwise.imp (fun {a b} h=>?_) (ha.and h);rcases h with ⟨h1|h1,h2⟩
 ·exact h1
 ·rw[h1]at h2;cases h2
theorem ZeM(s:Zak):(ZbL s=0∧s=0)∨(∃i,ZbL s=i+1∧i<128∧s.getLsbD i=true∧∀j,j<i→s.getLsbD j=false):=by
 unfold ZbL
 split
 ·rename_i i h
  rw[List.find?_eq_some_iff_append]at h;obtain⟨hi,pr,bs,hr,aN⟩:=h
  have aL:pr.length=i:=by
   have h1:(List.range 128)[pr.length]? =some i:=by rw[hr];simp
   rw[List.getElem?_range]at h1
   ·simpa using h1
   ·rw[List.getElem?_eq_some_iff]at h1
    obtain⟨h,_⟩:=h1;simpa using h
  have sK:i<128:=by
   have:pr.length<(List.range 128).length:=by rw[hr];simp
   simp at this;omega
  refine .inr ⟨i,rfl,sK,hi,fun j hj=>?_⟩
  have cx:pr[j]? =some j:=by
   have h1:(List.range 128)[j]? =some j:=List.getElem?_range (by omega);rw[hr,List.getElem?_append_left (by omega)]at h1;exact h1
  have:=aN j (List.mem_of_getElem? cx);simpa using this
 ·rename_i h
  left
  refine⟨rfl,?_⟩;rw[List.find?_eq_none]at h
  apply BitVec.eq_of_getLsbD_eq
  intro i hi;have:=h i (by simpa using hi);simpa using this
theorem ZaJ(a b:Zak):ZaM a b=true↔∃i,i<128∧a.getLsbD i=false∧b.getLsbD i=true∧∀j,j<i→a.getLsbD j=b.getLsbD j:=by
 unfold ZaM;rcases ZeM ((a &&& ~~~b) ||| (b &&& ~~~a)) with ⟨h1,h2⟩|⟨i,h1,h2,h3,h4⟩
 ·simp only[h1]
  constructor
  ·intro h;simp at h
  ·rintro⟨i,hi,ha,hb,_⟩
   have:=congrArg (fun s=>s.getLsbD i) h2;simp only[BitVec.getLsbD_or,BitVec.getLsbD_and,BitVec.getLsbD_not,hi,ha,hb]at this;simp at this
 ·simp only[h1,Zau]
  have e:((i+1:Nat):Int) - 1=i:=by omega
  have d:∀j,j<128→((a &&& ~~~b) ||| (b &&& ~~~a)).getLsbD j=(a.getLsbD j !=b.getLsbD j):=fun j hj=>by
   simp only[BitVec.getLsbD_or,BitVec.getLsbD_and,BitVec.getLsbD_not,hj,decide_true,Bool.true_and]
   cases a.getLsbD j <;> cases b.getLsbD j <;> rfl
  rw[e];simp only[Int.toNat_natCast]
  constructor
  ·intro h
   simp at h
   have ha:a.getLsbD i=false:=by
    rcases h with h|h
    ·omega
    ·exact h
   refine⟨i,h2,ha,?_,fun j hj=>?_⟩
   ·rw[d i h2,ha]at h3;simpa using h3
   ·have:=h4 j hj
    rw[d j (by omega)]at this;simpa using this
  ·rintro⟨k,hk,ka,kb,kj⟩
   have nO:i=k:=by
    rcases Nat.lt_trichotomy i k with h|h|h
    ·rw[d i h2,kj i h]at h3;simp at h3
    ·exact h
    ·have:=h4 k h;rw[d k hk,ka,kb]at this;simp at this
   subst nO;simp[ka]
theorem ZgZ(x:Zak):ZaM x x=false:=by
 rw[Bool.eq_false_iff];intro h;obtain⟨i,_,h1,h2,_⟩:=(ZaJ x x).1 h;rw[h1]at h2;cases h2
theorem Zgk(x y z:Zak)(h1:ZaM x y=true)(h2:ZaM y z=true):ZaM x z=true:=by
 obtain⟨i,hi,a1,a2,a3⟩:=(ZaJ x y).1 h1;obtain⟨j,hj,b1,b2,b3⟩:=(ZaJ y z).1 h2;rw[ZaJ];rcases Nat.lt_trichotomy i j with h|h|h
 ·exact⟨i,hi,a1,by rw[←b3 i h];exact a2,fun k hk=>(a3 k hk).trans (b3 k (by omega))⟩
 ·subst h;rw[a2]at b1;cases b1
 ·exact⟨j,hj,by rw[a3 j h];exact b1,b2,fun k hk=>(a3 k (by omega)).trans (b3 k hk)⟩
theorem Zk4(x y:Zak)(h1:ZaM x y=false)(h2:ZaM y x=false):x=y:=by
 rcases ZeM ((x &&& ~~~y) ||| (y &&& ~~~x)) with ⟨_,h⟩|⟨i,_,hi,h3,h4⟩
 ·apply BitVec.eq_of_getLsbD_eq
  intro i hi;have:=congrArg (fun s=>s.getLsbD i) h;simp[hi]at this
  cases hx:x.getLsbD i <;> cases hy:y.getLsbD i <;> simp_all
 ·exfalso
  have d:∀j,j<128→((x &&& ~~~y) ||| (y &&& ~~~x)).getLsbD j=(x.getLsbD j !=y.getLsbD j):=fun j hj=>by
   simp only[BitVec.getLsbD_or,BitVec.getLsbD_and,BitVec.getLsbD_not,hj,decide_true,Bool.true_and]
   cases x.getLsbD j <;> cases y.getLsbD j <;> rfl
  have kq:∀j,j<i→x.getLsbD j=y.getLsbD j:=fun j hj=>by
   have:=h4 j hj;rw[d j (by omega)]at this;simpa using this
  rw[d i hi]at h3
  cases hx:x.getLsbD i <;> cases hy:y.getLsbD i
  ·rw[hx,hy]at h3;cases h3
  ·rw[(ZaJ x y).2 ⟨i,hi,hx,hy,kq⟩]at h1;cases h1
  ·rw[(ZaJ y x).2 ⟨i,hi,hy,hx,fun j hj=>(kq j hj).symm⟩]at h2;cases h2
  ·rw[hx,hy]at h3;cases h3
theorem Zk3(x y z:Zak)(h1:ZaM x y=false)(h2:ZaM y z=false):ZaM x z=false:=by
 cases h:ZaM x z
 ·rfl
 ·exfalso
  cases h3:ZaM y x
  ·rw[Zk4 x y h1 h3,h2]at h;cases h
  ·rw[Zgk y x z h3 h]at h2;cases h2
end Go.Proofs.YtmnjakejhbpkoaaGreatDoor
