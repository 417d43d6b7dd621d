import Derived.Test.YtmnjakejhbpkoaaGreatDoorVEval
import Derived.Lib.SlBytesConst
set_option linter.unusedSimpArgs false
set_option linter.unusedVariables false
set_option maxRecDepth 100000
set_option maxHeartbeats 8000000
namespace Go.Proofs.YtmnjakejhbpkoaaGreatDoor
open Go Go.RowKit Go.Shelf
def Zmd (b:List UInt8):Value:=.string ⟨b.toArray⟩
def ZbF (m:List (Nat × List UInt8))(a:Nat):List UInt8:=match asc m a with
 | some t=>t
 | none=>[]
def ZoI (m:List (Nat × List UInt8)):List (Nat × Nat)→List UInt8
 | []=>[]
 | p :: r=>(ZbF m p.1++[32]++ZbF m p.2)++(r.flatMap fun q=>[59,32]++(ZbF m q.1++[32]++ZbF m q.2))
def Zbi (m:List (Nat × List UInt8))(l:List (Nat × Nat)):List UInt8:=[40]++ZoI m l
theorem ZfL(m:List (Nat × List UInt8))(l:List (Nat × Nat))(p:Nat × Nat):Zbi m (l++[p])=Zbi m l++(if l=[] then [] else [59,32])++ZbF m p.1++[32]++ZbF m p.2:=by
 cases l with
 | nil=>simp[Zbi,ZoI]
 | cons q r=>simp[Zbi,ZoI]
def wrL (g:Nat→List (Nat × List UInt8)→Option (List (Nat × List UInt8))):List (Nat × Nat)→List (Nat × List UInt8)→Nat→Option (List (Nat × List UInt8) × Nat)
 | [],m,z=>some (m,z)
 | p :: r,m,z=>match g p.1 m with
   | none=>none
   | some m1=>match g p.2 m1 with
     | none=>none
     | some m2=>if (ZbF m2 p.1).length≤1048576∧(ZbF m2 p.2).length≤1048576 then wrL g r m2 (z+((ZbF m2 p.1).length+(ZbF m2 p.2).length+3)) else none
def Zfn:Nat→List Zaf→Nat→List (Nat × List UInt8)→Option (List (Nat × List UInt8))
 | 0,_,_,_=>none
 | f+1,ns,a,m=>match asc m a with
   | some _=>some m
   | none=>match ns[a]? with
     | none=>none
     | some n=>if n.el=[] then some ((a,if n.lit≠0 then Lib.itoa n.lit else if a=1 then [84] else [70]) :: m) else
       match wrL (Zfn f ns) n.el m 0 with
       | none=>none
       | some (m1,z)=>if z≤1048576∧(Zbi m1 n.el).length≤4194304∧(∀p∈n.el,(0<(ZbF m1 p.1).length∧(ZbF m1 p.1).length≤1048576)∧(0<(ZbF m1 p.2).length∧(ZbF m1 p.2).length≤1048576)) then some ((a,Zbi m1 n.el++[41]) :: m1) else none
theorem ZmO{g:Nat→List (Nat × List UInt8)→Option (List (Nat × List UInt8))}{p:Nat × Nat}{r:List (Nat × Nat)}{m:List (Nat × List UInt8)}{z:Nat}{fin:List (Nat × List UInt8) × Nat}(h:wrL g (p :: r) m z=some fin) :
  ∃m1 m2,g p.1 m=some m1∧g p.2 m1=some m2∧(ZbF m2 p.1).length≤1048576∧(ZbF m2 p.2).length≤1048576∧wrL g r m2 (z+((ZbF m2 p.1).length+(ZbF m2 p.2).length+3))=some fin:=by
 unfold wrL at h
 split at h
 ·cases h
 ·rename_i m1 h1
  split at h
  ·cases h
  ·rename_i m2 h2
   split at h
   ·rename_i hc
    exact⟨m1,m2,h1,h2,hc.1,hc.2,h⟩
   ·cases h
structure WrC (w0:World) (pm:Nat) (m:List (Nat × List UInt8)) (wr:World):Prop where
 below:Below w0.heap.size w0 wr
 mb:ZaG Zab Zmd wr pm (asc m)
 pml:w0.heap.size≤pm
def Zat (w w':World):Prop:=w.heap.size≤w'.heap.size∧∀(k:Nat) (c:Array Value) (t:TypeId) (f:Nat × Nat),w.heap[k]? =some (.cells c t f)→w'.heap[k]? =some (.cells c t f)
theorem Zat.refl(w:World):Zat w w:=⟨ZpD _,fun _ _ _ _ h=>h⟩
theorem Zat.trans{a b c:World}(h:Zat a b)(k:Zat b c):Zat a c:=⟨Zpp h.1 k.1,fun i x t f hi=>k.2 i x t f (h.2 i x t f hi)⟩
theorem Zat.of_below{w w':World}(h:Below w.heap.size w w'):Zat w w':=⟨h.size,fun k c t f hk=>(h.block k (Zpi hk).1).trans hk⟩
theorem WrC.on{w0 wr w':World}{pm:Nat}{m:List (Nat × List UInt8)}(h:WrC w0 pm m wr)(hb:Below wr.heap.size wr w'):WrC w0 pm m w' where
 below:=h.below.trans (hb.mono h.below.size)
 mb:=h.mb.same (hb.block _ h.mb.lt)
 pml:=h.pml
theorem WrC.put{w0 wr:World}{pm:Nat}{m:List (Nat × List UInt8)}(h:WrC w0 pm m wr)(a:Nat)(t:List UInt8) :
  (Instr.mapUpdate 182 (.map (some pm)) (.int .i64 a) (.string ⟨t.toArray⟩)).run Tryz.prog wr= .ok () (Zap 3 Tryz.prog wr pm (Zab a) (Zmd t))∧WrC w0 pm ((a,t) :: m) (Zap 3 Tryz.prog wr pm (Zab a) (Zmd t))∧Zat wr (Zap 3 Tryz.prog wr pm (Zab a) (Zmd t)):=by
 obtain⟨h1,h2⟩:=h.mb.put Zb6 (T:=182) Tryz.underlying182 a t;obtain⟨p1,p2,p3,_⟩:=ZbQ (P:=Tryz.prog) 3 wr pm (Zab a) (Zmd t);have bv:=h.pml;refine⟨h1,⟨⟨p1.trans h.below.os,p2.trans h.below.tape,p3.trans h.below.output,by rw[Za1];exact h.below.size,fun k hk=>(Zai _ _ _ _ _ k (by omega)).trans (h.below.block k hk)⟩,by rw[ZaS];exact h2,bv⟩,by rw[Za1];exact ZpD _,fun k c t f hk=>?_⟩;refine(Zai _ _ _ _ _ k ?_).trans hk;intro e;obtain⟨L,cl,hb,_⟩:=h.mb;rw[e,hb]at hk;simp at hk
theorem Ziq:∀w,(zeroValue 9).run Tryz.prog w= .ok (.string ⟨#[]⟩) w:=fun w=>by kernel_rfl
theorem WrC.look{w0 wr:World}{pm:Nat}{m:List (Nat × List UInt8)}(h:WrC w0 pm m wr)(a:Nat) :
  (Instr.lookup 182 (.map (some pm)) (.int .i64 a) true).run Tryz.prog wr= .ok (.tuple #[((asc m a).map Zmd).getD (.string ⟨#[]⟩),.bool (asc m a).isSome]) wr :=
 h.mb.look Zb6 (T:=182) Tryz.underlying182 _ Ziq a
theorem WrC.look1{w0 wr:World}{pm:Nat}{m:List (Nat × List UInt8)}(h:WrC w0 pm m wr)(a:Nat) :
  (Instr.lookup 182 (.map (some pm)) (.int .i64 a) false).run Tryz.prog wr= .ok (.string ⟨(ZbF m a).toArray⟩) wr:=by
 have h1:=h.mb.look1 Zb6 (T:=182) Tryz.underlying182 _ Ziq a
 have h2:((asc m a).map Zmd).getD (.string ⟨#[]⟩)= .string ⟨(ZbF m a).toArray⟩:=by
  unfold ZbF
  cases asc m a <;> rfl
 rw[h2]at h1;exact h1
def Zn6 (s:St)(w0:World)(pm:Nat)(sb:Nat)(g:Nat→List (Nat × List UInt8)→Option (List (Nat × List UInt8))):Prop:=∀(a:Nat) (m m':List (Nat × List UInt8)) (wr:World),WrC w0 pm m wr→g a m=some m' →
 Calls Tryz.prog 131 #[.pointer (some ⟨sb,0,none⟩),.int .i64 a,.map (some pm)] wr fun e w'=>e= .returned (.bool true)∧WrC w0 pm m' w'∧Zat wr w'
def Zht (w:World)(base:Nat)(v:Value)(n:Nat)(l:List UInt8):Prop :=
 w.ownsRow base 5 1 v n (Lib.byteCells l)∨∃g cur fz,v= .slice (some ⟨g,0,none⟩) n n∧base≤g∧w.heap[g]? =some (.cells cur 5 fz)∧cur.toList=Lib.byteCells l∧l.length=n
theorem Zht.same{w w':World}{base n:Nat}{v:Value}{l:List UInt8}(h:Zht w base v n l)(hs:∀k,v.ownBlock=some k→w'.heap[k]? =w.heap[k]?):Zht w' base v n l:=by
 rcases h with h|⟨g,cur,fz,rfl,h1,h2,h3,h4⟩
 ·exact .inl (Zao h hs)
 ·exact .inr ⟨g,cur,fz,rfl,h1,(hs g rfl).trans h2,h3,h4⟩
theorem Zht.lt{w:World}{base n:Nat}{v:Value}{l:List UInt8}(h:Zht w base v n l){k:Nat}(hk:v.ownBlock=some k):base≤k∧k<w.heap.size:=by
 rcases h with h|⟨g,cur,fz,rfl,h1,h2,h3,h4⟩
 ·exact⟨Zbc h hk,(Zd8 h hk).1⟩
 ·simp[Value.ownBlock]at hk
  subst hk;exact⟨h1,(Zpi h2).1⟩
theorem Zed{w:World}{base n:Nat}{v:Value}{l:List UInt8}(h:Zht w base v n l)(s:List UInt8)(h0:0<s.length)(hb:n+s.length≤8388608)(aw:base≤w.heap.size)(ty:TypeId) :
  ∃v' w',(Builtin.append_ #[204,9] ty #[v,.string ⟨s.toArray⟩]).run Tryz.prog w= .ok v' w'∧w'.ownsRow base 5 1 v' (n+s.length) (Lib.byteCells (l++s))∧w.grownBy w' v.ownBlock:=by
 obtain⟨i0,cX,bB,ak,bE⟩:=info_parts ZhV;have hs:(⟨s.toArray⟩:ByteArray).size=s.length:=by simp[ByteArray.size]
 have ki:Lib.strCells ⟨s.toArray⟩=Lib.byteCells s:=by simp[Lib.strCells,Lib.byteCells]
 have rY:Lib.byteCells (l++s)=Lib.byteCells l++Lib.byteCells s:=by simp[Lib.byteCells]
 rcases h with h|⟨g,cur,fz,rfl,h1,h2,h3,h4⟩
 ·obtain⟨v',w',r1,r2,r3,_⟩:=Lib.run_append_own_string (P:=Tryz.prog) w base 204 9 ty 5 i0 Tryz.underlying204 Tryz.underlying9 cX bB ak bE v n _ h ⟨s.toArray⟩ (by rw[hs];unfold maxLen;omega) (by rw[hs];omega) aw
  rw[hs,ki]at r2;exact⟨v',w',r1,by rw[rY];exact r2,r3⟩
 ·have js:(Lib.byteCells l).length=n:=by simp[Lib.byteCells,h4]
  have sg:∀j u,(Lib.byteCells l)[j]? =some u→w.cell? ((⟨g,0,none⟩:Addr).add j)=some u:=fun j u hj=>World.news_of_block h2 j u (by rw[h3];exact hj)
  have hr:=Lib.run_append_grow_string (P:=Tryz.prog) w 204 9 ty 5 i0 (.int .u8 0) Tryz.underlying204 Tryz.underlying9 cX bB ⟨g,0,none⟩ n n (Lib.byteCells l) (by rw[ak];simpa using js) sg ⟨s.toArray⟩ (by rw[hs];omega) (by rw[hs];omega) (by rw[bE];exact growslice_fits (by rw[hs];omega) (by rw[hs];omega));have dC:=grownCap_ge w (n+(⟨s.toArray⟩:ByteArray).size) n 5;have rm:grownCap w (n+(⟨s.toArray⟩:ByteArray).size) n 5≤maxLen:=grownCap_le_maxLen w (n+(⟨s.toArray⟩:ByteArray).size) n 5 (by rw[hs];unfold maxLen;omega);rw[hs]at dC rm;rw[hs]at hr;refine⟨_,_,hr,⟨by simp[Lib.byteCells,h4],.inr ⟨w.heap.size,_,_,rfl,aw,Zpm w.drew _,dC,rm,?_,?_⟩⟩,⟨rfl,rfl,rfl,by simp,fun k hk _=>Below.heap_alloc w.drew _ k hk⟩⟩
  ·have ak:(Value.int IntKind.u8 0).cells.size=1:=rfl
   simp only[Array.size_append,List.size_toArray,size_zeroCells,ak,js,Lib.strCells_length,hs];omega
  ·simp only[Array.toList_append,List.append_assoc]
   rw[←List.append_assoc,ki,rY,Nat.mul_one];have gz:(Lib.byteCells l++Lib.byteCells s).length=n+s.length:=by simp[Lib.byteCells,h4]
   rw[←gz];exact List.take_left
theorem Za5{w:World}{ops:Array Oper}{o:Oper}{a:Act}{K:Act→World→Prop}{Q:Exit→Act→World→Prop}{E:Prop}(gv:o.guard=none)(sl x:Operand)
  (ho:o.op= .call { callee:=.builtin .append,args:=#[sl,x],argTypes:=#[204,9] })
  (base:Nat) (v:Value) (n:Nat) (l:List UInt8) (hs:a.eval sl=v) (bH:Zht w base v n l) (s:List UInt8) (hx:a.eval x= .string ⟨s.toArray⟩)
  (h0:0<s.length) (hb:n+s.length≤8388608) (aw:base≤w.heap.size)
  (h:∀v' w',w'.ownsRow base 5 1 v' (n+s.length) (Lib.byteCells (l++s))→w.grownBy w' v.ownBlock→K (a.put o.dst v') w') :
  if Region.wanted o (yielded ops a.tmps)=true then Oper.wp Tryz.prog o a w K Q else E:=by
 have hw:Region.wanted o (yielded ops a.tmps)=true:=by simp[Region.wanted,gv]
 rw[if_pos hw];obtain⟨v',w',hr,h2,h3⟩:=Zed bH s h0 hb aw o.type;unfold Oper.wp execOp;simp only[ho,resolve,invoke,builtin,Sem.run_bind,Sem.run_pure,Result.andThen_ok,List.map_toArray,List.map_cons,List.map_nil,hs,hx,hr];exact h v' w' h2 h3
theorem Zfm{w:World}{ops:Array Oper}{rest:List Oper}{o:Oper}{a:Act}{Q:Exit→Act→World→Prop}(gv:o.guard=none)(sl x:Operand)
  (ho:o.op= .call { callee:=.builtin .append,args:=#[sl,x],argTypes:=#[204,9] })
  (base:Nat) (v:Value) (n:Nat) (l:List UInt8) (hs:a.eval sl=v) (bH:Zht w base v n l) (s:List UInt8) (hx:a.eval x= .string ⟨s.toArray⟩)
  (h0:0<s.length) (hb:n+s.length≤8388608) (aw:base≤w.heap.size)
  (h:∀v' w',w'.ownsRow base 5 1 v' (n+s.length) (Lib.byteCells (l++s))→w.grownBy w' v.ownBlock→wpList Tryz.prog ops Q rest (a.put o.dst v') w'):wpList Tryz.prog ops Q (o :: rest) a w:=by
 refine wpList_plain gv fun K hK=>?_
 obtain⟨v',w',hr,h2,h3⟩:=Zed bH s h0 hb aw o.type;unfold Oper.wp execOp;simp only[ho,resolve,invoke,builtin,Sem.run_bind,Sem.run_pure,Result.andThen_ok,List.map_toArray,List.map_cons,List.map_nil,hs,hx,hr];exact hK _ _ (h v' w' h2 h3)
end Go.Proofs.YtmnjakejhbpkoaaGreatDoor
namespace Go.Proofs.YtmnjakejhbpkoaaGreatDoor
open Go Go.RowKit Go.Shelf
theorem ZjA(B:Nat){w w':World}(h:∃k os,w'=Go.Sort.grow (w.drewN k) os)(hB:B≤w.heap.size):Below B w w':=by
 obtain⟨k,os,rfl⟩:=h;exact Lib.below_grow B w hB k os
theorem ZlS{s:St}{w0:World}{pm sb a:Nat}{m:List (Nat × List UInt8)}{wr:World}{t:List UInt8}(hC:WrC w0 pm m wr)(ht:asc m a=some t) :
  Calls Tryz.prog 131 #[.pointer (some ⟨sb,0,none⟩),.int .i64 a,.map (some pm)] wr fun e w'=>e= .returned (.bool true)∧WrC w0 pm m w'∧Zat wr w':=by
 have az:=hC.look a;rw[ht]at az;have eG:(Instr.lookup 182 (.map (some pm)) (.int .i64 a) true).run Tryz.prog wr= .ok (.tuple #[.string ⟨t.toArray⟩,.bool true]) wr:=az;clear az;replace ht:=Zpe ht
 go_enter Tryz.func131,Tryz.ntmps131
 go_wp2_with fail;go_ret;exact⟨rfl,hC,Zat.refl _⟩
theorem Zj2{B:Zas}{s:St}{w0:World}{pm a:Nat}{m:List (Nat × List UInt8)}{wr:World}{n:Zaf}(h:Rep B s w0)(hC:WrC w0 pm m wr)(hm:asc m a=none)(hn:s.nodes[a]? =some n)(cG:n.el=[]) :
  Calls Tryz.prog 131 #[.pointer (some ⟨B.sb,0,none⟩),.int .i64 a,.map (some pm)] wr fun e w'=>e= .returned (.bool true)∧WrC w0 pm ((a,if n.lit≠0 then Lib.itoa n.lit else if a=1 then [84] else [70]) :: m) w'∧Zat wr w':=by
 have az:=hC.look a;rw[hm]at az;have eG:(Instr.lookup 182 (.map (some pm)) (.int .i64 a) true).run Tryz.prog wr= .ok (.tuple #[.string ⟨#[]⟩,.bool false]) wr:=az;clear az;have hR:=h.below hC.below;obtain⟨cap,_,_,cn,_⟩:=hR.cells;obtain⟨v,hv,_,n0,n1,n2,n3,n4⟩:=hR.node hn;obtain⟨ba,cp,rfl,_⟩:=hv;have gJ:=h.small.2 n (List.mem_of_getElem? hn);obtain⟨_,_,eD,fY,_⟩:=gJ;have bu:=h.small.1;have nG:a<s.nodes.length:=(Zpj hn).1;have vE:(0:Int)≤a:=by omega
 have vF:(a:Int)<s.nodes.length:=by omega
 have dT:n.el.length=0:=by rw[cG];rfl
 rw[dT]at n2;have aC:Ext wr (wr.alloc (.cells #[.int .i64 n.pl,.int .i64 n.lit,.slice ba 0 cp,.int .u64 (lo n.le),.int .u64 (hi n.le)] 158)):=(Ext.refl wr).alloc _;have ak:=Zpm wr (.cells #[.int .i64 n.pl,.int .i64 n.lit,.slice ba 0 cp,.int .u64 (lo n.le),.int .u64 (hi n.le)] 158);have gP:=hC.on aC.below;have vg:=hR.pow.below aC.below;replace hR:=Zpe hR;replace hm:=Zpe hm;replace hn:=Zpe hn;replace cG:=Zpe cG;replace dT:=Zpe dT
 by_cases hl:n.lit=0
 ·have d0:((n.lit:Int) !=0)=false:=by simp[hl]
  by_cases ha:a=1
  ·have fE:Hid ((if n.lit≠0 then Lib.itoa n.lit else if a=1 then [84] else [70])=[84]):=Zpe (by simp[hl,ha])
   rw[fE.out];have d1:((a:Int) ==1)=true:=by simp;omega
   replace ha:=Zpe ha;replace hl:=Zpe hl;obtain⟨lu,cv,aZ⟩:=gP.put a [84];replace gP:=Zpe gP;have bO:=Zat.of_below aC.below;obtain⟨c0,c1,c2,c3,c4,_⟩:=Zbb ak;clear ak
   go_enter Tryz.func131,Tryz.ntmps131
   go_wp2_with fail;go_ret;exact⟨rfl,cv,bO.trans aZ⟩
  ·have fE:Hid ((if n.lit≠0 then Lib.itoa n.lit else if a=1 then [84] else [70])=[70]):=Zpe (by simp[hl,ha])
   rw[fE.out];have d1:((a:Int) ==1)=false:=by simp;omega
   replace ha:=Zpe ha;replace hl:=Zpe hl;obtain⟨lu,cv,aZ⟩:=gP.put a [70];replace gP:=Zpe gP;have bO:=Zat.of_below aC.below;obtain⟨c0,c1,c2,c3,c4,_⟩:=Zbb ak;clear ak
   go_enter Tryz.func131,Tryz.ntmps131
   go_wp2_with fail;go_ret;exact⟨rfl,cv,bO.trans aZ⟩
 ·have fE:Hid ((if n.lit≠0 then Lib.itoa n.lit else if a=1 then [84] else [70])=Lib.itoa n.lit):=Zpe (by simp[hl])
  rw[fE.out];have d0:((n.lit:Int) !=0)=true:=by simpa using hl
  replace hl:=Zpe hl;have xI:=Tryz.strconv_Itoa n.lit (by omega) (by omega) _ vg;have bO:=Zat.of_below aC.below;obtain⟨c0,c1,c2,c3,c4,_⟩:=Zbb ak;clear ak;replace gP:=Zpe gP;replace vg:=Zpe vg
  go_enter Tryz.func131,Tryz.ntmps131
  go_wp2_with fail;generalize wr.alloc (.cells #[.int .i64 n.pl,.int .i64 n.lit,.slice ba 0 cp,.int .u64 (lo n.le),.int .u64 (hi n.le)] 158)=w1 at *;refine xI.mono ?_;rintro e w2 ⟨rfl,cA⟩;have aP:=ZjA w1.heap.size cA (ZpD _);clear cA;obtain⟨lu,cv,aZ⟩:=(gP.out.on aP).put a (Lib.itoa n.lit);go_wp2_with fail;go_ret;exact⟨rfl,cv,(bO.trans (Zat.of_below aP)).trans aZ⟩
end Go.Proofs.YtmnjakejhbpkoaaGreatDoor
namespace Go.Proofs.YtmnjakejhbpkoaaGreatDoor
open Go Go.RowKit Go.Shelf
def Zka (w0:World)(pm:Nat)(ws:World)(g:Nat→List (Nat × List UInt8)→Option (List (Nat × List UInt8)))(l:List (Nat × Nat))(fin:List (Nat × List UInt8) × Nat)(k z:Nat)(wr:World):Prop :=
 ∃m,WrC w0 pm m wr∧Zat ws wr∧wrL g (l.drop k) m z=some fin
def ZfY (ws:World)(m:List (Nat × List UInt8))(l:List (Nat × Nat))(k:Nat)(v:Value)(wr:World):Prop :=
 Zht wr ws.heap.size v (Zbi m (l.take k)).length (Zbi m (l.take k))∧(0<k→wr.ownsRow ws.heap.size 5 1 v (Zbi m (l.take k)).length (Lib.byteCells (Zbi m (l.take k))))∧Below ws.heap.size ws wr
theorem ZaG.lookT{w:World}{pm:Nat}{m:List (Nat × List UInt8)}(h:ZaG Zab Zmd w pm (asc m))(a:Nat) :
  (Instr.lookup 182 (.map (some pm)) (.int .i64 a) false).run Tryz.prog w= .ok (.string ⟨(ZbF m a).toArray⟩) w:=by
 have h1:=h.look1 Zb6 (T:=182) Tryz.underlying182 _ Ziq a
 have h2:((asc m a).map Zmd).getD (.string ⟨#[]⟩)= .string ⟨(ZbF m a).toArray⟩:=by
  unfold ZbF
  cases asc m a <;> rfl
 rw[h2]at h1;exact h1
theorem Zht.drew{w:World}{base n:Nat}{v:Value}{l:List UInt8}(h:Zht w base v n l):Zht w.drew base v n l:=h.same (fun _ _=>rfl)
theorem Zht.alloc{w:World}{base n:Nat}{v:Value}{l:List UInt8}(h:Zht w base v n l)(o:Obj):Zht (w.alloc o) base v n l:=h.same (fun k hk=>Below.heap_alloc w o k (h.lt hk).2)
structure Cur (w5 wb:World) (pb pm:Nat) (w:World):Prop where
 p:pb<w.heap.size
 b:wb.heap.size≤w.heap.size
 m:pm<wb.heap.size
 hp:w.heap[pb]? =w5.heap[pb]?
 hm:w.heap[pm]? =w5.heap[pm]?
 bl:Below wb.heap.size wb w
theorem Cur.drew{w5 wb:World}{pb pm:Nat}{w:World}(h:Cur w5 wb pb pm w):Cur w5 wb pb pm w.drew:=⟨h.p,h.b,h.m,h.hp,h.hm,h.bl.drew⟩
theorem Cur.alloc{w5 wb:World}{pb pm:Nat}{w:World}(h:Cur w5 wb pb pm w)(o:Obj):Cur w5 wb pb pm (w.alloc o) :=
 ⟨by have:=h.p;simp;omega,by have:=h.b;simp;omega,h.m,(Below.heap_alloc w o pb h.p).trans h.hp,(Below.heap_alloc w o pm (Zpq h.m h.b)).trans h.hm,h.bl.alloc h.b o⟩
theorem Cur.grown{w5 wb:World}{pb pm:Nat}{w w':World}{v:Value}(h:Cur w5 wb pb pm w)(hg:w.grownBy w' v.ownBlock)(hv:∀j,v.ownBlock=some j→wb.heap.size≤j∧j≠pb):Cur w5 wb pb pm w' :=
 ⟨Zpq h.p hg.size,Zpp h.b hg.size,h.m,(hg.block pb h.p (fun e=>(hv pb e.symm).2 rfl)).trans h.hp,(hg.block pm (Zpq h.m h.b) (fun e=>by have:=(hv pm e.symm).1;have:=h.m;omega)).trans h.hm,
   h.bl.trans ⟨hg.os,hg.tape,hg.output,hg.size,fun j hj=>hg.block j (Zpq hj h.b) (fun e=>by have:=(hv j e.symm).1;omega)⟩⟩
theorem Zci{w5 wb w':World}{pb pm n:Nat}{v:Value}{xs:List Value}{c:Array Value}{f:Nat × Nat}(h:w'.ownsRow wb.heap.size 5 1 v n xs)(hc:Cur w5 wb pb pm w')(hb:w5.heap[pb]? =some (.cells c ZaO f)):∀j,v.ownBlock=some j→wb.heap.size≤j∧j≠pb:=fun j hj=>by
 obtain⟨_,c',ff⟩:=Zd8 h hj;refine⟨Zbc h hj,fun e=>?_⟩;rw[e,hc.hp,hb]at ff;simp[ZaO]at ff
theorem Zlm(m:List (Nat × List UInt8)):∀(l r:List (Nat × Nat)),(Zbi m l).length≤(Zbi m (l++r)).length
 | l,[]=>by simp
 | l,p :: r=>by
   have:=Zlm m (l++[p]) r;rw[List.append_assoc]at this;refine Zpp ?_ this;rw[ZfL];simp only[Zpo];omega
theorem Zip{B:Zas}{s:St}{w0:World}{pm a:Nat}{m m1:List (Nat × List UInt8)}{wr:World}{n:Zaf}{z:Nat}{g:Nat→List (Nat × List UInt8)→Option (List (Nat × List UInt8))}(h:Rep B s w0)(ih:Zn6 s w0 pm B.sb g)(hC:WrC w0 pm m wr)(hm:asc m a=none)(hn:s.nodes[a]? =some n)(cG:n.el≠[])
  (hw:wrL g n.el m 0=some (m1,z)) (hz:z≤1048576) (bv:(Zbi m1 n.el).length≤4194304) (gJ:∀p∈n.el,(0<(ZbF m1 p.1).length∧(ZbF m1 p.1).length≤1048576)∧(0<(ZbF m1 p.2).length∧(ZbF m1 p.2).length≤1048576)) :
  Calls Tryz.prog 131 #[.pointer (some ⟨B.sb,0,none⟩),.int .i64 a,.map (some pm)] wr fun e w'=>e= .returned (.bool true)∧WrC w0 pm ((a,Zbi m1 n.el++[41]) :: m1) w'∧Zat wr w':=by
 have az:=hC.look a;rw[hm]at az;have eG:(Instr.lookup 182 (.map (some pm)) (.int .i64 a) true).run Tryz.prog wr= .ok (.tuple #[.string ⟨#[]⟩,.bool false]) wr:=az;clear az;have hR:=h.below hC.below;obtain⟨cap,_,_,cn,_⟩:=hR.cells;obtain⟨v,gV,_,_,_,k2,_,_⟩:=h.node hn;obtain⟨v',_,_,n0,n1,n2,n3,n4⟩:=hR.node hn
 have hvv:v'=v:=by
  have e1:=(hC.below.cell (Zpk w0 _ k2)).trans k2
  have e2:some v'=some v:=by
   have fD:B.nb*0=0:=Nat.mul_zero _;exact n2.symm.trans e1
  exact Option.some.inj e2
 subst hvv;obtain⟨ba,cp,rfl,cF⟩:=gV.lens;have qU:=(h.small.2 n (List.mem_of_getElem? hn)).2.2.2.2.1;have bu:=h.small.1;have nG:a<s.nodes.length:=(Zpj hn).1;have vE:(0:Int)≤a:=by omega
 have vF:(a:Int)<s.nodes.length:=by omega
 have dT:((n.el.length:Int) ==0)=false:=by
  have:=List.length_pos_iff.2 cG;simp;omega
 have aC:Ext wr (wr.alloc (.cells #[.int .i64 n.pl,.int .i64 n.lit,.slice ba n.el.length cp,.int .u64 (lo n.le),.int .u64 (hi n.le)] 158)):=(Ext.refl wr).alloc _;have ak:=Zpm wr (.cells #[.int .i64 n.pl,.int .i64 n.lit,.slice ba n.el.length cp,.int .u64 (lo n.le),.int .u64 (hi n.le)] 158);have gP:=hC.on aC.below;have bO:=Zat.of_below aC.below;obtain⟨c0,c1,c2,c3,c4,_⟩:=Zbb ak
 have aQ:Hid (Zka w0 pm (wr.alloc (.cells #[.int .i64 n.pl,.int .i64 n.lit,.slice ba n.el.length cp,.int .u64 (lo n.le),.int .u64 (hi n.le)] 158)) g n.el (m1,z) 0 0 (wr.alloc (.cells #[.int .i64 n.pl,.int .i64 n.lit,.slice ba n.el.length cp,.int .u64 (lo n.le),.int .u64 (hi n.le)] 158))):=Zpe
  ⟨m,gP,Zat.refl _,hw⟩
 replace ak:=Zpe ak;replace hR:=Zpe hR;replace hm:=Zpe hm;replace hn:=Zpe hn;replace cG:=Zpe cG;replace cF:=Zpe cF;replace gP:=Zpe gP;replace hC:=Zpe hC;replace gJ:=Zpe gJ;replace hw:=Zpe hw;replace bv:=Zpe bv;clear gV
 go_enter Tryz.func131,Tryz.ntmps131
 go_wp2_with fail;clear n0 n1 n2 n3 n4 cn k2 eG c0 c1 c2 c3 c4;generalize iV:wr.alloc (.cells #[.int .i64 n.pl,.int .i64 n.lit,.slice ba n.el.length cp,.int .u64 (lo n.le),.int .u64 (hi n.le)] 158)=ws at *;obtain⟨wo,rfl⟩:∃wo,wo=wr:=⟨wr,rfl⟩;replace iV:=Zpe iV
 go_loopw [10,53] (fun sz i wr=>∃k z':Nat,k≤n.el.length∧i= .int .i64 k∧sz= .int .i64 z'∧z'≤k*2097155∧Hid (Zka w0 pm ws g n.el (m1,z) k z' wr)) (fun _ i _=>n.el.length - (intOf i).toNat)
 case atStart=>exact⟨0,0,Nat.zero_le _,rfl,rfl,Nat.zero_le _,aQ⟩
 case round =>
  clear aQ;obtain⟨k,z',hk,rfl,rfl,hzk,hI⟩:=hrel;obtain⟨mk,jG,fP,nq⟩:=hI.out;clear hI
  by_cases aE:k<n.el.length
  ·rw[List.drop_eq_getElem_cons aE]at nq
   obtain⟨vb,vo,rfl,e0,e1⟩:=cF.out k aE;have e0:=(jG.below.cell (Zpk w0 _ e0)).trans e0;have e1:=(jG.below.cell (Zpk w0 _ e1)).trans e1;obtain⟨ma,mb,h1,h2,fJ,ox,mt⟩:=ZmO nq;clear nq;generalize n.el[k]=p at *;obtain⟨p1,p2⟩:=p;simp only at e0 e1 h1 h2 fJ ox mt;have dF:=Zpm wr (.cells #[.int .i64 (p1:Int),.int .i64 (p2:Int)] 165);have dI:Below wr.heap.size wr (wr.alloc (.cells #[.int .i64 (p1:Int),.int .i64 (p2:Int)] 165)):=(Zpr _ wr).alloc (ZpD _) _;have oG:=jG.on dI;obtain⟨p0,pv⟩:=Zae dF;have jm:=ih p1 mk ma _ oG h1;replace oG:=Zpe oG;replace dF:=Zpe dF;replace h1:=Zpe h1;replace h2:=Zpe h2;replace mt:=Zpe mt;replace jG:=Zpe jG;go_wp2_with fail;generalize wr.alloc (.cells #[.int .i64 (p1:Int),.int .i64 (p2:Int)] 165)=w5 at *;refine jm.mono ?_;rintro e w6 ⟨rfl,rB,cE⟩;obtain⟨q0,q1⟩:=Zae (cE.2 _ _ _ _ dF.out);have db:=ih p2 ma mb _ rB h2.out;replace rB:=Zpe rB;clear jm p0 pv;go_wp2_with fail;refine db.mono ?_;rintro e w7 ⟨rfl,rC,dh⟩;obtain⟨r0,r1⟩:=Zae (dh.2 _ _ _ _ (cE.2 _ _ _ _ dF.out));have sO:=rC.look1 p1;have bX:=rC.look1 p2;have hsz1:(⟨(ZbF mb p1).toArray⟩:ByteArray).size=(ZbF mb p1).length:=by simp[ByteArray.size]
   have lM:(⟨(ZbF mb p2).toArray⟩:ByteArray).size=(ZbF mb p2).length:=by simp[ByteArray.size]
   generalize iL:ZbF mb p1=t1 at *;generalize iM:ZbF mb p2=t2 at *;have hkm:k*2097155≤1048576*2097155:=Nat.mul_le_mul (by omega) (ZpD _);have iy:(k+1)*2097155=k*2097155+2097155:=Nat.succ_mul _ _;replace rC:=Zpe rC;replace iL:=Zpe iL;replace iM:=Zpe iM;replace iy:=Zpe iy;clear q0 q1 db;go_wp2_with fail;go_roundw
   case rel=>exact⟨k+1,z'+(t1.length+t2.length+3),by omega,by go_num,by go_num,by rw[iy.out];omega,Zpe ⟨mb,rC.out,(fP.trans (Zat.of_below dI)).trans (cE.trans dh),mt.out⟩⟩
   case measure=>simp[intOf];omega
  ·obtain rfl:k=n.el.length:=by omega
   simp only[List.drop_length,wrL,Zpw,Prod.mk.injEq]at nq;obtain⟨rfl,rfl⟩:=nq;have dz:decide ((z':Int) > 1048576)=false:=Zpu (by omega);obtain⟨c0,c1,c2,c3,c4,_⟩:=Zbb (fP.2 _ _ _ _ ak.out);have ao:=fP.2 _ _ _ _ ak.out;have kc:=Lib.run_convert_bytes_const (P:=Tryz.prog) wr 204 5 #[.int .u8 40] 1 1 Tryz.underlying204 Tryz.underlying5;have kc2:(convert 204 204 (.slice (some ⟨wr.heap.size,0,none⟩) 1 1)).run Tryz.prog (wr.alloc (.cells #[.int .u8 40] 5))= .ok (.slice (some ⟨wr.heap.size,0,none⟩) 1 1) (wr.alloc (.cells #[.int .u8 40] 5 (1,2))):=kc;clear kc;have eW:Ext wr (wr.alloc (.cells #[.int .u8 40] 5 (1,2))):=(Ext.refl wr).alloc _;have m6:=Zal wr (.cells #[.int .u8 40] 5 (1,2)) wr.heap.size rfl
   have kx:Hid (ZfY wr mk n.el 0 (.slice (some ⟨wr.heap.size,0,none⟩) 1 1) (wr.alloc (.cells #[.int .u8 40] 5 (1,2)))):=Zpe
    ⟨.inr ⟨wr.heap.size,#[.int .u8 40],(1,2),rfl,ZpD _,m6,rfl,rfl⟩,fun e=>absurd e (by omega),eW.below⟩
   have e5:=eW.cell c2;have hbb:=(Zpi ao).1;have sq:pm<wr.heap.size:=jG.mb.lt;replace jG:=Zpe jG;replace ao:=Zpe ao
   have dZ:ZcR<wr.heap.size∧gTz<wr.heap.size:=by
    have:=h.pow.lt;have:=h.tz.lt';have:=jG.out.below.size;omega
   replace dZ:=Zpe dZ;clear m6;go_wp2_with fail;generalize wr.alloc (.cells #[.int .u8 40] 5 (1,2))=w9 at *;obtain⟨wb,rfl⟩:∃wb,wb=wr:=⟨wr,rfl⟩;clear kc2 c0 c1 c2 c3 c4 e5;obtain⟨i0,cX,bB,iL,iM⟩:=info_parts ZhV
   go_loopw [13,93] (fun v i wr=>∃k:Nat,k≤n.el.length∧i= .int .i64 k∧Hid (ZfY wb mk n.el k v wr)) (fun _ i _=>n.el.length - (intOf i).toNat)
   case atStart=>exact⟨0,Nat.zero_le _,rfl,kx⟩
   case round =>
    clear kx;obtain⟨k,hk,rfl,hI⟩:=hrel;obtain⟨hO,mG,hB⟩:=hI.out;clear hI
    by_cases aE:k<n.el.length
    ·have mg:=ZfL mk (n.el.take k) (n.el[k])
     have tN:n.el.take (k+1)=n.el.take k++[n.el[k]]:=List.take_succ_eq_append_getElem aE;rw[←tN]at mg;clear tN;obtain⟨⟨lF,xd⟩,⟨me,xe⟩⟩:=gJ.out _ (Zpz aE);have aL:=Zlm mk (n.el.take k) (n.el.drop k);rw[List.take_append_drop]at aL;have hlp:=bv.out;obtain⟨vb,vo,rfl,e0,e1⟩:=cF.out k aE;have jc:=Zpk w0 _ e0;have p5:=jG.out.below.size;have e0:=(hB.cell (p:=⟨vb,vo+k*2,none⟩) (Zpq jc p5)).trans ((jG.out.below.cell jc).trans e0);have e1:=(hB.cell (p:=⟨vb,vo+k*2+1,none⟩) (Zpq jc p5)).trans ((jG.out.below.cell (p:=⟨vb,vo+k*2+1,none⟩) jc).trans e1)
     have dE:(n.el.take k=[]↔k=0):=by
      constructor
      ·intro e
       rcases List.take_eq_nil_iff.1 e with e|e
       ·exact e
       ·exact absurd e cG.out
      ·rintro rfl;rfl
     generalize jk:n.el[k]=p at *;obtain⟨p1,p2⟩:=p;simp only at e0 e1 mg lF xd me xe;have dF:=Zpm wr (.cells #[.int .i64 (p1:Int),.int .i64 (p2:Int)] 165);obtain⟨p0,pv⟩:=Zae dF;have dI:Below wr.heap.size wr (wr.alloc (.cells #[.int .i64 (p1:Int),.int .i64 (p2:Int)] 165)):=(Zpr _ wr).alloc (ZpD _) _;have li:=hB.size;have tf:=hB.trans (dI.mono li);have qE:=hO.same (w':=wr.alloc (.cells #[.int .i64 (p1:Int),.int .i64 (p2:Int)] 165)) (fun j hj=>dI.block j (hO.lt hj).2);have bH:∀j,u13.ownBlock=some j→wb.heap.size≤j∧j≠wr.heap.size:=fun j hj=>⟨(hO.lt hj).1,by have:=(hO.lt hj).2;omega⟩
     have tK:wr.heap.size<(wr.alloc (.cells #[.int .i64 (p1:Int),.int .i64 (p2:Int)] 165)).heap.size:=by simp
     generalize jf:Zbi mk (n.el.take k)=cur at *;replace mg:=Zpe mg;replace jk:=Zpe jk;replace jf:=Zpe jf;replace hO:=Zpe hO;replace mG:=Zpe mG;replace qE:=Zpe qE;replace dF:=Zpe dF;replace hB:=Zpe hB;replace tf:=Zpe tf;replace bH:=Zpe bH;replace dE:=Zpe dE;have cK:Cur (wr.alloc (.cells #[.int .i64 (p1:Int),.int .i64 (p2:Int)] 165)) wb wr.heap.size pm (wr.alloc (.cells #[.int .i64 (p1:Int),.int .i64 (p2:Int)] 165)):=⟨tK,Zpp li (Nat.le_of_lt tK),sq,rfl,rfl,tf.out⟩
     have F:Hid (∀W,Cur (wr.alloc (.cells #[.int .i64 (p1:Int),.int .i64 (p2:Int)] 165)) wb wr.heap.size pm W→W.cell? ⟨wr.heap.size,0,none⟩=some (.int .i64 p1)∧W.cell? ⟨wr.heap.size,1,none⟩=some (.int .i64 p2) ∧
       (Instr.lookup 182 (.map (some pm)) (.int .i64 p1) false).run Tryz.prog W= .ok (.string ⟨(ZbF mk p1).toArray⟩) W∧(Instr.lookup 182 (.map (some pm)) (.int .i64 p2) false).run Tryz.prog W= .ok (.string ⟨(ZbF mk p2).toArray⟩) W):=Zpe (fun W hW=>by
      obtain⟨x0,x1⟩:=Zae (hW.hp.trans dF.out);have hM:=jG.out.mb.same (hW.hm.trans (tf.out.block pm sq));exact⟨x0,x1,hM.lookT p1,hM.lookT p2⟩)
     generalize fZ:ZbF mk p1=t1 at *;generalize lN:ZbF mk p2=t2 at *;replace fZ:=Zpe fZ;replace lN:=Zpe lN;replace cK:=Zpe cK
     by_cases mW:k=0
     ·have dk:decide ((k:Int) > 0)=false:=Zpu (by omega)
      have dk2:decide (0<(k:Int))=false:=Zpu (by omega);have dk3:decide (0<k)=false:=Zpu (by omega);replace mW:=Zpe mW;go_wp2_with fail;generalize wr.alloc (.cells #[.int .i64 (p1:Int),.int .i64 (p2:Int)] 165)=w5 at *
      go_region_held3 (fun W=>W.cell? ⟨wr.heap.size,0,none⟩=some (.int .i64 p1)∧W.cell? ⟨wr.heap.size,1,none⟩=some (.int .i64 p2)∧(Instr.lookup 182 (.map (some pm)) (.int .i64 p1) false).run Tryz.prog W= .ok (.string ⟨t1.toArray⟩) W∧(Instr.lookup 182 (.map (some pm)) (.int .i64 p2) false).run Tryz.prog W= .ok (.string ⟨t2.toArray⟩) W)
       (first|exact F.out _ cK.out|exact F.out _ cK.out.drew|exact F.out _ (cK.out.alloc _).drew|exact F.out _ (cK.out.alloc _)|exact F.out _ fx.out|exact F.out _ (fx.out.alloc _)|exact F.out _ jd.out|exact F.out _ rg.out|go_keep)
       (first
         | (refine Za5 (by rfl) _ _ (by rfl) wb.heap.size u13 cur.length (cur) (by rfl) qE.out.drew t1 (by rfl) lF (by omega) (by exact cK.out.drew.b) ?_;intro v3 w3 cZ dS;have fx:=Zpe (cK.out.drew.grown dS bH.out);have l8:=Zpe (Zci cZ fx.out dF.out);clear dS;have cZ:=Zpe cZ)
         | (refine Za5 (by rfl) _ _ (by rfl) wb.heap.size u13 cur.length (cur) (by rfl) (qE.out.alloc _).drew t1 (by rfl) lF (by omega) (by exact(cK.out.alloc _).drew.b) ?_;intro v3 w3 cZ dS;have fx:=Zpe ((cK.out.alloc _).drew.grown dS bH.out);have ou:=Zpe ((dS.block w5.heap.size (by simp[World.drew]) (fun e=>Nat.lt_irrefl _ (qE.out.lt e.symm).2)).trans (Zpm w5 (.cells #[.int .u8 32] 5)));have l8:=Zpe (Zci cZ fx.out dF.out);clear dS;have cZ:=Zpe cZ)
         | (refine step_append_lies (w3.alloc (.cells #[.int .u8 32] 5)) (by rfl) _ _ 204 (by rfl) wb.heap.size 5 i0 (.int .u8 0) 1 1 Tryz.underlying204 cX bB iL iM rfl (by decide) v3 (cur.length+t1.length) (Lib.byteCells (cur++t1)) (by rfl) (cZ.out.alloc _) ⟨w3.heap.size,0,none⟩ 1 1 [.int .u8 32] (by rfl) (by rfl) (ZaP _ _ _ _ rfl) (by simp[Value.oneCell']) (by omega) (by unfold maxLen;omega) (by omega) (by exact(fx.out.alloc _).b) _ rfl ?_;intro g4 gW w4 cB ez ic _;have jd:=Zpe ((fx.out.alloc _).grown ez (fun j hj=>l8.out j hj));have rL:=Zpe (Zci cB jd.out dF.out);clear ez ic;have cB:=Zpe cB)
         | (refine step_append_lies w3 (by rfl) _ _ 204 (by rfl) wb.heap.size 5 i0 (.int .u8 0) 1 1 Tryz.underlying204 cX bB iL iM rfl (by decide) v3 (cur.length+t1.length) (Lib.byteCells (cur++t1)) (by rfl) cZ.out ⟨w5.heap.size,0,none⟩ 1 1 [.int .u8 32] (by rfl) (by rfl) (World.news_of_block (cs:=#[.int .u8 32]) ou.out) (by simp[Value.oneCell']) (by omega) (by unfold maxLen;omega) (by omega) (by exact fx.out.b) _ rfl ?_;intro g4 gW w4 cB ez ic _;have jd:=Zpe (fx.out.grown ez (fun j hj=>l8.out j hj));have rL:=Zpe (Zci cB jd.out dF.out);clear ez ic;have cB:=Zpe cB)
         | (refine Za5 (by rfl) _ _ (by rfl) wb.heap.size (.slice (some ⟨g4,0,none⟩) (cur.length+t1.length+1) gW) (cur.length+t1.length+1) ((cur++t1)++[32]) (by rfl) (.inl (ZaW cB.out rfl (by simp[Lib.byteCells]))) t2 (by rfl) me (by omega) (by exact jd.out.b) ?_;intro v7 w7 m7 sF;have rg:=Zpe (jd.out.grown sF (fun j hj=>rL.out j hj));clear sF;have m7:=Zpe m7))
      all_goals
       have im:Hid (ZfY wb mk n.el (k+1) v7 w7):=Zpe (by
        have e1:Zbi mk (n.el.take (k+1))=((cur++t1)++[32])++t2:=by rw[mg.out,if_pos (dE.out.2 mW.out)];simp
        have o1:w7.ownsRow wb.heap.size 5 1 v7 (Zbi mk (n.el.take (k+1))).length (Lib.byteCells (Zbi mk (n.el.take (k+1)))):=ZaW m7.out (by rw[e1];simp;omega) (by rw[e1]);exact⟨.inl o1,fun _=>o1,rg.out.bl⟩)
       go_wp2_with fail;go_roundw
       case rel=>exact⟨k+1,by omega,by go_num,im⟩
       case measure=>simp[intOf];omega
     ·have dk:decide ((k:Int) > 0)=true:=Zpv (by omega)
      have dk2:decide (0<(k:Int))=true:=Zpv (by omega);have dk3:decide (0<k)=true:=Zpv (by omega)
      go_wp2_with (at_builtin;refine Zfm rfl _ _ rfl wb.heap.size u13 cur.length cur rfl qE.out [59,32] rfl (by decide) (by simp;omega) (by exact cK.out.b) ?_;intro v2 w2 jB fk;have dm:=Zpe (cK.out.grown fk bH.out);clear fk;have jB:=Zpe jB)
      generalize wr.alloc (.cells #[.int .i64 (p1:Int),.int .i64 (p2:Int)] 165)=w5 at *;have nW:=Zpe (Zci jB.out dm.out dF.out);have qD:Hid (Zht w2 wb.heap.size v2 (cur.length+2) (cur++[59,32])):=Zpe (.inl jB.out)
      go_region_held3 (fun W=>W.cell? ⟨wr.heap.size,0,none⟩=some (.int .i64 p1)∧W.cell? ⟨wr.heap.size,1,none⟩=some (.int .i64 p2)∧(Instr.lookup 182 (.map (some pm)) (.int .i64 p1) false).run Tryz.prog W= .ok (.string ⟨t1.toArray⟩) W∧(Instr.lookup 182 (.map (some pm)) (.int .i64 p2) false).run Tryz.prog W= .ok (.string ⟨t2.toArray⟩) W)
       (first|exact F.out _ dm.out|exact F.out _ dm.out.drew|exact F.out _ (dm.out.alloc _).drew|exact F.out _ (dm.out.alloc _)|exact F.out _ fx.out|exact F.out _ (fx.out.alloc _)|exact F.out _ jd.out|exact F.out _ rg.out|go_keep)
       (first
         | (refine Za5 (by rfl) _ _ (by rfl) wb.heap.size v2 (cur.length+2) ((cur++[59,32])) (by rfl) qD.out.drew t1 (by rfl) lF (by omega) (by exact dm.out.drew.b) ?_;intro v3 w3 cZ dS;have fx:=Zpe (dm.out.drew.grown dS nW.out);have l8:=Zpe (Zci cZ fx.out dF.out);clear dS;have cZ:=Zpe cZ)
         | (refine Za5 (by rfl) _ _ (by rfl) wb.heap.size v2 (cur.length+2) ((cur++[59,32])) (by rfl) (qD.out.alloc _).drew t1 (by rfl) lF (by omega) (by exact(dm.out.alloc _).drew.b) ?_;intro v3 w3 cZ dS;have fx:=Zpe ((dm.out.alloc _).drew.grown dS nW.out);have ou:=Zpe ((dS.block w2.heap.size (by simp[World.drew]) (fun e=>Nat.lt_irrefl _ (qD.out.lt e.symm).2)).trans (Zpm w2 (.cells #[.int .u8 32] 5)));have l8:=Zpe (Zci cZ fx.out dF.out);clear dS;have cZ:=Zpe cZ)
         | (refine step_append_lies (w3.alloc (.cells #[.int .u8 32] 5)) (by rfl) _ _ 204 (by rfl) wb.heap.size 5 i0 (.int .u8 0) 1 1 Tryz.underlying204 cX bB iL iM rfl (by decide) v3 ((cur.length+2)+t1.length) (Lib.byteCells ((cur++[59,32])++t1)) (by rfl) (cZ.out.alloc _) ⟨w3.heap.size,0,none⟩ 1 1 [.int .u8 32] (by rfl) (by rfl) (ZaP _ _ _ _ rfl) (by simp[Value.oneCell']) (by omega) (by unfold maxLen;omega) (by omega) (by exact(fx.out.alloc _).b) _ rfl ?_;intro g4 gW w4 cB ez ic _;have jd:=Zpe ((fx.out.alloc _).grown ez (fun j hj=>l8.out j hj));have rL:=Zpe (Zci cB jd.out dF.out);clear ez ic;have cB:=Zpe cB)
         | (refine step_append_lies w3 (by rfl) _ _ 204 (by rfl) wb.heap.size 5 i0 (.int .u8 0) 1 1 Tryz.underlying204 cX bB iL iM rfl (by decide) v3 ((cur.length+2)+t1.length) (Lib.byteCells ((cur++[59,32])++t1)) (by rfl) cZ.out ⟨w2.heap.size,0,none⟩ 1 1 [.int .u8 32] (by rfl) (by rfl) (World.news_of_block (cs:=#[.int .u8 32]) ou.out) (by simp[Value.oneCell']) (by omega) (by unfold maxLen;omega) (by omega) (by exact fx.out.b) _ rfl ?_;intro g4 gW w4 cB ez ic _;have jd:=Zpe (fx.out.grown ez (fun j hj=>l8.out j hj));have rL:=Zpe (Zci cB jd.out dF.out);clear ez ic;have cB:=Zpe cB)
         | (refine Za5 (by rfl) _ _ (by rfl) wb.heap.size (.slice (some ⟨g4,0,none⟩) ((cur.length+2)+t1.length+1) gW) ((cur.length+2)+t1.length+1) (((cur++[59,32])++t1)++[32]) (by rfl) (.inl (ZaW cB.out rfl (by simp[Lib.byteCells]))) t2 (by rfl) me (by omega) (by exact jd.out.b) ?_;intro v7 w7 m7 sF;have rg:=Zpe (jd.out.grown sF (fun j hj=>rL.out j hj));clear sF;have m7:=Zpe m7))
      all_goals
       have im:Hid (ZfY wb mk n.el (k+1) v7 w7):=Zpe (by
        have e1:Zbi mk (n.el.take (k+1))=(((cur++[59,32])++t1)++[32])++t2:=by rw[mg.out,if_neg (fun e=>mW (dE.out.1 e))]
        have o1:w7.ownsRow wb.heap.size 5 1 v7 (Zbi mk (n.el.take (k+1))).length (Lib.byteCells (Zbi mk (n.el.take (k+1)))):=ZaW m7.out (by rw[e1];simp;omega) (by rw[e1]);exact⟨.inl o1,fun _=>o1,rg.out.bl⟩)
       go_wp2_with fail;go_roundw
       case rel=>exact⟨k+1,by omega,by go_num,im⟩
       case measure=>simp[intOf];omega
    ·obtain rfl:k=n.el.length:=by omega
     rw[List.take_length]at hO mG;have l8:=mG (List.length_pos_iff.2 cG.out);have li:=hB.size;have mf:=bv.out;clear hO mG;replace hB:=Zpe hB
     go_wp2_with (at_builtin;refine wpList_append_own _ rfl _ _ 204 rfl wb.heap.size 5 i0 (.int .u8 0) 1 1 Tryz.underlying204 cX bB iL iM rfl (by decide) _ _ _ rfl (l8.alloc _) ⟨wr.heap.size,0,none⟩ 1 1 [.int .u8 41] rfl rfl (ZaP _ _ _ _ rfl) (by simp[Value.oneCell']) (by unfold maxLen;omega) (by omega) (by simp;omega) ?_;intro v3 w3 cZ dS _;have cB:=ZaW (n':=(Zbi mk n.el++[41]).length) (xs':=Lib.byteCells (Zbi mk n.el++[41])) cZ (by simp) (by simp[Lib.byteCells]);have fy:=ZcK cB;have aa:Below wb.heap.size wb w3:=((hB.out.alloc li _).trans ⟨dS.os,dS.tape,dS.output,dS.size,fun j hj=>dS.block j (by simp;omega) (fun e=>by have:=Zbc l8 e.symm;omega)⟩);obtain⟨lu,hC9,cP⟩:=(jG.out.on aa).put a (Zbi mk n.el++[41]))
     go_ret;exact⟨rfl,hC9,((bO.trans fP).trans (Zat.of_below aa)).trans cP⟩
end Go.Proofs.YtmnjakejhbpkoaaGreatDoor
namespace Go.Proofs.YtmnjakejhbpkoaaGreatDoor
open Go Go.RowKit Go.Shelf
theorem Zj1{B:Zas}{s:St}{w0:World}{pm:Nat}(h:Rep B s w0)(f:Nat):Zn6 s w0 pm B.sb (Zfn f s.nodes):=by
 induction f with
 | zero=>intro a m m' wr _ he;cases he
 | succ f ih =>
   intro a m m' wr hC he;unfold Zfn at he
   split at he
   ·rename_i t ht
    cases he
    exact ZlS (s:=s) hC ht
   ·rename_i hm
    split at he
    ·cases he
    ·rename_i n hn
     split at he
     ·rename_i cG
      cases he
      exact Zj2 h hC hm hn cG
     ·rename_i cG
      split at he
      ·cases he
      ·rename_i m1 z hw
       split at he
       ·rename_i hc
        cases he
        exact Zip h ih hC hm hn cG hw hc.1 hc.2.1 hc.2.2
       ·cases he
def ZmF (f:Nat)(ns:List Zaf)(a:Nat):Option (List UInt8):=match Zfn f ns a [] with
 | none=>none
 | some m=>some (ZbF m a)
theorem ZmG{B:Zas}{s:St}{w:World}{a f:Nat}{t:List UInt8}(h:Rep B s w)(ht:s.tree≠[])(ha:a<s.nodes.length)(he:ZmF f s.nodes a=some t) :
  Calls Tryz.prog 65 #[.pointer (some ⟨B.sb,0,none⟩),.int .i64 a] w fun e w'=>e= .returned (.tuple #[.string ⟨t.toArray⟩,.int .i64 0])∧Below w.heap.size w w':=by
 unfold ZmF at he
 split at he
 ·cases he
 rename_i m hm
 simp only[Zpw]at he;have dJ:Zfx s.nodes.length [(a:Int)]=0:=by simp[Zfx,ha]
 have ji:∀w,(Instr.makeMap 182 none).run Tryz.prog w= .ok (.map (some w.heap.size)) (w.alloc (.map #[] 0)):=fun w=>rfl
 replace dJ:=Zpe dJ;replace hm:=Zpe hm;replace he:=Zpe he;have aC:=(Ext.refl w).alloc (.cells #[.int .i64 a] 3);have ak:=Zpm w (.cells #[.int .i64 a] 3)
 go_enter Tryz.func65,Tryz.ntmps65
 go_wp2_with fail;generalize w.alloc (.cells #[.int .i64 a] 3)=w1 at *;have aU:=h.below aC.below;have hq:=ZcL aU ht (Zfe ak) (by simp);rw[dJ.out]at hq;clear ak;refine hq.mono ?_;rintro e w2 ⟨rfl,rfl⟩;have aP:Below w1.heap.size w1 (w1.alloc (.map #[] 0)):=(Zpr _ w1).alloc (ZpD _) _;have hC:WrC w1 w1.heap.size [] (w1.alloc (.map #[] 0)):=⟨aP,ZiN _ _ _,ZpD _⟩;have db:=Zj1 (pm:=w1.heap.size) aU f a [] m _ hC hm.out;replace aU:=Zpe aU;replace hC:=Zpe hC;clear hq;go_wp2_with fail;refine db.mono ?_;rintro e w3 ⟨rfl,l5,bd⟩;have az:=l5.look1 a;rw[he.out]at az;go_wp2_with fail;go_ret2;exact⟨rfl,aC.below.trans (l5.below.mono aC.size)⟩
end Go.Proofs.YtmnjakejhbpkoaaGreatDoor
