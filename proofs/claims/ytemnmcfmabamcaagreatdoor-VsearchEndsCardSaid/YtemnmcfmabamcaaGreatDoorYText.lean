import Derived.Test.YtemnmcfmabamcaaGreatDoorYEval
import Derived.Lib.SlBytesConst
set_option linter.unusedSimpArgs false
set_option linter.unusedVariables false
set_option maxRecDepth 100000
set_option maxHeartbeats 8000000
namespace Go.Proofs.YtemnmcfmabamcaaGreatDoor
open Go Go.RowKit Go.Shelf
def ZnV (b:List UInt8):Value:=.string ⟨b.toArray⟩
def ZbX (m:List (Nat × List UInt8))(a:Nat):List UInt8:=match asc m a with
 | some t=>t
 | none=>[]
def ZqY (m:List (Nat × List UInt8)):List (Nat × Nat)→List UInt8
 | []=>[]
 | p :: r=>(ZbX m p.1++[32]++ZbX m p.2)++(r.flatMap fun q=>[59,32]++(ZbX m q.1++[32]++ZbX m q.2))
def Zbx (m:List (Nat × List UInt8))(l:List (Nat × Nat)):List UInt8:=[40]++ZqY m l
theorem Zgu(m:List (Nat × List UInt8))(l:List (Nat × Nat))(p:Nat × Nat):Zbx m (l++[p])=Zbx m l++(if l=[] then [] else [59,32])++ZbX m p.1++[32]++ZbX m p.2:=by
 cases l with
 | nil=>simp[Zbx,ZqY]
 | cons q r=>simp[Zbx,ZqY]
def wrL (g:Nat→List (Nat × List UInt8)→Option (List (Nat × List UInt8))):List (Nat × Nat)→List (Nat × List UInt8)→Nat→Option (List (Nat × List UInt8) × Nat)
 | [],m,z=>some (m,z)
 | p :: r,m,z=>match g p.1 m with
   | none=>none
   | some m1=>match g p.2 m1 with
     | none=>none
     | some m2=>if (ZbX m2 p.1).length≤1048576∧(ZbX m2 p.2).length≤1048576 then wrL g r m2 (z+((ZbX m2 p.1).length+(ZbX m2 p.2).length+3)) else none
def Zf7:Nat→List Zac→Nat→List (Nat × List UInt8)→Option (List (Nat × List UInt8))
 | 0,_,_,_=>none
 | f+1,ns,a,m=>match asc m a with
   | some _=>some m
   | none=>match ns[a]? with
     | none=>none
     | some n=>if n.el=[] then some ((a,if n.lit≠0 then Lib.itoa n.lit else if a=1 then [84] else [70]) :: m) else
       match wrL (Zf7 f ns) n.el m 0 with
       | none=>none
       | some (m1,z)=>if z≤1048576∧(Zbx m1 n.el).length≤4194304∧(∀p∈n.el,(0<(ZbX m1 p.1).length∧(ZbX m1 p.1).length≤1048576)∧(0<(ZbX m1 p.2).length∧(ZbX m1 p.2).length≤1048576)) then some ((a,Zbx m1 n.el++[41]) :: m1) else none
theorem ZoL{g:Nat→List (Nat × List UInt8)→Option (List (Nat × List UInt8))}{p:Nat × Nat}{r:List (Nat × Nat)}{m:List (Nat × List UInt8)}{z:Nat}{fin:List (Nat × List UInt8) × Nat}(h:wrL g (p :: r) m z=some fin) :
  ∃m1 m2,g p.1 m=some m1∧g p.2 m1=some m2∧(ZbX m2 p.1).length≤1048576∧(ZbX m2 p.2).length≤1048576∧wrL g r m2 (z+((ZbX m2 p.1).length+(ZbX m2 p.2).length+3))=some fin:=by
 unfold wrL at h
 split at h
 ·cases h
 ·rename_i m1 h1
  split at h
  ·cases h
  ·rename_i m2 h2
   split at h
   ·rename_i hc
    exact⟨m1,m2,h1,h2,hc.1,hc.2,h⟩
   ·cases h
structure WrC (w0:World) (pm:Nat) (m:List (Nat × List UInt8)) (wr:World):Prop where
 below:Below w0.heap.size w0 wr
 mb:ZaI Zad ZnV wr pm (asc m)
 pml:w0.heap.size≤pm
def Zav (w w':World):Prop:=w.heap.size≤w'.heap.size∧∀(k:Nat) (c:Array Value) (t:TypeId) (f:Nat × Nat),w.heap[k]? =some (.cells c t f)→w'.heap[k]? =some (.cells c t f)
theorem Zav.refl(w:World):Zav w w:=⟨ZrQ _,fun _ _ _ _ h=>h⟩
theorem Zav.trans{a b c:World}(h:Zav a b)(k:Zav b c):Zav a c:=⟨ZrC h.1 k.1,fun i x t f hi=>k.2 i x t f (h.2 i x t f hi)⟩
theorem Zav.of_below{w w':World}(h:Below w.heap.size w w'):Zav w w':=⟨h.size,fun k c t f hk=>(h.block k (Zrv hk).1).trans hk⟩
theorem WrC.on{w0 wr w':World}{pm:Nat}{m:List (Nat × List UInt8)}(h:WrC w0 pm m wr)(hb:Below wr.heap.size wr w'):WrC w0 pm m w' where
 below:=h.below.trans (hb.mono h.below.size)
 mb:=h.mb.same (hb.block _ h.mb.lt)
 pml:=h.pml
theorem WrC.put{w0 wr:World}{pm:Nat}{m:List (Nat × List UInt8)}(h:WrC w0 pm m wr)(a:Nat)(t:List UInt8) :
  (Instr.mapUpdate 87 (.map (some pm)) (.int .i64 a) (.string ⟨t.toArray⟩)).run Tryz.prog wr= .ok () (Zas 3 Tryz.prog wr pm (Zad a) (ZnV t))∧WrC w0 pm ((a,t) :: m) (Zas 3 Tryz.prog wr pm (Zad a) (ZnV t))∧Zav wr (Zas 3 Tryz.prog wr pm (Zad a) (ZnV t)):=by
 obtain⟨h1,h2⟩:=h.mb.put Zcw (T:=87) Tryz.underlying87 a t;obtain⟨p1,p2,p3,_⟩:=Za6 (P:=Tryz.prog) 3 wr pm (Zad a) (ZnV t);have dQ:=h.pml;refine⟨h1,⟨⟨p1.trans h.below.os,p2.trans h.below.tape,p3.trans h.below.output,by rw[Zaw];exact h.below.size,fun k hk=>(Zan _ _ _ _ _ k (by omega)).trans (h.below.block k hk)⟩,by rw[ZaH];exact h2,dQ⟩,by rw[Zaw];exact ZrQ _,fun k c t f hk=>?_⟩;refine(Zan _ _ _ _ _ k ?_).trans hk;intro e;obtain⟨L,cl,hb,_⟩:=h.mb;rw[e,hb]at hk;simp at hk
theorem Zjn:∀w,(zeroValue 9).run Tryz.prog w= .ok (.string ⟨#[]⟩) w:=fun w=>by kernel_rfl
theorem WrC.look{w0 wr:World}{pm:Nat}{m:List (Nat × List UInt8)}(h:WrC w0 pm m wr)(a:Nat) :
  (Instr.lookup 87 (.map (some pm)) (.int .i64 a) true).run Tryz.prog wr= .ok (.tuple #[((asc m a).map ZnV).getD (.string ⟨#[]⟩),.bool (asc m a).isSome]) wr :=
 h.mb.look Zcw (T:=87) Tryz.underlying87 _ Zjn a
theorem WrC.look1{w0 wr:World}{pm:Nat}{m:List (Nat × List UInt8)}(h:WrC w0 pm m wr)(a:Nat) :
  (Instr.lookup 87 (.map (some pm)) (.int .i64 a) false).run Tryz.prog wr= .ok (.string ⟨(ZbX m a).toArray⟩) wr:=by
 have h1:=h.mb.look1 Zcw (T:=87) Tryz.underlying87 _ Zjn a
 have h2:((asc m a).map ZnV).getD (.string ⟨#[]⟩)= .string ⟨(ZbX m a).toArray⟩:=by
  unfold ZbX
  cases asc m a <;> rfl
 rw[h2]at h1;exact h1
def Zqo (s:St)(w0:World)(pm:Nat)(sb:Nat)(g:Nat→List (Nat × List UInt8)→Option (List (Nat × List UInt8))):Prop:=∀(a:Nat) (m m':List (Nat × List UInt8)) (wr:World),WrC w0 pm m wr→g a m=some m' →
 Calls Tryz.prog 40 #[.pointer (some ⟨sb,0,none⟩),.int .i64 a,.map (some pm)] wr fun e w'=>e= .returned (.bool true)∧WrC w0 pm m' w'∧Zav wr w'
def Zij (w:World)(base:Nat)(v:Value)(n:Nat)(l:List UInt8):Prop :=
 w.ownsRow base 5 1 v n (Lib.byteCells l)∨∃g cur fz,v= .slice (some ⟨g,0,none⟩) n n∧base≤g∧w.heap[g]? =some (.cells cur 5 fz)∧cur.toList=Lib.byteCells l∧l.length=n
theorem Zij.same{w w':World}{base n:Nat}{v:Value}{l:List UInt8}(h:Zij w base v n l)(hs:∀k,v.ownBlock=some k→w'.heap[k]? =w.heap[k]?):Zij w' base v n l:=by
 rcases h with h|⟨g,cur,fz,rfl,h1,h2,h3,h4⟩
 ·exact .inl (Zaa h hs)
 ·exact .inr ⟨g,cur,fz,rfl,h1,(hs g rfl).trans h2,h3,h4⟩
theorem Zij.lt{w:World}{base n:Nat}{v:Value}{l:List UInt8}(h:Zij w base v n l){k:Nat}(hk:v.ownBlock=some k):base≤k∧k<w.heap.size:=by
 rcases h with h|⟨g,cur,fz,rfl,h1,h2,h3,h4⟩
 ·exact⟨Zay h hk,(Zap h hk).1⟩
 ·simp[Value.ownBlock]at hk
  subst hk;exact⟨h1,(Zrv h2).1⟩
theorem ZeO{w:World}{base n:Nat}{v:Value}{l:List UInt8}(h:Zij w base v n l)(s:List UInt8)(h0:0<s.length)(hb:n+s.length≤8388608)(bI:base≤w.heap.size)(ty:TypeId) :
  ∃v' w',(Builtin.append_ #[72,9] ty #[v,.string ⟨s.toArray⟩]).run Tryz.prog w= .ok v' w'∧w'.ownsRow base 5 1 v' (n+s.length) (Lib.byteCells (l++s))∧w.grownBy w' v.ownBlock:=by
 obtain⟨i0,bz,bH,aj,av⟩:=info_parts ZiG;have hs:(⟨s.toArray⟩:ByteArray).size=s.length:=by simp[ByteArray.size]
 have oV:Lib.strCells ⟨s.toArray⟩=Lib.byteCells s:=by simp[Lib.strCells,Lib.byteCells]
 have yK:Lib.byteCells (l++s)=Lib.byteCells l++Lib.byteCells s:=by simp[Lib.byteCells]
 rcases h with h|⟨g,cur,fz,rfl,h1,h2,h3,h4⟩
 ·obtain⟨v',w',r1,r2,r3,_⟩:=Lib.run_append_own_string (P:=Tryz.prog) w base 72 9 ty 5 i0 Tryz.underlying72 Tryz.underlying9 bz bH aj av v n _ h ⟨s.toArray⟩ (by rw[hs];unfold maxLen;omega) (by rw[hs];omega) bI
  rw[hs,oV]at r2;exact⟨v',w',r1,by rw[yK];exact r2,r3⟩
 ·have jS:(Lib.byteCells l).length=n:=by simp[Lib.byteCells,h4]
  have sx:∀j u,(Lib.byteCells l)[j]? =some u→w.cell? ((⟨g,0,none⟩:Addr).add j)=some u:=fun j u hj=>World.news_of_block h2 j u (by rw[h3];exact hj)
  have hr:=Lib.run_append_grow_string (P:=Tryz.prog) w 72 9 ty 5 i0 (.int .u8 0) Tryz.underlying72 Tryz.underlying9 bz bH ⟨g,0,none⟩ n n (Lib.byteCells l) (by rw[aj];simpa using jS) sx ⟨s.toArray⟩ (by rw[hs];omega) (by rw[hs];omega) (by rw[av];exact growslice_fits (by rw[hs];omega) (by rw[hs];omega));have eE:=grownCap_ge w (n+(⟨s.toArray⟩:ByteArray).size) n 5;have yY:grownCap w (n+(⟨s.toArray⟩:ByteArray).size) n 5≤maxLen:=grownCap_le_maxLen w (n+(⟨s.toArray⟩:ByteArray).size) n 5 (by rw[hs];unfold maxLen;omega);rw[hs]at eE yY;rw[hs]at hr;refine⟨_,_,hr,⟨by simp[Lib.byteCells,h4],.inr ⟨w.heap.size,_,_,rfl,bI,Zrz w.drew _,eE,yY,?_,?_⟩⟩,⟨rfl,rfl,rfl,by simp,fun k hk _=>Below.heap_alloc w.drew _ k hk⟩⟩
  ·have aj:(Value.int IntKind.u8 0).cells.size=1:=rfl
   simp only[Array.size_append,List.size_toArray,size_zeroCells,aj,jS,Lib.strCells_length,hs];omega
  ·simp only[Array.toList_append,List.append_assoc]
   rw[←List.append_assoc,oV,yK,Nat.mul_one];have lC:(Lib.byteCells l++Lib.byteCells s).length=n+s.length:=by simp[Lib.byteCells,h4]
   rw[←lC];exact List.take_left
theorem Zbj{w:World}{ops:Array Oper}{o:Oper}{a:Act}{K:Act→World→Prop}{Q:Exit→Act→World→Prop}{E:Prop}(wN:o.guard=none)(sl x:Operand)
  (ho:o.op= .call { callee:=.builtin .append,args:=#[sl,x],argTypes:=#[72,9] })
  (base:Nat) (v:Value) (n:Nat) (l:List UInt8) (hs:a.eval sl=v) (bR:Zij w base v n l) (s:List UInt8) (hx:a.eval x= .string ⟨s.toArray⟩)
  (h0:0<s.length) (hb:n+s.length≤8388608) (bI:base≤w.heap.size)
  (h:∀v' w',w'.ownsRow base 5 1 v' (n+s.length) (Lib.byteCells (l++s))→w.grownBy w' v.ownBlock→K (a.put o.dst v') w') :
  if Region.wanted o (yielded ops a.tmps)=true then Oper.wp Tryz.prog o a w K Q else E:=by
 have hw:Region.wanted o (yielded ops a.tmps)=true:=by simp[Region.wanted,wN]
 rw[if_pos hw];obtain⟨v',w',hr,h2,h3⟩:=ZeO bR s h0 hb bI o.type;unfold Oper.wp execOp;simp only[ho,resolve,invoke,builtin,Sem.run_bind,Sem.run_pure,Result.andThen_ok,List.map_toArray,List.map_cons,List.map_nil,hs,hx,hr];exact h v' w' h2 h3
theorem Zf6{w:World}{ops:Array Oper}{rest:List Oper}{o:Oper}{a:Act}{Q:Exit→Act→World→Prop}(wN:o.guard=none)(sl x:Operand)
  (ho:o.op= .call { callee:=.builtin .append,args:=#[sl,x],argTypes:=#[72,9] })
  (base:Nat) (v:Value) (n:Nat) (l:List UInt8) (hs:a.eval sl=v) (bR:Zij w base v n l) (s:List UInt8) (hx:a.eval x= .string ⟨s.toArray⟩)
  (h0:0<s.length) (hb:n+s.length≤8388608) (bI:base≤w.heap.size)
  (h:∀v' w',w'.ownsRow base 5 1 v' (n+s.length) (Lib.byteCells (l++s))→w.grownBy w' v.ownBlock→wpList Tryz.prog ops Q rest (a.put o.dst v') w'):wpList Tryz.prog ops Q (o :: rest) a w:=by
 refine wpList_plain wN fun K hK=>?_
 obtain⟨v',w',hr,h2,h3⟩:=ZeO bR s h0 hb bI o.type;unfold Oper.wp execOp;simp only[ho,resolve,invoke,builtin,Sem.run_bind,Sem.run_pure,Result.andThen_ok,List.map_toArray,List.map_cons,List.map_nil,hs,hx,hr];exact hK _ _ (h v' w' h2 h3)
end Go.Proofs.YtemnmcfmabamcaaGreatDoor
namespace Go.Proofs.YtemnmcfmabamcaaGreatDoor
open Go Go.RowKit Go.Shelf
theorem Zgr(B:Nat){w w':World}(h:∃k os,w'=Go.Sort.grow (w.drewN k) os)(hB:B≤w.heap.size):Below B w w':=by
 obtain⟨k,os,rfl⟩:=h;exact Lib.below_grow B w hB k os
theorem Zno{s:St}{w0:World}{pm sb a:Nat}{m:List (Nat × List UInt8)}{wr:World}{t:List UInt8}(hC:WrC w0 pm m wr)(ht:asc m a=some t) :
  Calls Tryz.prog 40 #[.pointer (some ⟨sb,0,none⟩),.int .i64 a,.map (some pm)] wr fun e w'=>e= .returned (.bool true)∧WrC w0 pm m w'∧Zav wr w':=by
 have bD:=hC.look a;rw[ht]at bD;have fO:(Instr.lookup 87 (.map (some pm)) (.int .i64 a) true).run Tryz.prog wr= .ok (.tuple #[.string ⟨t.toArray⟩,.bool true]) wr:=bD;clear bD;replace ht:=Zrr ht
 go_enter Tryz.func40,Tryz.ntmps40
 go_wp2_with fail;go_ret;exact⟨rfl,hC,Zav.refl _⟩
theorem Zlb{B:Zar}{s:St}{w0:World}{pm a:Nat}{m:List (Nat × List UInt8)}{wr:World}{n:Zac}(h:Rep B s w0)(hC:WrC w0 pm m wr)(hm:asc m a=none)(hn:s.nodes[a]? =some n)(cN:n.el=[]) :
  Calls Tryz.prog 40 #[.pointer (some ⟨B.sb,0,none⟩),.int .i64 a,.map (some pm)] wr fun e w'=>e= .returned (.bool true)∧WrC w0 pm ((a,if n.lit≠0 then Lib.itoa n.lit else if a=1 then [84] else [70]) :: m) w'∧Zav wr w':=by
 have bD:=hC.look a;rw[hm]at bD;have fO:(Instr.lookup 87 (.map (some pm)) (.int .i64 a) true).run Tryz.prog wr= .ok (.tuple #[.string ⟨#[]⟩,.bool false]) wr:=bD;clear bD;have hR:=h.below hC.below;obtain⟨cap,_,_,cn,_⟩:=hR.cells;obtain⟨v,hv,_,n0,n1,n2,n3,n4⟩:=hR.node hn;obtain⟨ba,cp,rfl,_⟩:=hv;have fw:=h.small.2 n (List.mem_of_getElem? hn);obtain⟨_,_,cS,eO,_⟩:=fw;have bN:=h.small.1;have uE:a<s.nodes.length:=(Zrw hn).1;have ga0:(0:Int)≤a:=by omega
 have qI:(a:Int)<s.nodes.length:=by omega
 have eM:n.el.length=0:=by rw[cN];rfl
 rw[eM]at n2;have aK:Ext wr (wr.alloc (.cells #[.int .i64 n.pl,.int .i64 n.lit,.slice ba 0 cp,.int .u64 (lo n.le),.int .u64 (hi n.le)] 101)):=(Ext.refl wr).alloc _;have aj:=Zrz wr (.cells #[.int .i64 n.pl,.int .i64 n.lit,.slice ba 0 cp,.int .u64 (lo n.le),.int .u64 (hi n.le)] 101);have ce:=hC.on aK.below;have hP1:=hR.pow.below aK.below;replace hR:=Zrr hR;replace hm:=Zrr hm;replace hn:=Zrr hn;replace cN:=Zrr cN;replace eM:=Zrr eM
 by_cases hl:n.lit=0
 ·have d0:((n.lit:Int) !=0)=false:=by simp[hl]
  by_cases ha:a=1
  ·have ik:Hid ((if n.lit≠0 then Lib.itoa n.lit else if a=1 then [84] else [70])=[84]):=Zrr (by simp[hl,ha])
   rw[ik.out];have d1:((a:Int) ==1)=true:=by simp;omega
   replace ha:=Zrr ha;replace hl:=Zrr hl;obtain⟨iQ,cL,bB⟩:=ce.put a [84];replace ce:=Zrr ce;have cC:=Zav.of_below aK.below;obtain⟨c0,c1,c2,c3,c4,_⟩:=Zbt aj;clear aj
   go_enter Tryz.func40,Tryz.ntmps40
   go_wp2_with fail;go_ret;exact⟨rfl,cL,cC.trans bB⟩
  ·have ik:Hid ((if n.lit≠0 then Lib.itoa n.lit else if a=1 then [84] else [70])=[70]):=Zrr (by simp[hl,ha])
   rw[ik.out];have d1:((a:Int) ==1)=false:=by simp;omega
   replace ha:=Zrr ha;replace hl:=Zrr hl;obtain⟨iQ,cL,bB⟩:=ce.put a [70];replace ce:=Zrr ce;have cC:=Zav.of_below aK.below;obtain⟨c0,c1,c2,c3,c4,_⟩:=Zbt aj;clear aj
   go_enter Tryz.func40,Tryz.ntmps40
   go_wp2_with fail;go_ret;exact⟨rfl,cL,cC.trans bB⟩
 ·have ik:Hid ((if n.lit≠0 then Lib.itoa n.lit else if a=1 then [84] else [70])=Lib.itoa n.lit):=Zrr (by simp[hl])
  rw[ik.out];have d0:((n.lit:Int) !=0)=true:=by simpa using hl
  replace hl:=Zrr hl;have hit1:=Tryz.strconv_Itoa n.lit (by omega) (by omega) _ hP1;have cC:=Zav.of_below aK.below;obtain⟨c0,c1,c2,c3,c4,_⟩:=Zbt aj;clear aj;replace ce:=Zrr ce;replace hP1:=Zrr hP1
  go_enter Tryz.func40,Tryz.ntmps40
  go_wp2_with fail;generalize wr.alloc (.cells #[.int .i64 n.pl,.int .i64 n.lit,.slice ba 0 cp,.int .u64 (lo n.le),.int .u64 (hi n.le)] 101)=w1 at *;refine hit1.mono ?_;rintro e w2 ⟨rfl,bS⟩;have aL:=Zgr w1.heap.size bS (ZrQ _);clear bS;obtain⟨iQ,cL,bB⟩:=(ce.out.on aL).put a (Lib.itoa n.lit);go_wp2_with fail;go_ret;exact⟨rfl,cL,(cC.trans (Zav.of_below aL)).trans bB⟩
end Go.Proofs.YtemnmcfmabamcaaGreatDoor
namespace Go.Proofs.YtemnmcfmabamcaaGreatDoor
open Go Go.RowKit Go.Shelf
def Zlq (w0:World)(pm:Nat)(ws:World)(g:Nat→List (Nat × List UInt8)→Option (List (Nat × List UInt8)))(l:List (Nat × Nat))(fin:List (Nat × List UInt8) × Nat)(k z:Nat)(wr:World):Prop :=
 ∃m,WrC w0 pm m wr∧Zav ws wr∧wrL g (l.drop k) m z=some fin
def ZgJ (ws:World)(m:List (Nat × List UInt8))(l:List (Nat × Nat))(k:Nat)(v:Value)(wr:World):Prop :=
 Zij wr ws.heap.size v (Zbx m (l.take k)).length (Zbx m (l.take k))∧(0<k→wr.ownsRow ws.heap.size 5 1 v (Zbx m (l.take k)).length (Lib.byteCells (Zbx m (l.take k))))∧Below ws.heap.size ws wr
theorem ZaI.lookT{w:World}{pm:Nat}{m:List (Nat × List UInt8)}(h:ZaI Zad ZnV w pm (asc m))(a:Nat) :
  (Instr.lookup 87 (.map (some pm)) (.int .i64 a) false).run Tryz.prog w= .ok (.string ⟨(ZbX m a).toArray⟩) w:=by
 have h1:=h.look1 Zcw (T:=87) Tryz.underlying87 _ Zjn a
 have h2:((asc m a).map ZnV).getD (.string ⟨#[]⟩)= .string ⟨(ZbX m a).toArray⟩:=by
  unfold ZbX
  cases asc m a <;> rfl
 rw[h2]at h1;exact h1
theorem Zij.drew{w:World}{base n:Nat}{v:Value}{l:List UInt8}(h:Zij w base v n l):Zij w.drew base v n l:=h.same (fun _ _=>rfl)
theorem Zij.alloc{w:World}{base n:Nat}{v:Value}{l:List UInt8}(h:Zij w base v n l)(o:Obj):Zij (w.alloc o) base v n l:=h.same (fun k hk=>Below.heap_alloc w o k (h.lt hk).2)
structure Cur (w5 wb:World) (pb pm:Nat) (w:World):Prop where
 p:pb<w.heap.size
 b:wb.heap.size≤w.heap.size
 m:pm<wb.heap.size
 hp:w.heap[pb]? =w5.heap[pb]?
 hm:w.heap[pm]? =w5.heap[pm]?
 bl:Below wb.heap.size wb w
theorem Cur.drew{w5 wb:World}{pb pm:Nat}{w:World}(h:Cur w5 wb pb pm w):Cur w5 wb pb pm w.drew:=⟨h.p,h.b,h.m,h.hp,h.hm,h.bl.drew⟩
theorem Cur.alloc{w5 wb:World}{pb pm:Nat}{w:World}(h:Cur w5 wb pb pm w)(o:Obj):Cur w5 wb pb pm (w.alloc o) :=
 ⟨by have:=h.p;simp;omega,by have:=h.b;simp;omega,h.m,(Below.heap_alloc w o pb h.p).trans h.hp,(Below.heap_alloc w o pm (ZrD h.m h.b)).trans h.hm,h.bl.alloc h.b o⟩
theorem Cur.grown{w5 wb:World}{pb pm:Nat}{w w':World}{v:Value}(h:Cur w5 wb pb pm w)(hg:w.grownBy w' v.ownBlock)(hv:∀j,v.ownBlock=some j→wb.heap.size≤j∧j≠pb):Cur w5 wb pb pm w' :=
 ⟨ZrD h.p hg.size,ZrC h.b hg.size,h.m,(hg.block pb h.p (fun e=>(hv pb e.symm).2 rfl)).trans h.hp,(hg.block pm (ZrD h.m h.b) (fun e=>by have:=(hv pm e.symm).1;have:=h.m;omega)).trans h.hm,
   h.bl.trans ⟨hg.os,hg.tape,hg.output,hg.size,fun j hj=>hg.block j (ZrD hj h.b) (fun e=>by have:=(hv j e.symm).1;omega)⟩⟩
theorem ZcJ{w5 wb w':World}{pb pm n:Nat}{v:Value}{xs:List Value}{c:Array Value}{f:Nat × Nat}(h:w'.ownsRow wb.heap.size 5 1 v n xs)(hc:Cur w5 wb pb pm w')(hb:w5.heap[pb]? =some (.cells c ZaN f)):∀j,v.ownBlock=some j→wb.heap.size≤j∧j≠pb:=fun j hj=>by
 obtain⟨_,c',gE⟩:=Zap h hj;refine⟨Zay h hj,fun e=>?_⟩;rw[e,hc.hp,hb]at gE;simp[ZaN]at gE
theorem Zmx(m:List (Nat × List UInt8)):∀(l r:List (Nat × Nat)),(Zbx m l).length≤(Zbx m (l++r)).length
 | l,[]=>by simp
 | l,p :: r=>by
   have:=Zmx m (l++[p]) r;rw[List.append_assoc]at this;refine ZrC ?_ this;rw[Zgu];simp only[ZrB];omega
theorem Zjm{B:Zar}{s:St}{w0:World}{pm a:Nat}{m m1:List (Nat × List UInt8)}{wr:World}{n:Zac}{z:Nat}{g:Nat→List (Nat × List UInt8)→Option (List (Nat × List UInt8))}(h:Rep B s w0)(ih:Zqo s w0 pm B.sb g)(hC:WrC w0 pm m wr)(hm:asc m a=none)(hn:s.nodes[a]? =some n)(cN:n.el≠[])
  (hw:wrL g n.el m 0=some (m1,z)) (hz:z≤1048576) (dQ:(Zbx m1 n.el).length≤4194304) (fw:∀p∈n.el,(0<(ZbX m1 p.1).length∧(ZbX m1 p.1).length≤1048576)∧(0<(ZbX m1 p.2).length∧(ZbX m1 p.2).length≤1048576)) :
  Calls Tryz.prog 40 #[.pointer (some ⟨B.sb,0,none⟩),.int .i64 a,.map (some pm)] wr fun e w'=>e= .returned (.bool true)∧WrC w0 pm ((a,Zbx m1 n.el++[41]) :: m1) w'∧Zav wr w':=by
 have bD:=hC.look a;rw[hm]at bD;have fO:(Instr.lookup 87 (.map (some pm)) (.int .i64 a) true).run Tryz.prog wr= .ok (.tuple #[.string ⟨#[]⟩,.bool false]) wr:=bD;clear bD;have hR:=h.below hC.below;obtain⟨cap,_,_,cn,_⟩:=hR.cells;obtain⟨v,nz,_,_,_,k2,_,_⟩:=h.node hn;obtain⟨v',_,_,n0,n1,n2,n3,n4⟩:=hR.node hn
 have hvv:v'=v:=by
  have e1:=(hC.below.cell (Zrx w0 _ k2)).trans k2
  have e2:some v'=some v:=by
   have jp:B.nb*0=0:=Nat.mul_zero _;exact n2.symm.trans e1
  exact Option.some.inj e2
 subst hvv;obtain⟨ba,cp,rfl,fU⟩:=nz.lens;have hs5:=(h.small.2 n (List.mem_of_getElem? hn)).2.2.2.2.1;have bN:=h.small.1;have uE:a<s.nodes.length:=(Zrw hn).1;have ga0:(0:Int)≤a:=by omega
 have qI:(a:Int)<s.nodes.length:=by omega
 have eM:((n.el.length:Int) ==0)=false:=by
  have:=List.length_pos_iff.2 cN;simp;omega
 have aK:Ext wr (wr.alloc (.cells #[.int .i64 n.pl,.int .i64 n.lit,.slice ba n.el.length cp,.int .u64 (lo n.le),.int .u64 (hi n.le)] 101)):=(Ext.refl wr).alloc _;have aj:=Zrz wr (.cells #[.int .i64 n.pl,.int .i64 n.lit,.slice ba n.el.length cp,.int .u64 (lo n.le),.int .u64 (hi n.le)] 101);have ce:=hC.on aK.below;have cC:=Zav.of_below aK.below;obtain⟨c0,c1,c2,c3,c4,_⟩:=Zbt aj
 have aY:Hid (Zlq w0 pm (wr.alloc (.cells #[.int .i64 n.pl,.int .i64 n.lit,.slice ba n.el.length cp,.int .u64 (lo n.le),.int .u64 (hi n.le)] 101)) g n.el (m1,z) 0 0 (wr.alloc (.cells #[.int .i64 n.pl,.int .i64 n.lit,.slice ba n.el.length cp,.int .u64 (lo n.le),.int .u64 (hi n.le)] 101))):=Zrr
  ⟨m,ce,Zav.refl _,hw⟩
 replace aj:=Zrr aj;replace hR:=Zrr hR;replace hm:=Zrr hm;replace hn:=Zrr hn;replace cN:=Zrr cN;replace fU:=Zrr fU;replace ce:=Zrr ce;replace hC:=Zrr hC;replace fw:=Zrr fw;replace hw:=Zrr hw;replace dQ:=Zrr dQ;clear nz
 go_enter Tryz.func40,Tryz.ntmps40
 go_wp2_with fail;clear n0 n1 n2 n3 n4 cn k2 fO c0 c1 c2 c3 c4;generalize hws:wr.alloc (.cells #[.int .i64 n.pl,.int .i64 n.lit,.slice ba n.el.length cp,.int .u64 (lo n.le),.int .u64 (hi n.le)] 101)=ws at *;obtain⟨wo,rfl⟩:∃wo,wo=wr:=⟨wr,rfl⟩;replace hws:=Zrr hws
 go_loopw [10,53] (fun sz i wr=>∃k z':Nat,k≤n.el.length∧i= .int .i64 k∧sz= .int .i64 z'∧z'≤k*2097155∧Hid (Zlq w0 pm ws g n.el (m1,z) k z' wr)) (fun _ i _=>n.el.length - (intOf i).toNat)
 case atStart=>exact⟨0,0,Nat.zero_le _,rfl,rfl,Nat.zero_le _,aY⟩
 case round =>
  clear aY;obtain⟨k,z',hk,rfl,rfl,hzk,hI⟩:=hrel;obtain⟨mk,iU,jH,tQ⟩:=hI.out;clear hI
  by_cases aD:k<n.el.length
  ·rw[List.drop_eq_getElem_cons aD]at tQ
   obtain⟨vb,vo,rfl,e0,e1⟩:=fU.out k aD;have e0:=(iU.below.cell (Zrx w0 _ e0)).trans e0;have e1:=(iU.below.cell (Zrx w0 _ e1)).trans e1;obtain⟨ma,mb,h1,h2,fN,iE,rm⟩:=ZoL tQ;clear tQ;generalize n.el[k]=p at *;obtain⟨p1,p2⟩:=p;simp only at e0 e1 h1 h2 fN iE rm;have fW:=Zrz wr (.cells #[.int .i64 (p1:Int),.int .i64 (p2:Int)] 130);have fg:Below wr.heap.size wr (wr.alloc (.cells #[.int .i64 (p1:Int),.int .i64 (p2:Int)] 130)):=(ZrE _ wr).alloc (ZrQ _) _;have fY:=iU.on fg;obtain⟨p0,vW⟩:=Zah fW;have dR:=ih p1 mk ma _ fY h1;replace fY:=Zrr fY;replace fW:=Zrr fW;replace h1:=Zrr h1;replace h2:=Zrr h2;replace rm:=Zrr rm;replace iU:=Zrr iU;go_wp2_with fail;generalize wr.alloc (.cells #[.int .i64 (p1:Int),.int .i64 (p2:Int)] 130)=w5 at *;refine dR.mono ?_;rintro e w6 ⟨rfl,cM,fd⟩;obtain⟨q0,q1⟩:=Zah (fd.2 _ _ _ _ fW.out);have bX:=ih p2 ma mb _ cM h2.out;replace cM:=Zrr cM;clear dR p0 vW;go_wp2_with fail;refine bX.mono ?_;rintro e w7 ⟨rfl,gX,fT⟩;obtain⟨r0,r1⟩:=Zah (fT.2 _ _ _ _ (fd.2 _ _ _ _ fW.out));have li:=gX.look1 p1;have bW:=gX.look1 p2;have rd:(⟨(ZbX mb p1).toArray⟩:ByteArray).size=(ZbX mb p1).length:=by simp[ByteArray.size]
   have iq:(⟨(ZbX mb p2).toArray⟩:ByteArray).size=(ZbX mb p2).length:=by simp[ByteArray.size]
   generalize kt:ZbX mb p1=t1 at *;generalize ku:ZbX mb p2=t2 at *;have hkm:k*2097155≤1048576*2097155:=Nat.mul_le_mul (by omega) (ZrQ _);have jY:(k+1)*2097155=k*2097155+2097155:=Nat.succ_mul _ _;replace gX:=Zrr gX;replace kt:=Zrr kt;replace ku:=Zrr ku;replace jY:=Zrr jY;clear q0 q1 bX;go_wp2_with fail;go_roundw
   case rel=>exact⟨k+1,z'+(t1.length+t2.length+3),by omega,by go_num,by go_num,by rw[jY.out];omega,Zrr ⟨mb,gX.out,(jH.trans (Zav.of_below fg)).trans (fd.trans fT),rm.out⟩⟩
   case measure=>simp[intOf];omega
  ·obtain rfl:k=n.el.length:=by omega
   simp only[List.drop_length,wrL,ZrJ,Prod.mk.injEq]at tQ;obtain⟨rfl,rfl⟩:=tQ;have dz:decide ((z':Int) > 1048576)=false:=ZrH (by omega);obtain⟨c0,c1,c2,c3,c4,_⟩:=Zbt (jH.2 _ _ _ _ aj.out);have al:=jH.2 _ _ _ _ aj.out;have kc:=Lib.run_convert_bytes_const (P:=Tryz.prog) wr 72 5 #[.int .u8 40] 1 1 Tryz.underlying72 Tryz.underlying5;have kc2:(convert 72 72 (.slice (some ⟨wr.heap.size,0,none⟩) 1 1)).run Tryz.prog (wr.alloc (.cells #[.int .u8 40] 5))= .ok (.slice (some ⟨wr.heap.size,0,none⟩) 1 1) (wr.alloc (.cells #[.int .u8 40] 5 (1,2))):=kc;clear kc;have lJ:Ext wr (wr.alloc (.cells #[.int .u8 40] 5 (1,2))):=(Ext.refl wr).alloc _;have iF:=Zaq wr (.cells #[.int .u8 40] 5 (1,2)) wr.heap.size rfl
   have oj:Hid (ZgJ wr mk n.el 0 (.slice (some ⟨wr.heap.size,0,none⟩) 1 1) (wr.alloc (.cells #[.int .u8 40] 5 (1,2)))):=Zrr
    ⟨.inr ⟨wr.heap.size,#[.int .u8 40],(1,2),rfl,ZrQ _,iF,rfl,rfl⟩,fun e=>absurd e (by omega),lJ.below⟩
   have e5:=lJ.cell c2;have iK:=(Zrv al).1;have zZ:pm<wr.heap.size:=iU.mb.lt;replace iU:=Zrr iU;replace al:=Zrr al
   have ev:Zdm<wr.heap.size∧gTz<wr.heap.size:=by
    have:=h.pow.lt;have:=h.tz.lt';have:=iU.out.below.size;omega
   replace ev:=Zrr ev;clear iF;go_wp2_with fail;generalize wr.alloc (.cells #[.int .u8 40] 5 (1,2))=w9 at *;obtain⟨wb,rfl⟩:∃wb,wb=wr:=⟨wr,rfl⟩;clear kc2 c0 c1 c2 c3 c4 e5;obtain⟨i0,bz,bH,kt,ku⟩:=info_parts ZiG
   go_loopw [13,93] (fun v i wr=>∃k:Nat,k≤n.el.length∧i= .int .i64 k∧Hid (ZgJ wb mk n.el k v wr)) (fun _ i _=>n.el.length - (intOf i).toNat)
   case atStart=>exact⟨0,Nat.zero_le _,rfl,oj⟩
   case round =>
    clear oj;obtain⟨k,hk,rfl,hI⟩:=hrel;obtain⟨hO,qQ,hB⟩:=hI.out;clear hI
    by_cases aD:k<n.el.length
    ·have lH:=Zgu mk (n.el.take k) (n.el[k])
     have tL:n.el.take (k+1)=n.el.take k++[n.el[k]]:=List.take_succ_eq_append_getElem aD;rw[←tL]at lH;clear tL;obtain⟨⟨pF,hp11⟩,⟨rP,hp21⟩⟩:=fw.out _ (ZrM aD);have aX:=Zmx mk (n.el.take k) (n.el.drop k);rw[List.take_append_drop]at aX;have yy:=dQ.out;obtain⟨vb,vo,rfl,e0,e1⟩:=fU.out k aD;have my:=Zrx w0 _ e0;have lI:=iU.out.below.size;have e0:=(hB.cell (p:=⟨vb,vo+k*2,none⟩) (ZrD my lI)).trans ((iU.out.below.cell my).trans e0);have e1:=(hB.cell (p:=⟨vb,vo+k*2+1,none⟩) (ZrD my lI)).trans ((iU.out.below.cell (p:=⟨vb,vo+k*2+1,none⟩) my).trans e1)
     have ez:(n.el.take k=[]↔k=0):=by
      constructor
      ·intro e
       rcases List.take_eq_nil_iff.1 e with e|e
       ·exact e
       ·exact absurd e cN.out
      ·rintro rfl;rfl
     generalize iP:n.el[k]=p at *;obtain⟨p1,p2⟩:=p;simp only at e0 e1 lH pF hp11 rP hp21;have fW:=Zrz wr (.cells #[.int .i64 (p1:Int),.int .i64 (p2:Int)] 130);obtain⟨p0,vW⟩:=Zah fW;have fg:Below wr.heap.size wr (wr.alloc (.cells #[.int .i64 (p1:Int),.int .i64 (p2:Int)] 130)):=(ZrE _ wr).alloc (ZrQ _) _;have fk:=hB.size;have hBa:=hB.trans (fg.mono fk);have vy:=hO.same (w':=wr.alloc (.cells #[.int .i64 (p1:Int),.int .i64 (p2:Int)] 130)) (fun j hj=>fg.block j (hO.lt hj).2);have bR:∀j,u13.ownBlock=some j→wb.heap.size≤j∧j≠wr.heap.size:=fun j hj=>⟨(hO.lt hj).1,by have:=(hO.lt hj).2;omega⟩
     have mC:wr.heap.size<(wr.alloc (.cells #[.int .i64 (p1:Int),.int .i64 (p2:Int)] 130)).heap.size:=by simp
     generalize y8:Zbx mk (n.el.take k)=cur at *;replace lH:=Zrr lH;replace iP:=Zrr iP;replace y8:=Zrr y8;replace hO:=Zrr hO;replace qQ:=Zrr qQ;replace vy:=Zrr vy;replace fW:=Zrr fW;replace hB:=Zrr hB;replace hBa:=Zrr hBa;replace bR:=Zrr bR;replace ez:=Zrr ez;have dy:Cur (wr.alloc (.cells #[.int .i64 (p1:Int),.int .i64 (p2:Int)] 130)) wb wr.heap.size pm (wr.alloc (.cells #[.int .i64 (p1:Int),.int .i64 (p2:Int)] 130)):=⟨mC,ZrC fk (Nat.le_of_lt mC),zZ,rfl,rfl,hBa.out⟩
     have F:Hid (∀W,Cur (wr.alloc (.cells #[.int .i64 (p1:Int),.int .i64 (p2:Int)] 130)) wb wr.heap.size pm W→W.cell? ⟨wr.heap.size,0,none⟩=some (.int .i64 p1)∧W.cell? ⟨wr.heap.size,1,none⟩=some (.int .i64 p2) ∧
       (Instr.lookup 87 (.map (some pm)) (.int .i64 p1) false).run Tryz.prog W= .ok (.string ⟨(ZbX mk p1).toArray⟩) W∧(Instr.lookup 87 (.map (some pm)) (.int .i64 p2) false).run Tryz.prog W= .ok (.string ⟨(ZbX mk p2).toArray⟩) W):=Zrr (fun W hW=>by
      obtain⟨x0,x1⟩:=Zah (hW.hp.trans fW.out);have hM:=iU.out.mb.same (hW.hm.trans (hBa.out.block pm zZ));exact⟨x0,x1,hM.lookT p1,hM.lookT p2⟩)
     generalize dB:ZbX mk p1=t1 at *;generalize ht2:ZbX mk p2=t2 at *;replace dB:=Zrr dB;replace ht2:=Zrr ht2;replace dy:=Zrr dy
     by_cases lh:k=0
     ·have dk:decide ((k:Int) > 0)=false:=ZrH (by omega)
      have dk2:decide (0<(k:Int))=false:=ZrH (by omega);have dk3:decide (0<k)=false:=ZrH (by omega);replace lh:=Zrr lh;go_wp2_with fail;generalize wr.alloc (.cells #[.int .i64 (p1:Int),.int .i64 (p2:Int)] 130)=w5 at *
      go_region_held3 (fun W=>W.cell? ⟨wr.heap.size,0,none⟩=some (.int .i64 p1)∧W.cell? ⟨wr.heap.size,1,none⟩=some (.int .i64 p2)∧(Instr.lookup 87 (.map (some pm)) (.int .i64 p1) false).run Tryz.prog W= .ok (.string ⟨t1.toArray⟩) W∧(Instr.lookup 87 (.map (some pm)) (.int .i64 p2) false).run Tryz.prog W= .ok (.string ⟨t2.toArray⟩) W)
       (first|exact F.out _ dy.out|exact F.out _ dy.out.drew|exact F.out _ (dy.out.alloc _).drew|exact F.out _ (dy.out.alloc _)|exact F.out _ gF.out|exact F.out _ (gF.out.alloc _)|exact F.out _ ju.out|exact F.out _ yS.out|go_keep)
       (first
         | (refine Zbj (by rfl) _ _ (by rfl) wb.heap.size u13 cur.length (cur) (by rfl) vy.out.drew t1 (by rfl) pF (by omega) (by exact dy.out.drew.b) ?_;intro v3 w3 au bP;have gF:=Zrr (dy.out.drew.grown bP bR.out);have pi:=Zrr (ZcJ au gF.out fW.out);clear bP;have au:=Zrr au)
         | (refine Zbj (by rfl) _ _ (by rfl) wb.heap.size u13 cur.length (cur) (by rfl) (vy.out.alloc _).drew t1 (by rfl) pF (by omega) (by exact(dy.out.alloc _).drew.b) ?_;intro v3 w3 au bP;have gF:=Zrr ((dy.out.alloc _).drew.grown bP bR.out);have rD:=Zrr ((bP.block w5.heap.size (by simp[World.drew]) (fun e=>Nat.lt_irrefl _ (vy.out.lt e.symm).2)).trans (Zrz w5 (.cells #[.int .u8 32] 5)));have pi:=Zrr (ZcJ au gF.out fW.out);clear bP;have au:=Zrr au)
         | (refine step_append_lies (w3.alloc (.cells #[.int .u8 32] 5)) (by rfl) _ _ 72 (by rfl) wb.heap.size 5 i0 (.int .u8 0) 1 1 Tryz.underlying72 bz bH kt ku rfl (by decide) v3 (cur.length+t1.length) (Lib.byteCells (cur++t1)) (by rfl) (au.out.alloc _) ⟨w3.heap.size,0,none⟩ 1 1 [.int .u8 32] (by rfl) (by rfl) (Zao _ _ _ _ rfl) (by simp[Value.oneCell']) (by omega) (by unfold maxLen;omega) (by omega) (by exact(gF.out.alloc _).b) _ rfl ?_;intro g4 kB w4 an cB lW _;have ju:=Zrr ((gF.out.alloc _).grown cB (fun j hj=>pi.out j hj));have xa:=Zrr (ZcJ an ju.out fW.out);clear cB lW;have an:=Zrr an)
         | (refine step_append_lies w3 (by rfl) _ _ 72 (by rfl) wb.heap.size 5 i0 (.int .u8 0) 1 1 Tryz.underlying72 bz bH kt ku rfl (by decide) v3 (cur.length+t1.length) (Lib.byteCells (cur++t1)) (by rfl) au.out ⟨w5.heap.size,0,none⟩ 1 1 [.int .u8 32] (by rfl) (by rfl) (World.news_of_block (cs:=#[.int .u8 32]) rD.out) (by simp[Value.oneCell']) (by omega) (by unfold maxLen;omega) (by omega) (by exact gF.out.b) _ rfl ?_;intro g4 kB w4 an cB lW _;have ju:=Zrr (gF.out.grown cB (fun j hj=>pi.out j hj));have xa:=Zrr (ZcJ an ju.out fW.out);clear cB lW;have an:=Zrr an)
         | (refine Zbj (by rfl) _ _ (by rfl) wb.heap.size (.slice (some ⟨g4,0,none⟩) (cur.length+t1.length+1) kB) (cur.length+t1.length+1) ((cur++t1)++[32]) (by rfl) (.inl (Zak an.out rfl (by simp[Lib.byteCells]))) t2 (by rfl) rP (by omega) (by exact ju.out.b) ?_;intro v7 w7 bh cm;have yS:=Zrr (ju.out.grown cm (fun j hj=>xa.out j hj));clear cm;have bh:=Zrr bh))
      all_goals
       have l7:Hid (ZgJ wb mk n.el (k+1) v7 w7):=Zrr (by
        have e1:Zbx mk (n.el.take (k+1))=((cur++t1)++[32])++t2:=by rw[lH.out,if_pos (ez.out.2 lh.out)];simp
        have o1:w7.ownsRow wb.heap.size 5 1 v7 (Zbx mk (n.el.take (k+1))).length (Lib.byteCells (Zbx mk (n.el.take (k+1)))):=Zak bh.out (by rw[e1];simp;omega) (by rw[e1]);exact⟨.inl o1,fun _=>o1,yS.out.bl⟩)
       go_wp2_with fail;go_roundw
       case rel=>exact⟨k+1,by omega,by go_num,l7⟩
       case measure=>simp[intOf];omega
     ·have dk:decide ((k:Int) > 0)=true:=ZrI (by omega)
      have dk2:decide (0<(k:Int))=true:=ZrI (by omega);have dk3:decide (0<k)=true:=ZrI (by omega)
      go_wp2_with (at_builtin;refine Zf6 rfl _ _ rfl wb.heap.size u13 cur.length cur rfl vy.out [59,32] rfl (by decide) (by simp;omega) (by exact dy.out.b) ?_;intro v2 w2 aV cD;have fl:=Zrr (dy.out.grown cD bR.out);clear cD;have aV:=Zrr aV)
      generalize wr.alloc (.cells #[.int .i64 (p1:Int),.int .i64 (p2:Int)] 130)=w5 at *;have tC:=Zrr (ZcJ aV.out fl.out fW.out);have vx:Hid (Zij w2 wb.heap.size v2 (cur.length+2) (cur++[59,32])):=Zrr (.inl aV.out)
      go_region_held3 (fun W=>W.cell? ⟨wr.heap.size,0,none⟩=some (.int .i64 p1)∧W.cell? ⟨wr.heap.size,1,none⟩=some (.int .i64 p2)∧(Instr.lookup 87 (.map (some pm)) (.int .i64 p1) false).run Tryz.prog W= .ok (.string ⟨t1.toArray⟩) W∧(Instr.lookup 87 (.map (some pm)) (.int .i64 p2) false).run Tryz.prog W= .ok (.string ⟨t2.toArray⟩) W)
       (first|exact F.out _ fl.out|exact F.out _ fl.out.drew|exact F.out _ (fl.out.alloc _).drew|exact F.out _ (fl.out.alloc _)|exact F.out _ gF.out|exact F.out _ (gF.out.alloc _)|exact F.out _ ju.out|exact F.out _ yS.out|go_keep)
       (first
         | (refine Zbj (by rfl) _ _ (by rfl) wb.heap.size v2 (cur.length+2) ((cur++[59,32])) (by rfl) vx.out.drew t1 (by rfl) pF (by omega) (by exact fl.out.drew.b) ?_;intro v3 w3 au bP;have gF:=Zrr (fl.out.drew.grown bP tC.out);have pi:=Zrr (ZcJ au gF.out fW.out);clear bP;have au:=Zrr au)
         | (refine Zbj (by rfl) _ _ (by rfl) wb.heap.size v2 (cur.length+2) ((cur++[59,32])) (by rfl) (vx.out.alloc _).drew t1 (by rfl) pF (by omega) (by exact(fl.out.alloc _).drew.b) ?_;intro v3 w3 au bP;have gF:=Zrr ((fl.out.alloc _).drew.grown bP tC.out);have rD:=Zrr ((bP.block w2.heap.size (by simp[World.drew]) (fun e=>Nat.lt_irrefl _ (vx.out.lt e.symm).2)).trans (Zrz w2 (.cells #[.int .u8 32] 5)));have pi:=Zrr (ZcJ au gF.out fW.out);clear bP;have au:=Zrr au)
         | (refine step_append_lies (w3.alloc (.cells #[.int .u8 32] 5)) (by rfl) _ _ 72 (by rfl) wb.heap.size 5 i0 (.int .u8 0) 1 1 Tryz.underlying72 bz bH kt ku rfl (by decide) v3 ((cur.length+2)+t1.length) (Lib.byteCells ((cur++[59,32])++t1)) (by rfl) (au.out.alloc _) ⟨w3.heap.size,0,none⟩ 1 1 [.int .u8 32] (by rfl) (by rfl) (Zao _ _ _ _ rfl) (by simp[Value.oneCell']) (by omega) (by unfold maxLen;omega) (by omega) (by exact(gF.out.alloc _).b) _ rfl ?_;intro g4 kB w4 an cB lW _;have ju:=Zrr ((gF.out.alloc _).grown cB (fun j hj=>pi.out j hj));have xa:=Zrr (ZcJ an ju.out fW.out);clear cB lW;have an:=Zrr an)
         | (refine step_append_lies w3 (by rfl) _ _ 72 (by rfl) wb.heap.size 5 i0 (.int .u8 0) 1 1 Tryz.underlying72 bz bH kt ku rfl (by decide) v3 ((cur.length+2)+t1.length) (Lib.byteCells ((cur++[59,32])++t1)) (by rfl) au.out ⟨w2.heap.size,0,none⟩ 1 1 [.int .u8 32] (by rfl) (by rfl) (World.news_of_block (cs:=#[.int .u8 32]) rD.out) (by simp[Value.oneCell']) (by omega) (by unfold maxLen;omega) (by omega) (by exact gF.out.b) _ rfl ?_;intro g4 kB w4 an cB lW _;have ju:=Zrr (gF.out.grown cB (fun j hj=>pi.out j hj));have xa:=Zrr (ZcJ an ju.out fW.out);clear cB lW;have an:=Zrr an)
         | (refine Zbj (by rfl) _ _ (by rfl) wb.heap.size (.slice (some ⟨g4,0,none⟩) ((cur.length+2)+t1.length+1) kB) ((cur.length+2)+t1.length+1) (((cur++[59,32])++t1)++[32]) (by rfl) (.inl (Zak an.out rfl (by simp[Lib.byteCells]))) t2 (by rfl) rP (by omega) (by exact ju.out.b) ?_;intro v7 w7 bh cm;have yS:=Zrr (ju.out.grown cm (fun j hj=>xa.out j hj));clear cm;have bh:=Zrr bh))
      all_goals
       have l7:Hid (ZgJ wb mk n.el (k+1) v7 w7):=Zrr (by
        have e1:Zbx mk (n.el.take (k+1))=(((cur++[59,32])++t1)++[32])++t2:=by rw[lH.out,if_neg (fun e=>lh (ez.out.1 e))]
        have o1:w7.ownsRow wb.heap.size 5 1 v7 (Zbx mk (n.el.take (k+1))).length (Lib.byteCells (Zbx mk (n.el.take (k+1)))):=Zak bh.out (by rw[e1];simp;omega) (by rw[e1]);exact⟨.inl o1,fun _=>o1,yS.out.bl⟩)
       go_wp2_with fail;go_roundw
       case rel=>exact⟨k+1,by omega,by go_num,l7⟩
       case measure=>simp[intOf];omega
    ·obtain rfl:k=n.el.length:=by omega
     rw[List.take_length]at hO qQ;have pi:=qQ (List.length_pos_iff.2 cN.out);have fk:=hB.size;have hpl':=dQ.out;clear hO qQ;replace hB:=Zrr hB
     go_wp2_with (at_builtin;refine wpList_append_own _ rfl _ _ 72 rfl wb.heap.size 5 i0 (.int .u8 0) 1 1 Tryz.underlying72 bz bH kt ku rfl (by decide) _ _ _ rfl (pi.alloc _) ⟨wr.heap.size,0,none⟩ 1 1 [.int .u8 41] rfl rfl (Zao _ _ _ _ rfl) (by simp[Value.oneCell']) (by unfold maxLen;omega) (by omega) (by simp;omega) ?_;intro v3 w3 au bP _;have an:=Zak (n':=(Zbx mk n.el++[41]).length) (xs':=Lib.byteCells (Zbx mk n.el++[41])) au (by simp) (by simp[Lib.byteCells]);have ky:=Zdb an;have aU:Below wb.heap.size wb w3:=((hB.out.alloc fk _).trans ⟨bP.os,bP.tape,bP.output,bP.size,fun j hj=>bP.block j (by simp;omega) (fun e=>by have:=Zay pi e.symm;omega)⟩);obtain⟨iQ,xL,iA⟩:=(iU.out.on aU).put a (Zbx mk n.el++[41]))
     go_ret;exact⟨rfl,xL,((cC.trans jH).trans (Zav.of_below aU)).trans iA⟩
end Go.Proofs.YtemnmcfmabamcaaGreatDoor
namespace Go.Proofs.YtemnmcfmabamcaaGreatDoor
open Go Go.RowKit Go.Shelf
theorem Zla{B:Zar}{s:St}{w0:World}{pm:Nat}(h:Rep B s w0)(f:Nat):Zqo s w0 pm B.sb (Zf7 f s.nodes):=by
 induction f with
 | zero=>intro a m m' wr _ he;cases he
 | succ f ih =>
   intro a m m' wr hC he;unfold Zf7 at he
   split at he
   ·rename_i t ht
    cases he
    exact Zno (s:=s) hC ht
   ·rename_i hm
    split at he
    ·cases he
    ·rename_i n hn
     split at he
     ·rename_i cN
      cases he
      exact Zlb h hC hm hn cN
     ·rename_i cN
      split at he
      ·cases he
      ·rename_i m1 z hw
       split at he
       ·rename_i hc
        cases he
        exact Zjm h ih hC hm hn cN hw hc.1 hc.2.1 hc.2.2
       ·cases he
def ZoA (f:Nat)(ns:List Zac)(a:Nat):Option (List UInt8):=match Zf7 f ns a [] with
 | none=>none
 | some m=>some (ZbX m a)
theorem ZoB{B:Zar}{s:St}{w:World}{a f:Nat}{t:List UInt8}(h:Rep B s w)(ht:s.tree≠[])(ha:a<s.nodes.length)(he:ZoA f s.nodes a=some t) :
  Calls Tryz.prog 14 #[.pointer (some ⟨B.sb,0,none⟩),.int .i64 a] w fun e w'=>e= .returned (.tuple #[.string ⟨t.toArray⟩,.int .i64 0])∧Below w.heap.size w w':=by
 unfold ZoA at he
 split at he
 ·cases he
 rename_i m hm
 simp only[ZrJ]at he;have cw:Zgn s.nodes.length [(a:Int)]=0:=by simp[Zgn,ha]
 have jy:∀w,(Instr.makeMap 87 none).run Tryz.prog w= .ok (.map (some w.heap.size)) (w.alloc (.map #[] 0)):=fun w=>rfl
 replace cw:=Zrr cw;replace hm:=Zrr hm;replace he:=Zrr he;have aK:=(Ext.refl w).alloc (.cells #[.int .i64 a] 3);have aj:=Zrz w (.cells #[.int .i64 a] 3)
 go_enter Tryz.func14,Tryz.ntmps14
 go_wp2_with fail;generalize w.alloc (.cells #[.int .i64 a] 3)=w1 at *;have aQ:=h.below aK.below;have hq:=Zdc aQ ht (ZdO aj) (by simp);rw[cw.out]at hq;clear aj;refine hq.mono ?_;rintro e w2 ⟨rfl,rfl⟩;have aL:Below w1.heap.size w1 (w1.alloc (.map #[] 0)):=(ZrE _ w1).alloc (ZrQ _) _;have hC:WrC w1 w1.heap.size [] (w1.alloc (.map #[] 0)):=⟨aL,ZoU _ _ _,ZrQ _⟩;have bX:=Zla (pm:=w1.heap.size) aQ f a [] m _ hC hm.out;replace aQ:=Zrr aQ;replace hC:=Zrr hC;clear hq;go_wp2_with fail;refine bX.mono ?_;rintro e w3 ⟨rfl,fK,fL⟩;have bD:=fK.look1 a;rw[he.out]at bD;go_wp2_with fail;go_ret2;exact⟨rfl,aK.below.trans (fK.below.mono aK.size)⟩
end Go.Proofs.YtemnmcfmabamcaaGreatDoor
