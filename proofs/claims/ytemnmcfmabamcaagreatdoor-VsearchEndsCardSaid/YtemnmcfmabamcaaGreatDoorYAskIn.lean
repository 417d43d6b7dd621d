import Derived.Test.YtemnmcfmabamcaaGreatDoorCards
import Derived.Test.YtemnmcfmabamcaaGreatDoorTie
import Derived.Deep.DeepHandedRow
import Derived.Deep.Fields
import Derived.Test.YtemnmcfmabamcaaGreatDoorYMade
import Derived.Deep.Strs
set_option linter.unusedSimpArgs false
set_option linter.unusedVariables false
set_option maxRecDepth 100000
section
namespace Go.Proofs.YtemnmcfmabamcaaGreatDoor
open Go Go.ChangeShapes Go.WideShapes Go.ChangeAt Go.RowKit Go.Deep
theorem own:ownKnob Tryz.prog.godebug=none:=by kernel_rfl
theorem ZpC:laidOutB Tryz.prog=true:=by kernel_rfl
section
variable {H:Type}{enc:TypeId × Value→H}{P:Program}{w:World}{base:Nat}{spare:Nat→Bool}{held:Bool}
theorem ZeA{t e:TypeId}{fs:Array Field}{fuel:Nat}{cs:List Value}{x:DataW H × List MemPlace}(ht:P.underlying t=some (.slice e))(he:P.underlying e=some (.struct fs))
  (aH:oneCellFields P fs=true) (hC:P.cellsOf e=fs.size) (h:DataW.trod enc P w base spare held fuel t cs=some x) :
  (cs=[.slice none 0 0]∧x=(.nil,[])) ∨
  ∃(a:Addr) (len cap m:Nat) (D:Nat→DataW H) (Pl:Nat→List MemPlace),cs=[.slice (some a) len cap]∧base≤a.block∧len≤cap∧cap≤maxLen∧m=(if spare a.block then cap else len) ∧
    x=(.slice ((List.range len).map D) ((List.range (m - len)).map fun j=>D (len+j)),MemPlace.row a (m*fs.size)++(List.range m).flatMap Pl) ∧
    ∀i,i<m→∃(ys:List (DataW H × List MemPlace)) (n:Nat),D i= .agg (ys.map (·.1))∧Pl i=ys.flatMap (·.2)∧ys.length=fs.size ∧
      ∀(j:Nat) (f:Field),fs[j]? =some f→∃(v:Value) (y:DataW H × List MemPlace),w.cell? (a.add (i*fs.size+j))=some v∧ys[j]? =some y∧DataW.trod enc P w base spare held n f.type [v]=some y:=by
 rcases open_slice ht h with h0|⟨a,len,cap,m,n,D,Pl,cA,hb,hl,hm,jy,hx,hi⟩
 ·exact .inl h0
 ·refine .inr ⟨a,len,cap,m,D,Pl,cA,hb,hl,hm,jy,by rw[hC]at hx;exact hx,fun i him=>?_⟩
  obtain⟨sJ,hc,j5⟩:=hi i him;rw[hC]at hc;obtain⟨ys,n',cR,hy,aX,bF,hf⟩:=DataW.trod_struct he j5;obtain⟨_,kx,fU⟩:=World.cells?_some hc;simp only[Prod.mk.injEq]at hy;refine⟨ys,n',hy.1,hy.2,bF,fun j f hj=>?_⟩;obtain⟨ho,hk⟩:=hone_of aH j f hj;have db:j<fs.size:=(Zrv hj).1;have aN:=fU j db;have hv:sJ[j]? =some (sJ[j]'(by omega)):=Zry (by omega);have h1:=hf j f hj;rw[ho,hk]at h1
  have zS:(sJ.drop j).take 1=[sJ[j]'(by omega)]:=by
   rw[List.drop_eq_getElem_cons (by omega)]
   rfl
  rw[zS]at h1;have hys:ys[j]? =some (ys[j]'(by omega)):=Zry (by omega);refine⟨_,_,?_,hys,h1.trans hys⟩;rw[←Go.Deep.add_add,aN,hv]
end
theorem ZfE{α:Type}{Q:Nat→α→Prop}:∀n,(∀i,i<n→∃x,Q i x)→∃l:List α,l.length=n∧∀i (hi:i<l.length),Q i l[i]
 | 0,_=>⟨[],rfl,fun i hi=>absurd hi (Nat.not_lt_zero _)⟩
 | n+1,h=>by
   obtain⟨l,hl,hq⟩:=ZfE n (fun i hi=>h i (by omega));obtain⟨x,hx⟩:=h n (by omega);refine⟨l++[x],by simp[hl],fun i hi=>?_⟩
   by_cases aD:i<l.length
   ·rw[List.getElem_append_left aD];exact hq i aD
   ·have e:i=l.length:=by simp at hi;omega
    subst e;rw[List.getElem_append_right (ZrQ _)];simp only[Nat.sub_self,List.getElem_cons_zero];rw[hl];exact hx
theorem Zmp{H:Type}{enc:TypeId × Value→H}{W:World}{spare:Nat→Bool}{held:Bool}{fuel:Nat}{v:Value}{x:DataW H × List MemPlace}(h:DataW.trod enc Tryz.prog W 0 spare held fuel 23 [v]=some x) :
  ∃(ba:Option Addr) (cap:Nat) (t:List VN),v= .slice ba t.length cap∧(t=[]∨∃b o,ba=some ⟨b,o,none⟩∧Zag W b o t):=by
 rcases ZeA Tryz.underlying23 Tryz.underlying78 (by kernel_rfl) (by kernel_rfl) h with ⟨cA,_⟩|⟨a,len,cap,m,D,Pl,cA,_,hl,_,hm,_,hf⟩
 ·simp only[List.cons.injEq,and_true]at cA
  exact⟨none,0,[],cA,.inl rfl⟩
 ·simp only[List.cons.injEq,and_true]at cA
  have ui:len≤m:=by rw[hm];split <;> omega
  have aN:∀i,i<len→∃l r z:Int,W.cell? (a.add (i*3+0))=some (.int .i64 l)∧W.cell? (a.add (i*3+1))=some (.int .i64 r)∧W.cell? (a.add (i*3+2))=some (.int .i64 z):=fun i hi=>by
   obtain⟨ys,n,_,_,_,hg⟩:=hf i (by omega);obtain⟨v0,y0,c0,_,t0⟩:=hg 0 _ rfl;obtain⟨v1,y1,c1,_,t1⟩:=hg 1 _ rfl;obtain⟨v2,y2,c2,_,t2⟩:=hg 2 _ rfl;obtain⟨k0,e0,_⟩:=DataW.trod_int Tryz.underlying3 t0;obtain⟨k1,e1,_⟩:=DataW.trod_int Tryz.underlying3 t1;obtain⟨k2,e2,_⟩:=DataW.trod_int Tryz.underlying3 t2;simp only[List.cons.injEq,and_true]at e0 e1 e2;subst e0 e1 e2;exact⟨k0,k1,k2,c0,c1,c2⟩
  by_cases h0:len=0
  ·subst h0
   exact⟨some a,cap,[],cA,.inl rfl⟩
  ·have zp:∃b o,a=⟨b,o,none⟩:=by
    obtain⟨l,_,_,c0,_,_⟩:=aN 0 (by omega);obtain⟨b,o,spot⟩:=a;have:spot=none:=by simpa [Addr.add] using World.cell?_spot c0
    subst this;exact⟨b,o,rfl⟩
   obtain⟨b,o,rfl⟩:=zp
   have hn:∀i,i<len→∃x:VN,W.cell? ⟨b,o+i*3,none⟩=some (.int .i64 x.left)∧W.cell? ⟨b,o+i*3+1,none⟩=some (.int .i64 x.right)∧W.cell? ⟨b,o+i*3+2,none⟩=some (.int .i64 x.var):=fun i hi=>by
    obtain⟨l,r,z,c0,c1,c2⟩:=aN i hi;rw[Go.WideShapes.add_plain]at c0 c1 c2;rw[←Nat.add_assoc]at c1 c2;exact⟨⟨l,r,z⟩,c0,c1,c2⟩
   obtain⟨t,ht,hq⟩:=ZfE len hn;subst ht;refine⟨some ⟨b,o,none⟩,cap,t,cA,.inr ⟨b,o,rfl,fun j u hj=>?_⟩⟩
   have db:j<3*t.length:=by
    have:=(Zrw hj).1;rw[Zee]at this;exact this
   have hi:j / 3<t.length:=by omega
   obtain⟨q0,q1,q2⟩:=Zed t (j / 3) hi;obtain⟨r0,r1,r2⟩:=hq (j / 3) hi;have hj3:j=j / 3*3∨j=j / 3*3+1∨j=j / 3*3+2:=by omega
   rcases hj3 with e|e|e
   ·rw[e,q0]at hj
    rw[e,←Option.some.inj hj];exact r0
   ·rw[e,q1]at hj
    rw[e,←Option.some.inj hj,←Nat.add_assoc];exact r1
   ·rw[e,q2]at hj
    rw[e,←Option.some.inj hj,←Nat.add_assoc];exact r2
theorem Zl5{W : World}{l : List (String × DataW Unit)}(hl : l=[("math/bits.deBruijn32tab", Rows.laid_math_bits_deBruijn32tab), ("math/bits.deBruijn64tab", Rows.laid_math_bits_deBruijn64tab), ("internal/strconv.uint64pow10", Rows.laid_internal_strconv_uint64pow10)])(h : laidMetH Tryz.prog l W) : ZaY W ∧ Zaz W :=by
 subst hl;have h1 :=laidMetH.filter (fun x => x.1 == "math/bits.deBruijn64tab") h;have h2 :=laidMetH.filter (fun x => x.1 == "internal/strconv.uint64pow10") h
 have t1 : Lib.TabIs Tryz.prog W "math/bits.deBruijn64tab" .u8 (Lib.deBruijn64tab.map fun n : Nat => (n : Int)) :=
  Lib.tabIs_of_head (rest :=[]) (show Tryz.prog.globalNamed "math/bits.deBruijn64tab" =some 4 by kernel_rfl) (by kernel_rfl) Tryz.underlying238 Tryz.underlying5 (by kernel_rfl) (by kernel_rfl) h1
 have t2 : Lib.TabIs Tryz.prog W "internal/strconv.uint64pow10" .u64 Lib.pow10Tab :=
  Lib.tabIs_of_head (rest :=[]) (show Tryz.prog.globalNamed "internal/strconv.uint64pow10" =some 0 by kernel_rfl) (by kernel_rfl) Tryz.underlying197 Tryz.underlying80 (by kernel_rfl) (by kernel_rfl) h2
 refine⟨fun j hj=>?_,t2⟩;have :=t1.cell (show Tryz.prog.globalNamed "math/bits.deBruijn64tab" =some 4 by kernel_rfl) j (by simpa using hj);rw[this]
 congr 1
 rw[ZrG,ZrG,List.getElem?_map];rw[Zry hj]
 rfl
theorem Zef{H:Type}{enc:TypeId × Value→H}{P:Program}(wT:laidOutB P=true){W W':World}(hb:Below W.heap.size W W'):∀ {ts:List TypeId}{vs:List Value}{ds:List (DataW H)}{ps:List MemPlace},(ts.all fun t=>P.readableRec t && decide (t<P.types.size))=true →
  DataW.TrodAll enc P W 0 (fun _=>true) true ts vs ds ps→(∀x∈ps,x.block<W.heap.size)→DataW.TrodAll enc P W' 0 (fun b=>decide (b<W.heap.size)) true ts vs ds ps
 | [],vs,ds,ps,_,h,_=>by
   obtain⟨rfl,rfl,rfl⟩:=trodAll_nil h;exact trodAll_mk0
 | t :: ts,vs,ds,ps,hr,h,aD=>by
   obtain⟨v,vs',d,ds',p,q,rfl,rfl,rfl,h1,h2⟩:=trodAll_cons h;simp only[List.all_cons,ZrK,ZrN]at hr;exact trodAll_cons_mk (Below.trod wT hr.1.1 hr.1.2 h1 hb fun x hx=>aD x (List.mem_append_left _ hx)) (Zef wT hb hr.2 h2 fun x hx=>aD x (List.mem_append_right _ hx))
def setT(c:Array Value):Obj→Obj
 | .cells _ t frozen=>.cells c t frozen
 | o=>o
end Go.Proofs.YtemnmcfmabamcaaGreatDoor
namespace Go.Proofs.YtemnmcfmabamcaaGreatDoor
open Go Go.ChangeShapes Go.WideShapes Go.ChangeAt Go.RowKit Go.Deep
theorem Zoi{H:Type}{enc:TypeId × Value→H}{W:World}{spare:Nat→Bool}{held:Bool}{fuel:Nat}{v:Value}{x:DataW H × List MemPlace}(h:DataW.trod enc Tryz.prog W 0 spare held fuel 3 [v]=some x) :
  ∃n:Int,v= .int .i64 n∧(-9223372036854775808≤n∧n≤9223372036854775807):=by
 obtain⟨k0,e0,_,hwf⟩:=DataW.trod_int Tryz.underlying3 h;simp only[List.cons.injEq,and_true]at e0;exact⟨k0,e0,bounds_i64 hwf⟩
end Go.Proofs.YtemnmcfmabamcaaGreatDoor
end
section
namespace Go.Proofs.YtemnmcfmabamcaaGreatDoor
open Go Go.ChangeShapes Go.WideShapes Go.ChangeAt Go.RowKit Go.Deep
theorem Zmo{H:Type}{enc:TypeId × Value→H}{W:World}{spare:Nat→Bool}{held:Bool}{fuel:Nat}{v:Value}{x:DataW H × List MemPlace}(h:DataW.trod enc Tryz.prog W 0 spare held fuel 24 [v]=some x) :
  ∃n:Nat,v= .int .u16 (n:Nat)∧n<65536:=by
 obtain⟨k0,e0,_,hwf⟩:=DataW.trod_int Tryz.underlying24 h;simp only[List.cons.injEq,and_true]at e0
 have hr:0≤k0∧k0<65536:=by
  simp[Lit.wf,IntKind.min,IntKind.max,IntKind.bits,IntKind.signed]at hwf;omega
 obtain⟨p,rfl⟩:∃p:Nat,k0=p:=⟨k0.toNat,by omega⟩;exact⟨p,e0,by omega⟩
theorem ZkF{W : World}{l : List (String × DataW Unit)}(hl : l=[("math/bits.deBruijn32tab", Rows.laid_math_bits_deBruijn32tab), ("math/bits.deBruijn64tab", Rows.laid_math_bits_deBruijn64tab), ("internal/strconv.uint64pow10", Rows.laid_internal_strconv_uint64pow10), ("strconv.ErrRange", Rows.laid_strconv_ErrRange), ("strconv.ErrSyntax", Rows.laid_strconv_ErrSyntax)])(h : laidMetH Tryz.prog l W) : ZaY W ∧ Zaz W :=by
 subst hl;exact Zl5 rfl (laidMetH.filter (fun x => x.1 != "strconv.ErrRange" && x.1 != "strconv.ErrSyntax") h)
noncomputable def low:Nat:=(World.holding Tryz.prog default ⟨#[],#[],[]⟩).heap.size
noncomputable def Zeu (os:Os):World :=
 let w0:=World.holding Tryz.prog os ⟨#[.cells #[.string { data:=#[118,97,108,117,101,32,111,117,116,32,111,102,32,114,97,110,103,101] }] 222,.cells #[.string { data:=#[105,110,118,97,108,105,100,32,115,121,110,116,97,120] }] 222],#[],[]⟩
 { w0 with heap:=((((w0.heap.modify 0 (setT (Lib.pow10Tab.map fun z:Int=>Value.int .u64 z).toArray)).modify 4 (setT (Lib.deBruijn64tab.map fun n:Nat=>Value.int .u8 (n:Int)).toArray)).modify 3 (setT (([0,1,28,2,29,14,24,3,30,22,20,15,25,17,4,8,31,27,13,23,21,19,16,7,26,12,18,6,11,5,10,9]:List Int).map fun n:Int=>Value.int .u8 n).toArray)).modify 2 (setT #[.iface 220 (.pointer (some ⟨low,0,none⟩))])).modify 1 (setT #[.iface 220 (.pointer (some ⟨low+1,0,none⟩))]) }
theorem Zoh{H:Type}{enc:TypeId × Value→H}{W:World}{spare:Nat→Bool}{held:Bool}{fuel:Nat}{cs:Array Value}{x:DataW H × List MemPlace}(hz:cs.size=Tryz.prog.cellsOf 26)(h:DataW.trod enc Tryz.prog W 0 spare held fuel 26 (Value.agg cs).cells.toList=some x) :
  ∃(ba:Option Addr) (cap:Nat) (t:List VN) (bts:Nat) (p:Int),Value.agg cs= .agg #[.slice ba t.length cap,.int .u16 (bts:Nat),.int .i64 p]∧((t=[]∨∃b o,ba=some ⟨b,o,none⟩∧Zag W b o t)∧bts<65536∧(-9223372036854775808≤p∧p≤9223372036854775807)):=by
 have ac:Tryz.prog.cellsOf 26=3:=by kernel_rfl
 have av:cs.size=3:=by rw[hz];exact ac
 obtain⟨cs⟩:=cs
 obtain⟨c0,c1,c2,rfl⟩:∃c0 c1 c2,cs=[c0,c1,c2]:=by
  match cs,av with
  | [c0,c1,c2],_=>exact⟨c0,c1,c2,rfl⟩
 obtain⟨y0,y1,y2,n,_,_,h0,h1,h2⟩:=trod_struct3 Tryz.underlying26 h;clear hz av;have k0:Tryz.prog.cellsOf 23=1:=by kernel_rfl
 have k1:Tryz.prog.cellsOf 24=1:=by kernel_rfl
 have k2:Tryz.prog.cellsOf 3=1:=by kernel_rfl
 have h0':DataW.trod enc Tryz.prog W 0 spare held n 23 [c0]=some y0:=by simpa [k0,Value.cells] using h0
 have dI:DataW.trod enc Tryz.prog W 0 spare held n 24 [c1]=some y1:=by simpa [k1,Value.cells] using h1
 have dJ:DataW.trod enc Tryz.prog W 0 spare held n 3 [c2]=some y2:=by simpa [k2,Value.cells] using h2
 obtain⟨ba,cap,t,e0,ht⟩:=Zmp h0';obtain⟨bts,e1,hb⟩:=Zmo dI;obtain⟨p,e2,hp⟩:=Zoi dJ;exact⟨ba,cap,t,bts,p,by rw[e0,e1,e2],ht,hb,hp⟩
end Go.Proofs.YtemnmcfmabamcaaGreatDoor
end
