import Derived.Test.YtmnjakejhbpkoaaGreatDoorCards
import Derived.Test.YtmnjakejhbpkoaaGreatDoorTie
import Derived.Deep.DeepHandedRow
import Derived.Deep.Fields
import Derived.Test.YtmnjakejhbpkoaaGreatDoorVCi1
set_option linter.unusedSimpArgs false
set_option linter.unusedVariables false
set_option maxRecDepth 100000
section
namespace Go.Proofs.YtmnjakejhbpkoaaGreatDoor
open Go Go.ChangeShapes Go.WideShapes Go.ChangeAt Go.RowKit Go.Deep
theorem own:ownKnob Tryz.prog.godebug=none:=by kernel_rfl
theorem Znx:laidOutB Tryz.prog=true:=by kernel_rfl
section
variable {H:Type}{enc:TypeId × Value→H}{P:Program}{w:World}{base:Nat}{spare:Nat→Bool}{held:Bool}
theorem Zb7{t e:TypeId}{fs:Array Field}{fuel:Nat}{cs:List Value}{x:DataW H × List MemPlace}(ht:P.underlying t=some (.slice e))(he:P.underlying e=some (.struct fs))
  (dX:oneCellFields P fs=true) (hC:P.cellsOf e=fs.size) (h:DataW.trod enc P w base spare held fuel t cs=some x) :
  (cs=[.slice none 0 0]∧x=(.nil,[])) ∨
  ∃(a:Addr) (len cap m:Nat) (D:Nat→DataW H) (Pl:Nat→List MemPlace),cs=[.slice (some a) len cap]∧base≤a.block∧len≤cap∧cap≤maxLen∧m=(if spare a.block then cap else len) ∧
    x=(.slice ((List.range len).map D) ((List.range (m - len)).map fun j=>D (len+j)),MemPlace.row a (m*fs.size)++(List.range m).flatMap Pl) ∧
    ∀i,i<m→∃(ys:List (DataW H × List MemPlace)) (n:Nat),D i= .agg (ys.map (·.1))∧Pl i=ys.flatMap (·.2)∧ys.length=fs.size ∧
      ∀(j:Nat) (f:Field),fs[j]? =some f→∃(v:Value) (y:DataW H × List MemPlace),w.cell? (a.add (i*fs.size+j))=some v∧ys[j]? =some y∧DataW.trod enc P w base spare held n f.type [v]=some y:=by
 rcases open_slice ht h with h0|⟨a,len,cap,m,n,D,Pl,aO,hb,hl,hm,ji,hx,hi⟩
 ·exact .inl h0
 ·refine .inr ⟨a,len,cap,m,D,Pl,aO,hb,hl,hm,ji,by rw[hC]at hx;exact hx,fun i him=>?_⟩
  obtain⟨tZ,hc,yE⟩:=hi i him;rw[hC]at hc;obtain⟨ys,n',bt,hy,aL,fp,hf⟩:=DataW.trod_struct he yE;obtain⟨_,lj,cF⟩:=World.cells?_some hc;simp only[Prod.mk.injEq]at hy;refine⟨ys,n',hy.1,hy.2,fp,fun j f hj=>?_⟩;obtain⟨ho,hk⟩:=hone_of dX j f hj;have gT:j<fs.size:=(Zpi hj).1;have aT:=cF j gT;have hv:tZ[j]? =some (tZ[j]'(by omega)):=Zpl (by omega);have h1:=hf j f hj;rw[ho,hk]at h1
  have sh:(tZ.drop j).take 1=[tZ[j]'(by omega)]:=by
   rw[List.drop_eq_getElem_cons (by omega)]
   rfl
  rw[sh]at h1;have uh:ys[j]? =some (ys[j]'(by omega)):=Zpl (by omega);refine⟨_,_,?_,uh,h1.trans uh⟩;rw[←Go.Deep.add_add,aT,hv]
end
theorem Zch{α:Type}{Q:Nat→α→Prop}:∀n,(∀i,i<n→∃x,Q i x)→∃l:List α,l.length=n∧∀i (hi:i<l.length),Q i l[i]
 | 0,_=>⟨[],rfl,fun i hi=>absurd hi (Nat.not_lt_zero _)⟩
 | n+1,h=>by
   obtain⟨l,hl,hq⟩:=Zch n (fun i hi=>h i (by omega));obtain⟨x,hx⟩:=h n (by omega);refine⟨l++[x],by simp[hl],fun i hi=>?_⟩
   by_cases aE:i<l.length
   ·rw[List.getElem_append_left aE];exact hq i aE
   ·have e:i=l.length:=by simp at hi;omega
    subst e;rw[List.getElem_append_right (ZpD _)];simp only[Nat.sub_self,List.getElem_cons_zero];rw[hl];exact hx
theorem Zli{H:Type}{enc:TypeId × Value→H}{W:World}{spare:Nat→Bool}{held:Bool}{fuel:Nat}{v:Value}{x:DataW H × List MemPlace}(h:DataW.trod enc Tryz.prog W 0 spare held fuel 26 [v]=some x) :
  ∃(ba:Option Addr) (cap:Nat) (t:List VN),v= .slice ba t.length cap∧(t=[]∨∃b o,ba=some ⟨b,o,none⟩∧Zam W b o t):=by
 rcases Zb7 Tryz.underlying26 Tryz.underlying106 (by kernel_rfl) (by kernel_rfl) h with ⟨aO,_⟩|⟨a,len,cap,m,D,Pl,aO,_,hl,_,hm,_,hf⟩
 ·simp only[List.cons.injEq,and_true]at aO
  exact⟨none,0,[],aO,.inl rfl⟩
 ·simp only[List.cons.injEq,and_true]at aO
  have en:len≤m:=by rw[hm];split <;> omega
  have aT:∀i,i<len→∃l r z:Int,W.cell? (a.add (i*3+0))=some (.int .i64 l)∧W.cell? (a.add (i*3+1))=some (.int .i64 r)∧W.cell? (a.add (i*3+2))=some (.int .i64 z):=fun i hi=>by
   obtain⟨ys,n,_,_,_,hg⟩:=hf i (by omega);obtain⟨v0,y0,c0,_,t0⟩:=hg 0 _ rfl;obtain⟨v1,y1,c1,_,t1⟩:=hg 1 _ rfl;obtain⟨v2,y2,c2,_,t2⟩:=hg 2 _ rfl;obtain⟨k0,e0,_⟩:=DataW.trod_int Tryz.underlying3 t0;obtain⟨k1,e1,_⟩:=DataW.trod_int Tryz.underlying3 t1;obtain⟨k2,e2,_⟩:=DataW.trod_int Tryz.underlying3 t2;simp only[List.cons.injEq,and_true]at e0 e1 e2;subst e0 e1 e2;exact⟨k0,k1,k2,c0,c1,c2⟩
  by_cases h0:len=0
  ·subst h0
   exact⟨some a,cap,[],aO,.inl rfl⟩
  ·have lL:∃b o,a=⟨b,o,none⟩:=by
    obtain⟨l,_,_,c0,_,_⟩:=aT 0 (by omega);obtain⟨b,o,spot⟩:=a;have:spot=none:=by simpa [Addr.add] using World.cell?_spot c0
    subst this;exact⟨b,o,rfl⟩
   obtain⟨b,o,rfl⟩:=lL
   have hn:∀i,i<len→∃x:VN,W.cell? ⟨b,o+i*3,none⟩=some (.int .i64 x.left)∧W.cell? ⟨b,o+i*3+1,none⟩=some (.int .i64 x.right)∧W.cell? ⟨b,o+i*3+2,none⟩=some (.int .i64 x.var):=fun i hi=>by
    obtain⟨l,r,z,c0,c1,c2⟩:=aT i hi;rw[Go.WideShapes.add_plain]at c0 c1 c2;rw[←Nat.add_assoc]at c1 c2;exact⟨⟨l,r,z⟩,c0,c1,c2⟩
   obtain⟨t,ht,hq⟩:=Zch len hn;subst ht;refine⟨some ⟨b,o,none⟩,cap,t,aO,.inr ⟨b,o,rfl,fun j u hj=>?_⟩⟩
   have gT:j<3*t.length:=by
    have:=(Zpj hj).1;rw[Zcm]at this;exact this
   have hi:j / 3<t.length:=by omega
   obtain⟨q0,q1,q2⟩:=Zdy t (j / 3) hi;obtain⟨r0,r1,r2⟩:=hq (j / 3) hi;have hj3:j=j / 3*3∨j=j / 3*3+1∨j=j / 3*3+2:=by omega
   rcases hj3 with e|e|e
   ·rw[e,q0]at hj
    rw[e,←Option.some.inj hj];exact r0
   ·rw[e,q1]at hj
    rw[e,←Option.some.inj hj,←Nat.add_assoc];exact r1
   ·rw[e,q2]at hj
    rw[e,←Option.some.inj hj,←Nat.add_assoc];exact r2
theorem ZkV{W : World}{l : List (String × DataW Unit)}(hl : l=[("math/bits.deBruijn32tab", Rows.laid_math_bits_deBruijn32tab), ("math/bits.deBruijn64tab", Rows.laid_math_bits_deBruijn64tab), ("internal/strconv.uint64pow10", Rows.laid_internal_strconv_uint64pow10)])(h : laidMetH Tryz.prog l W) : ZaX W ∧ Za7 W :=by
 subst hl;have h1 :=laidMetH.filter (fun x => x.1 == "math/bits.deBruijn64tab") h;have h2 :=laidMetH.filter (fun x => x.1 == "internal/strconv.uint64pow10") h
 have t1 : Lib.TabIs Tryz.prog W "math/bits.deBruijn64tab" .u8 (Lib.deBruijn64tab.map fun n : Nat => (n : Int)) :=
  Lib.tabIs_of_head (rest :=[]) (show Tryz.prog.globalNamed "math/bits.deBruijn64tab" =some 1 by kernel_rfl) (by kernel_rfl) Tryz.underlying255 Tryz.underlying5 (by kernel_rfl) (by kernel_rfl) h1
 have t2 : Lib.TabIs Tryz.prog W "internal/strconv.uint64pow10" .u64 Lib.pow10Tab :=
  Lib.tabIs_of_head (rest :=[]) (show Tryz.prog.globalNamed "internal/strconv.uint64pow10" =some 2 by kernel_rfl) (by kernel_rfl) Tryz.underlying295 Tryz.underlying39 (by kernel_rfl) (by kernel_rfl) h2
 refine⟨fun j hj=>?_,t2⟩;have :=t1.cell (show Tryz.prog.globalNamed "math/bits.deBruijn64tab" =some 1 by kernel_rfl) j (by simpa using hj);rw[this]
 congr 1
 rw[Zpt,Zpt,List.getElem?_map];rw[Zpl hj]
 rfl
theorem ZdA{H:Type}{enc:TypeId × Value→H}{P:Program}(hlo:laidOutB P=true){W W':World}(hb:Below W.heap.size W W'):∀ {ts:List TypeId}{vs:List Value}{ds:List (DataW H)}{ps:List MemPlace},(ts.all fun t=>P.readableRec t && decide (t<P.types.size))=true →
  DataW.TrodAll enc P W 0 (fun _=>true) true ts vs ds ps→(∀x∈ps,x.block<W.heap.size)→DataW.TrodAll enc P W' 0 (fun b=>decide (b<W.heap.size)) true ts vs ds ps
 | [],vs,ds,ps,_,h,_=>by
   obtain⟨rfl,rfl,rfl⟩:=trodAll_nil h;exact trodAll_mk0
 | t :: ts,vs,ds,ps,hr,h,aE=>by
   obtain⟨v,vs',d,ds',p,q,rfl,rfl,rfl,h1,h2⟩:=trodAll_cons h;simp only[List.all_cons,Zpx,ZpA]at hr;exact trodAll_cons_mk (Below.trod hlo hr.1.1 hr.1.2 h1 hb fun x hx=>aE x (List.mem_append_left _ hx)) (ZdA hlo hb hr.2 h2 fun x hx=>aE x (List.mem_append_right _ hx))
def setT(c:Array Value):Obj→Obj
 | .cells _ t frozen=>.cells c t frozen
 | o=>o
noncomputable def ZeW (os:Os):World :=
 { World.holding Tryz.prog os ⟨#[],#[],[]⟩ with heap:=(((World.holding Tryz.prog os ⟨#[],#[],[]⟩).heap.modify 2 (setT (Lib.pow10Tab.map fun z:Int=>Value.int .u64 z).toArray)).modify 1 (setT (Lib.deBruijn64tab.map fun n:Nat=>Value.int .u8 (n:Int)).toArray)).modify 3 (setT (([0,1,28,2,29,14,24,3,30,22,20,15,25,17,4,8,31,27,13,23,21,19,16,7,26,12,18,6,11,5,10,9]:List Int).map fun n:Int=>Value.int .u8 n).toArray) }
end Go.Proofs.YtmnjakejhbpkoaaGreatDoor
namespace Go.Proofs.YtmnjakejhbpkoaaGreatDoor
open Go Go.ChangeShapes Go.WideShapes Go.ChangeAt Go.RowKit Go.Deep
theorem ZiR{H:Type}{enc:TypeId × Value→H}{W:World}{spare:Nat→Bool}{held:Bool}{fuel:Nat}{v:Value}{x:DataW H × List MemPlace}(h:DataW.trod enc Tryz.prog W 0 spare held fuel 3 [v]=some x) :
  ∃n:Int,v= .int .i64 n∧(-9223372036854775808≤n∧n≤9223372036854775807):=by
 obtain⟨k0,e0,_,hwf⟩:=DataW.trod_int Tryz.underlying3 h;simp only[List.cons.injEq,and_true]at e0;exact⟨k0,e0,bounds_i64 hwf⟩
end Go.Proofs.YtmnjakejhbpkoaaGreatDoor
end
section
namespace Go.Proofs.YtmnjakejhbpkoaaGreatDoor
open Go Go.ChangeShapes Go.WideShapes Go.ChangeAt Go.RowKit Go.Deep
theorem Zgo{P:Program}{w:World}{r:Reach}{base:Nat}{t:TypeId}{v:Value}{fs:Array Field}(ht:P.underlying t=some (.struct fs))(h:Value.okWide P w r base t v):∃cs,v= .agg cs∧cs.size=P.cellsOf t:=by
 simp only[Value.okWide,ht]at h;obtain⟨cs,h1,h2,_⟩:=h;exact⟨cs,h1,h2⟩
theorem ZjX{H:Type}{enc:TypeId × Value→H}{W:World}{spare:Nat→Bool}{held:Bool}{fuel:Nat}{ts:List TypeId}{ds:List (DataW H)}(bW:(DataW.weightsEach Tryz.prog ts ds).all (·≤reachBytes)=true){j:Nat}{d:DataW H}{p:List MemPlace}
  (ht:ts[j]? =some 26) (hd:ds[j]? =some d) {ba:Option Addr}{len cap:Nat}(h:DataW.trod enc Tryz.prog W 0 spare held fuel 26 [.slice ba len cap]=some (d,p)):len≤5864062014805:=by
 rcases open_slice Tryz.underlying26 h with ⟨aO,_⟩|⟨a,l',c',m,n,D,Pl,aO,_,_,_,_,hx,_⟩
 ·simp only[List.cons.injEq,and_true,Value.slice.injEq]at aO
  omega
 ·simp only[List.cons.injEq,and_true,Value.slice.injEq]at aO
  obtain⟨_,rfl,_⟩:=aO;have e9:=(Prod.mk.inj hx).1;have h1:=sized_slice bW ht (by rw[hd,e9]) Tryz.underlying26;have hb:Tryz.prog.bytesOf 106=24:=by kernel_rfl
  rw[hb,List.length_map,List.length_range]at h1;have h2:=reachBytes_lt;omega
theorem ZlE{W:World}{a:Addr}{v:Value}(h:W.cell? (a.add 0)=some v):∃b o,a=⟨b,o,none⟩:=by
 obtain⟨b,o,spot⟩:=a;have:spot=none:=by simpa [Addr.add] using World.cell?_spot h
 subst this;exact⟨b,o,rfl⟩
theorem Zlg{H:Type}{enc:TypeId × Value→H}{W:World}{spare:Nat→Bool}{held:Bool}{fuel:Nat}{v:Value}{x:DataW H × List MemPlace}(h:DataW.trod enc Tryz.prog W 0 spare held fuel 45 [v]=some x) :
  ∃l:List Int,SlI W v l:=by
 rcases open_slice1 Tryz.underlying45 (by kernel_rfl) h with ⟨aO,_⟩|⟨a,len,cap,m,n,V,D,Pl,aO,_,hl,_,hm,_,hf⟩
 ·simp only[List.cons.injEq,and_true]at aO
  exact⟨[],none,0,aO,.inl ⟨rfl,rfl,rfl⟩⟩
 ·simp only[List.cons.injEq,and_true]at aO
  have en:len≤m:=by rw[hm];split <;> omega
  have aT:∀i,i<len→∃p:Int,W.cell? (a.add i)=some (.int .i64 p):=fun i hi=>by
   obtain⟨c0,t0⟩:=hf i (by omega);obtain⟨k0,e0,_⟩:=ZiR t0;rw[e0]at c0;exact⟨k0,c0⟩
  by_cases h0:len=0
  ·subst h0
   exact⟨[],some a,cap,aO,.inl ⟨rfl,rfl,rfl⟩⟩
  ·obtain⟨_,c0⟩:=aT 0 (by omega)
   obtain⟨b,o,rfl⟩:=ZlE c0;obtain⟨ps,sx,hq⟩:=Zch len aT;subst sx;refine⟨ps,some ⟨b,o,none⟩,cap,aO,.inr ⟨b,o,rfl,fun j hj=>?_⟩⟩;have:=hq j hj;rw[Go.WideShapes.add_plain]at this;exact this
theorem ZjO{H:Type}{enc:TypeId × Value→H}{W:World}{spare:Nat→Bool}{held:Bool}{fuel:Nat}{v:Value}{x:DataW H × List MemPlace}(h:DataW.trod enc Tryz.prog W 0 spare held fuel 82 [v]=some x) :
  ∃C:List L.Gt,SlC W v C:=by
 rcases Zb7 Tryz.underlying82 Tryz.underlying166 (by kernel_rfl) (by kernel_rfl) h with ⟨aO,_⟩|⟨a,len,cap,m,D,Pl,aO,_,hl,_,hm,_,hf⟩
 ·simp only[List.cons.injEq,and_true]at aO
  exact⟨[],none,0,aO,.inl rfl⟩
 ·simp only[List.cons.injEq,and_true]at aO
  have en:len≤m:=by rw[hm];split <;> omega
  have aT:∀i,i<len→∃(k l:Int) (u:Value) (ip:List Int),W.cell? (a.add (i*3+0))=some (.int .i64 k)∧W.cell? (a.add (i*3+1))=some (.int .i64 l)∧W.cell? (a.add (i*3+2))=some u∧SlI W u ip:=fun i hi=>by
   obtain⟨ys,n,_,_,_,hg⟩:=hf i (by omega);obtain⟨v0,y0,c0,_,t0⟩:=hg 0 _ rfl;obtain⟨v1,y1,c1,_,t1⟩:=hg 1 _ rfl;obtain⟨v2,y2,c2,_,t2⟩:=hg 2 _ rfl;obtain⟨k0,e0,_⟩:=DataW.trod_int Tryz.underlying3 t0;obtain⟨k1,e1,_⟩:=DataW.trod_int Tryz.underlying3 t1;simp only[List.cons.injEq,and_true]at e0 e1;subst e0 e1;obtain⟨ip,sM⟩:=Zlg t2;exact⟨k0,k1,v2,ip,c0,c1,c2,sM⟩
  by_cases h0:len=0
  ·subst h0
   exact⟨[],some a,cap,aO,.inl rfl⟩
  ·have lL:∃b o,a=⟨b,o,none⟩:=by
    obtain⟨_,_,_,_,c0,_,_⟩:=aT 0 (by omega);obtain⟨b,o,spot⟩:=a;have:spot=none:=by simpa [Addr.add] using World.cell?_spot c0
    subst this;exact⟨b,o,rfl⟩
   obtain⟨b,o,rfl⟩:=lL
   have hn:∀i,i<len→∃x:L.Gt,W.cell? ⟨b,o+i*3,none⟩=some (.int .i64 x.kind)∧W.cell? ⟨b,o+i*3+1,none⟩=some (.int .i64 x.lit)∧∃u,W.cell? ⟨b,o+i*3+2,none⟩=some u∧SlI W u x.inp:=fun i hi=>by
    obtain⟨k,l,u,ip,c0,c1,c2,c3⟩:=aT i hi;rw[Go.WideShapes.add_plain]at c0 c1 c2;rw[←Nat.add_assoc]at c1 c2;exact⟨⟨k,l,ip⟩,c0,c1,u,c2,c3⟩
   obtain⟨C,hC,hq⟩:=Zch len hn;subst hC;exact⟨C,some ⟨b,o,none⟩,cap,aO,.inr ⟨b,o,rfl,hq⟩⟩
theorem Zg9{H:Type}{enc:TypeId × Value→H}{W:World}{spare:Nat→Bool}{held:Bool}{fuel:Nat}{cs:Array Value}{x:DataW H × List MemPlace}(hz:cs.size=Tryz.prog.cellsOf 84)(h:DataW.trod enc Tryz.prog W 0 spare held fuel 84 (Value.agg cs).cells.toList=some x) :
  ∃(n:Int) (C:List L.Gt) (u:Value),Value.agg cs= .agg #[.int .i64 n,u]∧(SlC W u C∧(-9223372036854775808≤n∧n≤9223372036854775807)):=by
 have bW:Tryz.prog.cellsOf 84=2:=by kernel_rfl
 have bE:cs.size=2:=by rw[hz];exact bW
 obtain⟨cs⟩:=cs
 obtain⟨c0,c1,rfl⟩:∃c0 c1,cs=[c0,c1]:=by
  match cs,bE with
  | [c0,c1],_=>exact⟨c0,c1,rfl⟩
 obtain⟨y0,y1,n,_,_,h0,h1⟩:=trod_struct2 Tryz.underlying84 h;clear hz bE;have k0:Tryz.prog.cellsOf 3=1:=by kernel_rfl
 have k1:Tryz.prog.cellsOf 82=1:=by kernel_rfl
 have h0':DataW.trod enc Tryz.prog W 0 spare held n 3 [c0]=some y0:=by simpa [k0,Value.cells] using h0
 have jw:DataW.trod enc Tryz.prog W 0 spare held n 82 [c1]=some y1:=by simpa [k1,Value.cells] using h1
 obtain⟨z,e0,hb⟩:=ZiR h0';obtain⟨C,hC⟩:=ZjO jw;exact⟨z,C,c1,by rw[e0],hC,hb⟩
end Go.Proofs.YtmnjakejhbpkoaaGreatDoor
end
section
namespace Go.Proofs.YtmnjakejhbpkoaaGreatDoor.Ccirc
open Go
set_option maxRecDepth 100000
noncomputable abbrev pp:Program:=Tryz.pinned.checked.prog
abbrev cc:OpenClaim:=Rows.sddcCircuitsRow
abbrev ss:ChangeSpec:=(OpenSpec.ofChange Rows.sddcCircuitsSpec).bare
theorem k1:cc.wf (OpenSpec.ofChange ss)=true:=by kernel_rfl
theorem k2:laidOutB pp=true:=by kernel_rfl
theorem k3:mapsRowed pp=true:=by kernel_rfl
theorem k4:Tryz.f8.params.all (pp.readableRec ·)=true:=by kernel_rfl
theorem k5:namedTie pp cc.named ss.vars=true:=by kernel_rfl
theorem k6:(cc.stops ==[])=true:=by kernel_rfl
theorem k7:(pp.stops ==[])=true:=by kernel_rfl
theorem k8:(cc.knobs ==[])=true:=by kernel_rfl
theorem k9:(pp.stopKnobs ==[])=true:=by kernel_rfl
theorem k10:(cc.inPlace ==pp.inPlace 8)=true:=by kernel_rfl
theorem k11:(cc.unfollowed ==pp.unfollowed 8)=true:=by kernel_rfl
theorem k12:(cc.recurses ==pp.recurses 8)=true:=by kernel_rfl
theorem k13:(cc.named ==pp.varsNamed 8)=true:=by kernel_rfl
theorem Zod:joinedFacts pp 8 Tryz.f8 ss cc=true:=by
 unfold joinedFacts;rw[k1,k2,k3,k4,k5,k6,k7,k8,k9,k10,k11,k12,k13]
 kernel_rfl
end Go.Proofs.YtmnjakejhbpkoaaGreatDoor.Ccirc
end
