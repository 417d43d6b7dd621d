import Derived.Test.YtmnjakejhbpkoaaGreatDoorVShelf1
import Derived.Lib.ItoaLen
set_option linter.unusedSimpArgs false
set_option linter.unusedVariables false
set_option maxRecDepth 100000
set_option maxHeartbeats 2000000
namespace Go.Proofs.YtmnjakejhbpkoaaGreatDoor
open Go Go.RowKit Go.Shelf
theorem ZhV:(Tryz.prog.info? 5).map (fun i=>(i.zero,i.size,i.bytes))=some (some (.int .u8 0),1,1):=by kernel_rfl
def Za7 (w : World) : Prop :=Lib.TabIs Tryz.prog w "internal/strconv.uint64pow10" .u64 Lib.pow10Tab
theorem Za7.below{w w':World}(h:Za7 w)(hb:Below w.heap.size w w'):Za7 w':=Lib.tabBelow_of_tabIs h w' hb
def ZaL (l:List (Nat × Nat)):List Value:=l.flatMap fun p=>[.int .i64 p.1,.int .i64 p.2]
theorem ZcD(l:List (Nat × Nat)):(ZaL l).length=2*l.length:=by
 induction l with
 | nil=>rfl
 | cons a l ih=>simp[ZaL]at *;omega
theorem Zbe(l:List (Nat × Nat))(k:Nat)(hk:k<l.length):(ZaL l)[k*2]? =some (.int .i64 (l[k].1:Nat))∧(ZaL l)[k*2+1]? =some (.int .i64 (l[k].2:Nat)):=by
 induction l generalizing k with
 | nil=>simp at hk
 | cons a l ih =>
   cases k with
   | zero=>simp[ZaL]
   | succ k =>
     have h:=ih k (by simpa using hk);have e:ZaL (a :: l)= .int .i64 (a.1:Nat) :: .int .i64 (a.2:Nat) :: ZaL l:=by simp[ZaL]
     rw[e,show (k+1)*2=k*2+1+1 from by omega];simp only[List.getElem?_cons_succ,List.getElem_cons_succ];exact h
def SlP (w:World)(v:Value)(l:List (Nat × Nat)):Prop :=
 ∃ba c,v= .slice ba l.length c∧((ba=none∧l=[]∧c=0)∨∃b o,ba=some ⟨b,o,none⟩∧∀j u,(ZaL l)[j]? =some u→w.cell? ⟨b,o+j,none⟩=some u)
def ZlC (l:List (Nat × Nat)):Prop:=l.length≤1048576∧∀p∈l,p.1≤1048576∧p.2≤1048576
theorem ZcF(i:Int)(h0:-9223372036854775808≤i)(h1:i≤9223372036854775807):(Lib.itoa i).length≤21:=Lib.itoa_length_le i h0 h1
theorem ZkT(pl lit:Int)(l:List (Nat × Nat))(k:Nat)(hk:k<l.length) :
  ZgV pl lit (l.take (k+1))=ZgV pl lit (l.take k)++[32]++Lib.itoa l[k].1++[32]++Lib.itoa l[k].2:=by
 unfold ZgV;rw[List.take_succ_eq_append_getElem hk,List.flatMap_append];simp
theorem ZiD(pl lit:Int)(l:List (Nat × Nat))(h1:-9223372036854775808≤pl)(h2:pl≤9223372036854775807)(h3:-9223372036854775808≤lit)(h4:lit≤9223372036854775807)
  (hl:∀p∈l,p.1≤1048576∧p.2≤1048576):(ZgV pl lit l).length≤43+44*l.length:=by
 unfold ZgV;have a:=ZcF pl h1 h2;have b:=ZcF lit h3 h4
 have:(l.flatMap fun p=>[32]++Lib.itoa p.1++[32]++Lib.itoa p.2).length≤44*l.length:=by
  induction l with
  | nil=>simp
  | cons x l ih =>
    have ih:=ih (fun p hp=>hl p (Zpn _ hp));have hx:=hl x (Zpy ..);have c:=ZcF (x.1:Int) (by omega) (by omega);have d:=ZcF (x.2:Int) (by omega) (by omega);simp only[List.flatMap_cons,Zpo,ZpC,List.length_nil]at *;omega
 simp only[Zpo,ZpC,List.length_nil];omega
theorem Zjv(l:List UInt8)(s:ByteArray):(l.map fun b=>(b.toNat:Int)).foldl (fun r n=>r.push (UInt8.ofNat n.toNat)) s=⟨(s.data.toList++l).toArray⟩:=by
 induction l generalizing s with
 | nil=>simp
 | cons b l ih =>
   simp only[List.map_cons,List.foldl_cons];rw[ih];simp[ByteArray.push]
theorem ZcK{w:World}{B:Nat}{v:Value}{n:Nat}{l:List UInt8}(h:w.ownsRow B 5 1 v n (Lib.byteCells l)) :
  (convert 204 9 v).run Tryz.prog w= .ok (.string ⟨l.toArray⟩) w:=by
 obtain⟨hl,⟨rfl,rfl⟩|⟨g,cap,cur,rfl,hg,hh,hn,hc,hs,ht⟩⟩:=h
 ·have:l=[]:=by simpa [Lib.byteCells] using hl
  subst this;rw[run_convert_bytes_string w _ _ 5 _ _ _ Tryz.underlying204 Tryz.underlying5 Tryz.underlying9]
  rfl
 ·rw[run_convert_bytes_string w _ _ 5 _ _ _ Tryz.underlying204 Tryz.underlying5 Tryz.underlying9]
  have aX:l.length=n:=by simpa [Lib.byteCells] using hl
  rw[run_bytesToString w _ _ _ (l.map fun b=>(b.toNat:Int)),Zjv]
  ·rfl
  ·have h1:=run_loadCells_list (P:=Tryz.prog) (w:=w) ⟨g,0,none⟩ (Lib.byteCells l) (by
    intro j u hj;rw[←ht]at hj
    have cx:cur[j]? =some u:=by
     rw[List.getElem?_take]at hj
     split at hj
     ·simpa using hj
     ·simp at hj
    rw[Addr.add_lit];simp[World.cell?,hh,cx])
   have e2:(Lib.byteCells l).length=n:=by simpa [Lib.byteCells] using hl
   rw[e2]at h1;rw[h1];simp[Lib.byteCells]
theorem Zbc{w:World}{B:Nat}{e:TypeId}{sz:Nat}{v:Value}{n:Nat}{xs:List Value}(h:w.ownsRow B e sz v n xs){k:Nat}(hk:v.ownBlock=some k):B≤k:=by
 obtain⟨_,⟨rfl,_⟩|⟨g,cap,cur,rfl,hg,_⟩⟩:=h
 ·simp[Value.ownBlock]at hk
 ·simp[Value.ownBlock]at hk;omega
theorem ZaP(w:World)(v:Value)(t:TypeId)(ad:Nat)(h:ad=w.heap.size):∀j u,[v][j]? =some u→(w.alloc (.cells #[v] t)).cell? (Addr.add ⟨ad,0,none⟩ j)=some u:=by
 subst h;exact cell_one_new w v t
theorem ZaW{w:World}{B:Nat}{e:TypeId}{sz:Nat}{v:Value}{n n':Nat}{xs xs':List Value}(h:w.ownsRow B e sz v n xs)(hn:n=n')(hx:xs=xs'):w.ownsRow B e sz v n' xs':=by
 subst hn;subst hx;exact h
theorem ZgK{w w':World}{B e e' k n:Nat}{v:Value}{xs:List Value}{c:Array Value}{fz:Nat × Nat}(hk:w.heap[k]? =some (.cells c e' fz))(he:e'≠e)
  (ho:w.ownsRow B e 1 v n xs) (hg:w.grownBy w' v.ownBlock):w'.heap[k]? =some (.cells c e' fz):=by
 rw[hg.block k (Zpi hk).1]
 ·exact hk
 ·intro h
  obtain⟨_,⟨rfl,_⟩|⟨g,cap,cur,rfl,_,hh,_⟩⟩:=ho
  ·simp[Value.ownBlock]at h
  ·simp[Value.ownBlock]at h
   subst h;rw[hk]at hh;simp at hh;exact he hh.2.1
theorem Zae{w:World}{k:Nat}{x y:Value}{t:TypeId}(h:w.heap[k]? =some (.cells #[x,y] t (0,0))):w.cell? ⟨k,0,none⟩=some x∧w.cell? ⟨k,1,none⟩=some y:=by
 constructor <;> simp[World.cell?,h]
theorem ZkU(pl lit:Int)(l:List (Nat × Nat))(v:Value)(a b:Int)(w:World)(hP:Za7 w)(hv:SlP w v l)(hl:ZlC l)
  (h1:-1≤pl) (h2:pl≤1048576) (h3:-1048576≤lit) (h4:lit≤1048576) :
  Calls Tryz.prog 203 #[.agg #[.int .i64 pl,.int .i64 lit,v,.int .u64 a,.int .u64 b]] w fun e w'=>e= .returned (.string ⟨(ZgV pl lit l).toArray⟩)∧Below w.heap.size w w':=by
 obtain⟨i0,cX,bB,ak,bE⟩:=info_parts ZhV;obtain⟨ba,cp,rfl,hv⟩:=hv;replace hv:=Zpe hv;have vy:=Zpe (Lib.tabBelow_of_tabIs hP)
 go_enter Tryz.func203,Tryz.ntmps203
 have hlp:=ZcF pl (by omega) (by omega);have gz:=ZcF lit (by omega) (by omega);have e1:Hid (ZgV pl lit (l.take 0)=Lib.itoa pl++[32]++Lib.itoa lit):=Zpe (by simp[ZgV]);have qP:=Zpe (ZiD pl lit l (by omega) (by omega) (by omega) (by omega) hl.2);go_wp2_with fail
 -- the world with the node's box
 have qK:Below w.heap.size w (w.alloc (.cells #[.int .i64 pl,.int .i64 lit,.slice ba l.length cp,.int .u64 a,.int .u64 b] 158)):=(Zpr _ w).alloc (ZpD _) _;have yM:=Zpm w (.cells #[.int .i64 pl,.int .i64 lit,.slice ba l.length cp,.int .u64 a,.int .u64 b] 158);obtain⟨N,hN⟩:∃N,N=w.heap.size+1:=⟨_,rfl⟩;have bW:(w.alloc (.cells #[.int .i64 pl,.int .i64 lit,.slice ba l.length cp,.int .u64 a,.int .u64 b] 158)).heap.size=N:=by simp[hN]
 generalize w.alloc (.cells #[.int .i64 pl,.int .i64 lit,.slice ba l.length cp,.int .u64 a,.int .u64 b] 158)=W at *;replace hN:=Zpe hN;replace bW:=Zpe bW;have td:Below N W W:=Zpr _ _
 have tm : Hid (Lib.TabBelow Tryz.prog N W "internal/strconv.uint64pow10" .u64 Lib.pow10Tab) :=Zpe (by
  have:=Lib.tabBelow_of_tabIs (Lib.TabBelow.here (vy.out.on qK));rwa [bW.out]at this)
 have aT:∀w',Below N W w'→w'.cell? ⟨w.heap.size,1,none⟩=some (.int .i64 lit)∧w'.cell? ⟨w.heap.size,2,none⟩=some (.slice ba l.length cp):=fun w' h =>
  ⟨(h.cell (p:=⟨w.heap.size,1,none⟩) (by have:=hN.out;simp;omega)).trans (by simp[World.cell?,yM]),(h.cell (p:=⟨w.heap.size,2,none⟩) (by have:=hN.out;simp;omega)).trans (by simp[World.cell?,yM])⟩
 replace aT:=Zpe aT;clear yM;have c1:=Tryz.strconv_AppendInt_10 N 0 pl (by omega) (by omega) _ [] W (World.ownsRow_nil _ _ _ _) (by have:=bW.out;omega) (by omega) tm.out;refine c1.mono ?_;clear c1;rintro e w1 ⟨v1,rfl,x8,aS,_⟩;have jy:=td.trans aS;have cM:=jy.size;have hs1':=bW.out;replace jy:=jy;obtain⟨eC,gh⟩:=aT.out _ jy
 go_wp2_with (at_builtin;refine wpList_append_own _ rfl _ _ 204 rfl N 5 i0 (.int .u8 0) 1 1 Tryz.underlying204 cX bB ak bE rfl (by decide) _ _ _ rfl (x8.alloc _) ⟨w1.heap.size,0,none⟩ 1 1 [.int .u8 32] rfl rfl (ZaP _ _ _ _ (by simp)) (by simp[Value.oneCell']) (by unfold maxLen;omega) (by omega) (by simp;have:=jy.size;omega) ?_;intro v2 w2 jB fk _;have fN:=Below.grown (Below.alloc jy (by have:=jy.size;omega) _) fk (by simp;have:=jy.size;omega) (fun k e=>Zbc x8 e);obtain⟨eC,gh⟩:=aT.out _ fN;clear fk x8)
 have c2:=Tryz.strconv_AppendInt_10 N _ lit (by omega) (by omega) _ _ w2 jB (by have:=fN.size;omega) (by omega) (tm.out.on fN);refine c2.mono ?_;clear c2 jB;rintro e w3 ⟨v3,rfl,cZ,aa,_⟩;have jz:=fN.trans aa;obtain⟨eC,gh⟩:=aT.out _ jz;go_wp2_with fail
 have ho:w3.ownsRow N 5 1 v3 (ZgV pl lit (l.take 0)).length (Lib.byteCells (ZgV pl lit (l.take 0))):=by
  rw[e1.out];exact ZaW cZ (by simp;omega) (by simp[Lib.byteCells])
 have en:=hl.1;replace qK:=Zpe qK;clear cZ eC gh aS aa
 go_loopw [3,19] (fun vs i wr=>∃k:Nat,k≤l.length∧i= .int .i64 k∧wr.ownsRow N 5 1 vs (ZgV pl lit (l.take k)).length (Lib.byteCells (ZgV pl lit (l.take k)))∧Below N W wr)
  (fun _ i _=>l.length - (intOf i).toNat)
 case atStart=>exact⟨0,Nat.zero_le _,rfl,ho,jz⟩
 case round =>
  clear ho jy fN jz;obtain⟨k,hk,rfl,ho,hB⟩:=hrel
  by_cases aE:k<l.length
  ·obtain⟨b,o,rfl,aO⟩:∃b o,ba=some ⟨b,o,none⟩∧∀j u,(ZaL l)[j]? =some u→w.cell? ⟨b,o+j,none⟩=some u:=by
    rcases hv.out with ⟨_,rfl,_⟩|h
    ·simp at aE
    ·exact h
   have g1:=aO _ _ (Zbe l k aE).1;have g2:=aO _ _ (Zbe l k aE).2;have iP:=Zpk w _ g1;have j5:=hN.out;have dx:b<w.heap.size:=iP;have f1:wr.cell? ⟨b,o+k*2,none⟩=some (.int .i64 (l[k].1:Nat)):=(hB.cell (p:=⟨b,o+k*2,none⟩) (by show b<N;omega)).trans ((qK.out.cell (p:=⟨b,o+k*2,none⟩) iP).trans g1);have f2:wr.cell? ⟨b,o+k*2+1,none⟩=some (.int .i64 (l[k].2:Nat)):=(hB.cell (p:=⟨b,o+k*2+1,none⟩) (by show b<N;omega)).trans ((qK.out.cell (p:=⟨b,o+k*2+1,none⟩) iP).trans g2);clear g1 g2 aO j5;have hkt:=Zpe (ZkT pl lit l k aE);have hp:=hl.2 l[k] (Zpz aE);have qO:=ZiD pl lit (l.take k) (by omega) (by omega) (by omega) (by omega) (fun p hp=>hl.2 p (List.mem_of_mem_take hp));rw[List.length_take]at qO;have jm:=ZcF (l[k].1:Nat) (by omega) (by omega);have db:=ZcF (l[k].2:Nat) (by omega) (by omega)
   -- the element's box
   have eH:=Zpm wr (.cells #[.int .i64 (l[k].1:Nat),.int .i64 (l[k].2:Nat)] 165);have tg:=hB.alloc (by have:=hB.size;have:=bW.out;omega) (.cells #[.int .i64 (l[k].1:Nat),.int .i64 (l[k].2:Nat)] 165);have uU:=ho.alloc (.cells #[.int .i64 (l[k].1:Nat),.int .i64 (l[k].2:Nat)] 165);have hszp:(wr.alloc (.cells #[.int .i64 (l[k].1:Nat),.int .i64 (l[k].2:Nat)] 165)).heap.size=wr.heap.size+1:=by simp
   have hNw:=hB.size;have hNs:=bW.out;replace eH:=Zpe eH;clear ho
   go_wp2_with (at_builtin;(refine wpList_append_own _ rfl _ _ 204 rfl N 5 i0 (.int .u8 0) 1 1 Tryz.underlying204 cX bB ak bE rfl (by decide) _ _ _ rfl (uU.alloc _) ⟨wr.heap.size+1,0,none⟩ 1 1 [.int .u8 32] rfl rfl (ZaP _ _ _ _ (by simp)) (by simp[Value.oneCell']) (by unfold maxLen;omega) (by omega) (by simp;have:=tg.size;omega) ?_);intro v4 w4 cB ez _;have oC:=Below.grown (Below.alloc tg (by have:=tg.size;omega) _) ez (by simp;have:=tg.size;omega) (fun k e=>Zbc uU e);have xf:=ZgK ((Below.heap_alloc _ _ _ (Zpi eH.out).1).trans eH.out) (by decide) (uU.alloc _) ez;obtain⟨uD,hf2⟩:=Zae xf;clear ez uU)
   have c5:=Tryz.strconv_AppendInt_10 N _ (l[k].1:Nat) (by omega) (by omega) _ _ w4 cB (by have:=oC.size;omega) (by omega) (tm.out.on oC);refine c5.mono ?_;clear c5 cB;rintro e w5 ⟨v5,rfl,kQ,aj,hk5⟩;have gO:=oC.trans aj;have hp5:=Zpe (hk5 _ _ xf (by simp) (by simp));clear oC hk5 xf aj
   go_wp2_with (at_builtin;refine wpList_append_own _ rfl _ _ 204 rfl N 5 i0 (.int .u8 0) 1 1 Tryz.underlying204 cX bB ak bE rfl (by decide) _ _ _ rfl (kQ.alloc _) ⟨w5.heap.size,0,none⟩ 1 1 [.int .u8 32] rfl rfl (ZaP _ _ _ _ (by simp)) (by simp[Value.oneCell']) (by unfold maxLen;omega) (by omega) (by simp;have:=gO.size;omega) ?_;intro v6 w6 cz iR _;have jZ:=Below.grown (Below.alloc gO (by have:=gO.size;omega) _) iR (by simp;have:=gO.size;omega) (fun k e=>Zbc kQ e);have hp6:=ZgK ((Below.heap_alloc _ _ _ (Zpi hp5.out).1).trans hp5.out) (by decide) (kQ.alloc _) iR;obtain⟨uD,hf2⟩:=Zae hp6;clear iR kQ)
   have c7:=Tryz.strconv_AppendInt_10 N _ (l[k].2:Nat) (by omega) (by omega) _ _ w6 cz (by have:=jZ.size;omega) (by omega) (tm.out.on jZ);refine c7.mono ?_;clear c7 cz;rintro e w7 ⟨v7,rfl,m7,lh,hk7⟩;have hB7:=jZ.trans lh;go_wp2_with fail;go_roundw
   case rel=>exact⟨k+1,by omega,by go_num,by rw[hkt.out];exact ZaW m7 (by simp;omega) (by simp[Lib.byteCells]),hB7⟩
   case measure=>simp[intOf];omega
  ·obtain rfl:k=l.length:=by omega
   rw[List.take_length]at ho;have fy:=ZcK ho;clear ho;go_wp2_with fail
   go_returns
   exact⟨rfl,qK.out.trans (hB.mono (by have:=hN.out;omega))⟩
end Go.Proofs.YtmnjakejhbpkoaaGreatDoor
namespace Go.Proofs.YtmnjakejhbpkoaaGreatDoor
open Go Go.RowKit Go.Shelf
theorem ZaS{α β:Type}[DecidableEq α](l:List (α × β))(a:α)(v:β):asc ((a,v) :: l)=upd (asc l) a v:=by
 funext x
 simp only[asc,upd]
def ZcR:Nat:=2
def gTz:Nat:=1
theorem Za7.same{w w':World}(h:Za7 w)(hb:w'.heap[ZcR]? =w.heap[ZcR]?):Za7 w':=by
 unfold Za7 Lib.TabIs World.var? at *;have hg : Tryz.prog.globalNamed "internal/strconv.uint64pow10" =some ZcR :=by kernel_rfl
 simp only[hg,Option.bind_some]at h ⊢;rw[hb];exact h
theorem Za7.lt{w:World}(h:Za7 w):ZcR<w.heap.size:=by
 unfold Za7 Lib.TabIs World.var? at h;have hg : Tryz.prog.globalNamed "internal/strconv.uint64pow10" =some ZcR :=by kernel_rfl
 simp only[hg,Option.bind_some]at h;rcases Nat.lt_or_ge ZcR w.heap.size with h'|h'
 ·exact h'
 ·rw[Array.getElem?_eq_none h']at h;simp at h
theorem ZaX.same{w w':World}(h:ZaX w)(hb:w'.heap[gTz]? =w.heap[gTz]?):ZaX w':=fun j hj =>
 (World.cell?_of_block (a:=⟨gTz,j,none⟩) hb).trans (h j hj)
theorem ZaX.lt'{w:World}(h:ZaX w):gTz<w.heap.size:=h.lt
def Zca (w:World)(b o:Nat)(t:TypeId)(cs:List Value):Prop:=∃c fz,w.heap[b]? =some (.cells c t fz)∧∀j u,cs[j]? =some u→c[o+j]? =some u
theorem Zca.cell{w:World}{b o:Nat}{t:TypeId}{cs:List Value}(h:Zca w b o t cs){j:Nat}{u:Value}(hj:cs[j]? =some u):w.cell? ⟨b,o+j,none⟩=some u:=by
 obtain⟨c,fz,hb,hc⟩:=h;simp[World.cell?,hb,hc j u hj]
theorem Zca.same{w w':World}{b o:Nat}{t:TypeId}{cs:List Value}(h:Zca w b o t cs)(hs:w'.heap[b]? =w.heap[b]?):Zca w' b o t cs:=by
 obtain⟨c,fz,hb,hc⟩:=h;exact⟨c,fz,hs.trans hb,hc⟩
theorem Zca.lt{w:World}{b o:Nat}{t:TypeId}{cs:List Value}(h:Zca w b o t cs):b<w.heap.size:=by
 obtain⟨c,fz,hb,_⟩:=h;exact(Zpi hb).1
def ZcM (w:World)(v:Value)(l:List (Nat × Nat)):Prop :=
 ∃ba c,v= .slice ba l.length c∧((ba=none∧l=[]∧c=0)∨∃b o,ba=some ⟨b,o,none⟩∧Zca w b o 165 (ZaL l))
theorem ZcM.slp{w:World}{v:Value}{l:List (Nat × Nat)}(h:ZcM w v l):SlP w v l:=by
 obtain⟨ba,c,rfl,h⟩:=h;refine⟨ba,c,rfl,h.imp id ?_⟩;rintro⟨b,o,rfl,hr⟩;exact⟨b,o,rfl,fun j u hj=>hr.cell hj⟩
def Za6:TypeId:=158
def ZaU:TypeId:=163
def ZaO:TypeId:=165
def Zbf (n:Zaf)(v:Value):List Value:=[.int .i64 n.pl,.int .i64 n.lit,v,.int .u64 (lo n.le),.int .u64 (hi n.le)]
def Zei:List Zaf→List Value→List Value
 | n :: ns,v :: vs=>Zbf n v++Zei ns vs
 | _,_=>[]
theorem Zb1:∀(ns:List Zaf) (vs:List Value),vs.length=ns.length→∀i (hi:i<ns.length) (hv:i<vs.length) j (hj:j<5),(Zei ns vs)[i*5+j]? =(Zbf ns[i] vs[i])[j]?
 | n :: ns,v :: vs,h,i,hi,hv,j,hj=>by
   cases i with
   | zero =>
     simp only[Zei,List.getElem_cons_zero];rw[List.getElem?_append_left (by simp[Zbf];omega)]
     congr 1;omega
   | succ i =>
     simp only[Zei,List.getElem_cons_succ];rw[List.getElem?_append_right (by simp[Zbf];omega),show (i+1)*5+j - (Zbf n v).length=i*5+j from by simp[Zbf];omega];exact Zb1 ns vs (by simpa using h) i (by simpa using hi) (by simpa using hv) j hj
theorem ZfC:∀(ns:List Zaf) (vs:List Value) (n:Zaf) (v:Value),vs.length=ns.length→Zei (ns++[n]) (vs++[v])=Zei ns vs++Zbf n v
 | [],[],n,v,_=>by simp[Zei]
 | n' :: ns,v' :: vs,n,v,h=>by simp[Zei,ZfC ns vs n v (by simpa using h)]
structure Zcy (w:World) (nv:Value) (nb:Nat) (ns:List Zaf) (vs:List Value):Prop where
 len:vs.length=ns.length
 own:w.ownsRow 0 Za6 5 nv ns.length (Zei ns vs)
 blk:nv.ownBlock=some nb
 els:∀i (hi:i<ns.length) (hv:i<vs.length),ZcM w vs[i] ns[i].el
def Zaq (t:List VN):List Value:=t.flatMap fun x=>[.int .i64 x.left,.int .i64 x.right,.int .i64 x.var]
def Zdl (k:Key):Value:=.string ⟨(Zce k).toArray⟩
def Zab (n:Nat):Value:=.int .i64 (n:Int)
structure Zas where
 sb:Nat
 tb:Nat
 tc:Nat
 lb:Nat
 nb:Nat
 ub:Nat
 ab:Nat
 mb:Nat
 eb:List Nat
def Zas.mut(B:Zas):List Nat:=[B.sb,B.nb,B.ub,B.ab,B.mb,B.lb]
structure Rep (B:Zas) (s:St) (w:World):Prop where
 tz:ZaX w
 pow:Za7 w
 glob:∀k∈B.mut,k≠ZcR∧k≠gTz
 store:∃nv vs,w.heap[B.sb]? =some (.cells #[.slice (some ⟨B.tb,0,none⟩) s.tree.length B.tc,.map (some B.lb),nv,.map (some B.ub),.map (some B.ab),.map (some B.mb)] ZaU (0,0))∧Zcy w nv B.nb s.nodes vs∧∀v∈vs,∀b,v.ownBlock=some b→b∈B.eb
 tree:Zca w B.tb 0 106 (Zaq s.tree)
 leaf:ZaG Zab Zab w B.lb (Zd5 s.tree)
 uniq:ZaG Zdl Zab w B.ub (asc s.uniq)
 ands:ZaG Zga Zab w B.ab (asc s.ands)
 nots:ZaG Zab Zab w B.mb (asc s.nots)
 apart:B.ub≠B.ab∧B.ub≠B.mb∧B.ab≠B.mb∧B.lb≠B.ub∧B.lb≠B.ab∧B.lb≠B.mb
 small:s.nodes.length≤1048576∧∀n∈s.nodes,-1≤n.pl∧n.pl≤1048576∧-1048576≤n.lit∧n.lit≤1048576∧ZlC n.el
structure Fr (M:List Nat) (w w':World):Prop where
 os:w'.os=w.os
 tape:w'.tape=w.tape
 output:w'.output=w.output
 size:w.heap.size≤w'.heap.size
 block:∀k,k<w.heap.size→k∉M→w'.heap[k]? =w.heap[k]?
theorem Fr.refl(M:List Nat)(w:World):Fr M w w:=⟨rfl,rfl,rfl,ZpD _,fun _ _ _=>rfl⟩
theorem Fr.of_below{M:List Nat}{w w':World}(h:Below w.heap.size w w'):Fr M w w':=⟨h.os,h.tape,h.output,h.size,fun k hk _=>h.block k hk⟩
structure Stp (X:List Nat) (B:Zas) (w:World) (B':Zas) (w':World):Prop where
 fr:Fr (B.mut++X) w w'
 sb:B'.sb=B.sb
 new:∀k∈B'.mut,k∈B.mut∨w.heap.size≤k
 newe:∀k∈B'.eb,k∈B.eb∨w.heap.size≤k∨k∈X
theorem Stp.refl(X:List Nat)(B:Zas)(w:World):Stp X B w B w:=⟨Fr.refl _ _,rfl,fun _ h=>.inl h,fun _ h=>.inl h⟩
theorem Stp.of_below{X:List Nat}{B:Zas}{w w':World}(h:Below w.heap.size w w'):Stp X B w B w':=⟨Fr.of_below h,rfl,fun _ h=>.inl h,fun _ h=>.inl h⟩
theorem Stp.trans{X Y:List Nat}{B B1 B2:Zas}{w w1 w2:World}(h:Stp X B w B1 w1)(k:Stp Y B1 w1 B2 w2):Stp (X++Y) B w B2 w2 where
 fr:=⟨k.fr.os.trans h.fr.os,k.fr.tape.trans h.fr.tape,k.fr.output.trans h.fr.output,Zpp h.fr.size k.fr.size,fun i hi hM=>by
  simp only[List.mem_append,not_or]at hM
  rw[k.fr.block i (Zpq hi h.fr.size) (fun hc=>by
   rcases List.mem_append.1 hc with hc|hc
   ·rcases h.new i hc with h1|h1
    ·exact hM.1 h1
    ·omega
   ·exact hM.2.2 hc),h.fr.block i hi (fun hc=>by
   rcases List.mem_append.1 hc with hc|hc
   ·exact hM.1 hc
   ·exact hM.2.1 hc)]⟩
 sb:=k.sb.trans h.sb
 new:=fun i hi=>by
  rcases k.new i hi with h1|h1
  ·exact h.new i h1
  ·exact .inr (Zpp h.fr.size h1)
 newe:=fun i hi=>by
  rcases k.newe i hi with h1|h1|h1
  ·rcases h.newe i h1 with h2|h2|h2
   ·exact .inl h2
   ·exact .inr (.inl h2)
   ·exact .inr (.inr (List.mem_append.2 (.inl h2)))
  ·exact .inr (.inl (Zpp h.fr.size h1))
  ·exact .inr (.inr (List.mem_append.2 (.inr h1)))
theorem Stp.weak{X Y:List Nat}{B B':Zas}{w w':World}(h:Stp X B w B' w')(hx:∀x∈X,x∈Y∨w.heap.size≤x):Stp Y B w B' w' where
 fr:=⟨h.fr.os,h.fr.tape,h.fr.output,h.fr.size,fun i hi hM=>h.fr.block i hi (fun hc=>by
  rcases List.mem_append.1 hc with hc|hc
  ·exact hM (List.mem_append.2 (.inl hc))
  ·rcases hx i hc with h1|h1
   ·exact hM (List.mem_append.2 (.inr h1))
   ·omega)⟩
 sb:=h.sb
 new:=h.new
 newe:=fun k hk=>by
  rcases h.newe k hk with h1|h1|h1
  ·exact .inl h1
  ·exact .inr (.inl h1)
  ·rcases hx k h1 with h2|h2
   ·exact .inr (.inr h2)
   ·exact .inr (.inl h2)
theorem Stp.of_but{X:List Nat}{B:Zas}{w w':World}(h1:w'.os=w.os∧w'.tape=w.tape∧w'.output=w.output)(h2:w.heap.size≤w'.heap.size)(h:∀k,k<w.heap.size→k∉X→w'.heap[k]? =w.heap[k]?):Stp X B w B w' :=
 ⟨⟨h1.1,h1.2.1,h1.2.2,h2,fun k hk hM=>h k hk (fun hc=>hM (List.mem_append.2 (.inr hc)))⟩,rfl,fun _ h=>.inl h,fun _ h=>.inl h⟩
theorem Stp.then{B B1 B2:Zas}{w w1 w2:World}(h:Stp [] B w B1 w1)(k:Stp [] B1 w1 B2 w2):Stp [] B w B2 w2:=h.trans k
theorem Stp.keep{X:List Nat}{B B':Zas}{w w':World}(h:Stp X B w B' w'){k:Nat}{o:Obj}(hk:w.heap[k]? =some o)(hM:k∉B.mut)(hX:k∉X):w'.heap[k]? =some o :=
 (h.fr.block k (Zpi hk).1 (fun hc=>(List.mem_append.1 hc).elim hM hX)).trans hk
theorem ZaG.same{α β:Type}[DecidableEq α]{enc:α→Value}{encV:β→Value}{w w':World}{b:Nat}{m:α→Option β}(h:ZaG enc encV w b m)(hs:w'.heap[b]? =w.heap[b]?):ZaG enc encV w' b m:=by
 obtain⟨L,c,hb,hm⟩:=h;exact⟨L,c,hs.trans hb,hm⟩
theorem ZaG.lt{α β:Type}[DecidableEq α]{enc:α→Value}{encV:β→Value}{w:World}{b:Nat}{m:α→Option β}(h:ZaG enc encV w b m):b<w.heap.size:=by
 obtain⟨L,c,hb,hm⟩:=h;exact(Zpi hb).1
theorem ZcM.same{w w':World}{v:Value}{l:List (Nat × Nat)}(h:ZcM w v l)(hs:∀(b:Nat) (c:Array Value) (fz:Nat × Nat),w.heap[b]? =some (Obj.cells c ZaO fz)→w'.heap[b]? =w.heap[b]?):ZcM w' v l:=by
 obtain⟨ba,c,rfl,h⟩:=h;refine⟨ba,c,rfl,h.imp id ?_⟩;rintro⟨b,o,rfl,cs,fz,hb,hc⟩;exact⟨b,o,rfl,cs,fz,(hs b cs fz hb).trans hb,hc⟩
theorem Zao{w w':World}{B:Nat}{e:TypeId}{sz:Nat}{v:Value}{n:Nat}{xs:List Value}(h:w.ownsRow B e sz v n xs)(hs:∀k,v.ownBlock=some k→w'.heap[k]? =w.heap[k]?):w'.ownsRow B e sz v n xs:=by
 obtain⟨h1,h|⟨g,cap,cur,rfl,hg,hh,r⟩⟩:=h
 ·exact⟨h1,.inl h⟩
 ·exact⟨h1,.inr ⟨g,cap,cur,rfl,hg,(hs g rfl).trans hh,r⟩⟩
theorem Zcy.nbk{w:World}{nv:Value}{nb:Nat}{ns:List Zaf}{vs:List Value}(h:Zcy w nv nb ns vs):∃c,w.heap[nb]? =some (.cells c Za6 (0,0)):=by
 obtain⟨_,h1|⟨g,cap,cur,hv,hg,hh,r⟩⟩:=h.own
 ·have:=h.blk;rw[h1.1]at this;simp[Value.ownBlock]at this
 ·have:=h.blk
  rw[hv]at this;simp[Value.ownBlock]at this;subst this;exact⟨cur,hh⟩
theorem Rep.same{B:Zas}{s:St}{w w':World}(h:Rep B s w)(hs:∀(k:Nat) (o:Obj),w.heap[k]? =some o→w'.heap[k]? =w.heap[k]?):Rep B s w' where
 tz:=h.tz.same (by
  have hl:=h.tz.lt';exact hs _ _ (Array.getElem?_eq_getElem hl))
 pow:=h.pow.same (by
  have hl:=h.pow.lt;exact hs _ _ (Array.getElem?_eq_getElem hl))
 glob:=h.glob
 store:=by
  obtain⟨nv,vs,aW,hn,he⟩:=h.store;refine⟨nv,vs,(hs _ _ aW).trans aW,⟨hn.len,Zao hn.own ?_,hn.blk,fun i hi hv=>(hn.els i hi hv).same fun b c fz hb=>hs b _ hb⟩,he⟩;intro k hk;rw[hn.blk]at hk;obtain⟨c,hc⟩:=hn.nbk
  cases hk
  exact hs _ _ hc
 tree:=by
  obtain⟨c,fz,hb,hc⟩:=h.tree;exact⟨c,fz,(hs _ _ hb).trans hb,hc⟩
 leaf:=h.leaf.same (by have:=h.leaf.lt;exact hs _ _ (Array.getElem?_eq_getElem this))
 uniq:=h.uniq.same (by have:=h.uniq.lt;exact hs _ _ (Array.getElem?_eq_getElem this))
 ands:=h.ands.same (by have:=h.ands.lt;exact hs _ _ (Array.getElem?_eq_getElem this))
 nots:=h.nots.same (by have:=h.nots.lt;exact hs _ _ (Array.getElem?_eq_getElem this))
 apart:=h.apart
 small:=h.small
theorem Rep.below{B:Zas}{s:St}{w w':World}(h:Rep B s w)(hb:Below w.heap.size w w'):Rep B s w' :=
 h.same fun k _ hk=>hb.block k (Zpi hk).1
theorem Rep.mut_old{B:Zas}{s:St}{w:World}(h:Rep B s w):∀k∈B.mut,k<w.heap.size:=by
 obtain⟨nv,vs,aW,hn,_⟩:=h.store;obtain⟨c,hc⟩:=hn.nbk;have h1:=(Zpi aW).1;have h2:=(Zpi hc).1;have h3:=h.uniq.lt;have h4:=h.ands.lt;have h5:=h.nots.lt;have h6:=h.leaf.lt;intro k hk;simp[Zas.mut]at hk;rcases hk with rfl|rfl|rfl|rfl|rfl|rfl <;> assumption
theorem Rep.not_mut{B:Zas}{s:St}{w:World}(h:Rep B s w){k:Nat}{c:Array Value}{t:TypeId}{fz:Nat × Nat}(hk:w.heap[k]? =some (.cells c t fz))(h1:t≠Za6)(h2:t≠ZaU):k∉B.mut:=by
 obtain⟨nv,vs,aW,hn,_⟩:=h.store;obtain⟨c',hc⟩:=hn.nbk;obtain⟨L1,c1,u1,_⟩:=h.uniq;obtain⟨L2,c2,u2,_⟩:=h.ands;obtain⟨L3,c3,u3,_⟩:=h.nots;obtain⟨L4,c4,u4,_⟩:=h.leaf;intro hm;simp[Zas.mut]at hm;rcases hm with rfl|rfl|rfl|rfl|rfl|rfl
 ·rw[aW]at hk;simp at hk;exact h2 hk.2.1.symm
 ·rw[hc]at hk;simp at hk;exact h1 hk.2.1.symm
 ·rw[u1]at hk;simp at hk
 ·rw[u2]at hk;simp at hk
 ·rw[u3]at hk;simp at hk
 ·rw[u4]at hk;simp at hk
theorem Rep.ub_ne{B:Zas}{s:St}{w:World}(h:Rep B s w):B.ub≠B.sb∧B.ub≠B.nb∧B.ab≠B.sb∧B.ab≠B.nb∧B.mb≠B.sb∧B.mb≠B.nb∧B.lb≠B.sb∧B.lb≠B.nb∧B.tb≠B.sb∧B.tb≠B.nb∧B.nb≠B.sb:=by
 obtain⟨nv,vs,aW,hn,_⟩:=h.store;obtain⟨c',hc⟩:=hn.nbk;obtain⟨L1,c1,u1,_⟩:=h.uniq;obtain⟨L2,c2,u2,_⟩:=h.ands;obtain⟨L3,c3,u3,_⟩:=h.nots;obtain⟨L4,c4,u4,_⟩:=h.leaf;obtain⟨c5,f5,u5,_⟩:=h.tree;refine⟨?_,?_,?_,?_,?_,?_,?_,?_,?_,?_,?_⟩ <;> intro e
 ·rw[e,aW]at u1;simp at u1
 ·rw[e,hc]at u1;simp at u1
 ·rw[e,aW]at u2;simp at u2
 ·rw[e,hc]at u2;simp at u2
 ·rw[e,aW]at u3;simp at u3
 ·rw[e,hc]at u3;simp at u3
 ·rw[e,aW]at u4;simp at u4
 ·rw[e,hc]at u4;simp at u4
 ·rw[e,aW]at u5;simp[ZaU]at u5
 ·rw[e,hc]at u5;simp[Za6]at u5
 ·rw[e,aW]at hc;simp[ZaU,Za6]at hc
theorem Rep.push{B:Zas}{s:St}{w w3:World}{n:Zaf}{v nv:Value}{vs:List Value}{gg cap:Nat}{o:Obj}(h:Rep B s w)
  (aW:w.heap[B.sb]? =some (.cells #[.slice (some ⟨B.tb,0,none⟩) s.tree.length B.tc,.map (some B.lb),nv,.map (some B.ub),.map (some B.ab),.map (some B.mb)] ZaU (0,0)))
  (bu:Zcy w nv B.nb s.nodes vs) (ob:∀v∈vs,∀b,v.ownBlock=some b→b∈B.eb) (hv:ZcM w v n.el) (hg:((w.alloc o).drew).grownBy w3 (some B.nb))
  (bH:w3.ownsRow 0 Za6 5 (.slice (some ⟨gg,0,none⟩) (s.nodes.length+1) cap) (s.nodes.length+1) (Zei s.nodes vs++Zbf n v))
  (cF:some B.nb=some gg∨gg=w.heap.size+1) (gJ:s.nodes.length<1048576) (hn:-1≤n.pl∧n.pl≤1048576∧-1048576≤n.lit∧n.lit≤1048576∧ZlC n.el) :
  Rep { B with nb:=gg,eb:=v.ownBlock.toList++B.eb } { s with nodes:=s.nodes++[n] } (w3.setCell ⟨B.sb,2,none⟩ (.slice (some ⟨gg,0,none⟩) (s.nodes.length+1) cap)) ∧
   Stp v.ownBlock.toList B w { B with nb:=gg,eb:=v.ownBlock.toList++B.eb } (w3.setCell ⟨B.sb,2,none⟩ (.slice (some ⟨gg,0,none⟩) (s.nodes.length+1) cap)):=by
 obtain⟨d1,d2,d3,d4,d5,d6,d7,d8,d9,d10,d11⟩:=h.ub_ne;have bW:w.heap.size+1≤w3.heap.size:=by have:=hg.size;simpa using this
 have cH:∀k,k<w.heap.size→k≠B.nb→w3.heap[k]? =w.heap[k]?:=fun k hk aH=>by
  rw[hg.block k (by simp;omega) (by simpa using aH)];exact Below.heap_alloc _ _ _ hk
 have xy:=(Zpi aW).1;have hgs:gg≠B.sb:=by rcases cF with e|e;(simp at e;omega);omega
 have h4:∀k,k<w.heap.size→k≠B.nb→k≠B.sb→(w3.setCell ⟨B.sb,2,none⟩ (.slice (some ⟨gg,0,none⟩) (s.nodes.length+1) cap)).heap[k]? =w.heap[k]?:=fun k hk h1 h2 =>
  (Below.heap_setCell _ _ _ _ h2).trans (cH k hk h1)
 have nX:∀(b:Nat) (c:Array Value) (fz:Nat × Nat),w.heap[b]? =some (Obj.cells c ZaO fz)→(w3.setCell ⟨B.sb,2,none⟩ (.slice (some ⟨gg,0,none⟩) (s.nodes.length+1) cap)).heap[b]? =w.heap[b]?:=fun b c fz hb=>by
  refine h4 b (Zpi hb).1 ?_ ?_
  ·intro e
   obtain⟨c',hc⟩:=bu.nbk;rw[e,hc]at hb;simp[ZaO,Za6]at hb
  ·intro e
   rw[e,aW]at hb;simp[ZaO,ZaU]at hb
 have dZ:=h.glob
 have cJ:(w3.setCell ⟨B.sb,2,none⟩ (.slice (some ⟨gg,0,none⟩) (s.nodes.length+1) cap)).heap[B.sb]? =some (.cells #[.slice (some ⟨B.tb,0,none⟩) s.tree.length B.tc,.map (some B.lb),.slice (some ⟨gg,0,none⟩) (s.nodes.length+1) cap,.map (some B.ub),.map (some B.ab),.map (some B.mb)] ZaU (0,0)):=by
  simp only[World.setCell,Array.getElem?_modify,if_true,cH B.sb xy (Ne.symm d11),aW]
  rfl
 have hl:=bu.len
 refine⟨{
  tz:=h.tz.same (h4 _ h.tz.lt' (fun e=>(dZ B.nb (by simp[Zas.mut])).2 e.symm) (fun e=>(dZ B.sb (by simp[Zas.mut])).2 e.symm))
  pow:=h.pow.same (h4 _ h.pow.lt (fun e=>(dZ B.nb (by simp[Zas.mut])).1 e.symm) (fun e=>(dZ B.sb (by simp[Zas.mut])).1 e.symm))
  glob:=?_
  store:=⟨.slice (some ⟨gg,0,none⟩) (s.nodes.length+1) cap,vs++[v],cJ,?_,?_⟩
  tree:=h.tree.same (h4 _ h.tree.lt d10 d9)
  leaf:=h.leaf.same (h4 _ h.leaf.lt d8 d7)
  uniq:=h.uniq.same (h4 _ h.uniq.lt d2 d1)
  ands:=h.ands.same (h4 _ h.ands.lt d4 d3)
  nots:=h.nots.same (h4 _ h.nots.lt d6 d5)
  apart:=h.apart
  small:=⟨by simp;omega,fun m hm=>by
   rcases List.mem_append.1 hm with hm|hm
   ·exact h.small.2 m hm
   ·simp at hm;subst hm;exact hn⟩ },?_,rfl,?_,?_⟩
 ·intro k hk
  simp[Zas.mut]at hk;have a1:=dZ B.sb (by simp[Zas.mut]);have a2:=dZ B.nb (by simp[Zas.mut]);have l1:=h.pow.lt;have l2:=h.tz.lt';rcases hk with rfl|rfl|rfl|rfl|rfl|rfl
  ·exact a1
  ·rcases cF with e|e
   ·simp at e;subst e;exact a2
   ·constructor <;> omega
  ·exact dZ _ (by simp[Zas.mut])
  ·exact dZ _ (by simp[Zas.mut])
  ·exact dZ _ (by simp[Zas.mut])
  ·exact dZ _ (by simp[Zas.mut])
 ·refine⟨by simp[hl],?_,rfl,?_⟩
  ·show World.ownsRow _ _ _ _ _ (s.nodes++[n]).length _
   rw[ZfC _ _ _ _ hl,Zpo];exact Zao bH (fun k hk=>by simp[Value.ownBlock]at hk;subst hk;exact Below.heap_setCell _ _ _ _ hgs)
  ·intro i hi fo
   by_cases aE:i<s.nodes.length
   ·have e1:(vs++[v])[i]=vs[i]'(by omega):=List.getElem_append_left ..
    have e2:(s.nodes++[n])[i]=s.nodes[i]:=List.getElem_append_left ..
    show ZcM _ (vs++[v])[i] (s.nodes++[n])[i].el
    rw[e1,e2];exact(bu.els i aE (by omega)).same nX
   ·obtain rfl:i=s.nodes.length:=by simp at hi;omega
    show ZcM _ (vs++[v])[s.nodes.length] (s.nodes++[n])[s.nodes.length].el
    have e1:(vs++[v])[s.nodes.length]=v:=by simp[←hl]
    have e2:(s.nodes++[n])[s.nodes.length]=n:=by simp
    rw[e1,e2];exact hv.same nX
 ·intro u hu b hb
  rcases List.mem_append.1 hu with hu|hu
  ·exact List.mem_append.2 (.inr (ob u hu b hb))
  ·simp at hu
   subst hu;exact List.mem_append.2 (.inl (by simp[hb]))
 ·refine⟨hg.os,hg.tape,hg.output,?_,fun k hk hM=>h4 k hk ?_ ?_⟩
  ·simp[World.setCell];omega
  ·exact fun e=>hM (List.mem_append.2 (.inl (by simp[Zas.mut,e])))
  ·exact fun e=>hM (List.mem_append.2 (.inl (by simp[Zas.mut,e])))
 ·intro k hk
  simp[Zas.mut]at hk ⊢;rcases hk with rfl|rfl|rfl|rfl|rfl|rfl
  ·exact .inl (.inl rfl)
  ·rcases cF with e|e
   ·simp at e;exact .inl (.inr (.inl e.symm))
   ·exact .inr (by omega)
  ·exact .inl (by simp)
  ·exact .inl (by simp)
  ·exact .inl (by simp)
  ·exact .inl (by simp)
 ·intro k hk
  rcases List.mem_append.1 hk with hk|hk
  ·exact .inr (.inr hk)
  ·exact .inl hk
theorem ZfN{B:Zas}{w:World}(K:TypeId)(b:Nat)(hb:b∈B.mut)(k v:Value):Stp [] B w B (Zap K Tryz.prog w b k v):=by
 obtain⟨h1,h2,h3,_⟩:=ZbQ (P:=Tryz.prog) K w b k v;exact⟨⟨h1,h2,h3,by rw[Za1];exact ZpD _,fun j _ hM=>Zai K w b k v j (fun e=>hM (List.mem_append.2 (.inl (e ▸ hb))))⟩,rfl,fun _ h=>.inl h,fun _ h=>.inl h⟩
theorem Rep.but_map{B:Zas}{s:St}{w w':World}{m:Nat}(h:Rep B s w)(hm:m=B.ub∨m=B.ab∨m=B.mb)(hs:∀k,k≠m→w'.heap[k]? =w.heap[k]?)
  {u:List (Key × Nat)}{a:List ((Nat × Nat) × Nat)}{o:List (Nat × Nat)}
  (hu:ZaG Zdl Zab w' B.ub (asc u)) (ha:ZaG Zga Zab w' B.ab (asc a)) (ho:ZaG Zab Zab w' B.mb (asc o)) :
  Rep B { s with uniq:=u,ands:=a,nots:=o } w':=by
 obtain⟨d1,d2,d3,d4,d5,d6,d7,d8,d9,d10,d11⟩:=h.ub_ne;have jA:B.sb≠m:=by rcases hm with rfl|rfl|rfl <;> exact Ne.symm (by assumption)
 have ec:B.nb≠m:=by rcases hm with rfl|rfl|rfl <;> exact Ne.symm (by assumption)
 have hm3:B.lb≠m:=by obtain⟨_,_,_,e1,e2,e3⟩:=h.apart;rcases hm with rfl|rfl|rfl <;> assumption
 have aT:∀(b:Nat) (c:Array Value) (t:TypeId) (fz:Nat × Nat),w.heap[b]? =some (Obj.cells c t fz)→b≠m:=fun b c t fz hb e=>by
  obtain⟨L1,c1,u1,_⟩:=h.uniq;obtain⟨L2,c2,u2,_⟩:=h.ands;obtain⟨L3,c3,u3,_⟩:=h.nots;rcases hm with rfl|rfl|rfl
  ·rw[e,u1]at hb;simp at hb
  ·rw[e,u2]at hb;simp at hb
  ·rw[e,u3]at hb;simp at hb
 have hg:=h.glob m (by rcases hm with rfl|rfl|rfl <;> simp[Zas.mut])
 exact {
  tz:=h.tz.same (hs _ (fun e=>hg.2 e.symm))
  pow:=h.pow.same (hs _ (fun e=>hg.1 e.symm))
  glob:=h.glob
  store:=by
   obtain⟨nv,vs,aW,hn,he⟩:=h.store;refine⟨nv,vs,(hs _ jA).trans aW,⟨hn.len,Zao hn.own ?_,hn.blk,fun i hi hv=>(hn.els i hi hv).same fun b c fz hb=>hs b (aT b c _ fz hb)⟩,he⟩;intro k hk;rw[hn.blk]at hk
   cases hk
   exact hs _ ec
  tree:=by
   obtain⟨c,fz,hb,hc⟩:=h.tree;exact⟨c,fz,(hs _ (aT _ c _ fz hb)).trans hb,hc⟩
  leaf:=h.leaf.same (hs _ hm3)
  uniq:=hu
  ands:=ha
  nots:=ho
  apart:=h.apart
  small:=h.small }
theorem Rep.putU{B:Zas}{s:St}{w:World}(h:Rep B s w)(k:Key)(v:Nat):Rep B { s with uniq:=(k,v) :: s.uniq } (Zap 9 Tryz.prog w B.ub (Zdl k) (Zab v)):=by
 have hm:=(h.uniq.put (ZmY Tryz.underlying9 Zce ZgW) (T:=160) Tryz.underlying160 k v).2;obtain⟨a1,a2,a3,_⟩:=h.apart;exact h.but_map (.inl rfl) (fun j hj=>Zai _ _ _ _ _ j hj) (by rw[ZaS];exact hm) (h.ands.same (Zai _ _ _ _ _ _ (Ne.symm a1))) (h.nots.same (Zai _ _ _ _ _ _ (Ne.symm a2)))
theorem Rep.putA{B:Zas}{s:St}{w:World}(h:Rep B s w)(k:Nat × Nat)(v:Nat):Rep B { s with ands:=(k,v) :: s.ands } (Zap 165 Tryz.prog w B.ab (Zga k) (Zab v)):=by
 have hm:=(h.ands.put Zh6 (T:=161) Tryz.underlying161 k v).2;obtain⟨a1,a2,a3,_⟩:=h.apart;exact h.but_map (.inr (.inl rfl)) (fun j hj=>Zai _ _ _ _ _ j hj) (h.uniq.same (Zai _ _ _ _ _ _ a1)) (by rw[ZaS];exact hm) (h.nots.same (Zai _ _ _ _ _ _ (Ne.symm a3)))
theorem Zb6:Zcx Tryz.prog 3 Zab:=Zom (α:=Nat) Tryz.underlying3 (fun n:Nat=>(n:Int)) (fun a b h=>by have h:(a:Int)=b:=h;omega)
theorem Rep.off{B:Zas}{s:St}{w w':World}{blk:Nat}{c0:Array Value}{f0:Nat × Nat}(h:Rep B s w)(hk:w.heap[blk]? =some (.cells c0 ZaO f0))(aH:blk∉B.eb)(hg:blk≠ZcR∧blk≠gTz)
  (hs:∀(k:Nat) (o:Obj),k≠blk→w.heap[k]? =some o→w'.heap[k]? =w.heap[k]?):Rep B s w':=by
 obtain⟨nv,vs,aW,hn,he⟩:=h.store;obtain⟨c',hc⟩:=hn.nbk;have n1:B.sb≠blk:=fun e=>by rw[e,hk]at aW;simp[ZaO,ZaU]at aW
 have n2:B.nb≠blk:=fun e=>by rw[e,hk]at hc;simp[ZaO,Za6]at hc
 have nm:∀ {α β:Type} [DecidableEq α] {enc:α→Value}{encV:β→Value}{b:Nat}{m:α→Option β},ZaG enc encV w b m→ZaG enc encV w' b m:=fun {α β _ enc encV b m} hm=>by
  obtain⟨L,cl,hb,ec⟩:=hm;refine⟨L,cl,(hs b _ (fun e=>?_) hb).trans hb,ec⟩;rw[e,hk]at hb;simp at hb
 exact {
  tz:=h.tz.same (hs _ _ (Ne.symm hg.2) (Array.getElem?_eq_getElem h.tz.lt'))
  pow:=h.pow.same (hs _ _ (Ne.symm hg.1) (Array.getElem?_eq_getElem h.pow.lt))
  glob:=h.glob
  store:=by
   refine⟨nv,vs,(hs _ _ n1 aW).trans aW,⟨hn.len,Zao hn.own ?_,hn.blk,fun i hi hv=>?_⟩,he⟩
   ·intro k bX
    rw[hn.blk]at bX
    cases bX
    exact hs _ _ n2 hc
   ·obtain⟨ba,c,iI,aJ⟩:=hn.els i hi hv
    refine⟨ba,c,iI,aJ.imp id ?_⟩;rintro⟨b,o,rfl,cs,fz,hb,aO⟩;have am:b∈B.eb:=he vs[i] (Zpz hv) b (by rw[iI];rfl);exact⟨b,o,rfl,cs,fz,(hs b _ (fun e=>aH (e ▸ am)) hb).trans hb,aO⟩
  tree:=by
   obtain⟨c,fz,hb,aO⟩:=h.tree;refine⟨c,fz,(hs _ _ (fun e=>?_) hb).trans hb,aO⟩;rw[e,hk]at hb;simp[ZaO]at hb
  leaf:=nm h.leaf
  uniq:=nm h.uniq
  ands:=nm h.ands
  nots:=nm h.nots
  apart:=h.apart
  small:=h.small }
theorem Rep.offMap{B:Zas}{s:St}{w w':World}{pm:Nat}{es:Array MapEntry}{cl:Nat}(h:Rep B s w)(hk:w.heap[pm]? =some (.map es cl))(aH:pm∉B.mut)(hg:pm≠ZcR∧pm≠gTz)
  (hs:∀(k:Nat),k≠pm→w'.heap[k]? =w.heap[k]?):Rep B s w':=by
 obtain⟨nv,vs,aW,hn,he⟩:=h.store;obtain⟨c',hc⟩:=hn.nbk;simp[Zas.mut]at aH;obtain⟨e1,e2,e3,e4,e5,e6⟩:=aH
 exact {
  tz:=h.tz.same (hs _ (Ne.symm hg.2))
  pow:=h.pow.same (hs _ (Ne.symm hg.1))
  glob:=h.glob
  store:=by
   refine⟨nv,vs,(hs _ (Ne.symm e1)).trans aW,⟨hn.len,Zao hn.own ?_,hn.blk,fun i hi hv=>(hn.els i hi hv).same fun b c fz hb=>hs b (fun e=>by rw[e,hk]at hb;simp at hb)⟩,he⟩;intro k bX;rw[hn.blk]at bX
   cases bX
   exact hs _ (Ne.symm e2)
  tree:=by
   obtain⟨c,fz,hb,aO⟩:=h.tree;refine⟨c,fz,(hs _ (fun e=>?_)).trans hb,aO⟩;rw[e,hk]at hb;simp at hb
  leaf:=h.leaf.same (hs _ (Ne.symm e6))
  uniq:=h.uniq.same (hs _ (Ne.symm e3))
  ands:=h.ands.same (hs _ (Ne.symm e4))
  nots:=h.nots.same (hs _ (Ne.symm e5))
  apart:=h.apart
  small:=h.small }
end Go.Proofs.YtmnjakejhbpkoaaGreatDoor
namespace Go.Proofs.YtmnjakejhbpkoaaGreatDoor
open Go Go.RowKit Go.Shelf
structure ZoZ where
 wA:World
 wAx:World
 wAxB:World
 f1:World
 wAB:World
 wABx:World
 f2:World
 wABy:World
 f3:World
 p1:Value
 p3:Value
 p4:Value
 s1:Nat
 s3:Nat
 s4:Nat
structure Zjc (P:Program) (T:TypeId) (mb:Nat) (ka va kb vb:Value) (w:World) (t:ZoZ) (Ok Fin:World→Prop):Prop where
 eA:(Instr.mapEntry T (.map (some mb)) ka).run P w= .ok (.tuple #[t.p1,.int .i64 ((t.s1:Nat):Int)]) t.wA
 eAx:(Instr.entryStore T (.map (some mb)) (.int .i64 ((t.s1:Nat):Int)) va).run P t.wA= .ok () t.wAx
 eAxB:(Instr.mapEntry T (.map (some mb)) kb).run P t.wAx= .ok (.tuple #[t.p4,.int .i64 ((t.s4:Nat):Int)]) t.wAxB
 e1:(Instr.entryStore T (.map (some mb)) (.int .i64 ((t.s4:Nat):Int)) vb).run P t.wAxB= .ok () t.f1
 eAB:(Instr.mapEntry T (.map (some mb)) kb).run P t.wA= .ok (.tuple #[t.p3,.int .i64 ((t.s3:Nat):Int)]) t.wAB
 eABx:(Instr.entryStore T (.map (some mb)) (.int .i64 ((t.s1:Nat):Int)) va).run P t.wAB= .ok () t.wABx
 e2:(Instr.entryStore T (.map (some mb)) (.int .i64 ((t.s3:Nat):Int)) vb).run P t.wABx= .ok () t.f2
 eABy:(Instr.entryStore T (.map (some mb)) (.int .i64 ((t.s3:Nat):Int)) vb).run P t.wAB= .ok () t.wABy
 e3:(Instr.entryStore T (.map (some mb)) (.int .i64 ((t.s1:Nat):Int)) va).run P t.wABy= .ok () t.f3
 oA:Ok t.wA
 oAx:Ok t.wAx
 oAxB:Ok t.wAxB
 oAB:Ok t.wAB
 oABx:Ok t.wABx
 oABy:Ok t.wABy
 d1:Fin t.f1
 d2:Fin t.f2
 d3:Fin t.f3
theorem ZmZ{P:Program}{α β:Type}[DecidableEq α]{K E T:TypeId}{enc:α→Value}{encV:β→Value}{w:World}{mb:Nat}{m:α→Option β}(h:ZaG enc encV w mb m)(law:Zcx P K enc)
  (hT:P.underlying T=some (.map K E)) (z:Value) (hz:∀w,(zeroValue E).run P w= .ok z w) (a b:α) (v u:β) (bA:a=b→v=u) :
  ∃t,Zjc P T mb (enc a) (encV v) (enc b) (encV u) w t (But mb w) (fun f=>But mb w f∧ZaG enc encV f mb (upd (upd m a v) b u)):=by
 obtain⟨L,clock,hb,hm,hg⟩:=h;have hL:ZnU enc w mb L:=⟨clock,hb,hg⟩
 have fin:∀f L',ZnU enc f mb L'→But mb w f→(∀x,Zgl L' x=if x=a then some (encV v) else if x=b then some (encV u) else Zgl L x)→But mb w f∧ZaG enc encV f mb (upd (upd m a v) b u):=by
  intro f L' hf hB hl;obtain⟨c',dx,hg'⟩:=hf;refine⟨hB,L',c',dx,fun x=>?_,hg'⟩;have:=hl x;unfold Zgl at this;rw[this,hm x];unfold upd
  by_cases h1:x=b
  ·by_cases h2:x=a
   ·have:=bA (h2.symm.trans h1)
    simp[h1,this]
   ·simp[h1,show b≠a from h1 ▸ h2]
  ·by_cases h2:x=a
   ·simp[h2,show a≠b from h2 ▸ h1]
   ·simp[h1,h2]
 obtain⟨p1,s1,wA,LA,eA,mA,oA,nA,lA,kA⟩:=ZhR hL law hT z hz a;obtain⟨wAx,LAx,eAx,mAx,oAx,lAx,kAx⟩:=Zb9 (T:=T) mA nA (encV v);obtain⟨p4,s4,wAxB,LAxB,eAxB,mAxB,oAxB,nAxB,lAxB,kAxB⟩:=ZhR mAx law hT z hz b;obtain⟨f1,L1,e1,m1,o1,l1,k1⟩:=Zb9 (T:=T) mAxB nAxB (encV u);obtain⟨p3,s3,wAB,LAB,eAB,mAB,oAB,nAB,lAB,kAB⟩:=ZhR mA law hT z hz b;obtain⟨wABx,LABx,eABx,mABx,oABx,lABx,kABx⟩:=Zb9 (T:=T) mAB (kAB _ _ nA) (encV v);obtain⟨f2,L2,e2,m2,o2,l2,k2⟩:=Zb9 (T:=T) mABx (kABx _ _ nAB) (encV u);obtain⟨wABy,LABy,eABy,mABy,oABy,lABy,kABy⟩:=Zb9 (T:=T) mAB nAB (encV u);obtain⟨f3,L3,e3,m3,o3,l3,k3⟩:=Zb9 (T:=T) mABy (kABy _ _ (kAB _ _ nA)) (encV v)
 refine⟨⟨wA,wAx,wAxB,f1,wAB,wABx,f2,wABy,f3,p1,p3,p4,s1,s3,s4⟩,⟨eA,eAx,eAxB,e1,eAB,eABx,e2,eABy,e3,oA,oA.trans oAx,(oA.trans oAx).trans oAxB,oA.trans oAB,(oA.trans oAB).trans oABx,(oA.trans oAB).trans oABy,
  fin f1 L1 m1 (((oA.trans oAx).trans oAxB).trans o1) fun x=>?_,fin f2 L2 m2 (((oA.trans oAB).trans oABx).trans o2) fun x=>?_,fin f3 L3 m3 (((oA.trans oAB).trans oABy).trans o3) fun x=>?_⟩⟩
 ·rw[l1]
  by_cases h1:x=b
  ·by_cases h2:x=a
   ·rw[if_pos h1,if_pos h2,bA (h2.symm.trans h1)]
   ·rw[if_pos h1,if_neg h2,if_pos h1]
  ·rw[if_neg h1,lAxB x h1,lAx]
   by_cases h2:x=a
   ·rw[if_pos h2]
    first|done|rw[if_pos h2]
   ·rw[if_neg h2,if_neg h2,if_neg h1,lA x h2]
 ·rw[l2]
  by_cases h1:x=b
  ·by_cases h2:x=a
   ·rw[if_pos h1,if_pos h2,bA (h2.symm.trans h1)]
   ·rw[if_pos h1,if_neg h2,if_pos h1]
  ·rw[if_neg h1,lABx]
   by_cases h2:x=a
   ·rw[if_pos h2]
    first|done|rw[if_pos h2]
   ·rw[if_neg h2,if_neg h2,if_neg h1,lAB x h1,lA x h2]
 ·rw[l3]
  by_cases h2:x=a
  ·rw[if_pos h2]
   first|done|rw[if_pos h2]
  ·rw[if_neg h2,if_neg h2,lABy]
   by_cases h1:x=b
   ·rw[if_pos h1]
    first|done|rw[if_pos h1]
   ·rw[if_neg h1,if_neg h1,lAB x h1,lA x h2]
theorem ZgA{α β:Type}[DecidableEq α](m:α→Option β)(a b:α)(v u:β)(h:a=b→v=u):upd (upd m a v) b u=upd (upd m b u) a v:=by
 funext x
 unfold upd
 by_cases h1:x=b
 ·by_cases h2:x=a
  ·simp[h1,h (h2.symm.trans h1)]
  ·simp[h1,show b≠a from h1 ▸ h2]
 ·by_cases h2:x=a
  ·simp[h2,show a≠b from h2 ▸ h1]
  ·simp[h1,h2]
theorem Rep.nots2{B:Zas}{s:St}{w f:World}(h:Rep B s w)(a b v u:Nat)(hf:But B.mb w f∧ZaG Zab Zab f B.mb (upd (upd (asc s.nots) a v) b u)) :
  Rep B { s with nots:=(b,u) :: (a,v) :: s.nots } f∧Stp [] B w B f:=by
 obtain⟨hB,hm⟩:=hf;obtain⟨a1,a2,a3,_⟩:=h.apart;refine⟨h.but_map (.inr (.inr rfl)) hB.1 (h.uniq.same (hB.1 _ a2)) (h.ands.same (hB.1 _ a3)) (by rw[ZaS,ZaS];exact hm),?_⟩;refine⟨⟨hB.2.2.1,hB.2.2.2.1,hB.2.2.2.2.1,by rw[hB.2.1];exact ZpD _,fun k hk hM=>hB.1 k (fun e=>hM (by simp[Zas.mut,e]))⟩,rfl,fun _ h=>.inl h,fun _ h=>.inl h⟩
end Go.Proofs.YtmnjakejhbpkoaaGreatDoor
