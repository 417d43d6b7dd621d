import Derived.Test.YtemnmcfmabamcaaGreatDoorYReg
import Derived.Sort.OwnSortedInts
import Derived.Laws.AppendOwnNone
set_option linter.unusedSimpArgs false
set_option linter.unusedVariables false
set_option maxRecDepth 100000
set_option maxHeartbeats 2000000
section
namespace Go.Proofs.YtemnmcfmabamcaaGreatDoor
open Go Go.RowKit Go.Shelf
def ZgH (w:World)(sb:Nat)(tv lm nv:Value)(ns:List Zac)(e:Ending)(w':World):Prop :=
 e= .returned (.tuple #[])∧w'.heap[sb]? =some (.cells #[tv,lm,nv,.map (some w.heap.size),.map (some (w.heap.size+1)),.map (some (w.heap.size+1+1))] ZaD (0,0)) ∧
   ZaI ZbT Zad w' w.heap.size (asc (L.uniqRun ns 0 []))∧w'.heap[w.heap.size+1]? =some (.map #[] 0)∧w'.heap[w.heap.size+1+1]? =some (.map #[] 0)∧Fr [sb] w w'
def Zjo (w4:World)(ub:Nat)(ns:List Zac)(k:Nat)(wr:World):Prop :=
 ∃u,ZaI ZbT Zad wr ub (asc u)∧L.uniqRun (ns.drop k) k u=L.uniqRun ns 0 []∧Fr [ub] w4 wr
theorem Fr.trans{M:List Nat}{a b c:World}(h:Fr M a b)(k:Fr M b c):Fr M a c :=
 ⟨k.os.trans h.os,k.tape.trans h.tape,k.output.trans h.output,ZrC h.size k.size,fun i hi hM=>(k.block i (ZrD hi h.size) hM).trans (h.block i hi hM)⟩
theorem Zh4(K:TypeId)(w:World)(b:Nat)(k v:Value):Fr [b] w (Zas K Tryz.prog w b k v):=by
 obtain⟨h1,h2,h3,_⟩:=Za6 (P:=Tryz.prog) K w b k v;exact⟨h1,h2,h3,by rw[Zaw];exact ZrQ _,fun j _ hM=>Zan K w b k v j (by simpa using hM)⟩
theorem Zcp.stay{w w':World}{v:Value}{l:List (Nat × Nat)}(h:Zcp w v l)(hs:∀b,b<w.heap.size→(∃c fz,w.heap[b]? =some (.cells c ZaN fz))→w'.heap[b]? =w.heap[b]?):Zcp w' v l :=
 h.same fun b c fz hb=>hs b (Zrv hb).1 ⟨c,fz,hb⟩
theorem Zi3{w:World}{sb nb:Nat}{tv lm u0 a0 m0 nv:Value}{ns:List Zac}{vs:List Value}(hP:Zaz w)(hs:w.heap[sb]? =some (.cells #[tv,lm,nv,u0,a0,m0] ZaD (0,0)))(hn:Zck w nv nb ns vs)(fw:ns.length≤1048576∧∀n∈ns,Zde n)(oe:sb≠Zdm) :
  Calls Tryz.prog 65 #[.pointer (some ⟨sb,0,none⟩)] w (ZgH w sb tv lm nv ns):=by
 have jy:∀w,(Instr.makeMap 62 none).run Tryz.prog w= .ok (.map (some w.heap.size)) (w.alloc (.map #[] 0)):=fun w=>rfl
 have hmm2:∀w,(Instr.makeMap 64 none).run Tryz.prog w= .ok (.map (some w.heap.size)) (w.alloc (.map #[] 0)):=fun w=>rfl
 have hmm3:∀w,(Instr.makeMap 65 none).run Tryz.prog w= .ok (.map (some w.heap.size)) (w.alloc (.map #[] 0)):=fun w=>rfl
 obtain⟨cap,rfl⟩:=hn.form;obtain⟨cn,zH⟩:=hn.nbk;have aR:Ext w (((w.alloc (.map #[] 0)).alloc (.map #[] 0)).alloc (.map #[] 0)):=(((Ext.refl w).alloc _).alloc _).alloc _;obtain⟨g0,g1,g2⟩:=Zec w (.map #[] 0) (.map #[] 0) (.map #[] 0);have cS:=(aR.below.block sb (Zrv hs).1).trans hs;have c2:(((w.alloc (.map #[] 0)).alloc (.map #[] 0)).alloc (.map #[] 0)).cell? ⟨sb,2,none⟩=some (.slice (some ⟨nb,0,none⟩) ns.length cap):=by simp[World.cell?,cS]
 have c3:(((w.alloc (.map #[] 0)).alloc (.map #[] 0)).alloc (.map #[] 0)).cell? ⟨sb,3,none⟩=some u0:=by simp[World.cell?,cS]
 have c4:(((w.alloc (.map #[] 0)).alloc (.map #[] 0)).alloc (.map #[] 0)).cell? ⟨sb,4,none⟩=some a0:=by simp[World.cell?,cS]
 have c5:(((w.alloc (.map #[] 0)).alloc (.map #[] 0)).alloc (.map #[] 0)).cell? ⟨sb,5,none⟩=some m0:=by simp[World.cell?,cS]
 have f3:∀j,(((w.alloc (.map #[] 0)).alloc (.map #[] 0)).alloc (.map #[] 0)).frozen? ⟨sb,j,none⟩=false:=fun j=>by simp[World.frozen?,cS]
 have f33:=f3 3;have f34:=f3 4;have f35:=f3 5;replace cS:=Zrr cS
 have hnsb:nb≠sb:=by
  intro e;rw[e,hs]at zH;simp[ZaD,Zbd]at zH
 have cY:=(Zrv hs).1;have eO:((((((w.alloc (.map #[] 0)).alloc (.map #[] 0)).alloc (.map #[] 0)).setCell ⟨sb,3,none⟩ (.map (some w.heap.size))).setCell ⟨sb,4,none⟩ (.map (some (w.heap.size+1)))).setCell ⟨sb,5,none⟩ (.map (some (w.heap.size+1+1)))).heap[sb]? =some (.cells #[tv,lm,.slice (some ⟨nb,0,none⟩) ns.length cap,.map (some w.heap.size),.map (some (w.heap.size+1)),.map (some (w.heap.size+1+1))] ZaD (0,0)):=Zaj (Zaj (Zaj cS.out 3 _) 4 _) 5 _
 have an:∀k,k≠sb→((((((w.alloc (.map #[] 0)).alloc (.map #[] 0)).alloc (.map #[] 0)).setCell ⟨sb,3,none⟩ (.map (some w.heap.size))).setCell ⟨sb,4,none⟩ (.map (some (w.heap.size+1)))).setCell ⟨sb,5,none⟩ (.map (some (w.heap.size+1+1)))).heap[k]? =(((w.alloc (.map #[] 0)).alloc (.map #[] 0)).alloc (.map #[] 0)).heap[k]?:=fun k hk =>
  (Below.heap_setCell _ _ _ _ hk).trans ((Below.heap_setCell _ _ _ _ hk).trans (Below.heap_setCell _ _ _ _ hk))
 have et:Fr [sb] w ((((((w.alloc (.map #[] 0)).alloc (.map #[] 0)).alloc (.map #[] 0)).setCell ⟨sb,3,none⟩ (.map (some w.heap.size))).setCell ⟨sb,4,none⟩ (.map (some (w.heap.size+1)))).setCell ⟨sb,5,none⟩ (.map (some (w.heap.size+1+1)))) :=
  ⟨rfl,rfl,rfl,by simp[World.setCell];omega,fun k hk hM=>(an k (by simpa using hM)).trans (aR.below.block k hk)⟩
 have k0:=(an _ (by omega)).trans g0;have k1:=(an _ (by omega)).trans g1;have k2:=(an _ (by omega)).trans g2;clear f3 an g0 g1 g2 aR;replace eO:=Zrr eO;replace et:=Zrr et;replace k0:=Zrr k0;replace k1:=Zrr k1;replace k2:=Zrr k2;replace zH:=Zrr zH;replace hn:=Zrr hn;replace hs:=Zrr hs;replace fw:=Zrr fw;have bU:ns.length≤1048576:=fw.out.1
 go_enter Tryz.func65,Tryz.ntmps65
 go_wp2_with fail;generalize (((((w.alloc (.map #[] 0)).alloc (.map #[] 0)).alloc (.map #[] 0)).setCell ⟨sb,3,none⟩ (.map (some w.heap.size))).setCell ⟨sb,4,none⟩ (.map (some (w.heap.size+1)))).setCell ⟨sb,5,none⟩ (.map (some (w.heap.size+1+1)))=w4 at *;have mB:w.heap.size+1+1<w4.heap.size:=(Zrv k2.out).1;generalize hub:w.heap.size=ub at *;have ut:∀wr,Fr [ub] w4 wr→Zaz wr:=fun wr hf=>hP.same ((hf.block _ (by have:=hP.lt;omega) (by have:=hP.lt;simp;omega)).trans (et.out.block _ (by have:=hP.lt;omega) (by simp;omega)))
 have dG:∀wr,Fr [ub] w4 wr→∀b,b<ub→b≠sb→wr.heap[b]? =w.heap[b]?:=fun wr hf b hb aJ=>(hf.block b (by omega) (by simp;omega)).trans (et.out.block b (by omega) (by simpa using aJ))
 have zK:Hid (∀wr,Fr [ub] w4 wr→∀k (hk:k<ns.length) (hv:k<vs.length),wr.cell? ⟨nb,k*5,none⟩=some (.int .i64 ns[k].pl)∧wr.cell? ⟨nb,k*5+1,none⟩=some (.int .i64 ns[k].lit)∧wr.cell? ⟨nb,k*5+2,none⟩=some vs[k] ∧
   wr.cell? ⟨nb,k*5+3,none⟩=some (.int .u64 (lo ns[k].le))∧wr.cell? ⟨nb,k*5+4,none⟩=some (.int .u64 (hi ns[k].le))∧Zcp wr vs[k] ns[k].el):=Zrr fun wr hf k hk hv=>by
  have hb:wr.heap[nb]? =w.heap[nb]?:=dG wr hf nb (by have:=(Zrv zH.out).1;omega) hnsb;obtain⟨n0,n1,n2,n3,n4⟩:=hn.out.cells k hk hv;have tr:∀o,wr.cell? ⟨nb,o,none⟩=w.cell? ⟨nb,o,none⟩:=fun o=>World.cell?_of_block (a:=⟨nb,o,none⟩) hb
  refine⟨(tr _).trans n0,(tr _).trans n1,(tr _).trans n2,(tr _).trans n3,(tr _).trans n4,(hn.out.els k hk hv).stay fun b hb hc=>dG wr hf b (by omega) fun e=>?_⟩;obtain⟨c,fz,hc⟩:=hc;rw[e,hs.out]at hc;simp[ZaD,ZaN]at hc
 have hsc:Hid (∀wr,Fr [ub] w4 wr→wr.heap[sb]? =w4.heap[sb]?):=Zrr fun wr hf=>hf.block sb (by omega) (by simp;omega)
 have j6:vs.length=ns.length:=hn.out.len;replace dG:=Zrr dG;replace ut:=Zrr ut;have kg:Hid (Zjo w4 ub ns 0 w4):=Zrr ⟨[],ZbG _ _ k0.out,rfl,Fr.refl _ _⟩;clear c2 c3 c4 c5 f33 f34 f35;replace hub:=Zrr hub
 go_loopw [21] (fun i wr=>∃k:Nat,k≤ns.length∧i= .int .i64 k∧Hid (Zjo w4 ub ns k wr)) (fun i _=>ns.length - (intOf i).toNat)
 case atStart=>exact⟨0,Nat.zero_le _,rfl,kg⟩
 case round =>
  clear kg;obtain⟨k,hk,rfl,hI⟩:=hrel;obtain⟨u,hu,tN,hf⟩:=hI.out;clear hI
  by_cases aD:k<ns.length
  ·obtain⟨n0,n1,n2,n3,n4,cN⟩:=zK.out wr hf k aD (by omega)
   rw[List.drop_eq_getElem_cons aD,L.uniqRun]at tN;have ny:=fw.out.2 _ (ZrM aD);generalize ns[k]=n at *;generalize vs[k]'(by omega)=v at *;obtain⟨bv,cv,rfl,aT⟩:=id cN;clear aT;have qn:Fr [ub] w4 (wr.alloc (.cells #[.int .i64 n.pl,.int .i64 n.lit,.slice bv n.el.length cv,.int .u64 (lo n.le),.int .u64 (hi n.le)] 101)):=hf.trans (Fr.of_below ((ZrE _ _).alloc (ZrQ _) _));have aC:=Zrz wr (.cells #[.int .i64 n.pl,.int .i64 n.lit,.slice bv n.el.length cv,.int .u64 (lo n.le),.int .u64 (hi n.le)] 101);have uX:Zcp (wr.alloc (.cells #[.int .i64 n.pl,.int .i64 n.lit,.slice bv n.el.length cv,.int .u64 (lo n.le),.int .u64 (hi n.le)] 101)) (.slice bv n.el.length cv) n.el:=cN.stay fun b hb _=>Below.heap_alloc _ _ _ hb
   have hu2:=hu.same (w':=wr.alloc (.cells #[.int .i64 n.pl,.int .i64 n.lit,.slice bv n.el.length cv,.int .u64 (lo n.le),.int .u64 (hi n.le)] 101)) (Below.heap_alloc _ _ _ hu.lt);have hxs:wr.heap.size<(wr.alloc (.cells #[.int .i64 n.pl,.int .i64 n.lit,.slice bv n.el.length cv,.int .u64 (lo n.le),.int .u64 (hi n.le)] 101)).heap.size:=by simp
   have hubx:=hu.lt;have hwx:=hf.size;replace uX:=Zrr uX;replace hu2:=Zrr hu2;replace qn:=Zrr qn;replace aC:=Zrr aC;replace hu:=Zrr hu;replace tN:=Zrr tN;replace hf:=Zrr hf;clear cN
   by_cases hp:0≤n.pl
   ·have dp:decide (n.pl≥0)=true:=ZrI hp
    go_wp2_with fail;generalize pY:wr.alloc (.cells #[.int .i64 n.pl,.int .i64 n.lit,.slice bv n.el.length cv,.int .u64 (lo n.le),.int .u64 (hi n.le)] 101)=wb at *;generalize wr.heap.size=x at *
    have hF:Hid (∀W:World,W.heap[sb]? =wb.heap[sb]?→W.heap[x]? =wb.heap[x]?→W.cell? ⟨sb,3,none⟩=some (.map (some ub))∧W.cell? ⟨x,0,none⟩=some (.int .i64 n.pl)∧W.cell? ⟨x,1,none⟩=some (.int .i64 n.lit)∧W.cell? ⟨x,2,none⟩=some (.slice bv n.el.length cv)∧W.cell? ⟨x,3,none⟩=some (.int .u64 (lo n.le))∧W.cell? ⟨x,4,none⟩=some (.int .u64 (hi n.le))):=Zrr fun W h1 h2=>by
     rw[hsc.out wb qn.out,eO.out]at h1;rw[aC.out]at h2;exact⟨by simp[World.cell?,h1],by simp[World.cell?,h2],by simp[World.cell?,h2],by simp[World.cell?,h2],by simp[World.cell?,h2],by simp[World.cell?,h2]⟩
    have jS:x<wb.heap.size:=(Zrv aC.out).1;obtain⟨s1,s2,s3,s4,s5,s6⟩:=ny;have hkey:=ZiH n.pl n.lit n.el (.slice bv n.el.length cv) (lo n.le) (hi n.le) wb.drew (ut.out wb qn.out) (uX.out.stay (fun b _ _=>rfl)).slp ⟨s5,s6⟩ s1 s2 s3 s4;have vA:sb<wb.heap.size:=by have:=qn.out.size;omega
    have hubl:ub<wb.heap.size:=by have:=qn.out.size;omega
    replace pY:=Zrr pY;(refine wp_region_held_drew (S:=(fun W=>W.cell? ⟨sb,3,none⟩=some (.map (some ub))∧W.cell? ⟨x,0,none⟩=some (.int .i64 n.pl)∧W.cell? ⟨x,1,none⟩=some (.int .i64 n.lit)∧W.cell? ⟨x,2,none⟩=some (.slice bv n.el.length cv)∧W.cell? ⟨x,3,none⟩=some (.int .u64 (lo n.le))∧W.cell? ⟨x,4,none⟩=some (.int .u64 (hi n.le)))) (by kernel_rfl) ?_ (fun aE=>?_))
    ·exact hF.out _ rfl rfl
    (refine ZrR (i:=0) (v:=?_) rfl (by kernel_rfl) (fun _ _ _ h=>h) (Or.inl ⟨by rfl,?_⟩) (by assumption) ?_);rotate_left
    ·(intro w aB;(try dsimp only at aB);go_simp;first|done|with_reducible rfl)
    (try simp only[Act.put,Zrs,Zrt,Zru]);(refine ZrR (i:=1) (v:=?_) rfl (by kernel_rfl) (fun _ _ _ h=>h) (Or.inl ⟨by rfl,?_⟩) (by assumption) ?_);rotate_left
    ·(intro w aB;(try dsimp only at aB);go_simp;first|done|with_reducible rfl)
    (try simp only[Act.put,Zrs,Zrt,Zru]);(refine ZrR (i:=2) (v:=?_) rfl (by kernel_rfl) (fun _ _ _ h=>h) (Or.inl ⟨by rfl,?_⟩) (by assumption) ?_);rotate_left
    ·(intro w aB;(try dsimp only at aB);go_simp;first|done|with_reducible rfl)
    (try simp only[Act.put,Zrs,Zrt,Zru]);(refine ZrR (i:=3) (v:=?_) rfl (by kernel_rfl) (fun _ _ _ h=>h) (Or.inl ⟨by rfl,?_⟩) (by assumption) ?_);rotate_left
    ·(intro w aB;(try dsimp only at aB);go_simp;first|done|with_reducible rfl)
    (try simp only[Act.put,Zrs,Zrt,Zru]);(refine ZrR (i:=4) (v:=?_) rfl (by kernel_rfl) (fun _ _ _ h=>h) (Or.inl ⟨by rfl,?_⟩) (by assumption) ?_);rotate_left
    ·(intro w aB;(try dsimp only at aB);go_simp;first|done|with_reducible rfl)
    (try simp only[Act.put,Zrs,Zrt,Zru]);(refine ZrR (i:=6) (v:=?_) rfl (by kernel_rfl) (fun _ _ _ h=>h) (Or.inl ⟨by rfl,?_⟩) (by assumption) ?_);rotate_left
    ·(intro w aB;(try dsimp only at aB);go_simp;first|done|with_reducible rfl)
    (try simp only[Act.put,Zrs,Zrt,Zru]);(refine wpAnyH_ready (rs:=[5]) (by kernel_rfl) (by simp) ?_);(refine ZaW rfl (fun K hK=>?_))
    ((rw[if_pos (by rfl)]);go_simp;(go_at_call 98);refine hkey.mono ?_;rintro e wa ⟨rfl,fg⟩;have g1:wa.heap[sb]? =wb.heap[sb]?:=fg.block sb vA;have g2:wa.heap[x]? =wb.heap[x]?:=fg.block x jS;have hua:=Zrr (hu2.out.same (w':=wa) (fg.block ub hubl));have hfa:=Zrr (qn.out.trans ((Fr.of_below (M:=[ub]) (ZrE wb.heap.size wb).drew).trans (Fr.of_below fg)));refine hK.out _ _ (hF.out _ g1 g2) (fun aE=>?_))
    (clear hK K)
    (try simp only[Act.put,Zrs,Zrt,Zru]);obtain⟨iQ,hM⟩:=hua.out.put Zg1 (T:=64) Tryz.underlying64 (n.pl,n.lit,n.el) k;have za:(Instr.mapUpdate 64 (.map (some ub)) (.string ⟨(Zhs n.pl n.lit n.el).toArray⟩) (.int .i64 (k:Nat))).run Tryz.prog wa= .ok () (Zas 9 Tryz.prog wa ub (ZbT (n.pl,n.lit,n.el)) (Zad k)):=iQ
    have aA:Hid (Zjo w4 ub ns (k+1) (Zas 9 Tryz.prog wa ub (ZbT (n.pl,n.lit,n.el)) (Zad k))):=Zrr
     ⟨((n.pl,n.lit,n.el),k) :: u,by rw[ZaH];exact hM,by have:=tN.out;rwa [if_pos hp]at this,hfa.out.trans (Zh4 _ _ _ _ _)⟩
    have g3:=(Zan (P:=Tryz.prog) 9 wa ub (ZbT (n.pl,n.lit,n.el)) (Zad k) sb (by omega)).trans g1;have g4:=(Zan (P:=Tryz.prog) 9 wa ub (ZbT (n.pl,n.lit,n.el)) (Zad k) x (by omega)).trans g2;clear iQ hM hua;generalize Zas 9 Tryz.prog wa ub (ZbT (n.pl,n.lit,n.el)) (Zad k)=wz at *;(refine wpAnyH_ready (rs:=[7]) (by kernel_rfl) (by simp) ?_);(refine ZaW rfl (fun K hK=>?_))
    ((rw[if_pos (by rfl)]);go_simp;refine hK.out _ _ (hF.out _ g3 g4) (fun aE=>?_))
    (clear hK K)
    (try simp only[Act.put,Zrs,Zrt,Zru]);(refine wpAnyH_done (by kernel_rfl) ?_ _);clear g1 g2 g3 g4 za;go_wp2_with fail;go_roundw
    case rel=>exact⟨k+1,by omega,by go_num,aA⟩
    case measure=>simp[intOf];omega
   ·have dp:decide (n.pl≥0)=false:=ZrH hp
    have aA:Hid (Zjo w4 ub ns (k+1) (wr.alloc (.cells #[.int .i64 n.pl,.int .i64 n.lit,.slice bv n.el.length cv,.int .u64 (lo n.le),.int .u64 (hi n.le)] 101))):=Zrr ⟨u,hu2.out,by have:=tN.out;rwa [if_neg hp]at this,qn.out⟩;go_wp2_with fail;go_roundw
    case rel=>exact⟨k+1,by omega,by go_num,aA⟩
    case measure=>simp[intOf];omega
  ·obtain rfl:k=ns.length:=by omega
   rw[List.drop_length]at tN
   have aa:Hid (ZgH w sb tv lm (.slice (some ⟨nb,0,none⟩) ns.length cap) ns (.returned (.tuple #[])) wr):=Zrr (by
    have hw:=hub.out;unfold ZgH;rw[hw]
    exact⟨rfl,(hsc.out wr hf).trans eO.out,by rw[←tN];exact hu,(hf.block _ (by omega) (by simp)).trans k1.out,(hf.block _ (by omega) (by simp;omega)).trans k2.out,
     hf.os.trans et.out.os,hf.tape.trans et.out.tape,hf.output.trans et.out.output,ZrC et.out.size hf.size,fun b hb hM=>dG.out wr hf b (by omega) (by simpa using hM)⟩)
   clear hu tN hf;go_wp2_with fail
   go_end0
   exact aa.out
theorem Fr.seq{M N:List Nat}{w0 w w':World}(h:Fr N w0 w)(k:Fr M w w')(hM:∀x∈M,x∈N∨w0.heap.size≤x):Fr N w0 w' :=
 ⟨k.os.trans h.os,k.tape.trans h.tape,k.output.trans h.output,ZrC h.size k.size,fun i hi hn=>(k.block i (ZrD hi h.size) (fun hc=>(hM i hc).elim hn (fun h=>by omega))).trans (h.block i hi hn)⟩
theorem Fr.setCell{w:World}(b o:Nat)(v:Value):Fr [b] w (w.setCell ⟨b,o,none⟩ v) :=
 ⟨rfl,rfl,rfl,by simp[World.setCell],fun k _ hk=>Below.heap_setCell _ _ _ _ (by simpa using hk)⟩
theorem Fr.get{M:List Nat}{w w':World}(h:Fr M w w'){k:Nat}{o:Obj}(hk:w.heap[k]? =some o)(hM:k∉M):w'.heap[k]? =some o:=(h.block k (Zrv hk).1 hM).trans hk
theorem ZeF{w:World}{ops:Array Oper}{rest:List Oper}{o:Oper}{a:Act}{Q:Exit→Act→World→Prop}(wN:o.guard=none)(s x:Operand)
  (ho:o.op= .call { callee:=.builtin .append,args:=#[s,x],argTypes:=#[76,76] }) (base:Nat) (i:TypeInfo) (hi:Tryz.prog.info? 3=some i) (hz:i.zero=some (.int .i64 0)) (zm:i.size=1) (hby:i.bytes=8)
  (v:Value) (n:Nat) (xs:List Value) (hs:a.eval s=v) (bR:w.ownsRow base 3 1 v n xs) (ba:Option Addr) (c:Nat) (l:List Int) (hx:a.eval x= .slice ba l.length c)
  (cY:(ba=none∧l=[]∧c=0)∨∃b o,ba=some ⟨b,o,none⟩∧∀j (hj:j<l.length),w.cell? ⟨b,o+j,none⟩=some (.int .i64 l[j])) (hn:n+l.length≤1100000) (bI:base≤w.heap.size)
  (h:∀v' w',w'.ownsRow base 3 1 v' (n+l.length) (xs++l.map Zce)→w.grownBy w' v.ownBlock→wpList Tryz.prog ops Q rest (a.put o.dst v') w'):wpList Tryz.prog ops Q (o :: rest) a w:=by
 rcases cY with ⟨rfl,rfl,rfl⟩|⟨b,of,rfl,hc⟩
 ·exact wpList_append_own_none wN s x 76 ho base 3 i 1 Tryz.underlying76 hi v n xs hs bR hx (h v w (by simpa using bR) ⟨rfl,rfl,rfl,ZrQ _,fun _ _ _=>rfl⟩)
 ·refine wpList_append_own (w:=w) wN s x 76 ho base 3 i _ 1 8 Tryz.underlying76 hi hz zm hby rfl (by decide) v n xs hs bR ⟨b,of,none⟩ l.length c (l.map Zce) hx (by simp) (fun j u hj=>?_) (fun u hu=>?_) (by unfold maxLen;omega) (by omega) bI (fun v' w' h1 h2 _=>h v' w' h1 h2)
  ·obtain⟨z,aj,rfl⟩:=List.getElem?_map .. ▸ hj |> Option.map_eq_some_iff.1
   obtain⟨db,rfl⟩:=Zrw aj;rw[Addr.add_lit];exact hc j db
  ·obtain⟨z,_,rfl⟩:=List.mem_map.1 hu
   rfl
theorem ZnN{w:World}{v:Value}{l:List (Nat × Nat)}(h:Zcp w v l)(hl:l.length≤1048576):Calls Tryz.prog 118 #[v] w fun e w'=>∃ba cap,e= .returned (.slice ba l.length cap)∧((l=[]∧ba=none∧cap=0)∨∃(g:Nat) (cs:Array Value),ba=some ⟨g,0,none⟩∧w.heap.size≤g∧w'.heap[g]? =some (.cells cs ZaN (0,0))∧∀(j:Nat) (u:Value),(ZaO l)[j]? =some u→cs[j]? =some u)∧Below w.heap.size w w':=by
 obtain⟨ba,c,rfl,⟨rfl,rfl,rfl⟩|⟨b,o,rfl,hr⟩⟩:=h
 ·refine(Zc3 w).mono ?_
  rintro e w' ⟨rfl,rfl⟩;exact⟨none,0,rfl,.inl ⟨rfl,rfl,rfl⟩,ZrE _ _⟩
 ·refine(ZdJ w b o c l hr hl).mono ?_
  rintro e w' ⟨g,cap,cs,rfl,h1,h2,h3,h4⟩;exact⟨_,cap,rfl,.inr ⟨g,cs,rfl,h1,h2,fun j u hj=>by have:=h3 j u hj;rwa [Nat.zero_add]at this⟩,h4⟩
theorem Zov{w:World}{base:Nat}{v:Value}{l:List Nat}(ho:w.ownsRow base 3 1 v l.length (l.map ZbP))(aJ:l≠[])(hl:l.length≤1048576) :
  Calls Tryz.prog 121 #[v] w fun e w'=>e= .returned (.tuple #[])∧∃b:List Nat,b.Perm l∧b.Pairwise (·≤·)∧w'.ownsRow base 3 1 v b.length (b.map ZbP)∧w.grownBy w' v.ownBlock:=by
 rcases ho.2 with ⟨rfl,e⟩|⟨g,cap,cur,rfl,bI,hb,h1,h2,h3,h4⟩
 ·exact absurd (List.length_eq_zero_iff.1 e) aJ
 ·have em:l.map ZbP=(l.map fun n:Nat=>(n:Int)).map (Value.int .i64):=by rw[List.map_map];rfl
  rw[em,show l.length=(l.map fun n:Nat=>(n:Int)).length by simp]at h4;have dU:=AnyM.slices_Sort_int Tryz.sortInt g 0 cap (l.map fun n:Nat=>(n:Int)) w (holds_of_blockI hb (by simpa using h4)) (Zrv hb).1 (by simp;omega);have bJ:=List.mergeSort_perm (l.map fun n:Nat=>(n:Int)) (fun x y=>decide (x≤y));have fu:=List.pairwise_mergeSort (le:=fun x y:Int=>decide (x≤y)) (by intro a b c h1 h2;simp only[ZrN]at *;omega) (by intro a b;simp only[Bool.or_eq_true,ZrN];omega) (l.map fun n:Nat=>(n:Int));generalize hz:(l.map fun n:Nat=>(n:Int)).mergeSort (fun x y=>decide (x≤y))=zs at *
  obtain⟨b,uO⟩:∃b:List Nat,zs=b.map fun n:Nat=>(n:Int):=by
   refine⟨zs.map Int.toNat,?_⟩;rw[List.map_map]
   have:∀z∈zs,((fun n:Nat=>(n:Int)) ∘ Int.toNat) z=z:=fun z qG=>by
    obtain⟨n,_,rfl⟩:=List.mem_map.1 (bJ.mem_iff.1 qG);simp
   exact(List.map_congr_left this).trans (List.map_id zs) |>.symm
  subst uO
  have rA:∀ {a c:List Nat},(a.map fun n:Nat=>(n:Int)).Perm (c.map fun n:Nat=>(n:Int))→a.Perm c:=fun {a c} h=>by
   have:=h.map Int.toNat;simpa [List.map_map,Function.comp_def] using this
  rw[List.length_map]at dU;refine dU.mono ?_;rintro e w' ⟨rfl,n,os,rfl⟩;have dv:b.length=l.length:=(rA bJ).length_eq;refine⟨rfl,b,rA bJ,?_,?_,grownBy_sortedI _⟩
  ·rw[List.pairwise_map]at fu
   exact fu.imp fun h=>by simpa using h
  ·have:=ownsRow_sortedI (n:=n) (os:=os) (ss:=l.map fun n:Nat=>(n:Int)) (ts:=b.map fun n:Nat=>(n:Int)) (by simp[dv]) bI hb (by simpa using h1) h2 h3
   have e2:b.map ZbP=(b.map fun n:Nat=>(n:Int)).map (Value.int .i64):=by rw[List.map_map];rfl
   rw[e2,dv];simpa using this
structure Zo8 (ns:List Zac) (b:List Nat) (w8:World) (pm g i:Nat) (wr:World):Prop where
 nums:∃m,ZaI Zad Zad wr pm (asc m)∧∀j (hj:j<b.length),j<i→asc m b[j]=some j
 row:∃(cs:Array Value) (vs:List Value),wr.heap[g]? =some (.cells cs Zbd (0,0))∧cs.size=b.length*5∧vs.length=i∧(∀(j:Nat) (u:Value),(Zcl ((L.keepNodes ns b).take i) vs)[j]? =some u→cs[j]? =some u)∧(∀j (hj:j<vs.length) (hk:j<(L.keepNodes ns b).length),Zcp wr vs[j] (L.keepNodes ns b)[j].el)∧∀v∈vs,∀x,v.ownBlock=some x→w8.heap.size≤x
 fr:Fr [pm,g] w8 wr
def ElL (el:List (Nat × Nat))(f:Nat × Nat→Nat × Nat)(tX:World)(bc:Option Addr)(lo k:Nat)(wr:World):Prop :=
 Below lo tX wr∧((el=[]∧bc=none)∨∃(h:Nat) (cs:Array Value),bc=some ⟨h,0,none⟩∧lo≤h∧wr.heap[h]? =some (.cells cs ZaN (0,0))∧∀(j:Nat) (u:Value),(ZaO ((el.take k).map f++el.drop k))[j]? =some u→cs[j]? =some u)
theorem ZhO{l:List (Nat × Nat)}{j:Nat}{u:Value}(h:(ZaO l)[j]? =some u):j<l.length*2:=by
 have:=(Zrw h).1;rw[Zcs]at this;omega
theorem ZlW{l m:List (Nat × Nat)}{k:Nat}{q:Nat × Nat}(hk:k<l.length)(hm:m=l.set k q){cs:Array Value}(hc:∀(j:Nat) (u:Value),(ZaO l)[j]? =some u→cs[j]? =some u) :
  ∀(j:Nat) (u:Value),(ZaO m)[j]? =some u→((cs.setIfInBounds (k*2) (.int .i64 (q.1:Nat))).setIfInBounds (k*2+1) (.int .i64 (q.2:Nat)))[j]? =some u:=by
 subst hm;intro j u hj;have db:=ZhO hj;rw[List.length_set]at db
 have ac:l.length*2≤cs.size:=by
  have h1:=(Za3 l (l.length - 1) (by omega)).2;have:=(Zrv (hc _ _ h1)).1;omega
 rw[Array.getElem?_setIfInBounds,Array.getElem?_setIfInBounds];obtain⟨t,ht⟩:∃t,j=t*2∨j=t*2+1:=⟨j / 2,by omega⟩;have eH:t<l.length:=by omega
 have htl2:t<(l.set k q).length:=by rw[List.length_set];exact eH
 obtain⟨g1,g2⟩:=Za3 (l.set k q) t htl2;obtain⟨o1,o2⟩:=Za3 l t eH;rw[List.getElem_set]at g1 g2;rcases ht with rfl|rfl
 ·rw[if_neg (by omega)]
  rw[g1]at hj
  by_cases e:k=t
  ·subst e
   rw[if_pos rfl,if_pos (by omega)];rw[if_pos rfl]at hj;exact hj
  ·rw[if_neg (by omega)]
   rw[if_neg e]at hj;rw[←hj];exact hc _ _ o1
 ·rw[g2]at hj
  by_cases e:k=t
  ·subst e
   rw[if_pos rfl,if_pos (by simp;omega)];rw[if_pos rfl]at hj;exact hj
  ·rw[if_neg (by omega),if_neg (by omega)]
   rw[if_neg e]at hj;rw[←hj];exact hc _ _ o2
theorem ZpK(el:List (Nat × Nat))(f:Nat × Nat→Nat × Nat)(k:Nat)(hk:k<el.length):(el.take (k+1)).map f++el.drop (k+1)=((el.take k).map f++el.drop k).set k (f el[k]):=by
 apply List.ext_getElem?
 intro j;rw[List.getElem?_set];have hl:((el.take k).map f).length=k:=by simp;omega
 have fN:((el.take (k+1)).map f).length=k+1:=by simp;omega
 rcases Nat.lt_trichotomy j k with h|h|h
 ·rw[if_neg (by omega),List.getElem?_append_left (by omega),List.getElem?_append_left (by omega),List.getElem?_map,List.getElem?_map,List.getElem?_take_of_lt h,List.getElem?_take_of_lt (by omega)]
 ·subst h
  rw[if_pos rfl,List.getElem?_append_left (by omega),List.getElem?_map,List.getElem?_take_of_lt (by omega),Zry hk];rw[if_pos (by simp;omega)];rfl
 ·rw[if_neg (by omega),List.getElem?_append_right (by omega),List.getElem?_append_right (by omega),hl,fN,List.getElem?_drop,List.getElem?_drop]
  congr 1
  omega
theorem ZpJ(el:List (Nat × Nat))(f:Nat × Nat→Nat × Nat)(k:Nat)(hk:k<el.length):∃h:k<((el.take k).map f++el.drop k).length,((el.take k).map f++el.drop k)[k]=el[k]:=by
 have hl:((el.take k).map f).length=k:=by simp;omega
 refine⟨by simp;omega,?_⟩;rw[List.getElem_append_right (by omega)];simp only[List.getElem_drop]
 congr 1
 omega
theorem ZlU{ns:List Zac}{vs:List Value}{n:Zac}{v:Value}{i:Nat}(hl:vs.length=ns.length)(bC:ns.length=i){cs:Array Value}{N:Nat}(hs:cs.size=N*5)(hN:i<N)(hc:∀(j:Nat) (u:Value),(Zcl ns vs)[j]? =some u→cs[j]? =some u) :
  ∀(j:Nat) (u:Value),(Zcl (ns++[n]) (vs++[v]))[j]? =some u→(((((cs.setIfInBounds (i*5) (.int .i64 n.pl)).setIfInBounds (i*5+1) (.int .i64 n.lit)).setIfInBounds (i*5+2) v).setIfInBounds (i*5+3) (.int .u64 (lo n.le))).setIfInBounds (i*5+4) (.int .u64 (hi n.le)))[j]? =some u:=by
 intro j u hj;rw[Zet _ _ _ _ hl]at hj;have jk:=Zd0 ns vs hl
 by_cases aD:j<ns.length*5
 ·rw[List.getElem?_append_left (by omega)]at hj
  simp only[Array.getElem?_setIfInBounds];rw[if_neg (by omega),if_neg (by omega),if_neg (by omega),if_neg (by omega),if_neg (by omega)];exact hc j u hj
 ·rw[List.getElem?_append_right (by omega),jk]at hj
  obtain⟨t,rfl⟩:∃t,j=i*5+t:=⟨j - i*5,by omega⟩;have e:i*5+t - ns.length*5=t:=by omega
  rw[e]at hj
  have ht:t<5:=by
   have:=(Zrw hj).1;simpa [ZaR] using this
  simp only[Array.getElem?_setIfInBounds,Array.size_setIfInBounds]
  match t,ht with
  | 0,_=>rw[if_neg (by omega),if_neg (by omega),if_neg (by omega),if_neg (by omega),if_pos (by omega),if_pos (by omega)];simpa [ZaR] using hj
  | 1,_=>rw[if_neg (by omega),if_neg (by omega),if_neg (by omega),if_pos (by omega),if_pos (by omega)];simpa [ZaR] using hj
  | 2,_=>rw[if_neg (by omega),if_neg (by omega),if_pos (by omega),if_pos (by omega)];simpa [ZaR] using hj
  | 3,_=>rw[if_neg (by omega),if_pos (by omega),if_pos (by omega)];simpa [ZaR] using hj
  | 4,_=>rw[if_pos (by omega),if_pos (by omega)];simpa [ZaR] using hj
end Go.Proofs.YtemnmcfmabamcaaGreatDoor
end
