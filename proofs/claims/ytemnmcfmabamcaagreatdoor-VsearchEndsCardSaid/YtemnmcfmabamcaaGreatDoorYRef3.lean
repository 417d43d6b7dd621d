import Derived.Test.YtemnmcfmabamcaaGreatDoorYAnd
set_option linter.unusedSimpArgs false
set_option linter.unusedVariables false
set_option maxRecDepth 100000
set_option maxHeartbeats 20000000
namespace Go.Proofs.YtemnmcfmabamcaaGreatDoor
open Go Go.RowKit
theorem ZmT(x:BitVec 64)(n:Nat):((((x.toNat:Int) / 2 ^ n).tmod 2) ==1)=x.getLsbD n:=by
 have h1:((x.toNat:Int) / 2 ^ n)=((x.toNat / 2 ^ n:Nat):Int):=by simp
 rw[h1]
 have h2:(((x.toNat / 2 ^ n:Nat):Int)).tmod 2=((x.toNat / 2 ^ n % 2:Nat):Int):=by
  rw[Int.tmod_eq_emod_of_nonneg (Int.natCast_nonneg _)];simp
 rw[h2,BitVec.getLsbD,Nat.testBit_eq_decide_div_mod_eq];rw[Bool.eq_iff_iff];simp;omega
theorem ZqO(a:Zax)(v:Int)(h1:1≤v)(h2:v≤64):((lo a / 2 ^ (v.toNat - 1)).tmod 2 ==1)=ZaZ a v:=by
 rw[lo,ZmT,BitVec.getLsbD_setWidth];have e1:v.toNat - 1=(v - 1).toNat:=by omega
 rw[e1];simp only[ZaZ,h1,show v≤128 from by omega,show (v-1).toNat<64 from by omega,decide_true,Bool.true_and]
theorem ZqN(a:Zax)(v:Int)(h1:65≤v)(h2:v≤128):((hi a / 2 ^ (v - 65).toNat).tmod 2 ==1)=ZaZ a v:=by
 have e1:64+(v - 65).toNat=(v - 1).toNat:=by omega
 rw[hi,ZmT,BitVec.getLsbD_setWidth,BitVec.getLsbD_ushiftRight,e1];simp only[ZaZ,h2,show 1≤v from by omega,show (v-65).toNat<64 from by omega,decide_true,Bool.true_and]
theorem ZmF(a:Zax)(v:Int)(w:World)(h:v<1∨128<v):Calls Tryz.prog 111 #[ZbU a,.int .i64 v] w fun e w'=>e= .returned (.bool false)∧Ext w w':=by
 have hx:=(Ext.refl w).alloc (.cells #[.int .u64 (lo a),.int .u64 (hi a)] 82);unfold ZbU
 by_cases h1:v<1
 ·have d0:decide (v<1)=true:=ZrI h1
  go_enter Tryz.func111,Tryz.ntmps111
  go_wp2_with fail
  all_goals go_ret
  all_goals exact⟨rfl,hx⟩
 ·have d0:decide (v<1)=false:=ZrH h1
  have d1:decide (128<v)=true:=ZrI (by omega)
  go_enter Tryz.func111,Tryz.ntmps111
  go_wp2_with fail
  all_goals go_ret
  all_goals exact⟨rfl,hx⟩
theorem ZmE(a:Zax)(v:Int)(w:World)(h1:1≤v)(h2:v≤64):Calls Tryz.prog 111 #[ZbU a,.int .i64 v] w fun e w'=>e= .returned (.bool (ZaZ a v))∧Ext w w':=by
 have hx:=(Ext.refl w).alloc (.cells #[.int .u64 (lo a),.int .u64 (hi a)] 82);have d1:decide (v<1)=false:=ZrH (by omega);have d2:decide (v > 128)=false:=ZrH (by omega);have e1:(v - 1) / 64=0:=by omega
 have e2:(v - 1) % 64=v - 1:=by omega
 have hb:=Zrr (ZqO a v h1 h2);unfold ZbU
 go_enter Tryz.func111,Tryz.ntmps111
 go_wp2_with fail;go_ret;exact⟨by rw[←hb.out] <;> rfl,hx⟩
theorem ZmD(a:Zax)(v:Int)(w:World)(h1:65≤v)(h2:v≤128):Calls Tryz.prog 111 #[ZbU a,.int .i64 v] w fun e w'=>e= .returned (.bool (ZaZ a v))∧Ext w w':=by
 have hx:=(Ext.refl w).alloc (.cells #[.int .u64 (lo a),.int .u64 (hi a)] 82);have d1:decide (v<1)=false:=ZrH (by omega);have d2:decide (v > 128)=false:=ZrH (by omega);have e1:(v - 1) / 64=1:=by omega
 have e2:(v - 1) % 64=v - 65:=by omega
 have hb:=Zrr (ZqN a v h1 h2);unfold ZbU
 go_enter Tryz.func111,Tryz.ntmps111
 go_wp2_with fail;go_ret;exact⟨by rw[←hb.out] <;> rfl,hx⟩
theorem Zdu(a:Zax)(v:Int)(w:World):Calls Tryz.prog 111 #[ZbU a,.int .i64 v] w fun e w'=>e= .returned (.bool (ZaZ a v))∧Ext w w':=by
 by_cases h:v<1∨128<v
 ·have hv:ZaZ a v=false:=by simp[ZaZ];omega
  rw[hv];exact ZmF a v w h
 ·by_cases hs:v≤64
  ·exact ZmE a v w (by omega) hs
  ·exact ZmD a v w (by omega) (by omega)
def ZbV (s:Zax):Nat→List Int
 | 0=>[]
 | k+1=>if ZaZ s ((k:Int)+1) then ZbV s k++[(k:Int)+1] else ZbV s k
def Zex (s:Zax):List Int:=ZbV s 128
theorem ZkI(s:Zax)(k:Nat):(ZbV s k).length≤k:=by
 induction k with
 | zero=>exact ZrQ _
 | succ k ih =>
   rw[ZbV]
   split
   ·simp;omega
   ·omega
theorem Zdn:(Tryz.prog.info? 3).map (fun i=>(i.zero,i.size,i.bytes))=some (some (.int .i64 0),1,8):=by kernel_rfl
def Zce (n:Int):Value:=.int .i64 n
theorem Zbi{w:World}{base:Nat}{v:Value}{l:List Int}(h:w.ownsRow base 3 1 v l.length (l.map Zce)):SlI w v l:=by
 obtain⟨_,⟨rfl,e⟩|⟨g,cap,cur,rfl,sX,jC,hn,hm,cA,ht⟩⟩:=h
 ·have:l=[]:=by simpa using e
  subst this;exact⟨none,0,rfl,.inl ⟨rfl,rfl,rfl⟩⟩
 ·refine⟨_,cap,rfl,.inr ⟨g,0,rfl,fun j hj=>?_⟩⟩
  have h1:(l.map Zce)[j]? =some (Zce l[j]):=by rw[List.getElem?_map,Zry hj];rfl
  rw[←ht,List.getElem?_take]at h1
  split at h1
  ·have h2:cur[j]? =some (Zce l[j]):=by simpa using h1
   simp[World.cell?,jC,h2,Zce]
  ·simp at h1
theorem Zd6{w:World}{B B':Nat}{e:TypeId}{sz:Nat}{v:Value}{n:Nat}{xs:List Value}(h:w.ownsRow B e sz v n xs)(hb:B'≤B):w.ownsRow B' e sz v n xs:=by
 obtain⟨h1,h2⟩:=h;refine⟨h1,h2.imp id ?_⟩;rintro⟨g,cap,cur,h3,h4,h5⟩;exact⟨g,cap,cur,h3,ZrC hb h4,h5⟩
theorem ZcK{w:World}{B:Nat}{v:Value}{l:List Int}(h:w.ownsRow B 3 1 v l.length (l.map Zce))(hl:l≠[]) :
  ∃g cap,v= .slice (some ⟨g,0,none⟩) l.length cap∧B≤g∧∀j u,(l.map Zce)[j]? =some u→w.cell? (Addr.add ⟨g,0,none⟩ j)=some u:=by
 have hs:=Zbi h;obtain⟨_,⟨rfl,e⟩|⟨g,cap,cur,rfl,sX,_⟩⟩:=h
 ·exact absurd (by simpa using e) hl
 ·refine⟨g,cap,rfl,sX,fun j u hj=>?_⟩
  obtain⟨ba,c,e,h⟩:=hs;rcases h with ⟨rfl,_⟩|⟨b,o,rfl,hc⟩
  ·simp at e
  ·simp only[Value.slice.injEq,ZrJ,Addr.mk.injEq]at e
   obtain⟨⟨rfl,rfl,_⟩,_⟩:=e;rw[List.getElem?_map]at hj
   have db:j<l.length:=by
    rcases Nat.lt_or_ge j l.length with h|h
    ·exact h
    ·rw[List.getElem?_eq_none h]at hj;cases hj
   rw[Zry db]at hj;have:=hc j db;have uD:(⟨g,0,none⟩:Addr).add j=⟨g,0+j,none⟩:=by unfold Addr.add;split <;> simp_all
   rw[uD,this];exact hj
def ZeU (s:Zax)(w:World)(k:Nat)(v:Value)(wr:World):Prop :=
 wr.heap[w.heap.size]? =some (.cells #[.int .u64 (lo s),.int .u64 (hi s)] 82 (0,0))∧wr.ownsRow (w.heap.size+1) 3 1 v (ZbV s k).length ((ZbV s k).map Zce)∧Below w.heap.size w wr∧w.heap.size+1≤wr.heap.size
theorem ZfO(s:Zax)(w:World):Calls Tryz.prog 102 #[ZbU s] w fun e w'=>∃v,e= .returned v∧w'.ownsRow w.heap.size 3 1 v (Zex s).length ((Zex s).map Zce)∧Below w.heap.size w w':=by
 obtain⟨i0,bz,bH,aj,av⟩:=info_parts Zdn;have aC:=Zrz w (.cells #[.int .u64 (lo s),.int .u64 (hi s)] 82);have aK:=(ZrE w.heap.size w).alloc (ZrQ _) (.cells #[.int .u64 (lo s),.int .u64 (hi s)] 82)
 have h0:Hid (ZeU s w 0 (.slice none 0 0) (w.alloc (.cells #[.int .u64 (lo s),.int .u64 (hi s)] 82))):=Zrr
  ⟨aC,⟨by simp[ZbV],.inl ⟨rfl,by simp[ZbV]⟩⟩,aK,by simp⟩
 clear aC aK;unfold ZbU
 go_enter Tryz.func102,Tryz.ntmps102
 go_wp2_with fail;generalize w.alloc (.cells #[.int .u64 (lo s),.int .u64 (hi s)] 82)=w1 at *
 go_loopw [3,4] (fun v i wr=>∃k:Nat,k≤128∧i= .int .i64 ((k:Int)+1)∧Hid (ZeU s w k v wr)) (fun _ i _=>129 - (intOf i).toNat)
 case atStart=>exact⟨0,by omega,rfl,h0⟩
 case round =>
  clear h0;obtain⟨k,hk,rfl,hI⟩:=hrel;obtain⟨hb,ho,hB,ac⟩:=hI.out;clear hI;obtain⟨c0,c1⟩:=Zah hb
  by_cases aD:k<128
  ·have d0:decide ((k:Int)+1≤128)=true:=ZrI (by omega)
   have hq:=Zdu s ((k:Int)+1) wr;unfold ZbU at hq;have hl:ZbV s (k+1)=if ZaZ s ((k:Int)+1) then ZbV s k++[(k:Int)+1] else ZbV s k:=rfl
   have aX:=ZkI s k;replace hb:=Zrr hb;replace ho:=Zrr ho;generalize ZaZ s ((k:Int)+1)=z at *
   cases z
   ·simp only[Bool.false_eq_true,if_false]at hl
    go_wp2_with fail;refine hq.mono ?_;rintro e w2 ⟨rfl,aO⟩
    have aA:Hid (ZeU s w (k+1) u3 w2):=Zrr
     ⟨(aO.below.block _ (by omega)).trans hb.out,by rw[hl];exact Zaa ho.out (fun g hg=>aO.below.block _ ((Zap ho.out hg).1)),hB.trans (aO.below.mono hB.size),by have:=aO.size;omega⟩
    go_wp2_with fail;go_roundw
    case rel=>exact⟨k+1,by omega,by go_num,aA⟩
    case measure=>simp[intOf];omega
   ·simp only[if_true]at hl
    go_wp2_with fail;refine hq.mono ?_;rintro e w2 ⟨rfl,aO⟩;have aV:=Zaa ho.out (fun g hg=>aO.below.block _ ((Zap ho.out hg).1));have aL:=(aO.below.block _ (by omega)).trans hb.out;have ay:=hB.trans (aO.below.mono hB.size);have mg:w.heap.size+1≤w2.heap.size:=by have:=aO.size;omega
    go_wp2_with (at_builtin;refine wpList_append_own _ rfl _ _ 76 rfl (w.heap.size+1) 3 i0 (.int .i64 0) 1 8 Tryz.underlying76 bz bH aj av rfl (by decide) _ _ _ rfl (aV.alloc _) ⟨w2.heap.size,0,none⟩ 1 1 [.int .i64 ((k:Int)+1)] rfl rfl (Zao _ _ _ _ rfl) (by simp[Value.oneCell']) (by unfold maxLen;omega) (by omega) (by simp;omega) ?_;intro v3 w3 au bP _)
    have eI:=Below.grown (Below.alloc ay (by omega) _) bP (by simp;omega) (fun k e=>ZrC (by omega) (Zay aV e));have aU:w3.heap[w.heap.size]? =_:=(bP.block _ (by simp;omega) (fun e=>by have:=Zay aV e.symm;omega)).trans ((Below.heap_alloc _ _ _ mg).trans aL)
    have aA:Hid (ZeU s w (k+1) v3 w3):=Zrr
     ⟨aU,by rw[hl];exact Zak au (by simp) (by simp[Zce]),eI,ZrC mg (ZrC (by simp) bP.size)⟩
    go_roundw
    case rel=>exact⟨k+1,by omega,by go_num,aA⟩
    case measure=>simp[intOf];omega
  ·obtain rfl:k=128:=by omega
   have d0:decide (((128:Nat):Int)+1≤128)=false:=by decide
   replace hb:=Zrr hb;go_wp2_with fail;go_ret;exact⟨_,rfl,Zd6 ho (Nat.le_succ _),hB⟩
def Zbv (f:Nat→Bool):Nat→Zax
 | 0=>0
 | k+1=>if decide (1≤k) && f k then Zb8 (Zbv f k) k else Zbv f k
def Zfc (f:Nat→Bool)(w:World)(k:Nat)(wr:World):Prop :=
 wr.heap[w.heap.size]? =some (.cells #[.int .u64 0,.int .u64 0] 82 (0,0))∧wr.heap[w.heap.size+1]? =some (.cells #[.int .u64 (lo (Zbv f k)),.int .u64 (hi (Zbv f k))] 82 (0,0))∧Below w.heap.size w wr∧w.heap.size+1<wr.heap.size
theorem ZkX(f:Nat→Bool)(w:World)(g c:Nat)(h:ZaU w g 4 129 f):Calls Tryz.prog 113 #[.slice (some ⟨g,0,none⟩) 129 c] w fun e w'=>e= .returned (ZbU (Zbv f 129))∧Below w.heap.size w w':=by
 obtain⟨cs,hg,cA,hcf⟩:=h;have ev:g<w.heap.size:=(Zrv hg).1
 have h0:Hid (Zfc f w 1 ((w.alloc (.cells #[.int .u64 0,.int .u64 0] 82)).alloc (.cells #[.int .u64 0,.int .u64 0] 82))):=by
  have hr:=(ZrE w.heap.size w).alloc (ZrQ _) (.cells #[.int .u64 0,.int .u64 0] 82);have:=Zrz (w.alloc (.cells #[.int .u64 0,.int .u64 0] 82)) (.cells #[.int .u64 0,.int .u64 0] 82);rw[World.size_alloc]at this;have e0:Zbv f 1=0:=rfl;have e1:lo (0:Zax)=0:=rfl;have e2:hi (0:Zax)=0:=rfl;exact Zrr ⟨(Below.heap_alloc _ _ _ (by simp)).trans (Zrz w _),by rw[e0,e1,e2];exact this,hr.alloc (by simp) _,by simp⟩
 unfold ZbU
 go_enter Tryz.func113,Tryz.ntmps113
 go_wp2_with fail;generalize (w.alloc (.cells #[.int .u64 0,.int .u64 0] 82)).alloc (.cells #[.int .u64 0,.int .u64 0] 82)=w1 at *
 go_loopw [4] (fun i wr=>∃k:Nat,1≤k∧k≤129∧i= .int .i64 k∧Hid (Zfc f w k wr)) (fun i _=>129 - (intOf i).toNat)
 case atStart=>exact⟨1,by omega,by omega,rfl,h0⟩
 case round =>
  clear h0;obtain⟨k,li,hk,rfl,hI⟩:=hrel;obtain⟨hz,hb,hB,ac⟩:=hI.out;clear hI
  by_cases aD:k<129
  ·have hl:Zbv f (k+1)=if f k then Zb8 (Zbv f k) k else Zbv f k:=by
    show (if decide (1≤k) && f k then Zb8 (Zbv f k) k else Zbv f k)=_
    simp[li]
   have d0:decide ((k:Int)<129)=true:=ZrI (by omega);have d1:decide (0≤(k:Int))=true:=ZrI (by omega);have hx:=hcf k aD
   have cg:wr.cell? ⟨g,k,none⟩=some (.bool (f k)):=by
    rw[hB.cell (p:=⟨g,k,none⟩) ev];simp[World.cell?,hg,hx]
   obtain⟨c0,c1⟩:=Zah hb;have y0:wr.frozen? ⟨w.heap.size+1,0,none⟩=false:=by simp[World.frozen?,hb]
   have y1:wr.frozen? ⟨w.heap.size+1,1,none⟩=false:=by simp[World.frozen?,hb]
   clear hx;replace hb:=Zrr hb;replace hz:=Zrr hz;replace hg:=Zrr hg;generalize f k=z at *
   cases z
   ·simp only[Bool.false_eq_true,if_false]at hl
    have aA:Hid (Zfc f w (k+1) wr):=Zrr ⟨hz.out,by rw[hl];exact hb.out,hB,ac⟩;go_wp2_with fail;go_roundw
    case rel=>exact⟨k+1,by omega,by omega,by go_num,aA⟩
    case measure=>simp[intOf];omega
   ·simp only[if_true]at hl
    by_cases h64:k≤64
    ·have e1:((k:Int) - 1) / 64=0:=by omega
     have e2:((k:Int) - 1) % 64=k - 1:=by omega
     obtain⟨q1,q2⟩:=Znk (Zbv f k) k (by omega) (by omega)
     have e3:Zen (k:Int)=IntKind.u64.wrap (2 ^ (k - 1)):=by
      unfold Zen;rw[e2];congr 2;omega
     rw[e3]at q1
     have aA:Hid (Zfc f w (k+1) (wr.setCell ⟨w.heap.size+1,0,none⟩ (.int .u64 (bits .or .u64 (lo (Zbv f k)) (IntKind.u64.wrap (2 ^ (k - 1))))))):=Zrr
      ⟨(Below.heap_setCell _ _ _ _ (by simp)).trans hz.out,by rw[hl,q1,q2];exact Zaj hb.out 0 _,hB.setCell (by simp) _,by simpa using ac⟩
     clear q1 q2;go_wp2_with fail;go_roundw
     case rel=>exact⟨k+1,by omega,by omega,by go_num,aA⟩
     case measure=>simp[intOf];omega
    ·have e1:((k:Int) - 1) / 64=1:=by omega
     have e2:((k:Int) - 1) % 64=k - 65:=by omega
     obtain⟨q1,q2⟩:=Znj (Zbv f k) k (by omega) (by omega)
     have e3:Zen (k:Int)=IntKind.u64.wrap (2 ^ (k - 65)):=by
      unfold Zen;rw[e2];congr 2;omega
     rw[e3]at q1
     have aA:Hid (Zfc f w (k+1) (wr.setCell ⟨w.heap.size+1,1,none⟩ (.int .u64 (bits .or .u64 (hi (Zbv f k)) (IntKind.u64.wrap (2 ^ (k - 65))))))):=Zrr
      ⟨(Below.heap_setCell _ _ _ _ (by simp)).trans hz.out,by rw[hl,q1,q2];exact Zaj hb.out 1 _,hB.setCell (by simp) _,by simpa using ac⟩
     clear q1 q2;go_wp2_with fail;go_roundw
     case rel=>exact⟨k+1,by omega,by omega,by go_num,aA⟩
     case measure=>simp[intOf];omega
  ·obtain rfl:k=129:=by omega
   have d0:decide (((129:Nat):Int)<129)=false:=by decide
   obtain⟨c0,c1⟩:=Zah hb;have qM:Below w.heap.size w ((wr.setCell ⟨w.heap.size,0,none⟩ (.int .u64 (lo (Zbv f 129)))).setCell ⟨w.heap.size,1,none⟩ (.int .u64 (hi (Zbv f 129)))):=(hB.setCell (by simp) _).setCell (by simp) _;obtain⟨z0,z1⟩:=Zah hz;have y0:wr.frozen? ⟨w.heap.size,0,none⟩=false:=by simp[World.frozen?,hz]
   have y1:wr.frozen? ⟨w.heap.size,1,none⟩=false:=by simp[World.frozen?,hz]
   have r0:((wr.setCell ⟨w.heap.size,0,none⟩ (.int .u64 (lo (Zbv f 129)))).setCell ⟨w.heap.size,1,none⟩ (.int .u64 (hi (Zbv f 129)))).cell? ⟨w.heap.size,0,none⟩=some (.int .u64 (lo (Zbv f 129))):=by
    rw[World.cell?,Zbn hz];rfl
   have r1:((wr.setCell ⟨w.heap.size,0,none⟩ (.int .u64 (lo (Zbv f 129)))).setCell ⟨w.heap.size,1,none⟩ (.int .u64 (hi (Zbv f 129)))).cell? ⟨w.heap.size,1,none⟩=some (.int .u64 (hi (Zbv f 129))):=by
    rw[World.cell?,Zbn hz];rfl
   replace hb:=Zrr hb;replace hz:=Zrr hz;replace hg:=Zrr hg;generalize aW:lo (Zbv f 129)=x0 at *;generalize aK:hi (Zbv f 129)=x1 at *;go_wp2_with fail;exact bodyPost_ret (v:=.agg #[.int .u64 x0,.int .u64 x1]) (by simp[results,Tryz.results113,go_sem,r0,r1]) rfl ⟨by rw[aW,aK],qM⟩
theorem Zi5(w:World):Calls Tryz.prog 112 #[] w fun e w'=>e= .returned (.slice (some ⟨w.heap.size,0,none⟩) 129 129)∧w'=w.alloc (.cells (madeCells #[.bool false] 129) 4):=by
 have iO:(Instr.makeSlice 40 (.int .i64 129) (.int .i64 129)).run Tryz.prog w= .ok (.slice (some ⟨w.heap.size,0,none⟩) 129 129) (w.alloc (.cells (madeCells #[.bool false] 129) 4)) :=
  run_make_row' (P:=Tryz.prog) 40 4 (.bool false) 1 Tryz.underlying40 (by kernel_rfl) rfl .i64 .i64 129 (by omega) (by omega) w
 go_enter Tryz.func112,Tryz.ntmps112
 go_wp2_with fail;go_ret;exact⟨rfl,rfl⟩
def ZcR (l:List Int)(v:Nat):Bool:=decide (1≤v) && decide (v≤128) && l.any fun x=>decide (x=(v:Int))
theorem Zkv(l:List Int)(k:Nat)(hk:k<l.length):ZcR (l.take (k+1))=if decide (1≤l[k]) && decide (l[k]≤128) then Zbr (ZcR (l.take k)) l[k].toNat else ZcR (l.take k):=by
 funext v
 simp only[ZcR];rw[List.take_succ_eq_append_getElem hk,List.any_append]
 split
 ·rename_i h
  simp only[ZrK,ZrN]at h;simp only[Zbr,ZcR]
  by_cases hv:v=l[k].toNat
  ·subst hv
   have e:l[k]=((l[k].toNat:Nat):Int):=by omega
   simp;omega
  ·rw[if_neg hv]
   have:¬ l[k]=(v:Int):=by omega
   simp[this]
 ·rename_i h
  simp only[ZrK,ZrN]at h;simp only[ZcR]
  by_cases hv:1≤v∧v≤128
  ·have:¬ l[k]=(v:Int):=by omega
   simp[this]
  ·have:(decide (1≤v) && decide (v≤128))=false:=by
    cases h1:(decide (1≤v) && decide (v≤128))
    ·rfl
    ·simp only[ZrK,ZrN]at h1;exact absurd h1 hv
   simp[this]
theorem ZdV(s:Zax)(v:Int)(i:Nat)(hi:i<128):(Zb8 s v).getLsbD i=(s.getLsbD i || decide (v=(i:Int)+1)):=by
 unfold Zb8
 split
 ·rw[BitVec.getLsbD_or,BitVec.getLsbD_twoPow]
  congr 1
  rw[Bool.eq_iff_iff];simp;omega
 ·have:¬ v=(i:Int)+1:=by omega
  simp[this]
theorem ZhG(l:List Int)(i:Nat)(hi:i<128):∀s:Zax,(l.foldl Zb8 s).getLsbD i=(s.getLsbD i || l.any fun x=>decide (x=(i:Int)+1)):=by
 induction l with
 | nil=>intro s;simp
 | cons x r ih =>
   intro s;rw[List.foldl_cons,ih,ZdV _ _ _ hi,List.any_cons,Bool.or_assoc]
theorem ZnJ(f:Nat→Bool)(k:Nat)(i:Nat)(hi:i<128):(Zbv f k).getLsbD i=(decide (i+1<k) && f (i+1)):=by
 induction k with
 | zero=>simp[Zbv]
 | succ k ih =>
   rw[Zbv]
   split
   ·rename_i h
    simp only[ZrK,ZrN]at h;rw[ZdV _ _ _ hi,ih]
    by_cases e:k=i+1
    ·subst e
     simp[h.2]
    ·have e1:¬ (k:Int)=(i:Int)+1:=by omega
     have e2:(i+1<k+1)↔(i+1<k):=by omega
     simp[e1,e2]
   ·rename_i h
    rw[ih]
    by_cases e:k=i+1
    ·subst e
     simp at h;simp[h]
    ·have e2:(i+1<k+1)↔(i+1<k):=by omega
     simp[e2]
theorem Zk2(l:List Int):Zbv (ZcR l) 129=ofS l:=by
 apply BitVec.eq_of_getLsbD_eq
 intro i hi;rw[ZnJ _ _ _ hi,ofS,ZhG _ _ hi];have h1:i+1≤128:=by omega
 have h2:i+1<129:=by omega
 simp[ZcR,h1,h2]
def Zhw (l:List Int)(w:World)(k:Nat)(wr:World):Prop :=
 wr.heap[w.heap.size]? =some (.cells #[.int .u64 0,.int .u64 0] 82 (0,0))∧ZaU wr (w.heap.size+1) 4 129 (ZcR (l.take k))∧Below w.heap.size w wr∧w.heap.size+1<wr.heap.size
theorem Zda(l:List Int)(v:Value)(w:World)(hv:SlI w v l)(hl:l.length≤1048576) :
  Calls Tryz.prog 84 #[v] w fun e w'=>e= .returned (ZbU (ofS l))∧Below w.heap.size w w':=by
 obtain⟨ba,cp,rfl,hv⟩:=hv
 have aN:∀k (hk:k<l.length),∃b o,ba=some ⟨b,o,none⟩∧w.cell? ⟨b,o+k,none⟩=some (.int .i64 l[k]):=fun k hk=>by
  rcases hv with ⟨_,rfl,_⟩|⟨b,o,h1,h2⟩
  ·simp at hk
  ·exact⟨b,o,h1,h2 k hk⟩
 clear hv;replace aN:=Zrr aN;unfold ZbU;have aC:=Zrz w (.cells #[.int .u64 0,.int .u64 0] 82);have aF:=(ZrE w.heap.size w).alloc (ZrQ _) (.cells #[.int .u64 0,.int .u64 0] 82);have gy:(w.alloc (.cells #[.int .u64 0,.int .u64 0] 82)).heap.size=w.heap.size+1:=by simp
 go_enter Tryz.func84,Tryz.ntmps84
 go_wp2_with fail;generalize w.alloc (.cells #[.int .u64 0,.int .u64 0] 82)=w1 at *;refine(Zi5 w1).mono ?_;rintro e w2 ⟨rfl,rfl⟩
 have h0:Hid (Zhw l w 0 (w1.alloc (.cells (madeCells #[.bool false] 129) 4))):=Zrr
  ⟨(Below.heap_alloc _ _ _ (by omega)).trans aC,by
    have:=ZeZ w1 _ 4 129 (Zmf 129) (w.heap.size+1) gy.symm;have e0:ZcR (l.take 0)=fun _=>false:=by funext v;simp[ZcR]
    rw[e0];exact this,aF.alloc (by omega) _,by simp;omega⟩
 rw[gy];clear aC aF;go_wp2_with fail;generalize w1.alloc (.cells (madeCells #[.bool false] 129) 4)=w2 at *;clear gy
 go_loopw [4] (fun i wr=>∃k:Nat,k≤l.length∧i= .int .i64 k∧Hid (Zhw l w k wr)) (fun i _=>l.length - (intOf i).toNat)
 case atStart=>exact⟨0,Nat.zero_le _,rfl,h0⟩
 case round =>
  clear h0;obtain⟨k,hk,rfl,hI⟩:=hrel;obtain⟨hz,hb,hB,ac⟩:=hI.out;clear hI
  by_cases aD:k<l.length
  ·obtain⟨b,o,rfl,hc⟩:=aN.out k aD
   have nq:=Zkv l k aD;have cg:=(hB.cell (p:=⟨b,o+k,none⟩) (Zrx w _ hc)).trans hc;clear hc;generalize l[k]=x at *
   by_cases h1:1≤x
   ·by_cases h2:x≤128
    ·obtain⟨n,rfl⟩:∃n:Nat,x=n:=⟨x.toNat,by omega⟩
     have d1:decide ((1:Int)≤n)=true:=ZrI h1;have d2:decide ((n:Int)≤128)=true:=ZrI h2;have d3:decide ((n:Int)<129)=true:=ZrI (by omega);have d0:decide (0≤(n:Int))=true:=ZrI (by omega);rw[d1,d2]at nq;simp only[Bool.and_true,if_true,Int.toNat_natCast]at nq;have aL:=hb.set n;rw[←nq]at aL;obtain⟨r0,r1⟩:=hb.cell (j:=n) (by omega)
     have aA:Hid (Zhw l w (k+1) (wr.setCell ⟨w.heap.size+1,n,none⟩ (.bool true))):=Zrr
      ⟨(Below.heap_setCell _ _ _ _ (by simp)).trans hz,aL,hB.setCell (by simp) _,by simpa using ac⟩
     clear nq aL;replace hb:=Zrr hb;replace hz:=Zrr hz;go_wp2_with fail;go_roundw
     case rel=>exact⟨k+1,by omega,by go_num,aA⟩
     case measure=>simp[intOf];omega
    ·have d1:decide (1≤x)=true:=ZrI h1
     have d2:decide (x≤128)=false:=ZrH h2;rw[d1,d2]at nq;simp only[Bool.and_false,Bool.false_eq_true,if_false]at nq;have aA:Hid (Zhw l w (k+1) wr):=Zrr ⟨hz,by rw[nq];exact hb,hB,ac⟩;clear nq;replace hb:=Zrr hb;replace hz:=Zrr hz;go_wp2_with fail;go_roundw
     case rel=>exact⟨k+1,by omega,by go_num,aA⟩
     case measure=>simp[intOf];omega
   ·have d1:decide (1≤x)=false:=ZrH h1
    rw[d1]at nq;simp only[Bool.false_and,Bool.false_eq_true,if_false]at nq;have aA:Hid (Zhw l w (k+1) wr):=Zrr ⟨hz,by rw[nq];exact hb,hB,ac⟩;clear nq;replace hb:=Zrr hb;replace hz:=Zrr hz;go_wp2_with fail;go_roundw
    case rel=>exact⟨k+1,by omega,by go_num,aA⟩
    case measure=>simp[intOf];omega
  ·obtain rfl:k=l.length:=by omega
   rw[List.take_length]at hb;have hq:=ZkX (ZcR l) wr (w.heap.size+1) 129 hb;rw[Zk2]at hq;unfold ZbU at hq;replace hb:=Zrr hb;replace hz:=Zrr hz;go_wp2_with fail;refine hq.mono ?_;rintro e w3 ⟨rfl,aU⟩;have eI:=hB.trans (aU.mono hB.size);have iR:=(aU.block w.heap.size (by omega)).trans hz.out;have qM:Below w.heap.size w ((w3.setCell ⟨w.heap.size,0,none⟩ (.int .u64 (lo (ofS l)))).setCell ⟨w.heap.size,1,none⟩ (.int .u64 (hi (ofS l)))):=(eI.setCell (by simp) _).setCell (by simp) _;obtain⟨z0,z1⟩:=Zah iR;have y0:w3.frozen? ⟨w.heap.size,0,none⟩=false:=by simp[World.frozen?,iR]
   have y1:w3.frozen? ⟨w.heap.size,1,none⟩=false:=by simp[World.frozen?,iR]
   have r0:((w3.setCell ⟨w.heap.size,0,none⟩ (.int .u64 (lo (ofS l)))).setCell ⟨w.heap.size,1,none⟩ (.int .u64 (hi (ofS l)))).cell? ⟨w.heap.size,0,none⟩=some (.int .u64 (lo (ofS l))):=by
    rw[World.cell?,Zbn iR];rfl
   have r1:((w3.setCell ⟨w.heap.size,0,none⟩ (.int .u64 (lo (ofS l)))).setCell ⟨w.heap.size,1,none⟩ (.int .u64 (hi (ofS l)))).cell? ⟨w.heap.size,1,none⟩=some (.int .u64 (hi (ofS l))):=by
    rw[World.cell?,Zbn iR];rfl
   clear iR;generalize aW:lo (ofS l)=x0 at *;generalize aK:hi (ofS l)=x1 at *;go_wp2_with fail;exact bodyPost_ret (v:=.agg #[.int .u64 x0,.int .u64 x1]) (by simp[results,Tryz.results84,go_sem,r0,r1]) rfl ⟨by rw[aW,aK],qM⟩
end Go.Proofs.YtemnmcfmabamcaaGreatDoor
namespace Go.Proofs.YtemnmcfmabamcaaGreatDoor
open Go Go.RowKit
def ZeG (t:List VN):Nat→Nat→Option (List Int)
 | 0,_=>none
 | f+1,v=>match t[v]? with
   | none=>none
   | some x =>
     if x.left<0 then some [x.var]
     else match ZeG t f x.left.toNat,ZeG t f x.right.toNat with
      | some a,some b=>if 0≤x.right∧a≠[]∧b≠[]∧a.length≤128∧b.length≤128∧Zex (ofS (a++b))≠[] then some (Zex (ofS (a++b))) else none
      | _,_=>none
def Zgf (l:List Int)(w:World):Ending→World→Prop:=fun e w'=>∃v,e= .returned v∧w'.ownsRow w.heap.size 3 1 v l.length (l.map Zce)∧Below w.heap.size w w'
theorem Zdr{w w':World}{B n:Nat}{v:Value}{l:List Int}(h:w.ownsRow B 3 1 v n (l.map Zce))(hb:Below w.heap.size w w'):w'.ownsRow B 3 1 v n (l.map Zce) :=
 Zaa h (fun _ hg=>hb.block _ (Zap h hg).1)
theorem Zmr{w w':World}{B n:Nat}{v:Value}{xs:List Value}(h:w.ownsRow B 3 1 v n xs)(hb:Below w.heap.size w w'):w'.ownsRow B 3 1 v n xs :=
 Zaa h (fun _ hg=>hb.block _ (Zap h hg).1)
theorem Zb5{w w':World}{ad:Addr}{xs:List Value}(h:∀j u,xs[j]? =some u→w.cell? (ad.add j)=some u)(hb:Below w.heap.size w w'):∀j u,xs[j]? =some u→w'.cell? (ad.add j)=some u :=
 fun j u hj=>(hb.cell (Zrx w _ (h j u hj))).trans (h j u hj)
theorem Zez{w w':World}{g:Nat}{row:Option Nat}{xs:List Value}(h:∀j u,xs[j]? =some u→w.cell? (Addr.add ⟨g,0,none⟩ j)=some u)(hg:w.grownBy w' row)(aJ:row≠some g):∀j u,xs[j]? =some u→w'.cell? (Addr.add ⟨g,0,none⟩ j)=some u:=by
 intro j u hj;have h1:=h j u hj;have hb:(Addr.add ⟨g,0,none⟩ j).block=g:=by unfold Addr.add;split <;> rfl
 rw[←h1];refine hg.cell_far _ (Zrx w _ h1) ?_;rw[hb];exact fun e=>aJ e.symm
theorem ZcI{w:World}{B:Nat}(hB:B≤w.heap.size):(w.alloc (.cells #[] 3)).ownsRow B 3 1 (.slice (some ⟨w.heap.size,0,none⟩) 0 0) 0 (([]:List Int).map Zce) :=
 ⟨rfl,.inr ⟨w.heap.size,0,#[],rfl,hB,Zrz w _,by first|omega|decide|simp,by first|omega|decide|simp,by first|omega|decide|simp,by first|rfl|simp⟩⟩
theorem Zch{t:List VN}(f:Nat):∀(w:World) (b o cap v:Nat) (l:List Int),Zag w b o t→t.length≤1048576→ZeG t f v=some l →
  Calls Tryz.prog 72 #[.slice (some ⟨b,o,none⟩) t.length cap,.int .i64 v] w (Zgf l w):=by
 induction f with
 | zero=>intro w b o cap v l _ _ h;cases h
 | succ f ih =>
   intro w b o cap v l ht eH h;rw[ZeG]at h
   split at h
   ·cases h
   rename_i x hx
   have hv:v<t.length:=(Zrw hx).1;have tR:t[v]=x:=(Zrw hx).2;obtain⟨n0,n1,n2⟩:=ht.node hv;rw[tR]at n0 n1 n2;clear hx tR;obtain⟨xl,xr,xv⟩:=x;simp only at h n0 n1 n2;have q0:(0:Int)≤v:=by omega
   have q1:(v:Int)<t.length:=by omega
   have q2:decide ((0:Int)≤v)=true:=ZrI q0
   split at h
   ·rename_i aI
    have d0:decide (xl<0)=true:=ZrI aI
    cases h
    have aa:Zgf [xv] w (.returned (.slice (some ⟨w.heap.size,0,none⟩) 1 1)) (w.alloc (.cells #[.int .i64 xv] 3)) :=
     ⟨_,rfl,⟨rfl,.inr ⟨w.heap.size,1,#[.int .i64 xv],rfl,ZrQ _,Zrz w _,by simp only[ZrP,List.length_nil];omega,by decide,rfl,rfl⟩⟩,(ZrE _ w).alloc (ZrQ _) _⟩
    clear ht ih
    go_enter Tryz.func72,Tryz.ntmps72
    go_wp2_with fail;go_ret;exact aa
   rename_i aI
   have d0:decide (xl<0)=false:=ZrH aI;obtain⟨nl,rfl⟩:∃n:Nat,xl=n:=⟨xl.toNat,by omega⟩
   split at h
   case h_2=>cases h
   rename_i l1 l2 fN iE
   split at h
   case isFalse=>cases h
   rename_i kT
   obtain⟨hr,ul,nN,gy,mg,aJ⟩:=kT;obtain⟨nr,rfl⟩:∃n:Nat,xr=n:=⟨xr.toNat,by omega⟩;simp only[Int.toNat_natCast]at fN iE
   cases h
   have dw:∀W,Below w.heap.size w W→Calls Tryz.prog 72 #[.slice (some ⟨b,o,none⟩) t.length cap,.int .i64 nl] W (Zgf l1 W):=fun W hW =>
    ih W b o cap nl l1 (fun j u hj=>(hW.cell (Zrx w _ (ht j u hj))).trans (ht j u hj)) eH fN
   have fM:∀W,Below w.heap.size w W→Calls Tryz.prog 72 #[.slice (some ⟨b,o,none⟩) t.length cap,.int .i64 nr] W (Zgf l2 W):=fun W hW =>
    ih W b o cap nr l2 (fun j u hj=>(hW.cell (Zrx w _ (ht j u hj))).trans (ht j u hj)) eH iE
   have F:∀W,Below w.heap.size w W→W.cell? ⟨b,o+v*3,none⟩=some (.int .i64 nl)∧W.cell? ⟨b,o+v*3+1,none⟩=some (.int .i64 nr):=fun W hW =>
    ⟨(hW.cell (Zrx w _ n0)).trans n0,(hW.cell (Zrx w _ n1)).trans n1⟩
   have da:Hid (Below w.heap.size w w):=Zrr (ZrE _ w);obtain⟨i0,bz,bH,aj,av⟩:=info_parts Zdn;have ic:(l1.map Zce).length=l1.length*1:=by simp
   have se:(l2.map Zce).length=l2.length*1:=by simp
   have aH:∀l:List Int,∀u∈l.map Zce,u.oneCell'=true:=fun l u hu=>by
    obtain⟨z,_,rfl⟩:=List.mem_map.1 hu;rfl
   have gG:0<l1.length:=List.length_pos_iff.2 ul;have gH:0<l2.length:=List.length_pos_iff.2 nN;clear ih ht fN iE n2;have gk:Below w.heap.size w (w.alloc (.cells #[] 3)).drew:=((ZrE _ w).alloc (ZrQ _) _).drew;have hC1a:=Zrr (dw w.drew (ZrE _ w).drew);have hC1b:=Zrr (dw (w.alloc (.cells #[] 3)).drew gk);have hN:Hid ((w.alloc (.cells #[] 3)).drew.ownsRow w.heap.size 3 1 (.slice (some ⟨w.heap.size,0,none⟩) 0 0) 0 (([]:List Int).map Zce)):=Zrr (ZcI (ZrQ _));have fE:w.heap.size≤(w.alloc (.cells #[] 3)).drew.heap.size:=by simp[World.drew]
   have gk:=Zrr gk;have fE:=Zrr fE;replace dw:=Zrr dw;replace fM:=Zrr fM;replace F:=Zrr F
   go_enter Tryz.func72,Tryz.ntmps72
   go_wp2_with fail;clear n0 n1;have hM0:True:=trivial
   go_region_held3 (fun W=>W.cell? ⟨b,o+v*3,none⟩=some (.int .i64 nl)∧W.cell? ⟨b,o+v*3+1,none⟩=some (.int .i64 nr))
    (first|exact F.out _ da.out|exact F.out _ da.out.drew|exact F.out _ (da.out.alloc (ZrQ _) _)|exact F.out _ (da.out.alloc (ZrQ _) _).drew|exact F.out _ kC.out|exact F.out _ fC.out|exact F.out _ eI.out|exact F.out _ ay.out|exact F.out _ (ay.out.alloc ay.out.size _)|exact F.out _ ax.out|exact F.out _ (ax.out.alloc ax.out.size _)|go_keep)
    (first
      | (go_at_call 72;clear hM0;refine hC1a.out.mono ?_;rintro e w1 ⟨v1,rfl,dX,aF⟩;have ax:=Zrr (da.out.drew.trans aF);obtain⟨g1,k1,rfl,jl,aK⟩:=ZcK dX ul;have dX:=Zrr dX;have aK:=Zrr aK;clear aF;have ti:True:=trivial)
      | (go_at_call 72;clear hM0;refine hC1b.out.mono ?_;rintro e w1 ⟨v1,rfl,dX,aF⟩;have ax:=Zrr (gk.out.trans (aF.mono fE.out));have hD1:=Zrr (Zdr hN.out aF);obtain⟨g1,k1,rfl,jl,aK⟩:=ZcK dX ul;have dX:=Zrr dX;have aK:=Zrr aK;clear aF;have xX:True:=trivial)
      | (go_at_call 72;clear xZ;refine(fM.out w3 eI.out).mono ?_;rintro e w4 ⟨v2,rfl,aV,aL⟩;have fC:=Zrr (eI.out.trans (aL.mono eI.out.size));have an:=Zrr (Zmr au.out aL);obtain⟨g2,k2,rfl,cD,aO⟩:=ZcK aV nN;have aV:=Zrr aV;have gz:=Zrr aO;clear aL;have sL:True:=trivial)
      | (go_at_call 72;clear xX;refine(fM.out w1 ax.out).mono ?_;rintro e w2 ⟨v2,rfl,aV,aL⟩;have ay:=Zrr (ax.out.trans (aL.mono ax.out.size));have aK:=Zrr (Zb5 aK.out aL);have xQ:=Zrr (Zdr hD1.out aL);have aD:=Zrr (Zap hD1.out rfl).1;obtain⟨g2,k2,rfl,cD,aO⟩:=ZcK aV nN;have aV:=Zrr aV;have aO:=Zrr aO;clear aL;have hM2b:True:=trivial)
      | (go_at_call 72;clear ti;refine(fM.out (w1.alloc (.cells #[] 3)) (ax.out.alloc ax.out.size _)).mono ?_;rintro e w2 ⟨v2,rfl,aV,aL⟩;have ay:=Zrr ((ax.out.alloc ax.out.size _).trans (aL.mono (ax.out.alloc ax.out.size _).size));have aK:=Zrr (Zb5 (Zb5 aK.out ((ZrE _ w1).alloc (ZrQ _) _)) aL);have xQ:=Zrr (Zdr (ZcI ax.out.size) aL);have aD:=Zrr (Zap (ZcI ax.out.size) rfl).1;obtain⟨g2,k2,rfl,cD,aO⟩:=ZcK aV nN;have aV:=Zrr aV;have aO:=Zrr aO;clear aL;have hM2c:True:=trivial)
      | (go_at_call 72;clear ti;refine(fM.out w1 ax.out).mono ?_;rintro e w2 ⟨v2,rfl,aV,aL⟩;have ay:=Zrr (ax.out.trans (aL.mono ax.out.size));have aK:=Zrr (Zb5 aK.out aL);obtain⟨g2,k2,rfl,cD,aO⟩:=ZcK aV nN;have aV:=Zrr aV;have aO:=Zrr aO;clear aL;have hM2a:True:=trivial)
      | (clear xX;refine step_append_lies w1 (by rfl) _ _ 76 (by rfl) w.heap.size 3 i0 (.int .i64 0) 1 8 Tryz.underlying76 bz bH aj av rfl (by decide) (.slice (some ⟨w.heap.size,0,none⟩) 0 0) 0 (([]:List Int).map Zce) (by rfl) hD1.out ⟨g1,0,none⟩ l1.length k1 (l1.map Zce) (by rfl) ic aK.out (aH l1) (by omega) (by unfold maxLen;omega) (by omega) (by exact ax.out.size) _ rfl ?_;intro g3 fJ w3 au bP _ _;have eI:=Zrr (Below.grown ax.out bP (by exact ax.out.size) (fun k e=>Zay hD1.out e));clear bP;rw[Nat.zero_add]at au;have au:Hid (w3.ownsRow w.heap.size 3 1 (.slice (some ⟨g3,0,none⟩) l1.length fJ) l1.length (l1.map Zce)):=Zrr au;have xZ:True:=trivial)
      | (clear ti;refine step_append_lies (w1.alloc (.cells #[] 3)) (by rfl) _ _ 76 (by rfl) w.heap.size 3 i0 (.int .i64 0) 1 8 Tryz.underlying76 bz bH aj av rfl (by decide) (.slice (some ⟨w1.heap.size,0,none⟩) 0 0) 0 (([]:List Int).map Zce) (by rfl) (ZcI ax.out.size) ⟨g1,0,none⟩ l1.length k1 (l1.map Zce) (by rfl) ic (Zb5 aK.out ((ZrE _ w1).alloc (ZrQ _) _)) (aH l1) (by omega) (by unfold maxLen;omega) (by omega) (by exact(ax.out.alloc ax.out.size _).size) _ rfl ?_;intro g3 fJ w3 au bP _ _;have eI:=Zrr (Below.grown (ax.out.alloc ax.out.size _) bP (by exact(ax.out.alloc ax.out.size _).size) (fun k e=>Zay (ZcI ax.out.size) e));clear bP;rw[Nat.zero_add]at au;have au:Hid (w3.ownsRow w.heap.size 3 1 (.slice (some ⟨g3,0,none⟩) l1.length fJ) l1.length (l1.map Zce)):=Zrr au;have xZ:True:=trivial)
      | (clear hM2b;refine step_append_lies w2 (by rfl) _ _ 76 (by rfl) w.heap.size 3 i0 (.int .i64 0) 1 8 Tryz.underlying76 bz bH aj av rfl (by decide) (.slice (some ⟨w.heap.size,0,none⟩) 0 0) 0 (([]:List Int).map Zce) (by rfl) xQ.out ⟨g1,0,none⟩ l1.length k1 (l1.map Zce) (by rfl) ic aK.out (aH l1) (by omega) (by unfold maxLen;omega) (by omega) (by exact ay.out.size) _ rfl ?_;intro g3 fJ w3 au bP _ _;have eI:=Zrr (Below.grown ay.out bP (by exact ay.out.size) (fun k e=>Zay xQ.out e));have aR:=Zrr (Zez aO.out bP (fun e=>by have h1:=aD.out;have h2:=cD;simp only[Value.ownBlock,ZrJ]at e;exact absurd (e ▸ h1) (Nat.not_lt.2 h2)));clear bP;rw[Nat.zero_add]at au;have au:Hid (w3.ownsRow w.heap.size 3 1 (.slice (some ⟨g3,0,none⟩) l1.length fJ) l1.length (l1.map Zce)):=Zrr au;have n9:True:=trivial)
      | (clear hM2c;refine step_append_lies w2 (by rfl) _ _ 76 (by rfl) w.heap.size 3 i0 (.int .i64 0) 1 8 Tryz.underlying76 bz bH aj av rfl (by decide) (.slice (some ⟨w1.heap.size,0,none⟩) 0 0) 0 (([]:List Int).map Zce) (by rfl) xQ.out ⟨g1,0,none⟩ l1.length k1 (l1.map Zce) (by rfl) ic aK.out (aH l1) (by omega) (by unfold maxLen;omega) (by omega) (by exact ay.out.size) _ rfl ?_;intro g3 fJ w3 au bP _ _;have eI:=Zrr (Below.grown ay.out bP (by exact ay.out.size) (fun k e=>Zay xQ.out e));have aR:=Zrr (Zez aO.out bP (fun e=>by have h1:=aD.out;have h2:=cD;simp only[Value.ownBlock,ZrJ]at e;exact absurd (e ▸ h1) (Nat.not_lt.2 h2)));clear bP;rw[Nat.zero_add]at au;have au:Hid (w3.ownsRow w.heap.size 3 1 (.slice (some ⟨g3,0,none⟩) l1.length fJ) l1.length (l1.map Zce)):=Zrr au;have n9:True:=trivial)
      | (clear hM2a;refine step_append_lies (w2.alloc (.cells #[] 3)) (by rfl) _ _ 76 (by rfl) w.heap.size 3 i0 (.int .i64 0) 1 8 Tryz.underlying76 bz bH aj av rfl (by decide) (.slice (some ⟨w2.heap.size,0,none⟩) 0 0) 0 (([]:List Int).map Zce) (by rfl) (ZcI ay.out.size) ⟨g1,0,none⟩ l1.length k1 (l1.map Zce) (by rfl) ic (Zb5 aK.out ((ZrE _ w2).alloc (ZrQ _) _)) (aH l1) (by omega) (by unfold maxLen;omega) (by omega) (by exact(ay.out.alloc ay.out.size _).size) _ rfl ?_;intro g3 fJ w3 au bP _ _;have eI:=Zrr (Below.grown (ay.out.alloc ay.out.size _) bP (by exact(ay.out.alloc ay.out.size _).size) (fun k e=>Zay (ZcI ay.out.size) e));have aR:=Zrr (Zez (Zb5 aO.out ((ZrE _ w2).alloc (ZrQ _) _)) bP (fun e=>by have h1:=(Zap aV.out rfl).1;simp only[Value.ownBlock,ZrJ]at e;exact absurd h1 (e ▸ Nat.lt_irrefl _)));clear bP;rw[Nat.zero_add]at au;have au:Hid (w3.ownsRow w.heap.size 3 1 (.slice (some ⟨g3,0,none⟩) l1.length fJ) l1.length (l1.map Zce)):=Zrr au;have n9:True:=trivial)
      | (clear sL;refine step_append_lies w4 (by rfl) _ _ 76 (by rfl) w.heap.size 3 i0 (.int .i64 0) 1 8 Tryz.underlying76 bz bH aj av rfl (by decide) (.slice (some ⟨g3,0,none⟩) l1.length fJ) l1.length (l1.map Zce) (by rfl) an.out ⟨g2,0,none⟩ l2.length k2 (l2.map Zce) (by rfl) se gz.out (aH l2) (by omega) (by unfold maxLen;omega) (by omega) (by exact fC.out.size) _ rfl ?_;intro g5 xD w5 eG wK _ _;have kC:=Zrr (Below.grown fC.out wK (by exact fC.out.size) (fun k e=>Zay an.out e));clear wK;have eG:=Zrr eG)
      | (clear n9;refine step_append_lies w3 (by rfl) _ _ 76 (by rfl) w.heap.size 3 i0 (.int .i64 0) 1 8 Tryz.underlying76 bz bH aj av rfl (by decide) (.slice (some ⟨g3,0,none⟩) l1.length fJ) l1.length (l1.map Zce) (by rfl) au.out ⟨g2,0,none⟩ l2.length k2 (l2.map Zce) (by rfl) se aR.out (aH l2) (by omega) (by unfold maxLen;omega) (by omega) (by exact eI.out.size) _ rfl ?_;intro g5 xD w5 eG wK _ _;have kC:=Zrr (Below.grown eI.out wK (by exact eI.out.size) (fun k e=>Zay au.out e));clear wK;have eG:=Zrr eG))
   all_goals
    have aX:(l1++l2).length=l1.length+l2.length:=by simp
    have cY:SlI w5 (.slice (some ⟨g5,0,none⟩) (l1.length+l2.length) xD) (l1++l2):=Zbi (base:=w.heap.size) (Zak eG.out aX.symm (by simp));have wW:=Zda (l1++l2) _ w5 cY (by rw[aX];omega);clear cY;go_wp2_with fail;refine wW.mono ?_;rintro e w6 ⟨rfl,bZ⟩;have ej:=Zrr (kC.out.trans (bZ.mono kC.out.size));clear bZ wW;have sf:=ZfO (ofS (l1++l2)) w6;go_wp2_with fail;refine sf.mono ?_;rintro e w7 ⟨v7,rfl,bh,cq⟩;have aa:Zgf (Zex (ofS (l1++l2))) w (.returned v7) w7:=⟨_,rfl,Zd6 bh ej.out.size,ej.out.trans (cq.mono ej.out.size)⟩;clear bh cq sf;go_wp2_with fail;go_ret;exact aa
def Zf1 (t:List VN):Option (List Int):=ZeG t (t.length+1) (t.length - 1)
theorem ZcO{t:List VN}(w:World)(b o cap:Nat)(l:List Int)(ht:Zag w b o t)(h0:0<t.length)(eH:t.length≤1048576)(h:Zf1 t=some l) :
  Calls Tryz.prog 36 #[.slice (some ⟨b,o,none⟩) t.length cap] w (Zgf l w):=by
 have hq:=Zch (t.length+1) w b o cap (t.length - 1) l ht eH h;have e:((t.length - 1:Nat):Int)=(t.length:Int) - 1:=by omega
 rw[e]at hq;clear h ht
 go_enter Tryz.func36,Tryz.ntmps36
 go_wp2_with fail;refine hq.mono ?_;rintro e w1 ⟨v1,rfl,dX,aF⟩;go_wp2_with fail;go_ret;exact⟨_,rfl,dX,aF⟩
end Go.Proofs.YtemnmcfmabamcaaGreatDoor
