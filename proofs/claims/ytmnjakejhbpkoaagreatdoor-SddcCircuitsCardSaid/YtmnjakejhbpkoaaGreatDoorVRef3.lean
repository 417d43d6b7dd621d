import Derived.Test.YtmnjakejhbpkoaaGreatDoorVAnd
set_option linter.unusedSimpArgs false
set_option linter.unusedVariables false
set_option maxRecDepth 100000
set_option maxHeartbeats 2000000
namespace Go.Proofs.YtmnjakejhbpkoaaGreatDoor
open Go Go.RowKit
theorem ZlA(x:BitVec 64)(n:Nat):((((x.toNat:Int) / 2 ^ n).tmod 2) ==1)=x.getLsbD n:=by
 have h1:((x.toNat:Int) / 2 ^ n)=((x.toNat / 2 ^ n:Nat):Int):=by simp
 rw[h1]
 have h2:(((x.toNat / 2 ^ n:Nat):Int)).tmod 2=((x.toNat / 2 ^ n % 2:Nat):Int):=by
  rw[Int.tmod_eq_emod_of_nonneg (Int.natCast_nonneg _)];simp
 rw[h2,BitVec.getLsbD,Nat.testBit_eq_decide_div_mod_eq];rw[Bool.eq_iff_iff];simp;omega
theorem ZoA(a:Zak)(v:Int)(h1:1≤v)(h2:v≤64):((lo a / 2 ^ (v.toNat - 1)).tmod 2 ==1)=Zau a v:=by
 rw[lo,ZlA,BitVec.getLsbD_setWidth];have e1:v.toNat - 1=(v - 1).toNat:=by omega
 rw[e1];simp only[Zau,h1,show v≤128 from by omega,show (v-1).toNat<64 from by omega,decide_true,Bool.true_and]
theorem Zoz(a:Zak)(v:Int)(h1:65≤v)(h2:v≤128):((hi a / 2 ^ (v - 65).toNat).tmod 2 ==1)=Zau a v:=by
 have e1:64+(v - 65).toNat=(v - 1).toNat:=by omega
 rw[hi,ZlA,BitVec.getLsbD_setWidth,BitVec.getLsbD_ushiftRight,e1];simp only[Zau,h2,show 1≤v from by omega,show (v-65).toNat<64 from by omega,decide_true,Bool.true_and]
theorem Zls(a:Zak)(v:Int)(w:World)(h:v<1∨128<v):Calls Tryz.prog 155 #[ZaT a,.int .i64 v] w fun e w'=>e= .returned (.bool false)∧Ext w w':=by
 have hx:=(Ext.refl w).alloc (.cells #[.int .u64 (lo a),.int .u64 (hi a)] 41);unfold ZaT
 by_cases h1:v<1
 ·have d0:decide (v<1)=true:=Zpv h1
  go_enter Tryz.func155,Tryz.ntmps155
  go_wp2_with fail
  all_goals go_ret
  all_goals exact⟨rfl,hx⟩
 ·have d0:decide (v<1)=false:=Zpu h1
  have d1:decide (128<v)=true:=Zpv (by omega)
  go_enter Tryz.func155,Tryz.ntmps155
  go_wp2_with fail
  all_goals go_ret
  all_goals exact⟨rfl,hx⟩
theorem Zlr(a:Zak)(v:Int)(w:World)(h1:1≤v)(h2:v≤64):Calls Tryz.prog 155 #[ZaT a,.int .i64 v] w fun e w'=>e= .returned (.bool (Zau a v))∧Ext w w':=by
 have hx:=(Ext.refl w).alloc (.cells #[.int .u64 (lo a),.int .u64 (hi a)] 41);have d1:decide (v<1)=false:=Zpu (by omega);have d2:decide (v > 128)=false:=Zpu (by omega);have e1:(v - 1) / 64=0:=by omega
 have e2:(v - 1) % 64=v - 1:=by omega
 have hb:=Zpe (ZoA a v h1 h2);unfold ZaT
 go_enter Tryz.func155,Tryz.ntmps155
 go_wp2_with fail;go_ret;exact⟨by rw[←hb.out] <;> rfl,hx⟩
theorem Zlq(a:Zak)(v:Int)(w:World)(h1:65≤v)(h2:v≤128):Calls Tryz.prog 155 #[ZaT a,.int .i64 v] w fun e w'=>e= .returned (.bool (Zau a v))∧Ext w w':=by
 have hx:=(Ext.refl w).alloc (.cells #[.int .u64 (lo a),.int .u64 (hi a)] 41);have d1:decide (v<1)=false:=Zpu (by omega);have d2:decide (v > 128)=false:=Zpu (by omega);have e1:(v - 1) / 64=1:=by omega
 have e2:(v - 1) % 64=v - 65:=by omega
 have hb:=Zpe (Zoz a v h1 h2);unfold ZaT
 go_enter Tryz.func155,Tryz.ntmps155
 go_wp2_with fail;go_ret;exact⟨by rw[←hb.out] <;> rfl,hx⟩
theorem ZbH(a:Zak)(v:Int)(w:World):Calls Tryz.prog 155 #[ZaT a,.int .i64 v] w fun e w'=>e= .returned (.bool (Zau a v))∧Ext w w':=by
 by_cases h:v<1∨128<v
 ·have hv:Zau a v=false:=by simp[Zau];omega
  rw[hv];exact Zls a v w h
 ·by_cases hs:v≤64
  ·exact Zlr a v w (by omega) hs
  ·exact Zlq a v w (by omega) (by omega)
def Zbl (s:Zak):Nat→List Int
 | 0=>[]
 | k+1=>if Zau s ((k:Int)+1) then Zbl s k++[(k:Int)+1] else Zbl s k
def Zc8 (s:Zak):List Int:=Zbl s 128
theorem ZfI(s:Zak)(k:Nat):(Zbl s k).length≤k:=by
 induction k with
 | zero=>exact ZpD _
 | succ k ih =>
   rw[Zbl]
   split
   ·simp;omega
   ·omega
theorem ZcS:(Tryz.prog.info? 3).map (fun i=>(i.zero,i.size,i.bytes))=some (some (.int .i64 0),1,8):=by kernel_rfl
def ZeJ (n:Int):Value:=.int .i64 n
theorem Za4{w:World}{base:Nat}{v:Value}{l:List Int}(h:w.ownsRow base 3 1 v l.length (l.map ZeJ)):SlI w v l:=by
 obtain⟨_,⟨rfl,e⟩|⟨g,cap,cur,rfl,bk,bV,hn,hm,aO,ht⟩⟩:=h
 ·have:l=[]:=by simpa using e
  subst this;exact⟨none,0,rfl,.inl ⟨rfl,rfl,rfl⟩⟩
 ·refine⟨_,cap,rfl,.inr ⟨g,0,rfl,fun j hj=>?_⟩⟩
  have h1:(l.map ZeJ)[j]? =some (ZeJ l[j]):=by rw[List.getElem?_map,Zpl hj];rfl
  rw[←ht,List.getElem?_take]at h1
  split at h1
  ·have h2:cur[j]? =some (ZeJ l[j]):=by simpa using h1
   simp[World.cell?,bV,h2,ZeJ]
  ·simp at h1
theorem ZiS{w:World}{B B':Nat}{e:TypeId}{sz:Nat}{v:Value}{n:Nat}{xs:List Value}(h:w.ownsRow B e sz v n xs)(hb:B'≤B):w.ownsRow B' e sz v n xs:=by
 obtain⟨h1,h2⟩:=h;refine⟨h1,h2.imp id ?_⟩;rintro⟨g,cap,cur,h3,h4,h5⟩;exact⟨g,cap,cur,h3,Zpp hb h4,h5⟩
def Zel (s:Zak)(w:World)(k:Nat)(v:Value)(wr:World):Prop :=
 wr.heap[w.heap.size]? =some (.cells #[.int .u64 (lo s),.int .u64 (hi s)] 41 (0,0))∧wr.ownsRow (w.heap.size+1) 3 1 v (Zbl s k).length ((Zbl s k).map ZeJ)∧Below w.heap.size w wr∧w.heap.size+1≤wr.heap.size
theorem Ze8(s:Zak)(w:World):Calls Tryz.prog 95 #[ZaT s] w fun e w'=>∃v,e= .returned v∧w'.ownsRow w.heap.size 3 1 v (Zc8 s).length ((Zc8 s).map ZeJ)∧Below w.heap.size w w':=by
 obtain⟨i0,cX,bB,ak,bE⟩:=info_parts ZcS;have aK:=Zpm w (.cells #[.int .u64 (lo s),.int .u64 (hi s)] 41);have aC:=(Zpr w.heap.size w).alloc (ZpD _) (.cells #[.int .u64 (lo s),.int .u64 (hi s)] 41)
 have h0:Hid (Zel s w 0 (.slice none 0 0) (w.alloc (.cells #[.int .u64 (lo s),.int .u64 (hi s)] 41))):=Zpe
  ⟨aK,⟨by simp[Zbl],.inl ⟨rfl,by simp[Zbl]⟩⟩,aC,by simp⟩
 clear aK aC;unfold ZaT
 go_enter Tryz.func95,Tryz.ntmps95
 go_wp2_with fail;generalize w.alloc (.cells #[.int .u64 (lo s),.int .u64 (hi s)] 41)=w1 at *
 go_loopw [3,4] (fun v i wr=>∃k:Nat,k≤128∧i= .int .i64 ((k:Int)+1)∧Hid (Zel s w k v wr)) (fun _ i _=>129 - (intOf i).toNat)
 case atStart=>exact⟨0,by omega,rfl,h0⟩
 case round =>
  clear h0;obtain⟨k,hk,rfl,hI⟩:=hrel;obtain⟨hb,ho,hB,bW⟩:=hI.out;clear hI;obtain⟨c0,c1⟩:=Zae hb
  by_cases aE:k<128
  ·have d0:decide ((k:Int)+1≤128)=true:=Zpv (by omega)
   have hq:=ZbH s ((k:Int)+1) wr;unfold ZaT at hq;have hl:Zbl s (k+1)=if Zau s ((k:Int)+1) then Zbl s k++[(k:Int)+1] else Zbl s k:=rfl
   have aL:=ZfI s k;replace hb:=Zpe hb;replace ho:=Zpe ho;generalize Zau s ((k:Int)+1)=z at *
   cases z
   ·simp only[Bool.false_eq_true,if_false]at hl
    go_wp2_with fail;refine hq.mono ?_;rintro e w2 ⟨rfl,aF⟩
    have aM:Hid (Zel s w (k+1) u3 w2):=Zpe
     ⟨(aF.below.block _ (by omega)).trans hb.out,by rw[hl];exact Zao ho.out (fun g hg=>aF.below.block _ ((Zd8 ho.out hg).1)),hB.trans (aF.below.mono hB.size),by have:=aF.size;omega⟩
    go_wp2_with fail;go_roundw
    case rel=>exact⟨k+1,by omega,by go_num,aM⟩
    case measure=>simp[intOf];omega
   ·simp only[if_true]at hl
    go_wp2_with fail;refine hq.mono ?_;rintro e w2 ⟨rfl,aF⟩;have jB:=Zao ho.out (fun g hg=>aF.below.block _ ((Zd8 ho.out hg).1));have aP:=(aF.below.block _ (by omega)).trans hb.out;have fN:=hB.trans (aF.below.mono hB.size);have bT:w.heap.size+1≤w2.heap.size:=by have:=aF.size;omega
    go_wp2_with (at_builtin;refine wpList_append_own _ rfl _ _ 45 rfl (w.heap.size+1) 3 i0 (.int .i64 0) 1 8 Tryz.underlying45 cX bB ak bE rfl (by decide) _ _ _ rfl (jB.alloc _) ⟨w2.heap.size,0,none⟩ 1 1 [.int .i64 ((k:Int)+1)] rfl rfl (ZaP _ _ _ _ rfl) (by simp[Value.oneCell']) (by unfold maxLen;omega) (by omega) (by simp;omega) ?_;intro v3 w3 cZ dS _)
    have jz:=Below.grown (Below.alloc fN (by omega) _) dS (by simp;omega) (fun k e=>Zpp (by omega) (Zbc jB e));have aa:w3.heap[w.heap.size]? =_:=(dS.block _ (by simp;omega) (fun e=>by have:=Zbc jB e.symm;omega)).trans ((Below.heap_alloc _ _ _ bT).trans aP)
    have aM:Hid (Zel s w (k+1) v3 w3):=Zpe
     ⟨aa,by rw[hl];exact ZaW cZ (by simp) (by simp[ZeJ]),jz,Zpp bT (Zpp (by simp) dS.size)⟩
    go_roundw
    case rel=>exact⟨k+1,by omega,by go_num,aM⟩
    case measure=>simp[intOf];omega
  ·obtain rfl:k=128:=by omega
   have d0:decide (((128:Nat):Int)+1≤128)=false:=by decide
   replace hb:=Zpe hb;go_wp2_with fail;go_ret;exact⟨_,rfl,ZiS ho (Nat.le_succ _),hB⟩
def Za9 (f:Nat→Bool):Nat→Zak
 | 0=>0
 | k+1=>if decide (1≤k) && f k then ZaA (Za9 f k) k else Za9 f k
def Zez (f:Nat→Bool)(w:World)(k:Nat)(wr:World):Prop :=
 wr.heap[w.heap.size]? =some (.cells #[.int .u64 0,.int .u64 0] 41 (0,0))∧wr.heap[w.heap.size+1]? =some (.cells #[.int .u64 (lo (Za9 f k)),.int .u64 (hi (Za9 f k))] 41 (0,0))∧Below w.heap.size w wr∧w.heap.size+1<wr.heap.size
theorem ZdU(f:Nat→Bool)(w:World)(g c:Nat)(h:Zan w g 4 129 f):Calls Tryz.prog 157 #[.slice (some ⟨g,0,none⟩) 129 c] w fun e w'=>e= .returned (ZaT (Za9 f 129))∧Below w.heap.size w w':=by
 obtain⟨cs,hg,aO,tu⟩:=h;have dZ:g<w.heap.size:=(Zpi hg).1
 have h0:Hid (Zez f w 1 ((w.alloc (.cells #[.int .u64 0,.int .u64 0] 41)).alloc (.cells #[.int .u64 0,.int .u64 0] 41))):=by
  have hr:=(Zpr w.heap.size w).alloc (ZpD _) (.cells #[.int .u64 0,.int .u64 0] 41);have:=Zpm (w.alloc (.cells #[.int .u64 0,.int .u64 0] 41)) (.cells #[.int .u64 0,.int .u64 0] 41);rw[World.size_alloc]at this;have e0:Za9 f 1=0:=rfl;have e1:lo (0:Zak)=0:=rfl;have e2:hi (0:Zak)=0:=rfl;exact Zpe ⟨(Below.heap_alloc _ _ _ (by simp)).trans (Zpm w _),by rw[e0,e1,e2];exact this,hr.alloc (by simp) _,by simp⟩
 unfold ZaT
 go_enter Tryz.func157,Tryz.ntmps157
 go_wp2_with fail;generalize (w.alloc (.cells #[.int .u64 0,.int .u64 0] 41)).alloc (.cells #[.int .u64 0,.int .u64 0] 41)=w1 at *
 go_loopw [4] (fun i wr=>∃k:Nat,1≤k∧k≤129∧i= .int .i64 k∧Hid (Zez f w k wr)) (fun i _=>129 - (intOf i).toNat)
 case atStart=>exact⟨1,by omega,by omega,rfl,h0⟩
 case round =>
  clear h0;obtain⟨k,sO,hk,rfl,hI⟩:=hrel;obtain⟨hz,hb,hB,bW⟩:=hI.out;clear hI
  by_cases aE:k<129
  ·have hl:Za9 f (k+1)=if f k then ZaA (Za9 f k) k else Za9 f k:=by
    show (if decide (1≤k) && f k then ZaA (Za9 f k) k else Za9 f k)=_
    simp[sO]
   have d0:decide ((k:Int)<129)=true:=Zpv (by omega);have d1:decide (0≤(k:Int))=true:=Zpv (by omega);have hx:=tu k aE
   have cg:wr.cell? ⟨g,k,none⟩=some (.bool (f k)):=by
    rw[hB.cell (p:=⟨g,k,none⟩) dZ];simp[World.cell?,hg,hx]
   obtain⟨c0,c1⟩:=Zae hb;have y0:wr.frozen? ⟨w.heap.size+1,0,none⟩=false:=by simp[World.frozen?,hb]
   have y1:wr.frozen? ⟨w.heap.size+1,1,none⟩=false:=by simp[World.frozen?,hb]
   clear hx;replace hb:=Zpe hb;replace hz:=Zpe hz;replace hg:=Zpe hg;generalize f k=z at *
   cases z
   ·simp only[Bool.false_eq_true,if_false]at hl
    have aM:Hid (Zez f w (k+1) wr):=Zpe ⟨hz.out,by rw[hl];exact hb.out,hB,bW⟩;go_wp2_with fail;go_roundw
    case rel=>exact⟨k+1,by omega,by omega,by go_num,aM⟩
    case measure=>simp[intOf];omega
   ·simp only[if_true]at hl
    by_cases h64:k≤64
    ·have e1:((k:Int) - 1) / 64=0:=by omega
     have e2:((k:Int) - 1) % 64=k - 1:=by omega
     obtain⟨q1,q2⟩:=ZlO (Za9 f k) k (by omega) (by omega)
     have e3:ZdG (k:Int)=IntKind.u64.wrap (2 ^ (k - 1)):=by
      unfold ZdG;rw[e2];congr 2;omega
     rw[e3]at q1
     have aM:Hid (Zez f w (k+1) (wr.setCell ⟨w.heap.size+1,0,none⟩ (.int .u64 (bits .or .u64 (lo (Za9 f k)) (IntKind.u64.wrap (2 ^ (k - 1))))))):=Zpe
      ⟨(Below.heap_setCell _ _ _ _ (by simp)).trans hz.out,by rw[hl,q1,q2];exact Zag hb.out 0 _,hB.setCell (by simp) _,by simpa using bW⟩
     clear q1 q2;go_wp2_with fail;go_roundw
     case rel=>exact⟨k+1,by omega,by omega,by go_num,aM⟩
     case measure=>simp[intOf];omega
    ·have e1:((k:Int) - 1) / 64=1:=by omega
     have e2:((k:Int) - 1) % 64=k - 65:=by omega
     obtain⟨q1,q2⟩:=ZlN (Za9 f k) k (by omega) (by omega)
     have e3:ZdG (k:Int)=IntKind.u64.wrap (2 ^ (k - 65)):=by
      unfold ZdG;rw[e2];congr 2;omega
     rw[e3]at q1
     have aM:Hid (Zez f w (k+1) (wr.setCell ⟨w.heap.size+1,1,none⟩ (.int .u64 (bits .or .u64 (hi (Za9 f k)) (IntKind.u64.wrap (2 ^ (k - 65))))))):=Zpe
      ⟨(Below.heap_setCell _ _ _ _ (by simp)).trans hz.out,by rw[hl,q1,q2];exact Zag hb.out 1 _,hB.setCell (by simp) _,by simpa using bW⟩
     clear q1 q2;go_wp2_with fail;go_roundw
     case rel=>exact⟨k+1,by omega,by omega,by go_num,aM⟩
     case measure=>simp[intOf];omega
  ·obtain rfl:k=129:=by omega
   have d0:decide (((129:Nat):Int)<129)=false:=by decide
   obtain⟨c0,c1⟩:=Zae hb;have lZ:Below w.heap.size w ((wr.setCell ⟨w.heap.size,0,none⟩ (.int .u64 (lo (Za9 f 129)))).setCell ⟨w.heap.size,1,none⟩ (.int .u64 (hi (Za9 f 129)))):=(hB.setCell (by simp) _).setCell (by simp) _;obtain⟨z0,z1⟩:=Zae hz;have y0:wr.frozen? ⟨w.heap.size,0,none⟩=false:=by simp[World.frozen?,hz]
   have y1:wr.frozen? ⟨w.heap.size,1,none⟩=false:=by simp[World.frozen?,hz]
   have r0:((wr.setCell ⟨w.heap.size,0,none⟩ (.int .u64 (lo (Za9 f 129)))).setCell ⟨w.heap.size,1,none⟩ (.int .u64 (hi (Za9 f 129)))).cell? ⟨w.heap.size,0,none⟩=some (.int .u64 (lo (Za9 f 129))):=by
    rw[World.cell?,Zav hz];rfl
   have r1:((wr.setCell ⟨w.heap.size,0,none⟩ (.int .u64 (lo (Za9 f 129)))).setCell ⟨w.heap.size,1,none⟩ (.int .u64 (hi (Za9 f 129)))).cell? ⟨w.heap.size,1,none⟩=some (.int .u64 (hi (Za9 f 129))):=by
    rw[World.cell?,Zav hz];rfl
   replace hb:=Zpe hb;replace hz:=Zpe hz;replace hg:=Zpe hg;generalize aV:lo (Za9 f 129)=x0 at *;generalize aC:hi (Za9 f 129)=x1 at *;go_wp2_with fail;exact bodyPost_ret (v:=.agg #[.int .u64 x0,.int .u64 x1]) (by simp[results,Tryz.results157,go_sem,r0,r1]) rfl ⟨by rw[aV,aC],lZ⟩
theorem Zdb(w:World):Calls Tryz.prog 156 #[] w fun e w'=>e= .returned (.slice (some ⟨w.heap.size,0,none⟩) 129 129)∧w'=w.alloc (.cells (madeCells #[.bool false] 129) 4):=by
 have dD:(Instr.makeSlice 46 (.int .i64 129) (.int .i64 129)).run Tryz.prog w= .ok (.slice (some ⟨w.heap.size,0,none⟩) 129 129) (w.alloc (.cells (madeCells #[.bool false] 129) 4)) :=
  run_make_row' (P:=Tryz.prog) 46 4 (.bool false) 1 Tryz.underlying46 (by kernel_rfl) rfl .i64 .i64 129 (by omega) (by omega) w
 go_enter Tryz.func156,Tryz.ntmps156
 go_wp2_with fail;go_ret;exact⟨rfl,rfl⟩
def Zco (l:List Int)(v:Nat):Bool:=decide (1≤v) && decide (v≤128) && l.any fun x=>decide (x=(v:Int))
theorem Zjt(l:List Int)(k:Nat)(hk:k<l.length):Zco (l.take (k+1))=if decide (1≤l[k]) && decide (l[k]≤128) then Zbs (Zco (l.take k)) l[k].toNat else Zco (l.take k):=by
 funext v
 simp only[Zco];rw[List.take_succ_eq_append_getElem hk,List.any_append]
 split
 ·rename_i h
  simp only[Zpx,ZpA]at h;simp only[Zbs,Zco]
  by_cases hv:v=l[k].toNat
  ·subst hv
   have e:l[k]=((l[k].toNat:Nat):Int):=by omega
   simp;omega
  ·rw[if_neg hv]
   have:¬ l[k]=(v:Int):=by omega
   simp[this]
 ·rename_i h
  simp only[Zpx,ZpA]at h;simp only[Zco]
  by_cases hv:1≤v∧v≤128
  ·have:¬ l[k]=(v:Int):=by omega
   simp[this]
  ·have:(decide (1≤v) && decide (v≤128))=false:=by
    cases h1:(decide (1≤v) && decide (v≤128))
    ·rfl
    ·simp only[Zpx,ZpA]at h1;exact absurd h1 hv
   simp[this]
theorem Zdi(s:Zak)(v:Int)(i:Nat)(hi:i<128):(ZaA s v).getLsbD i=(s.getLsbD i || decide (v=(i:Int)+1)):=by
 unfold ZaA
 split
 ·rw[BitVec.getLsbD_or,BitVec.getLsbD_twoPow]
  congr 1
  rw[Bool.eq_iff_iff];simp;omega
 ·have:¬ v=(i:Int)+1:=by omega
  simp[this]
theorem ZgJ(l:List Int)(i:Nat)(hi:i<128):∀s:Zak,(l.foldl ZaA s).getLsbD i=(s.getLsbD i || l.any fun x=>decide (x=(i:Int)+1)):=by
 induction l with
 | nil=>intro s;simp
 | cons x r ih =>
   intro s;rw[List.foldl_cons,ih,Zdi _ _ _ hi,List.any_cons,Bool.or_assoc]
theorem Zf2(f:Nat→Bool)(k:Nat)(i:Nat)(hi:i<128):(Za9 f k).getLsbD i=(decide (i+1<k) && f (i+1)):=by
 induction k with
 | zero=>simp[Za9]
 | succ k ih =>
   rw[Za9]
   split
   ·rename_i h
    simp only[Zpx,ZpA]at h;rw[Zdi _ _ _ hi,ih]
    by_cases e:k=i+1
    ·subst e
     simp[h.2]
    ·have e1:¬ (k:Int)=(i:Int)+1:=by omega
     have e2:(i+1<k+1)↔(i+1<k):=by omega
     simp[e1,e2]
   ·rename_i h
    rw[ih]
    by_cases e:k=i+1
    ·subst e
     simp at h;simp[h]
    ·have e2:(i+1<k+1)↔(i+1<k):=by omega
     simp[e2]
theorem ZjS(l:List Int):Za9 (Zco l) 129=ofS l:=by
 apply BitVec.eq_of_getLsbD_eq
 intro i hi;rw[Zf2 _ _ _ hi,ofS,ZgJ _ _ hi];have h1:i+1≤128:=by omega
 have h2:i+1<129:=by omega
 simp[Zco,h1,h2]
def ZgF (l:List Int)(w:World)(k:Nat)(wr:World):Prop :=
 wr.heap[w.heap.size]? =some (.cells #[.int .u64 0,.int .u64 0] 41 (0,0))∧Zan wr (w.heap.size+1) 4 129 (Zco (l.take k))∧Below w.heap.size w wr∧w.heap.size+1<wr.heap.size
theorem Ze9(l:List Int)(v:Value)(w:World)(hv:SlI w v l)(hl:l.length≤1048576) :
  Calls Tryz.prog 84 #[v] w fun e w'=>e= .returned (ZaT (ofS l))∧Below w.heap.size w w':=by
 obtain⟨ba,cp,rfl,hv⟩:=hv
 have aT:∀k (hk:k<l.length),∃b o,ba=some ⟨b,o,none⟩∧w.cell? ⟨b,o+k,none⟩=some (.int .i64 l[k]):=fun k hk=>by
  rcases hv with ⟨_,rfl,_⟩|⟨b,o,h1,h2⟩
  ·simp at hk
  ·exact⟨b,o,h1,h2 k hk⟩
 clear hv;replace aT:=Zpe aT;unfold ZaT;have aK:=Zpm w (.cells #[.int .u64 0,.int .u64 0] 41);have aS:=(Zpr w.heap.size w).alloc (ZpD _) (.cells #[.int .u64 0,.int .u64 0] 41);have cM:(w.alloc (.cells #[.int .u64 0,.int .u64 0] 41)).heap.size=w.heap.size+1:=by simp
 go_enter Tryz.func84,Tryz.ntmps84
 go_wp2_with fail;generalize w.alloc (.cells #[.int .u64 0,.int .u64 0] 41)=w1 at *;refine(Zdb w1).mono ?_;rintro e w2 ⟨rfl,rfl⟩
 have h0:Hid (ZgF l w 0 (w1.alloc (.cells (madeCells #[.bool false] 129) 4))):=Zpe
  ⟨(Below.heap_alloc _ _ _ (by omega)).trans aK,by
    have:=Zcb w1 _ 4 129 (Ze0 129) (w.heap.size+1) cM.symm;have e0:Zco (l.take 0)=fun _=>false:=by funext v;simp[Zco]
    rw[e0];exact this,aS.alloc (by omega) _,by simp;omega⟩
 rw[cM];clear aK aS;go_wp2_with fail;generalize w1.alloc (.cells (madeCells #[.bool false] 129) 4)=w2 at *;clear cM
 go_loopw [4] (fun i wr=>∃k:Nat,k≤l.length∧i= .int .i64 k∧Hid (ZgF l w k wr)) (fun i _=>l.length - (intOf i).toNat)
 case atStart=>exact⟨0,Nat.zero_le _,rfl,h0⟩
 case round =>
  clear h0;obtain⟨k,hk,rfl,hI⟩:=hrel;obtain⟨hz,hb,hB,bW⟩:=hI.out;clear hI
  by_cases aE:k<l.length
  ·obtain⟨b,o,rfl,hc⟩:=aT.out k aE
   have kK:=Zjt l k aE;have cg:=(hB.cell (p:=⟨b,o+k,none⟩) (Zpk w _ hc)).trans hc;clear hc;generalize l[k]=x at *
   by_cases h1:1≤x
   ·by_cases h2:x≤128
    ·obtain⟨n,rfl⟩:∃n:Nat,x=n:=⟨x.toNat,by omega⟩
     have d1:decide ((1:Int)≤n)=true:=Zpv h1;have d2:decide ((n:Int)≤128)=true:=Zpv h2;have d3:decide ((n:Int)<129)=true:=Zpv (by omega);have d0:decide (0≤(n:Int))=true:=Zpv (by omega);rw[d1,d2]at kK;simp only[Bool.and_true,if_true,Int.toNat_natCast]at kK;have aP:=hb.set n;rw[←kK]at aP;obtain⟨r0,r1⟩:=hb.cell (j:=n) (by omega)
     have aM:Hid (ZgF l w (k+1) (wr.setCell ⟨w.heap.size+1,n,none⟩ (.bool true))):=Zpe
      ⟨(Below.heap_setCell _ _ _ _ (by simp)).trans hz,aP,hB.setCell (by simp) _,by simpa using bW⟩
     clear kK aP;replace hb:=Zpe hb;replace hz:=Zpe hz;go_wp2_with fail;go_roundw
     case rel=>exact⟨k+1,by omega,by go_num,aM⟩
     case measure=>simp[intOf];omega
    ·have d1:decide (1≤x)=true:=Zpv h1
     have d2:decide (x≤128)=false:=Zpu h2;rw[d1,d2]at kK;simp only[Bool.and_false,Bool.false_eq_true,if_false]at kK;have aM:Hid (ZgF l w (k+1) wr):=Zpe ⟨hz,by rw[kK];exact hb,hB,bW⟩;clear kK;replace hb:=Zpe hb;replace hz:=Zpe hz;go_wp2_with fail;go_roundw
     case rel=>exact⟨k+1,by omega,by go_num,aM⟩
     case measure=>simp[intOf];omega
   ·have d1:decide (1≤x)=false:=Zpu h1
    rw[d1]at kK;simp only[Bool.false_and,Bool.false_eq_true,if_false]at kK;have aM:Hid (ZgF l w (k+1) wr):=Zpe ⟨hz,by rw[kK];exact hb,hB,bW⟩;clear kK;replace hb:=Zpe hb;replace hz:=Zpe hz;go_wp2_with fail;go_roundw
    case rel=>exact⟨k+1,by omega,by go_num,aM⟩
    case measure=>simp[intOf];omega
  ·obtain rfl:k=l.length:=by omega
   rw[List.take_length]at hb;have hq:=ZdU (Zco l) wr (w.heap.size+1) 129 hb;rw[ZjS]at hq;unfold ZaT at hq;replace hb:=Zpe hb;replace hz:=Zpe hz;go_wp2_with fail;refine hq.mono ?_;rintro e w3 ⟨rfl,aa⟩;have jz:=hB.trans (aa.mono hB.size);have dw:=(aa.block w.heap.size (by omega)).trans hz.out;have lZ:Below w.heap.size w ((w3.setCell ⟨w.heap.size,0,none⟩ (.int .u64 (lo (ofS l)))).setCell ⟨w.heap.size,1,none⟩ (.int .u64 (hi (ofS l)))):=(jz.setCell (by simp) _).setCell (by simp) _;obtain⟨z0,z1⟩:=Zae dw;have y0:w3.frozen? ⟨w.heap.size,0,none⟩=false:=by simp[World.frozen?,dw]
   have y1:w3.frozen? ⟨w.heap.size,1,none⟩=false:=by simp[World.frozen?,dw]
   have r0:((w3.setCell ⟨w.heap.size,0,none⟩ (.int .u64 (lo (ofS l)))).setCell ⟨w.heap.size,1,none⟩ (.int .u64 (hi (ofS l)))).cell? ⟨w.heap.size,0,none⟩=some (.int .u64 (lo (ofS l))):=by
    rw[World.cell?,Zav dw];rfl
   have r1:((w3.setCell ⟨w.heap.size,0,none⟩ (.int .u64 (lo (ofS l)))).setCell ⟨w.heap.size,1,none⟩ (.int .u64 (hi (ofS l)))).cell? ⟨w.heap.size,1,none⟩=some (.int .u64 (hi (ofS l))):=by
    rw[World.cell?,Zav dw];rfl
   clear dw;generalize aV:lo (ofS l)=x0 at *;generalize aC:hi (ofS l)=x1 at *;go_wp2_with fail;exact bodyPost_ret (v:=.agg #[.int .u64 x0,.int .u64 x1]) (by simp[results,Tryz.results84,go_sem,r0,r1]) rfl ⟨by rw[aV,aC],lZ⟩
end Go.Proofs.YtmnjakejhbpkoaaGreatDoor
