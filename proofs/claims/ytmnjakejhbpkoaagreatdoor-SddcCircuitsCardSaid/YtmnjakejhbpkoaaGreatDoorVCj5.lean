import Derived.Test.YtmnjakejhbpkoaaGreatDoorVCi3
set_option linter.unusedSimpArgs false
set_option linter.unusedVariables false
set_option maxRecDepth 100000
set_option maxHeartbeats 8000000
namespace Go.Proofs.YtmnjakejhbpkoaaGreatDoor
open Go Go.RowKit Go.Shelf
def Zg2 (C:List L.Gt):List Int:=C.flatMap fun g=>if g.kind=2 then [(g.lit.natAbs:Int)] else []
theorem Zk7{C:List L.Gt}{k:Nat}(hk:k<C.length):Zg2 (C.take (k+1))=Zg2 (C.take k)++(if C[k].kind=2 then [(C[k].lit.natAbs:Int)] else []):=by
 unfold Zg2;rw[List.take_succ_eq_append_getElem hk,List.flatMap_append];simp
theorem Zmq(C:List L.Gt):ofS (Zg2 C)=L.ciVars C:=by
 unfold ofS L.ciVars
 suffices h:∀(C:List L.Gt) (s:Zak),(Zg2 C).foldl ZaA s=C.foldl L.gVars s from h C 0
 intro C
 induction C with
 | nil=>intro s;rfl
 | cons g r ih =>
   intro s;have e:Zg2 (g :: r)=(if g.kind=2 then [(g.lit.natAbs:Int)] else [])++Zg2 r:=by unfold Zg2;rw[List.flatMap_cons]
   rw[e,List.foldl_append,List.foldl_cons,ih]
   congr 1
   unfold L.gVars
   split <;> rfl
theorem ZiK(C:List L.Gt):(Zg2 C).length≤C.length:=by
 induction C with
 | nil=>exact ZpD _
 | cons g r ih =>
   have e:Zg2 (g :: r)=(if g.kind=2 then [(g.lit.natAbs:Int)] else [])++Zg2 r:=by unfold Zg2;rw[List.flatMap_cons]
   rw[e,Zpo,ZpC]
   split <;> simp <;> omega
def VL7 (w:World)(n:Int)(u:Value)(C:List L.Gt)(k:Nat)(v:Value)(W:World):Prop :=
 W.heap[w.heap.size]? =some (.cells #[.int .i64 n,u] 84 (0,0))∧W.heap[w.heap.size+1]? =some (.cells #[.int .u64 0,.int .u64 0] 41 (0,0))∧W.ownsRow w.heap.size 3 1 v (Zg2 (C.take k)).length ((Zg2 (C.take k)).map ZeJ)∧Below w.heap.size w W
theorem Zeb{n:Int}{C:List L.Gt}{v:Value}{w:World}(hv:SlC w v C)(h1:C.length≤5000)(h2:∀g∈C,g.inp.length≤200) :
  Calls Tryz.prog 54 #[.agg #[.int .i64 n,v]] w fun e w'=>e= .returned (ZaT (if L.ciChk n C=0 then L.ciVars C else 0))∧Below w.heap.size w w':=by
 obtain⟨i0,cX,bB,ak,bE⟩:=info_parts ZcS;obtain⟨ba,cp,rfl,aO⟩:=hv.shape;obtain⟨e0,e1⟩:=ZbB w (.cells #[.int .i64 n,.slice ba C.length cp] 84) (.cells #[.int .u64 0,.int .u64 0] 41);have aF:Ext w ((w.alloc (.cells #[.int .i64 n,.slice ba C.length cp] 84)).alloc (.cells #[.int .u64 0,.int .u64 0] 41)):=((Ext.refl w).alloc _).alloc _;obtain⟨w2,cA⟩:∃W,W=(w.alloc (.cells #[.int .i64 n,.slice ba C.length cp] 84)).alloc (.cells #[.int .u64 0,.int .u64 0] 41):=⟨_,rfl⟩;rw[←cA]at e0 e1 aF;have q1:=Zbg (n:=n) (hv.ext aF.below) h1 h2;have c0:w2.cell? ⟨w.heap.size,0,none⟩=some (.int .i64 n):=by rw[World.cell?,e0];rfl
 have c1:w2.cell? ⟨w.heap.size,1,none⟩=some (.slice ba C.length cp):=by rw[World.cell?,e0];rfl
 have hV0:Hid (VL7 w n (.slice ba C.length cp) C 0 (.slice none 0 0) w2):=Zpe ⟨e0,e1,⟨rfl,.inl ⟨rfl,rfl⟩⟩,aF.below⟩
 have mi:∀(s:Zak) (wr:World),wr.heap[w.heap.size+1]? =some (.cells #[.int .u64 0,.int .u64 0] 41 (0,0))→Below w.heap.size w wr→(wr.cell? ⟨w.heap.size+1,0,none⟩=some (.int .u64 0)∧wr.cell? ⟨w.heap.size+1,1,none⟩=some (.int .u64 0)∧wr.frozen? ⟨w.heap.size+1,0,none⟩=false∧wr.frozen? ⟨w.heap.size+1,1,none⟩=false)∧(((wr.setCell ⟨w.heap.size+1,0,none⟩ (.int .u64 (lo s))).setCell ⟨w.heap.size+1,1,none⟩ (.int .u64 (hi s))).cell? ⟨w.heap.size+1,0,none⟩=some (.int .u64 (lo s))∧((wr.setCell ⟨w.heap.size+1,0,none⟩ (.int .u64 (lo s))).setCell ⟨w.heap.size+1,1,none⟩ (.int .u64 (hi s))).cell? ⟨w.heap.size+1,1,none⟩=some (.int .u64 (hi s))∧Below w.heap.size w ((wr.setCell ⟨w.heap.size+1,0,none⟩ (.int .u64 (lo s))).setCell ⟨w.heap.size+1,1,none⟩ (.int .u64 (hi s)))):=fun s wr h hb=>by
  obtain⟨z0,z1⟩:=Zf3 h (.int .u64 (lo s)) (.int .u64 (hi s));exact⟨⟨by rw[World.cell?,h];rfl,by rw[World.cell?,h];rfl,by simp[World.frozen?,h],by simp[World.frozen?,h]⟩,z0,z1,(hb.setCell (Nat.le_succ _) _).setCell (Nat.le_succ _) _⟩
 replace mi:=Zpe mi;replace e0:=Zpe e0;replace e1:=Zpe e1;replace aO:=Zpe aO;replace h2:=Zpe h2
 by_cases aq:L.ciChk n C=0
 ·rw[aq]at q1
  rw[if_pos aq];obtain⟨⟨cO,aX⟩,hT,_,_,aN⟩:=L.ciChk_ok.1 aq;replace aN:=Zpe aN;clear hv aq
  go_enter Tryz.func54,Tryz.ntmps54
  go_wp2_with fail;rw[←cA];replace cA:=Zpe cA
  try go_wp2_with fail
  refine q1.mono ?_;rintro e w4 ⟨rfl,ah⟩;have hV4:Hid (VL7 w n (.slice ba C.length cp) C 0 (.slice none 0 0) w4):=Zpe ⟨(ah.below.block _ (Zpi e0.out).1).trans e0.out,(ah.below.block _ (Zpi e1.out).1).trans e1.out,⟨rfl,.inl ⟨rfl,rfl⟩⟩,(aF.trans ah).below⟩;clear q1 c0 c1 ah hV0;replace aF:=Zpe aF;go_wp2_with fail
  go_loopw [3,4] (fun s i wr=>∃k:Nat,k≤C.length∧i= .int .i64 (k:Nat)∧Hid (VL7 w n (.slice ba C.length cp) C k s wr)) (fun _ i _=>C.length - (intOf i).toNat)
  case atStart=>exact⟨0,Nat.zero_le _,rfl,hV4⟩
  case round =>
   clear hV4;obtain⟨k,hk,rfl,hI⟩:=hrel;obtain⟨hB,hZ,hO,hb⟩:=hI.out;have d1:wr.cell? ⟨w.heap.size,1,none⟩=some (.slice ba C.length cp):=by rw[World.cell?,hB];rfl
   have g0:(0:Int)≤(k:Int):=by omega
   by_cases aE:k<C.length
   ·have g1:(k:Int)<(C.length:Int):=by omega
    have d0:decide ((k:Int)<(C.length:Int))=true:=Zpv g1;obtain⟨b,o,bb,cc,rfl,f0,f1,_,_⟩:=aO.out k aE;have r0:=(hb.cell (Zpk _ _ f0)).trans f0;have r1:=(hb.cell (Zpk _ _ f1)).trans f1;have bN:=Zk7 aE;have dU:=ZeP (aN.out k aE);have aL:(Zg2 (C.take k)).length≤5000:=Zpp (ZiK _) (by rw[List.length_take];omega);generalize C[k]=g at *;obtain⟨kd,lt,ip⟩:=g
    dsimp only at *
    clear f0 aO
    by_cases bX:kd=2
    ·subst bX
     have uY:=L.validB_range aX (dU rfl);rw[if_pos rfl]at bN;have gH:IntKind.i64.wrap (-lt)= -lt:=IntWalk.i64_in _ (by omega);have pC:max lt (-lt)=(lt.natAbs:Int):=by omega
     generalize lt.natAbs=y at *;generalize pA:Zg2 (C.take k)=ls at *;replace pA:=Zpe pA;replace uY:=Zpe uY;replace bN:=Zpe bN;replace hB:=Zpe hB;replace hZ:=Zpe hZ;replace hO:=Zpe hO;replace pC:=Zpe pC;clear dU;have hd:=Zpe ((Zpr wr.heap.size wr).drew);have hS:=fun (V:World) (h:Below wr.heap.size wr V)=>show V.cell? ⟨w.heap.size,1,none⟩=some (.slice (some ⟨b,o,none⟩) C.length cp)∧V.cell? ⟨b,o+k*3+1,none⟩=some (.int .i64 lt) from ⟨(h.cell (Zpk _ _ d1)).trans d1,(h.cell (Zpk _ _ r1)).trans r1⟩
     replace hS:=Zpe hS;go_wp2_with fail;(refine wp_region_held_drew (S:=(fun V=>V.cell? ⟨w.heap.size,1,none⟩=some (.slice (some ⟨b,o,none⟩) C.length cp)∧V.cell? ⟨b,o+k*3+1,none⟩=some (.int .i64 lt))) (by kernel_rfl) ?_ (fun aA=>?_))
     ·exact hS.out _ hd.out
     (refine ZpE (i:=0) (v:=?_) rfl (by kernel_rfl) (fun _ _ _ h=>h) (Or.inl ⟨by rfl,?_⟩) (by assumption) ?_);rotate_left
     ·(intro w aB;(try dsimp only at aB);go_simp;first|done|with_reducible rfl)
     (try simp only[Act.put,Zpf,Zpg,Zph]);(refine ZpE (i:=1) (v:=?_) rfl (by kernel_rfl) (fun _ _ _ h=>h) (Or.inl ⟨by rfl,?_⟩) (by assumption) ?_);rotate_left
     ·(intro w aB;(try dsimp only at aB);go_simp;first|done|with_reducible rfl)
     (try simp only[Act.put,Zpf,Zpg,Zph]);(refine ZpE (i:=2) (v:=?_) rfl (by kernel_rfl) (fun _ _ _ h=>h) (Or.inl ⟨by rfl,?_⟩) (by assumption) ?_);rotate_left
     ·(intro w aB;(try dsimp only at aB);go_simp;first|done|with_reducible rfl)
     (try simp only[Act.put,Zpf,Zpg,Zph]);(refine ZpE (i:=3) (v:=?_) rfl (by kernel_rfl) (fun _ _ _ h=>h) (Or.inl ⟨by rfl,?_⟩) (by assumption) ?_);rotate_left
     ·(intro w aB;(try dsimp only at aB);go_simp;first|done|with_reducible rfl)
     (try simp only[Act.put,Zpf,Zpg,Zph]);(refine ZpE (i:=4) (v:=?_) rfl (by kernel_rfl) (fun _ _ _ h=>h) (Or.inl ⟨by rfl,?_⟩) (by assumption) ?_);rotate_left
     ·(intro w aB;(try dsimp only at aB);go_simp;first|done|with_reducible rfl)
     (try simp only[Act.put,Zpf,Zpg,Zph]);(refine ZpE (i:=5) (v:=?_) rfl (by kernel_rfl) (fun _ _ _ h=>h) (Or.inl ⟨by rfl,?_⟩) (by assumption) ?_);rotate_left
     ·(intro w aB;(try dsimp only at aB);go_simp;first|done|with_reducible rfl)
     (try simp only[Act.put,Zpf,Zpg,Zph]);(refine ZpE (i:=6) (v:=?_) rfl (by kernel_rfl) (fun _ _ _ h=>h) (Or.inl ⟨by rfl,?_⟩) (by assumption) ?_);rotate_left
     ·(intro w aB;(try dsimp only at aB);go_simp;first|done|with_reducible rfl)
     (try simp only[Act.put,Zpf,Zpg,Zph]);(refine ZpE (i:=7) (v:=?_) rfl (by kernel_rfl) (fun _ _ _ h=>h) (Or.inl ⟨by rfl,?_⟩) (by assumption) ?_);rotate_left
     ·(intro w aB;(try dsimp only at aB);go_simp;first|done|with_reducible rfl)
     (try simp only[Act.put,Zpf,Zpg,Zph]);(refine ZpE (i:=8) (v:=?_) rfl (by kernel_rfl) (fun _ _ _ h=>h) (Or.inl ⟨by rfl,?_⟩) (by assumption) ?_);rotate_left
     ·(intro w aB;(try dsimp only at aB);go_simp;first|done|with_reducible rfl)
     (try simp only[Act.put,Zpf,Zpg,Zph]);(refine ZpE (i:=9) (v:=?_) rfl (by kernel_rfl) (fun _ _ _ h=>h) (Or.inl ⟨by rfl,?_⟩) (by assumption) ?_);rotate_left
     ·(intro w aB;(try dsimp only at aB);go_simp;first|done|with_reducible rfl)
     (try simp only[Act.put,Zpf,Zpg,Zph]);(refine ZpE (i:=10) (v:=?_) rfl (by kernel_rfl) (fun _ _ _ h=>h) (Or.inl ⟨by rfl,?_⟩) (by assumption) ?_);rotate_left
     ·(intro w aB;(try dsimp only at aB);go_simp;first|done|with_reducible rfl)
     (try simp only[Act.put,Zpf,Zpg,Zph]);(refine ZpE (i:=11) (v:=?_) rfl (by kernel_rfl) (fun _ _ _ h=>h) (Or.inl ⟨by rfl,?_⟩) (by assumption) ?_);rotate_left
     ·(intro w aB;(try dsimp only at aB);go_simp;first|done|with_reducible rfl)
     (try simp only[Act.put,Zpf,Zpg,Zph]);(refine ZpE (i:=12) (v:=?_) rfl (by kernel_rfl) (fun _ _ _ h=>h) (Or.inl ⟨by rfl,?_⟩) (by assumption) ?_);rotate_left
     ·(intro w aB;(try dsimp only at aB);go_simp;first|done|with_reducible rfl)
     (try simp only[Act.put,Zpf,Zpg,Zph]);(refine ZpE (i:=13) (v:=?_) rfl (by kernel_rfl) (fun _ _ _ h=>h) (Or.inl ⟨by rfl,?_⟩) (by assumption) ?_);rotate_left
     ·(intro w aB;(try dsimp only at aB);go_simp;first|done|with_reducible rfl)
     (try simp only[Act.put,Zpf,Zpg,Zph]);(refine ZpE (i:=14) (v:=?_) rfl (by kernel_rfl) (fun _ _ _ h=>h) (Or.inl ⟨by rfl,?_⟩) (by assumption) ?_);rotate_left
     ·(intro w aB;(try dsimp only at aB);go_simp;first|done|with_reducible rfl)
     (try simp only[Act.put,Zpf,Zpg,Zph]);rw[pC.out];have ha:Below wr.heap.size wr ((wr.alloc (.cells #[.int .i64 (y:Nat)] 3)).drew):=((Zpr _ wr).alloc (ZpD _) _).drew;have bY:((wr.alloc (.cells #[.int .i64 (y:Nat)] 3)).drew).heap[wr.heap.size]? =some (.cells #[.int .i64 (y:Nat)] 3):=Zpm wr _;have lD:=Za0 hO.out (fun g c h=>ha.block g (Zpi h).1);have mO:=World.news_of_block (cs:=#[.int .i64 (y:Nat)]) (t:=3) (fr:=(0,0)) bY;(refine wpAnyH_ready (rs:=[15]) (by kernel_rfl) (by simp) ?_);(refine Zaw rfl (fun K hK=>?_))
     ((rw[if_pos (by rfl)]);go_simp;refine hK.out _ _ (hS.out _ ha) (fun aA=>?_))
     (clear hK K)
     (try simp only[Act.put,Zpf,Zpg,Zph]);obtain⟨wd,p6⟩:∃W,W=(wr.alloc (.cells #[.int .i64 (y:Nat)] 3)).drew:=⟨_,rfl⟩;rw[←p6]at ha bY lD mO ⊢;replace p6:=Zpe p6;have ja:=hb.trans (ha.mono hb.size);(refine wpAnyH_ready (rs:=[16]) (by kernel_rfl) (by simp) ?_);(refine Zaw rfl (fun K hK=>?_))
     ((rw[if_pos (by rfl)]);refine wp_append_own _ _ _ 45 rfl w.heap.size 3 i0 (.int .i64 0) 1 8 Tryz.underlying45 cX bB ak bE rfl (by decide) u3 ls.length (ls.map ZeJ) rfl lD ⟨wr.heap.size,0,none⟩ 1 1 [.int .i64 (y:Nat)] rfl rfl mO (by simp[Value.oneCell']) (by unfold maxLen;omega) (by omega) ja.size (fun v6 w6 cz iR _=>?_);have gO:=(ha.block _ (Zpi hB.out).1).trans hB.out;have jZ:=(ZaY lD iR gO (by decide)).trans gO;have kZ:=(ha.block _ (Zpi hZ.out).1).trans hZ.out;have hZ6:=(ZaY lD iR kZ (by decide)).trans kZ;have jL:Below w.heap.size w w6:=Below.grown ja iR ja.size (fun k e=>Zbc lD e);have x1:w6.cell? ⟨w.heap.size,1,none⟩=some (.slice (some ⟨b,o,none⟩) C.length cp):=(by simp[World.cell?,jZ]);refine hK.out _ _ ⟨x1,(jL.cell (Zpk _ _ f1)).trans f1⟩ (fun aA=>?_))
     (clear hK K)
     (try simp only[Act.put,Zpf,Zpg,Zph]);have ag:Hid (VL7 w n (.slice (some ⟨b,o,none⟩) C.length cp) C (k+1) v6 w6):=Zpe ⟨jZ,hZ6,by rw[bN.out];exact ZaW cz (by simp) (by simp[ZeJ]),jL⟩;clear cz iR gO kZ jZ hZ6;(refine ZpE (i:=17) (v:=?_) rfl (by kernel_rfl) (fun _ _ _ h=>h) (Or.inl ⟨by rfl,?_⟩) (by assumption) ?_);rotate_left
     ·(intro w aB;(try dsimp only at aB);go_simp;first|done|with_reducible rfl)
     (try simp only[Act.put,Zpf,Zpg,Zph]);(refine wpAnyH_done (by kernel_rfl) ?_ _);clear aA;go_wp2_with fail;go_roundw
     case rel=>exact⟨k+1,by omega,by go_num,ag⟩
     case measure=>simp[intOf];omega
    ·have d2:(kd ==2)=false:=by simpa using bX
     rw[if_neg bX,List.append_nil]at bN;have ag:Hid (VL7 w n (.slice (some ⟨b,o,none⟩) C.length cp) C (k+1) u3 wr):=Zpe ⟨hB,hZ,by rw[bN];exact hO,hb⟩;replace bX:=Zpe bX;replace bN:=Zpe bN;replace hO:=Zpe hO;clear dU;go_wp2_with fail;go_roundw
     case rel=>exact⟨k+1,by omega,by go_num,ag⟩
     case measure=>simp[intOf];omega
   ·obtain rfl:k=C.length:=by omega
    have d0:decide ((C.length:Int)<(C.length:Int))=false:=Zpu (by omega);rw[List.take_length]at hO;have aL:=ZiK C;have cq:=Za4 hO;have q:=Ze9 (Zg2 C) u3 wr cq (by omega);rw[Zmq]at q;unfold ZaT at q;obtain⟨ba3,cp3,rfl,_⟩:=cq;obtain⟨s0,eI⟩:∃s0,s0=L.ciVars C:=⟨_,rfl⟩;rw[←eI]at q;replace eI:=Zpe eI;replace hB:=Zpe hB;replace hZ:=Zpe hZ;replace hO:=Zpe hO;go_wp2_with fail;refine q.mono ?_;rintro e w5 ⟨rfl,aj⟩;have am:=hb.trans (aj.mono hb.size);have kZ:=(aj.block _ (Zpi hZ.out).1).trans hZ.out;obtain⟨⟨z0,z1,y0,y1⟩,r0,r1,cu⟩:=mi.out s0 w5 kZ am;replace r0:=Zpe r0;replace r1:=Zpe r1;replace cu:=Zpe cu;replace kZ:=Zpe kZ;clear q d0 d1;go_wp2_with fail;exact bodyPost_ret (v:=ZaT s0) (by simp[results,Tryz.results54,go_sem,r0.out,r1.out,ZaT]) rfl ⟨by rw[eI.out],cu.out⟩
 ·have hd:(L.ciChk n C !=0)=true:=by simpa using aq
  rw[if_neg aq];generalize L.ciChk n C=zc at *;clear hv aq
  go_enter Tryz.func54,Tryz.ntmps54
  go_wp2_with fail;rw[←cA];replace cA:=Zpe cA
  try go_wp2_with fail
  refine q1.mono ?_;rintro e w4 ⟨rfl,ah⟩;have wH:=(ah.below.block _ (Zpi e1.out).1).trans e1.out;obtain⟨⟨z0,z1,y0,y1⟩,r0,r1,cu⟩:=mi.out 0 w4 wH (aF.trans ah).below;rw[show lo (0:Zak)=0 from rfl]at r0 r1 cu;rw[show hi (0:Zak)=0 from rfl]at r0 r1 cu;replace r0:=Zpe r0;replace r1:=Zpe r1;replace cu:=Zpe cu;replace wH:=Zpe wH;replace aF:=Zpe aF;clear q1 c0 c1 ah;go_wp2_with fail;exact bodyPost_ret (v:=ZaT 0) (by simp[results,Tryz.results54,go_sem,r0.out,r1.out,ZaT];exact⟨rfl,rfl⟩) rfl ⟨rfl,cu.out⟩
end Go.Proofs.YtmnjakejhbpkoaaGreatDoor
