import Derived.Test.YtmnjakejhbpkoaaGreatDoorVLaw12
set_option linter.unusedSimpArgs false
set_option linter.unusedVariables false
set_option maxRecDepth 100000
set_option maxHeartbeats 4000000
section
namespace Go.Proofs.YtmnjakejhbpkoaaGreatDoor
open Go Go.RowKit Go.Shelf
def ZbK (w:World)(b:Nat)(ty:TypeId)(n:Nat)(f:Nat→Value):Prop:=∃c,w.heap[b]? =some (.cells c ty (0,0))∧c.size=n∧∀j,j<n→c[j]? =some (f j)
def Zd9 (f:Nat→Value)(i:Nat)(v:Value):Nat→Value:=fun j=>if j=i then v else f j
section
variable {w w':World}{b n:Nat}{ty:TypeId}{f:Nat→Value}
theorem ZbK.cell(h:ZbK w b ty n f){j:Nat}(hj:j<n):w.cell? ⟨b,j,none⟩=some (f j)∧w.frozen? ⟨b,j,none⟩=false:=by
 obtain⟨c,h1,h2,h3⟩:=h;have h4:=h3 j hj;simp[World.cell?,World.frozen?,h1,h4]
theorem ZbK.same(h:ZbK w b ty n f)(hs:w'.heap[b]? =w.heap[b]?):ZbK w' b ty n f:=by
 obtain⟨c,h1,h2⟩:=h;exact⟨c,hs.trans h1,h2⟩
theorem ZbK.lt(h:ZbK w b ty n f):b<w.heap.size:=by
 obtain⟨c,h1,_⟩:=h;exact(Zpi h1).1
theorem ZbK.ext(h:ZbK w b ty n f)(hs:Ext w w'):ZbK w' b ty n f:=h.same (hs.below.block b h.lt)
theorem ZbK.below(h:ZbK w b ty n f)(hs:Below w.heap.size w w'):ZbK w' b ty n f:=h.same (hs.block b h.lt)
theorem ZbK.set(h:ZbK w b ty n f)(i:Nat)(v:Value):ZbK (w.setCell ⟨b,i,none⟩ v) b ty n (Zd9 f i v):=by
 obtain⟨c,h1,h2,h3⟩:=h;refine⟨_,Zag h1 _ _,by simpa using h2,fun j hj=>?_⟩;have h4:=h3 j hj;unfold Zd9
 by_cases cN:j=i
 ·subst cN
  rw[if_pos rfl,Array.getElem?_setIfInBounds,if_pos rfl,if_pos (by omega)]
 ·rw[if_neg cN,Array.getElem?_setIfInBounds,if_neg (by omega)];exact h4
theorem ZbK.congr{g:Nat→Value}(h:ZbK w b ty n f)(hg:∀j,j<n→f j=g j):ZbK w b ty n g:=by
 obtain⟨c,h1,h2,h3⟩:=h;exact⟨c,h1,h2,fun j hj=>by rw[h3 j hj,hg j hj]⟩
end
theorem Zhf(w:World)(n:Nat)(z:Value)(ty:TypeId)(ad:Nat)(ha:ad=w.heap.size):ZbK (w.alloc (.cells (madeCells #[z] n) ty)) ad ty n (fun _=>z):=by
 refine⟨_,(by subst ha;exact Zpm w _),by simp[madeCells],fun j hj=>?_⟩;simp[madeCells,hj,Nat.mod_one]
theorem Zfa(w:World)(c:Array Value)(ty:TypeId)(ad:Nat)(ha:ad=w.heap.size):ZbK (w.alloc (.cells c ty)) ad ty c.size (fun j=>c.getD j (.int .i64 0)):=by
 refine⟨_,(by subst ha;exact Zpm w _),rfl,fun j hj=>?_⟩
 show _=some (c.getD j _)
 rw[Array.getElem?_eq_getElem hj,Array.getD_eq_getD_getElem?,Array.getElem?_eq_getElem hj];rfl
theorem Zbr{sl el:TypeId}{z:Value}{by_:Nat}(h1:Tryz.prog.underlying sl=some (.slice el))(h2:(Tryz.prog.info? el).map (fun i=>(i.zero,i.size,i.bytes))=some (some z,1,by_))(hz:z.cells=#[z])(n:Nat)(hn:n≤1048576)(hb:by_≤64)(w:World) :
  (Instr.makeSlice sl (.int .i64 n) (.int .i64 n)).run Tryz.prog w= .ok (.slice (some ⟨w.heap.size,0,none⟩) n n) (w.alloc (.cells (madeCells #[z] n) el)):=by
 obtain⟨i,hi,ak,hs,aS⟩:=info_parts h2;have hr:=run_make (P:=Tryz.prog) w sl el i _ h1 hi ak .i64 .i64 n n (by omega) (Int.le_refl _) (by rw[aS];have h1:by_*n≤64*1048576:=Nat.mul_le_mul hb hn;have h2:n*by_=by_*n:=Nat.mul_comm _ _;omega) (by omega);rw[hs,hz,Nat.mul_one]at hr;exact hr
theorem Zkc(a m:Nat)(ha:a<18446744073709551616)(hm:m<18446744073709551616):bits BinOp.and IntKind.u64 (a:Int) (m:Int)=((a &&& m:Nat):Int):=bits_and_u64_nat a m ha hm
theorem ZoE{a:Nat}(ha:a<18446744073709551616):IntKind.u64.wrap (a:Int)=a:=by simp[IntKind.wrap,IntKind.bits,IntKind.signed];omega
theorem Zn9{z:Nat}(hz:z<9223372036854775808):bits BinOp.and IntKind.i64 (z:Int) 127=((z % 128:Nat):Int):=by
 have e:bits BinOp.and IntKind.i64 (z:Int) 127=IntKind.i64.wrap ((BitVec.ofInt 64 (z:Int) &&& BitVec.ofInt 64 127).toNat:Int):=rfl;rw[e,BitVec.toNat_and,BitVec.ofInt_natCast,show BitVec.ofInt 64 127=BitVec.ofNat 64 127 from rfl,BitVec.toNat_ofNat,BitVec.toNat_ofNat,Nat.mod_eq_of_lt (show z<2 ^ 64 by omega),show 127 % 2 ^ 64=2 ^ 7 - 1 from rfl,Nat.and_two_pow_sub_one_eq_mod];have:z % 2 ^ 7<128:=Nat.mod_lt _ (by omega);rw[IntWalk.i64_in _ (by omega)]
theorem Zo8:L.rep 0x55 8=6148914691236517205∧L.rep 0x33 8=3689348814741910323∧L.rep 0x0f 8=1085102592571150095:=⟨by kernel_rfl,by kernel_rfl,by kernel_rfl⟩
theorem ZiQ{w:World}{x:Nat}(hx:x<18446744073709551616):Calls Tryz.prog 227 #[.int .u64 (x:Nat)] w fun e w'=>e= .returned (.int .i64 (L.popW x:Nat))∧w=w':=by
 obtain⟨e1,e2,e3⟩:=Zo8;obtain⟨y1,tU⟩:∃y,y=L.g1 6148914691236517205 x:=⟨_,rfl⟩;obtain⟨y2,nt⟩:∃y,y=L.g2 3689348814741910323 y1:=⟨_,rfl⟩;obtain⟨y3,uf⟩:∃y,y=L.g3 1085102592571150095 y2:=⟨_,rfl⟩
 have p3:y3=L.pops 8 x:=by
  have:=L.g_pops 8 x (by omega);rw[e1,e2,e3]at this;rw[uf,nt,tU];exact this
 have b1:y1≤12297829382473034410:=by rw[tU];unfold L.g1;have:=Nat.and_le_right (n:=x / 2) (m:=6148914691236517205);have:=Nat.and_le_right (n:=x) (m:=6148914691236517205);omega
 have b2:y2≤7378697629483820646:=by rw[nt];unfold L.g2;have:=Nat.and_le_right (n:=y1 / 4) (m:=3689348814741910323);have:=Nat.and_le_right (n:=y1) (m:=3689348814741910323);omega
 have b3:y3≤1085102592571150095:=by rw[uf];unfold L.g3;exact Nat.and_le_right
 have hA:IntKind.u64.wrap (bits BinOp.and IntKind.u64 ((x:Int) / 2) 6148914691236517205+bits BinOp.and IntKind.u64 (x:Int) 6148914691236517205)=(y1:Int):=by
  have h1:=Zkc (x / 2) 6148914691236517205 (by omega) (by omega);have h2:=Zkc x 6148914691236517205 (by omega) (by omega);rw[show (((x / 2:Nat)):Int)=(x:Int) / 2 by push_cast;rfl,show ((6148914691236517205:Nat):Int)=6148914691236517205 from rfl]at h1;rw[show ((6148914691236517205:Nat):Int)=6148914691236517205 from rfl]at h2;rw[h1,h2,←Int.natCast_add,ZoE (show (x / 2 &&& 6148914691236517205)+(x &&& 6148914691236517205)<_ by rw[tU]at b1;unfold L.g1 at b1;omega),tU];rfl
 have hB:IntKind.u64.wrap (bits BinOp.and IntKind.u64 ((y1:Int) / 4) 3689348814741910323+bits BinOp.and IntKind.u64 (y1:Int) 3689348814741910323)=(y2:Int):=by
  have h1:=Zkc (y1 / 4) 3689348814741910323 (by omega) (by omega);have h2:=Zkc y1 3689348814741910323 (by omega) (by omega);rw[show (((y1 / 4:Nat)):Int)=(y1:Int) / 4 by push_cast;rfl,show ((3689348814741910323:Nat):Int)=3689348814741910323 from rfl]at h1;rw[show ((3689348814741910323:Nat):Int)=3689348814741910323 from rfl]at h2;rw[h1,h2,←Int.natCast_add,ZoE (show (y1 / 4 &&& 3689348814741910323)+(y1 &&& 3689348814741910323)<_ by rw[nt]at b2;unfold L.g2 at b2;omega),nt];rfl
 have hC:bits BinOp.and IntKind.u64 ((y2:Int) / 16+(y2:Int)) 1085102592571150095=(y3:Int):=by
  have h1:=Zkc (y2 / 16+y2) 1085102592571150095 (by omega) (by omega);rw[show ((1085102592571150095:Nat):Int)=1085102592571150095 from rfl,show ((y2 / 16+y2:Nat):Int)=(y2:Int) / 16+(y2:Int) by push_cast;rfl]at h1;rw[h1,uf];rfl
 obtain⟨z1,ak⟩:∃z,z=y3+y3 / 256:=⟨_,rfl⟩;obtain⟨z2,bE⟩:∃z,z=z1+z1 / 65536:=⟨_,rfl⟩;obtain⟨z3,dw⟩:∃z,z=z2+z2 / 4294967296:=⟨_,rfl⟩;have l1:z1≤1200000000000000000:=by clear hA hB hC bE dw p3;omega
 have l2:z2≤1300000000000000000:=by clear hA hB hC ak dw p3;omega
 have l3:z3≤1400000000000000000:=by clear hA hB hC ak bE p3;omega
 have aG:z3 % 128=L.popW x:=by
  rw[L.popW_split];refine L.fold_pops z1 z2 z3 (by rw[←p3,←ak];exact(Nat.mod_eq_of_lt (by omega)).symm) ?_ ?_
  ·rw[←bE];exact(Nat.mod_eq_of_lt (by omega)).symm
  ·rw[←dw];exact(Nat.mod_eq_of_lt (by omega)).symm
 have hG:=Zn9 (z:=z3) (by omega)
 have hE:(z3:Int)=(y3:Int)+(y3:Int) / 256+((y3:Int)+(y3:Int) / 256) / 65536+((y3:Int)+(y3:Int) / 256+((y3:Int)+(y3:Int) / 256) / 65536) / 4294967296:=by
  have q1:(z1:Int)=(y3:Int)+(y3:Int) / 256:=by clear hA hB hC bE dw p3 hG;omega
  have q2:(z2:Int)=(z1:Int)+(z1:Int) / 65536:=by clear hA hB hC ak dw p3 hG;omega
  have q3:(z3:Int)=(z2:Int)+(z2:Int) / 4294967296:=by clear hA hB hC ak bE p3 hG;omega
  rw[q3,q2,q1]
 rw[aG,hE]at hG;clear hE l1 l2 l3 ak bE dw aG p3;clear tU nt uf e1 e2 e3
 go_enter Tryz.func227,Tryz.ntmps227
 go_wp2_with fail;go_ret;exact⟨rfl,rfl⟩
def Zoo (s:Zak):Nat:=L.popW (s.setWidth 64).toNat+L.popW ((s >>> 64).setWidth 64).toNat
theorem ZnC(s:Zak)(w:World):Calls Tryz.prog 198 #[.agg #[.int .u64 (lo s),.int .u64 (hi s)]] w fun e w'=>e= .returned (.int .i64 (Zoo s:Nat))∧Ext w w':=by
 have q1:=fun W=>ZiQ (w:=W) (x:=(s.setWidth 64).toNat) (s.setWidth 64).isLt
 have q2:=fun W=>ZiQ (w:=W) (x:=((s >>> 64).setWidth 64).toNat) ((s >>> 64).setWidth 64).isLt
 have iU:L.popW (s.setWidth 64).toNat≤64:=by unfold L.popW;have:=List.length_filter_le (fun i=>(s.setWidth 64).toNat.testBit i) (List.range 64);simpa using this
 have jj:L.popW ((s >>> 64).setWidth 64).toNat≤64:=by unfold L.popW;have:=List.length_filter_le (fun i=>((s >>> 64).setWidth 64).toNat.testBit i) (List.range 64);simpa using this
 unfold lo hi Zoo;generalize (s.setWidth 64).toNat=a at *;generalize ((s >>> 64).setWidth 64).toNat=b at *;generalize L.popW a=p at *;generalize L.popW b=q at *;have p7:IntKind.i64.wrap ((p:Int)+(q:Int))=((p+q:Nat):Int):=by rw[IntWalk.i64_in _ (by omega)];push_cast;rfl
 replace q1:=Zpe q1;replace q2:=Zpe q2;have aC:=Zpm w (.cells #[.int .u64 (a:Nat),.int .u64 (b:Nat)] 41);have am:Ext w (w.alloc (.cells #[.int .u64 (a:Nat),.int .u64 (b:Nat)] 41)):=(Ext.refl w).alloc _
 go_enter Tryz.func198,Tryz.ntmps198
 go_wp2_with fail;generalize w.alloc (.cells #[.int .u64 (a:Nat),.int .u64 (b:Nat)] 41)=w1 at *;have c0:w1.cell? ⟨w.heap.size,0,none⟩=some (.int .u64 (a:Nat)):=by simp[World.cell?,aC]
 have c1:w1.cell? ⟨w.heap.size,1,none⟩=some (.int .u64 (b:Nat)):=by simp[World.cell?,aC]
 have F1:=Zpe fun (W:World) (hW:Ext w1 W)=>And.intro (hW.cell c0) (hW.cell c1)
 clear aC
 (refine Zah (by kernel_rfl) (by kernel_rfl) ?_
  repeat (refine wpQuiet_step (fun K hK=>?_)
          go_simp
          first
           | (refine hK _ ?_;clear hK K)
           | (replace hK:=Zpe hK
              apply Exists.intro
              refine⟨fun wq hq=>?_,hK.out _ ?_⟩
              ·(obtain⟨f1,f2⟩:=F1.out wq hq)
               go_simp
               first
                | done
                | with_reducible (refine(q1.out _).mono ?_;rintro e w' ⟨rfl,rfl⟩;exact⟨rfl,hq⟩)
                | with_reducible (refine(q2.out _).mono ?_;rintro e w' ⟨rfl,rfl⟩;exact⟨rfl,hq⟩)
                | rfl
                | exact⟨rfl,rfl⟩
              clear hK K))
  refine wpQuiet_nil ?_)
 intro w6 eL;have eX:=am.trans eL;go_wp2_with fail;go_ret;exact⟨rfl,eX⟩
def ZoH (s:Zak)(k:Nat):Nat:=((List.range k).filter fun i=>s.getLsbD i).length
theorem Zd6(s:Zak):∀k,k≤128→(Zbl s k).length=ZoH s k
 | 0,_=>rfl
 | k+1,h=>by
   have ih:=Zd6 s k (by omega);have hb:Zau s ((k:Int)+1)=s.getLsbD k:=L.hasS_bit s k (by omega);unfold Zbl ZoH;rw[List.range_succ,List.filter_append,Zpo,hb];unfold ZoH at ih
   cases hk:s.getLsbD k
   ·simp[hk,ih]
   ·simp[hk,ih]
theorem Zk0(s:Zak):Zoo s=(Zc8 s).length:=by
 unfold Zc8;rw[Zd6 s 128 (ZpD _)];unfold Zoo ZoH L.popW;rw[show List.range 128=List.range 64++(List.range 64).map (64+·) from List.range_add (n:=64) (m:=64),List.filter_append,Zpo,List.filter_map,List.length_map]
 congr 1
 ·congr 1
  refine List.filter_congr fun i hi=>?_
  have:=List.mem_range.1 hi
  show (s.setWidth 64).getLsbD i=_
  rw[BitVec.getLsbD_setWidth,Zpv this,Bool.true_and]
 ·congr 1
  refine List.filter_congr fun i hi=>?_
  have:=List.mem_range.1 hi
  show ((s >>> 64).setWidth 64).getLsbD i=s.getLsbD (64+i)
  rw[BitVec.getLsbD_setWidth,Zpv this,Bool.true_and,BitVec.getLsbD_ushiftRight]
theorem ZkS{t:List VN}(hc:Zad t=0){j:Nat}(hj:j<t.length){m:Zak}(h:ZbE t j m):Zoo m=L.nv t j:=by
 rw[Zk0]
 have fF:L.SortedBel t j (Zc8 m):=⟨L.listVK_sorted m 128,fun x=>by
  rw[L.listV_mem]
  constructor
  ·intro hx
   have hr:=L.hasS_range hx
   have h2:=(h (x - 1).toNat (by omega)).1 (by
    rw[←L.hasS_bit m (x - 1).toNat (by omega),show (((x - 1).toNat:Nat):Int)+1=x by omega];exact hx)
   rwa [show (((x - 1).toNat:Nat):Int)+1=x by omega]at h2
  ·intro hx
   have hr:=hx.range;have h2:=(h (x - 1).toNat (by omega)).2 (by rw[show (((x - 1).toNat:Nat):Int)+1=x by omega];exact hx)
   rwa [←L.hasS_bit m (x - 1).toNat (by omega),show (((x - 1).toNat:Nat):Int)+1=x by omega]at h2⟩
 exact fF.len hc hj
end Go.Proofs.YtmnjakejhbpkoaaGreatDoor
end
