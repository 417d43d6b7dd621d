import Derived.Test.YtemnmcfmabamcaaGreatDoorYTab9
set_option linter.unusedSimpArgs false
set_option linter.unusedVariables false
set_option maxRecDepth 100000
set_option maxHeartbeats 4000000
section
namespace Go.Proofs.YtemnmcfmabamcaaGreatDoor
open Go Go.RowKit Go.Shelf
theorem Zra{t:List VN}{s:St}{a b:Nat}{φ ψ:L.Asg→Bool}(h:DS t s)(hc:Zae t=0)(h7:t.length≤7)(ha:Val s a φ)(hb:Val s b ψ):∃c s',DS t s'∧L.Step s s'∧Val s' c fun y=>φ y || ψ y:=by
 have t0:=(Zam hc).1;obtain⟨f1,f2⟩:=Zbm hc h7;obtain⟨c,s',e,st,lt,sm,bg⟩:=L.or_spec (L.not_spec hc (by omega) (t.length - 1) (by omega) 14 (by omega)) (L.and_spec hc (by omega) (t.length - 1) (by omega) 14 (by omega)) s a b h.tree (h.room.less (by omega)) ha.lt hb.lt (by rw[←h.tree];exact Zbb h.room.inv ha.lt) (by rw[←h.tree];exact Zbb h.room.inv hb.lt);have hr:=h.room.room;exact⟨c,s',⟨⟨st.inv,by rw[st.tree];exact h.room.few,by omega⟩,by rw[st.tree];exact h.tree⟩,st,⟨lt,fun y=>by rw[sm];show (L.sem s.nodes a y || L.sem s.nodes b y)=_;rw[ha.sem,hb.sem]⟩⟩
theorem ZoR{t:List VN}(hc:Zae t=0)(h7:t.length≤7):DS t (ZbD t)∧Val (ZbD t) 0 (fun _=>false)∧Val (ZbD t) 1 fun _=>true:=by
 have hi:=ZiT hc;exact⟨⟨⟨hi,by show t.length≤11;omega,by rw[ZiS];exact ZrQ _⟩,rfl⟩,⟨(Zrw hi.zero).1,fun x=>hi.sem0 x⟩,⟨(Zrw hi.one).1,fun x=>hi.sem1 x⟩⟩
theorem ZoS{T:L.Tr}{l:List Int}(hT:ZbI T l){s:St}(h:DS (T.post 0) s)(n:Nat):∀k,k≤l.length→∃c s',DS (T.post 0) s'∧L.Step s s'∧Val s' c (mdψ l n k)
 | 0,_=>⟨1,s,h,L.Step.refl h.room.inv,⟨(Zrw h.room.inv.one).1,fun x=>by rw[h.room.inv.sem1];rfl⟩⟩
 | k+1,hk=>by
   obtain⟨c,s1,d1,st1,v1⟩:=ZoS hT h n k (by omega);have dq:k<l.length:=by omega
   have ag:=(hT.mem l[k]).1 (ZrM dq);obtain⟨u,y,hu,hl,hv⟩:=(hT.root.root_mem hT.chk l[k]).1 ag;have hr:=hT.range _ ag;obtain⟨z,hz⟩:∃z,z=if n.testBit (l.length - 1 - k)=true then l[k] else -l[k]:=⟨_,rfl⟩
   have hza:(z.natAbs:Int)=l[k]:=by rw[hz];split <;> omega
   obtain⟨a,s2,_,d2,p9,v2⟩:=Zfm (l:=z) d1 hu hl (by rw[hv,hza]);obtain⟨b,s3,_,d3,nY,v3⟩:=ZhL d2 hT.chk hT.len (v1.step d1.room.inv p9) v2;exact⟨b,s3,d3,(st1.trans p9).trans nY,v3.congr fun y=>ZjQ l n k dq z hz hr.1 y⟩
theorem ZjG{T:L.Tr}{l:List Int}(hT:ZbI T l)(bits:Nat):∀n,n≤2 ^ l.length→∃c s',DS (T.post 0) s'∧Val s' c (mdφ l bits n)
 | 0,_=>by
   obtain⟨d,v0,_⟩:=ZoR hT.chk hT.len;exact⟨0,_,d,v0.congr fun y=>by simp[mdφ]⟩
 | n+1,hn=>by
   obtain⟨c,s1,d1,v1⟩:=ZjG hT bits n (by omega)
   cases hb:bits.testBit n
   ·exact⟨c,s1,d1,v1.congr fun y=>ZjO l bits n hb y⟩
   ·obtain⟨a,s2,d2,p9,v2⟩:=ZoS hT d1 n l.length (ZrQ _)
    obtain⟨b,s3,d3,nY,v3⟩:=Zra d2 hT.chk hT.len (v1.step d1.room.inv p9) v2;exact⟨b,s3,d3,v3.congr fun y=>ZjP l bits n hb (by omega) y⟩
theorem Zml{T:L.Tr}{l:List Int}(hT:ZbI T l)(bits:Nat):∃s r,DS (T.post 0) s∧Val s r (mdφ l bits (2 ^ l.length)):=by
 obtain⟨r,s,d,v⟩:=ZjG hT bits _ (ZrQ _);exact⟨s,r,d,v⟩
theorem ZbI.vars{T:L.Tr}{l:List Int}(h:ZbI T l):Zf1 (T.post 0)=some l∧l.length≤4:=by
 have hc:=h.chk;have h0:=(Zam hc).1;have h7:=h.len;obtain⟨m,hm,hs⟩:=L.belowR_spec hc ((T.post 0).length - 1) (by omega) ((T.post 0).length+1) (by omega);have e:m=l:=L.sorted_eq (lt:=fun a b:Int=>decide (a<b)) (fun a b h1 h2=>by simp only[ZrN]at h1 h2;omega) m l (hs.sorted.imp fun h=>by simpa using h) (h.sorted.imp fun h=>by simpa using h) fun x=>(hs.mem x).trans (h.sbl.mem x).symm
 subst e;refine⟨hm,?_⟩;rw[hs.len hc (by omega)];have:=L.nv_le hc (v:=(T.post 0).length - 1) (by omega);omega
theorem ZfP{T:L.Tr}{l:List Int}(hT:ZbI T l)(bits:Nat){w:World}{b o c:Nat}{vf:Value}(ht:Zag w b o (T.post 0))(hf:TabAt w vf (L.tabO l (mdφ l bits (2 ^ l.length)))) :
  Calls Tryz.prog 22 #[.slice (some ⟨b,o,none⟩) (T.post 0).length c,vf] w fun e w'=>e= .returned (.int .i64 (L.sizeTr T l (L.tabO l (mdφ l bits (2 ^ l.length))):Nat))∧Below w.heap.size w w':=by
 obtain⟨s,r,d,v⟩:=Zml hT bits;have j5:=d.tree;have h7:=hT.len;have h0:=(Zam hT.chk).1;have aX:=d.room.len;have hi:=d.room.inv;obtain⟨iw,mY⟩:=hT.vars;obtain⟨O,e,g1,g2⟩:=L.sizeF_spec hi (by omega) v.lt (v:=s.tree.length - 1) (by rw[j5];omega) (Zbb hi v.lt) (f:=14) (by rw[j5];omega);have es:L.sem s.nodes r=mdφ l bits (2 ^ l.length):=funext v.sem;have h1:=L.sizeTr_law hi (l:=l) (by rw[j5];exact hT.sbl) (T:=T) (by rw[j5];exact hT.root) (by omega) v.lt g1 g2;have h2:=Zm6 hi (by rw[j5];omega) (by rw[j5];exact iw) (by rw[j5];exact hT.sbl) (by omega) (by omega) v.lt g1 g2 (w:=w) (b:=b) (off:=o) (c:=c) (vf:=vf) (by rw[j5];exact ht) (by rw[es];exact hf);rw[j5,←h1,es]at h2;exact h2
theorem ZmM{T:L.Tr}{l:List Int}(hT:ZbI T l)(bits:Nat){w:World}{b o c:Nat}{vf:Value}(ht:Zag w b o (T.post 0))(hf:SlB w vf (L.tabO l (mdφ l bits (2 ^ l.length)))) :
  Calls Tryz.prog 21 #[.slice (some ⟨b,o,none⟩) (T.post 0).length c,vf] w fun e w'=>e= .returned (.string (Zco (Zle (T.post 0) (mdφ l bits (2 ^ l.length)))))∧Below w.heap.size w w':=by
 obtain⟨s,r,d,v⟩:=Zml hT bits;have j5:=d.tree;have h7:=hT.len;have hi:=d.room.inv;obtain⟨iw,mY⟩:=hT.vars;have es:L.sem s.nodes r=mdφ l bits (2 ^ l.length):=funext v.sem;have h2:=Zm7 hi (by rw[j5];omega) (by rw[j5];exact iw) (by rw[j5];exact hT.sbl) (by omega) r v.lt (w:=w) (b:=b) (o:=o) (c:=c) (vf:=vf) (by rw[j5];exact ht) (by rw[es];exact hf);rw[j5,Zhn hi j5 v]at h2;exact h2
theorem ZoI{φ:L.Asg→Bool}(h:∀y,φ y=(y 1 && (y 2 && y 3))):Zle t4v φ=Zni:=by
 have hc:Zae t4v=0:=by kernel_rfl
 have h0:=(ZoR hc (by decide)).1;obtain⟨a,s1,_,d1,st1,v1⟩:=Zfm (l:=1) (u:=0) h0 (y:=⟨-1,-1,1⟩) rfl rfl rfl;obtain⟨b,s2,_,d2,p9,v2⟩:=Zfm (l:=2) (u:=1) d1 (y:=⟨-1,-1,2⟩) rfl rfl rfl;obtain⟨c,s3,_,d3,nY,v3⟩:=Zfm (l:=3) (u:=2) d2 (y:=⟨-1,-1,3⟩) rfl rfl rfl;obtain⟨d,s4,_,d4,ww,v4⟩:=ZhL d3 hc (by decide) (v2.step d2.room.inv nY) v3;obtain⟨e,s5,_,d5,tW,v5⟩:=ZhL d4 hc (by decide) (((v1.step d1.room.inv p9).step d2.room.inv nY).step d3.room.inv ww) v4
 have v6:Val s5 e φ:=v5.congr fun y=>by
  rw[h];simp only[Zn9]
  cases h1:y 1 <;> cases h2:y 2 <;> cases h3:y 3 <;> simp_all
 rw[←Zhn d5.room.inv d5.tree v6];exact Zp9 d5.room.inv d5.tree v6 h
theorem Zjy:(Tryz.prog.info? 111).map (fun i=>(i.size))=some 2:=by kernel_rfl
theorem ZhJ:(Tryz.prog.info? 5).map (fun i=>(i.zero,i.size,i.bytes))=some (some (.int .u8 0),1,1):=by kernel_rfl
def ZqU (N b:Nat)(l:List UInt8)(w:World):Prop:=Lib.IsBuilderF 111 5 N b (Lib.byteCells l) w
theorem Ziu(b:Nat)(w:World)(h0:w.cell? ⟨b,0,none⟩=some (.pointer (some ⟨b,0,none⟩))) :
  Calls Tryz.prog 86 #[.pointer (some ⟨b,0,none⟩)] w fun e w'=>e= .returned (.tuple #[])∧w'=w:=by
 obtain⟨j,hj,yw⟩:=Option.map_eq_some_iff.1 Zjy
 go_enter Tryz.func86,Tryz.ntmps86
 go_wp2_with fail;rw[Lib.run_neq_ptr_same w _ Tryz.underlying109 hj];go_wp2_with fail
 go_end0
 exact⟨rfl,rfl⟩
theorem ZhE(b:Nat)(w:World)(h0:w.cell? ⟨b,0,none⟩=some (.pointer none))(nT:w.shape? b=some (111,2))(hfz:w.frozen? ⟨b,0,none⟩=false) :
  Calls Tryz.prog 86 #[.pointer (some ⟨b,0,none⟩)] w fun e w'=>e= .returned (.tuple #[])∧w'=w.setCell ⟨b,0,none⟩ (.pointer (some ⟨b,0,none⟩)):=by
 obtain⟨j,hj,yw⟩:=Option.map_eq_some_iff.1 Zjy
 go_enter Tryz.func86,Tryz.ntmps86
 go_wp2_with fail;rw[Lib.run_to_unsafe w ⟨b,0,none⟩ Tryz.underlying109 Tryz.underlying168 hj (by rw[yw];decide) nT (Nat.zero_lt_succ 1)];simp only[Result.andThen];rw[Oper.upon_value];go_wp2_with fail;rw[run_callFunc_extern Tryz.func114 (by kernel_rfl) (by kernel_rfl) (by kernel_rfl) (e:=Extern.AbiNoEscape.same) (by kernel_rfl)];rw[Lib.run_noEscape];simp only[Result.andThen];rw[Oper.upon_value];go_wp2_with fail;rw[Lib.run_from_unsafe w ⟨b,0,none⟩ Tryz.underlying168 Tryz.underlying109 hj nT (by kernel_rfl)];simp only[Result.andThen];rw[Oper.upon_value];go_wp2_with fail
 go_end0
 exact⟨rfl,rfl⟩
def Zo7 (N b:Nat)(l:List UInt8)(w w':World):Prop:=ZqU N b l w'∧Below N w w'∧Lib.OthersKept 5 (some b) w w'
theorem Zgl{N b:Nat}{bs:List Value}{w:World}(h:Lib.IsBuilderF 111 5 N b bs w) :
  Calls Tryz.prog 86 #[.pointer (some ⟨b,0,none⟩)] w fun e w'=>e= .returned (.tuple #[])∧(Lib.BuilderAtF 111 5 N b (.pointer (some ⟨b,0,none⟩)) bs w'∧Below N w w'∧Lib.OthersKept 5 (some b) w w'):=by
 rcases h with h|h
 ·refine(ZhE b w h.cell0 h.shape h.frozen0).mono ?_
  rintro e w' ⟨rfl,rfl⟩;exact⟨rfl,h.used _,(ZrE N w).setCell (p:=⟨b,0,none⟩) h.1 _,(Lib.OthersKept.refl _ _ w).setCell ⟨b,0,none⟩ rfl _⟩
 ·refine(Ziu b w h.cell0).mono ?_
  rintro e w' ⟨rfl,rfl⟩;exact⟨rfl,h,ZrE N _,Lib.OthersKept.refl _ _ _⟩
theorem Zfg{N b:Nat}{l:List UInt8}{w:World}(c:UInt8)(h:ZqU N b l w)(hl:l.length≤1000000)(hN:N≤w.heap.size) :
  Calls Tryz.prog 57 #[.pointer (some ⟨b,0,none⟩),.int .u8 (c.toNat:Nat)] w fun e w'=>e= .returned .nilIface∧Zo7 N b (l++[c]) w w':=by
 obtain⟨i0,hi,bH,aj,av⟩:=info_parts ZhJ;have q1:=Zgl h;have dv:(Lib.byteCells l).length=l.length:=Lib.byteCells_length l
 go_enter Tryz.func57,Tryz.ntmps57
 go_wp2_with fail;refine q1.mono ?_;rintro e w1 ⟨rfl,h1,aF,li⟩;clear q1;obtain⟨hB,v,gD,bR,aJ⟩:=h1;have c0:w1.cell? ⟨b,0,none⟩=some (.pointer (some ⟨b,0,none⟩)):=by rw[Lib.cell_of_heap gD];rfl
 have c1:w1.cell? ⟨b,1,none⟩=some v:=by rw[Lib.cell_of_heap gD];rfl
 have gy:=aF.size;have jt:N≤(w1.alloc (.cells #[.int .u8 (c.toNat:Nat)] 5)).heap.size:=by simp;omega
 go_wp2_with (at_builtin;(refine wpList_append_ownF _ rfl _ _ 72 rfl N 5 i0 (.int .u8 0) 1 1 Tryz.underlying72 hi bH aj av rfl (by decide) _ _ _ rfl (bR.alloc _) ⟨w1.heap.size,0,none⟩ 1 1 [.int .u8 (c.toNat:Nat)] rfl rfl ?c1 ?c2 ?c3 ?c4 ?c5 ?_))
 case c1=>exact Zao _ _ _ _ rfl
 case c2=>simp[Value.oneCell']
 case c3=>unfold maxLen;omega
 case c4=>omega
 case c5=>exact jt
 intro v' w2 ii fp _;have aD:b<w1.heap.size:=(Zrv gD).1
 have aL:w2.heap[b]? =some (.cells #[.pointer (some ⟨b,0,none⟩),v] 111 (0,0)):=by
  rw[fp.block b (by simp;omega) (fun e=>aJ e.symm),Lib.alloc_old w1 _ b aD];exact gD
 have d0:w2.cell? ⟨b,0,none⟩=some (.pointer (some ⟨b,0,none⟩)):=by rw[Lib.cell_of_heap aL];rfl
 have d1:w2.cell? ⟨b,1,none⟩=some v:=by rw[Lib.cell_of_heap aL];rfl
 have f1:w2.frozen? ⟨b,1,none⟩=false:=Lib.frozen_of_heap aL 1
 obtain⟨g,cap,rfl⟩:∃g cap,v'= .slice (some ⟨g,0,none⟩) (l.length+1) cap:=by
  rcases ii.2 with ⟨_,h0⟩|⟨g,cap,cur,fz,hv,_⟩
  ·omega
  ·exact⟨g,cap,hv⟩
 have hA:Lib.BuilderAtF 111 5 N b (.pointer (some ⟨b,0,none⟩)) (Lib.byteCells (l++[c])) (w2.setCell ⟨b,1,none⟩ (.slice (some ⟨g,0,none⟩) (l.length+1) cap)):=by
  rw[Lib.byteCells_append];exact Lib.BuilderAtF.put (T:=111) (e:=5) hB aL (bs':=Lib.byteCells l++Lib.byteCells [c]) (by rw[ZrB,Lib.byteCells_length,Lib.byteCells_length];exact ii) (by decide)
 have hF:Below N w (w2.setCell ⟨b,1,none⟩ (.slice (some ⟨g,0,none⟩) (l.length+1) cap)):=((aF.alloc (by omega) _).grown fp jt (fun k hk=>(bR.lt k hk).1)).setCell (p:=⟨b,1,none⟩) hB _;have hO:Lib.OthersKept 5 (some b) w (w2.setCell ⟨b,1,none⟩ (.slice (some ⟨g,0,none⟩) (l.length+1) cap)):=((li.alloc _).grown fp (Lib.ownsRowF_kind (bR.alloc _))).setCell ⟨b,1,none⟩ rfl _;replace hA:=Zrr hA;replace hF:=Zrr hF;replace hO:=Zrr hO;clear fp ii bR gD aF li aL dv;go_wp2_with fail;go_ret;exact⟨rfl,.inr hA.out,hF.out,hO.out⟩
theorem ZnK{N b:Nat}{l s:List UInt8}{w:World}(h:ZqU N b l w)(hl:l.length≤1000000)(hs:s.length≤1000000)(hN:N≤w.heap.size) :
  Calls Tryz.prog 55 #[.pointer (some ⟨b,0,none⟩),.string ⟨s.toArray⟩] w fun e w'=>(∃n:Int,e= .returned (.tuple #[.int .i64 n,.nilIface]))∧Zo7 N b (l++s) w w':=by
 obtain⟨i0,hi,bH,aj,av⟩:=info_parts ZhJ;have q1:=Zgl h;have dv:(Lib.byteCells l).length=l.length:=Lib.byteCells_length l;have ac:(⟨s.toArray⟩:ByteArray).size=s.length:=by simp[ByteArray.size]
 go_enter Tryz.func55,Tryz.ntmps55
 go_wp2_with fail;refine q1.mono ?_;rintro e w1 ⟨rfl,h1,aF,li⟩;clear q1;obtain⟨hB,v,gD,bR,aJ⟩:=h1;have c0:w1.cell? ⟨b,0,none⟩=some (.pointer (some ⟨b,0,none⟩)):=by rw[Lib.cell_of_heap gD];rfl
 have c1:w1.cell? ⟨b,1,none⟩=some v:=by rw[Lib.cell_of_heap gD];rfl
 have gy:=aF.size;have jt:N≤w1.heap.size:=by omega
 generalize hS:(⟨s.toArray⟩:ByteArray)=S at *
 go_wp2_with (at_builtin;refine Lib.wpList_append_own_stringF _ rfl _ _ 72 9 rfl N 5 i0 Tryz.underlying72 Tryz.underlying9 hi bH aj av _ _ _ rfl bR S rfl (by unfold maxLen;omega) (by omega) jt ?_)
 intro v' w2 ii fp _;have aD:b<w1.heap.size:=(Zrv gD).1
 have aL:w2.heap[b]? =some (.cells #[.pointer (some ⟨b,0,none⟩),v] 111 (0,0)):=by
  rw[fp.block b aD (fun e=>aJ e.symm)];exact gD
 have d0:w2.cell? ⟨b,0,none⟩=some (.pointer (some ⟨b,0,none⟩)):=by rw[Lib.cell_of_heap aL];rfl
 have d1:w2.cell? ⟨b,1,none⟩=some v:=by rw[Lib.cell_of_heap aL];rfl
 have f1:w2.frozen? ⟨b,1,none⟩=false:=Lib.frozen_of_heap aL 1
 obtain⟨ao,n',cap,rfl⟩:∃ao n' cap,v'= .slice ao n' cap:=by
  rcases ii.2 with ⟨hv,_⟩|⟨g,cap,cur,fz,hv,_⟩
  ·exact⟨_,_,_,hv⟩
  ·exact⟨_,_,_,hv⟩
 have hA:Lib.BuilderAtF 111 5 N b (.pointer (some ⟨b,0,none⟩)) (Lib.byteCells (l++s)) (w2.setCell ⟨b,1,none⟩ (.slice ao n' cap)):=by
  rw[Lib.byteCells_append,←Lib.strCells_toArray s,hS];exact Lib.BuilderAtF.put (T:=111) (e:=5) hB aL (bs':=Lib.byteCells l++Lib.strCells S) (by rw[ZrB,Lib.strCells_length,Lib.byteCells_length,ac];exact ii) (by decide)
 have hF:Below N w (w2.setCell ⟨b,1,none⟩ (.slice ao n' cap)):=(aF.grown fp jt (fun k hk=>(bR.lt k hk).1)).setCell (p:=⟨b,1,none⟩) hB _;have hO:Lib.OthersKept 5 (some b) w (w2.setCell ⟨b,1,none⟩ (.slice ao n' cap)):=(li.grown fp (Lib.ownsRowF_kind bR)).setCell ⟨b,1,none⟩ rfl _;replace hA:=Zrr hA;replace hF:=Zrr hF;replace hO:=Zrr hO;replace hS:=Zrr hS;clear fp ii bR gD aF li aL dv;go_wp2_with fail;go_ret2;exact⟨⟨_,rfl⟩,.inr hA.out,hF.out,hO.out⟩
theorem ZiB:((List.range 129).all fun k=>k ==0 || L.dgV (k:Int) ==Lib.itoa (k:Int))=true:=by kernel_rfl
theorem Zpv(v:Int)(h:1≤v∧v≤128):L.dgV v=Lib.itoa v:=by
 have:=List.all_eq_true.1 ZiB v.toNat (List.mem_range.2 (by omega));rw[show ((v.toNat:Nat):Int)=v by omega]at this;have h0:(v.toNat ==0)=false:=by rw[beq_eq_false_iff_ne];omega
 rw[h0,Bool.false_or,beq_iff_eq]at this;exact this
structure PrC (wa:World) (x p:Nat) (t:List VN) (b o cap:Nat) (l:List UInt8) (w:World):Prop where
 below:Below wa.heap.size wa w
 lt:wa.heap.size≤x∧x<p∧Zdm<wa.heap.size
 bt:w.heap[x]? =some (.cells #[.slice (some ⟨b,o,none⟩) t.length cap] 23 (0,0))
 bd:ZqU p p l w
 bv:w.heap[p+1]? =some (.cells #[.func (.func 53) #[] #[.pointer (some ⟨x,0,none⟩),.pointer (some ⟨p,0,none⟩),.pointer (some ⟨p+1,0,none⟩)]] 112 (0,0))
section
variable {wa:World}{x p:Nat}{t:List VN}{b o cap:Nat}{l:List UInt8}{w:World}
theorem PrC.cells(h:PrC wa x p t b o cap l w):w.cell? ⟨x,0,none⟩=some (.slice (some ⟨b,o,none⟩) t.length cap) ∧
  w.cell? ⟨p+1,0,none⟩=some (.func (.func 53) #[] #[.pointer (some ⟨x,0,none⟩),.pointer (some ⟨p,0,none⟩),.pointer (some ⟨p+1,0,none⟩)]):=by
 refine⟨?_,?_⟩
 ·simp[World.cell?,h.bt]
 ·simp[World.cell?,h.bv]
theorem PrC.size(h:PrC wa x p t b o cap l w):p≤w.heap.size:=by have:=(Zrv h.bv).1;omega
theorem PrC.wrote{w':World}{s:List UInt8}(h:PrC wa x p t b o cap l w)(hr:Zo7 p p (l++s) w w'):PrC wa x p t b o cap (l++s) w':=by
 obtain⟨h1,h2,h3⟩:=hr;have aD:=h.lt
 exact⟨h.below.trans (h2.mono (by omega)),h.lt,h3 x _ h.bt (fun e=>by have:=Option.some.inj e;omega) (fun c fz e=>by simp at e),h1,
  h3 (p+1) _ h.bv (fun e=>by have:=Option.some.inj e;omega) (fun c fz e=>by simp at e)⟩
theorem PrC.next{w':World}(h:PrC wa x p t b o cap l w)(hs:Below w.heap.size w w'):PrC wa x p t b o cap l w':=by
 have hk:∀(j:Nat) (o:Obj),w.heap[j]? =some o→w'.heap[j]? =some o:=fun j o hj=>(hs.block j (Zrv hj).1).trans hj
 have fD:∀q,Lib.BuilderAtF 111 5 p p q (Lib.byteCells l) w→Lib.BuilderAtF 111 5 p p q (Lib.byteCells l) w':=fun q hq=>by
  obtain⟨g1,v,g2,g3,g4⟩:=hq;refine⟨g1,v,hk _ _ g2,?_,g4⟩;obtain⟨k1,k2⟩:=g3;refine⟨k1,?_⟩;rcases k2 with k2|⟨g,cap,cur,fz,e,k3,k4,k5⟩
  ·exact .inl k2
  ·exact .inr ⟨g,cap,cur,fz,e,k3,hk _ _ k4,k5⟩
 exact⟨h.below.trans (hs.mono h.below.size),h.lt,hk _ _ h.bt,h.bd.imp (fD _) (fD _),hk _ _ h.bv⟩
end
def Zpb (wa:World)(x p:Nat)(t:List VN)(b o cap:Nat)(T:L.Tr):Prop:=∀(i:Nat) (l:List UInt8) (w:World),L.IsT L.idc t i T→PrC wa x p t b o cap l w→l.length+(L.prT T).length≤1000000 →
 Calls Tryz.prog 53 #[.int .i64 (i:Int),.pointer (some ⟨x,0,none⟩),.pointer (some ⟨p,0,none⟩),.pointer (some ⟨p+1,0,none⟩)] w fun e w'=>e= .returned (.tuple #[])∧PrC wa x p t b o cap (l++L.prT T) w'
theorem Zmz{wa:World}{x p:Nat}{t:List VN}{b o cap:Nat}(ht:Zag wa b o t)(hP:Zaz wa):∀T,Zpb wa x p t b o cap T
 | .leaf lv=>by
   intro i l w hT hC ac
   cases hT with
   | @leaf _ y h1 h2 =>
     obtain⟨hi,hy⟩:=Zrw h1;obtain⟨n0,n1,n2⟩:=(ht.below hC.below).node hi;rw[hy]at n0 n1 n2;obtain⟨yl,yr,yv⟩:=y;simp only at n0 n1 n2;have aI:=fun W=>Zbu ⟨yl,yr,yv⟩ W
     rw[h2]at aI
     have hr:1≤yv∧yv≤128:=by
      simp only[Zai,ZrK,ZrN]at h2;omega
     have rB:=fun W (hW:Zaz W)=>Tryz.strconv_Itoa yv (by omega) (by omega) W hW
     have gq:L.prT (.leaf yv)=Lib.itoa yv:=Zpv yv hr;obtain⟨c0,c1⟩:=hC.cells;have ew:(0:Int)≤i:=by omega
     have jx:(i:Int)<t.length:=by omega
     simp only at ac ⊢;rw[gq]at ac ⊢;have xd:=hP.same (hC.below.block _ hC.lt.2.2);replace hC:=Zrr hC;replace rB:=Zrr rB;clear h1 h2 hy gq
     go_enter Tryz.func53,Tryz.ntmps53
     go_wp2_with fail;refine(aI _).mono ?_;rintro e w1 ⟨rfl,aK⟩;have ce:=hC.out.next aK.below;have m2:=aK.cell n2;obtain⟨d0,d1⟩:=ce.cells;have q2:=rB.out w1 (xd.same (aK.below.block _ (ZrD hC.out.lt.2.2 hC.out.below.size)));replace ce:=Zrr ce;clear aI n0 n1 n2 c0 c1 aK;go_wp2_with fail;refine q2.mono ?_;rintro e w2 ⟨rfl,bS⟩;have cL:=ce.out.next (Zgr w1.heap.size bS (ZrQ _));have q3:=ZnK (s:=Lib.itoa yv) cL.bd (by omega) (by omega) cL.size;replace cL:=Zrr cL;clear q2 bS m2 d0 d1;go_wp2_with fail;refine q3.mono ?_;rintro e w3 ⟨⟨n3,rfl⟩,hr3⟩;replace hr3:=Zrr hr3;clear q3;go_wp2_with fail;refine bodyPost_ret (results_none rfl _ _ _) rfl ?_;exact⟨rfl,cL.out.wrote hr3.out⟩
 | .node a c=>by
   intro i l w hT hC ac;have iha:Zpb wa x p t b o cap a:=Zmz ht hP a;have ihc:Zpb wa x p t b o cap c:=Zmz ht hP c
   cases hT with
   | @node _ ai ci y _ _ h1 h2 h3 h4 g1 g2 =>
     obtain⟨hi,hy⟩:=Zrw h1;have htw:=ht.below hC.below;obtain⟨n0,n1,n2⟩:=htw.node hi;rw[hy]at n0 n1 n2;obtain⟨yl,yr,yv⟩:=y;have dt:yl=(ai:Int):=h3;have fB:yr=(ci:Int):=h4;subst dt fB;simp only at n0 n1 n2;have aI:=fun W=>Zbu ⟨(ai:Int),(ci:Int),yv⟩ W
     rw[h2]at aI;have xV:∀(c:Array Value) (w:World),(callFunc 53 c).run Tryz.prog w= .ok (.enter 53 c) w:=fun c w=>by simp[go_sem,Tryz.func53]
     have aX:l.length+(1+(L.prT a).length+1+(L.prT c).length+1)≤1000000:=by
      simp only[L.prT,ZrB,ZrP,List.length_nil]at ac;omega
     have gq:l++L.prT (.node a c)=l++[40]++L.prT a++[32]++L.prT c++[41]:=by simp[L.prT]
     rw[gq];obtain⟨c0,c1⟩:=hC.cells;have ew:(0:Int)≤i:=by omega
     have jx:(i:Int)<t.length:=by omega
     have rf:=Zrr fun (W:World) (hW:Below wa.heap.size wa W)=>(ht.below hW).node hi
     rw[hy]at rf;replace hC:=Zrr hC;clear h1 h2 hy gq ac htw h3 h4
     go_enter Tryz.func53,Tryz.ntmps53
     go_wp2_with fail;refine(aI _).mono ?_;rintro e w1 ⟨rfl,aK⟩;have ce:=hC.out.next aK.below;have q2:=Zfg 40 ce.bd (by omega) ce.size;replace ce:=Zrr ce;clear aI n0 n1 n2 c0 c1 aK;go_wp2_with fail;refine q2.mono ?_;rintro e w2 ⟨rfl,tF⟩;have cL:=ce.out.wrote tF;have mo:=cL.next (ZrE w2.heap.size w2).drew;obtain⟨d0,d1⟩:=mo.cells;obtain⟨m0,m1,_⟩:=rf.out w2.drew mo.below
     try simp only at m0 m1
     have q3:=iha ai (l++[40]) w2.drew g1 mo (by simp only[ZrB,ZrP,List.length_nil];omega);replace mo:=Zrr mo;clear q2 tF cL;go_wp2_with fail;(refine wp_region_held_drew (S:=(fun W=>W.cell? ⟨x,0,none⟩=some (.slice (some ⟨b,o,none⟩) t.length cap)∧W.cell? ⟨p+1,0,none⟩=some (.func (.func 53) #[] #[.pointer (some ⟨x,0,none⟩),.pointer (some ⟨p,0,none⟩),.pointer (some ⟨p+1,0,none⟩)])∧W.cell? ⟨b,o+i*3,none⟩=some (.int .i64 (ai:Nat)))) (by kernel_rfl) ?_ (fun aE=>?_))
     ·exact⟨d0,d1,m0⟩
     (refine ZrR (i:=0) (v:=?_) rfl (by kernel_rfl) (fun _ _ _ h=>h) (Or.inl ⟨by rfl,?_⟩) (by assumption) ?_);rotate_left
     ·(intro w aB;(try dsimp only at aB);go_simp;first|done|with_reducible rfl)
     (try simp only[Act.put,Zrs,Zrt,Zru]);(refine ZrR (i:=1) (v:=?_) rfl (by kernel_rfl) (fun _ _ _ h=>h) (Or.inl ⟨by rfl,?_⟩) (by assumption) ?_);rotate_left
     ·(intro w aB;(try dsimp only at aB);go_simp;first|done|with_reducible rfl)
     (try simp only[Act.put,Zrs,Zrt,Zru]);(refine ZrR (i:=2) (v:=?_) rfl (by kernel_rfl) (fun _ _ _ h=>h) (Or.inl ⟨by rfl,?_⟩) (by assumption) ?_);rotate_left
     ·(intro w aB;(try dsimp only at aB);go_simp;first|done|with_reducible rfl)
     (try simp only[Act.put,Zrs,Zrt,Zru]);(refine ZrR (i:=3) (v:=?_) rfl (by kernel_rfl) (fun _ _ _ h=>h) (Or.inl ⟨by rfl,?_⟩) (by assumption) ?_);rotate_left
     ·(intro w aB;(try dsimp only at aB);go_simp;first|done|with_reducible rfl)
     (try simp only[Act.put,Zrs,Zrt,Zru]);(refine ZrR (i:=4) (v:=?_) rfl (by kernel_rfl) (fun _ _ _ h=>h) (Or.inl ⟨by rfl,?_⟩) (by assumption) ?_);rotate_left
     ·(intro w aB;(try dsimp only at aB);go_simp;first|done|with_reducible rfl)
     (try simp only[Act.put,Zrs,Zrt,Zru]);(refine ZrR (i:=5) (v:=?_) rfl (by kernel_rfl) (fun _ _ _ h=>h) (Or.inl ⟨by rfl,?_⟩) (by assumption) ?_);rotate_left
     ·(intro w aB;(try dsimp only at aB);go_simp;first|done|with_reducible rfl)
     (try simp only[Act.put,Zrs,Zrt,Zru]);(refine wpAnyH_ready (rs:=[6]) (by kernel_rfl) (by simp) ?_);(refine ZaW rfl (fun K hK=>?_))
     ((rw[if_pos (by rfl)]);go_simp;refine q3.mono ?_;rintro e w3 ⟨rfl,fK⟩;obtain⟨oH,kw⟩:=fK.cells;obtain⟨m0',_,_⟩:=rf.out w3 fK.below;refine hK.out _ _ ⟨oH,kw,m0'⟩ (fun aE=>?_))
     (clear hK K)
     (try simp only[Act.put,Zrs,Zrt,Zru]);(refine wpAnyH_done (by kernel_rfl) ?_ _);have q4:=Zfg 32 fK.bd (by simp only[ZrB,ZrP,List.length_nil];omega) fK.size;replace fK:=Zrr fK;clear q3 mo d0 d1 m0 m1 aE oH kw m0';go_wp2_with fail;refine q4.mono ?_;rintro e w4 ⟨rfl,me⟩;have kD:=fK.out.wrote me;have mq:=kD.next (ZrE w4.heap.size w4).drew;obtain⟨d0,d1⟩:=mq.cells;obtain⟨m0,m1,_⟩:=rf.out w4.drew mq.below
     try simp only at m0 m1
     have q5:=ihc ci (l++[40]++L.prT a++[32]) w4.drew g2 mq (by simp only[ZrB,ZrP,List.length_nil];omega);replace mq:=Zrr mq;clear q4 me kD;go_wp2_with fail;(refine wp_region_held_drew (S:=(fun W=>W.cell? ⟨x,0,none⟩=some (.slice (some ⟨b,o,none⟩) t.length cap)∧W.cell? ⟨p+1,0,none⟩=some (.func (.func 53) #[] #[.pointer (some ⟨x,0,none⟩),.pointer (some ⟨p,0,none⟩),.pointer (some ⟨p+1,0,none⟩)])∧W.cell? ⟨b,o+i*3+1,none⟩=some (.int .i64 (ci:Nat)))) (by kernel_rfl) ?_ (fun aE=>?_))
     ·exact⟨d0,d1,m1⟩
     (refine ZrR (i:=0) (v:=?_) rfl (by kernel_rfl) (fun _ _ _ h=>h) (Or.inl ⟨by rfl,?_⟩) (by assumption) ?_);rotate_left
     ·(intro w aB;(try dsimp only at aB);go_simp;first|done|with_reducible rfl)
     (try simp only[Act.put,Zrs,Zrt,Zru]);(refine ZrR (i:=1) (v:=?_) rfl (by kernel_rfl) (fun _ _ _ h=>h) (Or.inl ⟨by rfl,?_⟩) (by assumption) ?_);rotate_left
     ·(intro w aB;(try dsimp only at aB);go_simp;first|done|with_reducible rfl)
     (try simp only[Act.put,Zrs,Zrt,Zru]);(refine ZrR (i:=2) (v:=?_) rfl (by kernel_rfl) (fun _ _ _ h=>h) (Or.inl ⟨by rfl,?_⟩) (by assumption) ?_);rotate_left
     ·(intro w aB;(try dsimp only at aB);go_simp;first|done|with_reducible rfl)
     (try simp only[Act.put,Zrs,Zrt,Zru]);(refine ZrR (i:=3) (v:=?_) rfl (by kernel_rfl) (fun _ _ _ h=>h) (Or.inl ⟨by rfl,?_⟩) (by assumption) ?_);rotate_left
     ·(intro w aB;(try dsimp only at aB);go_simp;first|done|with_reducible rfl)
     (try simp only[Act.put,Zrs,Zrt,Zru]);(refine ZrR (i:=4) (v:=?_) rfl (by kernel_rfl) (fun _ _ _ h=>h) (Or.inl ⟨by rfl,?_⟩) (by assumption) ?_);rotate_left
     ·(intro w aB;(try dsimp only at aB);go_simp;first|done|with_reducible rfl)
     (try simp only[Act.put,Zrs,Zrt,Zru]);(refine ZrR (i:=5) (v:=?_) rfl (by kernel_rfl) (fun _ _ _ h=>h) (Or.inl ⟨by rfl,?_⟩) (by assumption) ?_);rotate_left
     ·(intro w aB;(try dsimp only at aB);go_simp;first|done|with_reducible rfl)
     (try simp only[Act.put,Zrs,Zrt,Zru]);(refine wpAnyH_ready (rs:=[6]) (by kernel_rfl) (by simp) ?_);(refine ZaW rfl (fun K hK=>?_))
     ((rw[if_pos (by rfl)]);go_simp;refine q5.mono ?_;rintro e w5 ⟨rfl,hZ⟩;obtain⟨oH,kw⟩:=hZ.cells;obtain⟨_,m0',_⟩:=rf.out w5 hZ.below;refine hK.out _ _ ⟨oH,kw,m0'⟩ (fun aE=>?_))
     (clear hK K)
     (try simp only[Act.put,Zrs,Zrt,Zru]);(refine wpAnyH_done (by kernel_rfl) ?_ _);have q6:=Zfg 41 hZ.bd (by simp only[ZrB,ZrP,List.length_nil];omega) hZ.size;replace hZ:=Zrr hZ;clear q5 mq d0 d1 m0 m1 aE oH kw m0';go_wp2_with fail;refine q6.mono ?_;rintro e w6 ⟨rfl,hr6⟩;have cM:=Zrr (hZ.out.wrote hr6);clear q6 hr6;go_wp2_with fail
     go_end0
     exact⟨rfl,cM.out⟩
theorem ZfN{t:List VN}{T:L.Tr}{w:World}{b o cap:Nat}(ht:Zag w b o t)(hc:Zae t=0)(hT:L.IsT L.idc t (t.length - 1) T)(aX:(L.prT T).length≤100000)(hP:Zaz w) :
  Calls Tryz.prog 24 #[.slice (some ⟨b,o,none⟩) t.length cap] w fun e w'=>e= .returned (.tuple #[.string ⟨(L.prT T).toArray⟩,.int .i64 0])∧Below w.heap.size w w':=by
 have t0:=(Zam hc).1;have hgP:=hP.lt;have aF:=(ZrE w.heap.size w).alloc (ZrQ _) (.cells #[.slice (some ⟨b,o,none⟩) t.length cap] 23);have al:=Zrz w (.cells #[.slice (some ⟨b,o,none⟩) t.length cap] 23);generalize hx:w.heap.size=x at *;have c0:(w.alloc (.cells #[.slice (some ⟨b,o,none⟩) t.length cap] 23)).cell? ⟨x,0,none⟩=some (.slice (some ⟨b,o,none⟩) t.length cap):=by rw[World.cell?,al];rfl
 have gy:(w.alloc (.cells #[.slice (some ⟨b,o,none⟩) t.length cap] 23)).heap.size=x+1:=by simp[hx]
 have q1:=ZbJ (w.alloc (.cells #[.slice (some ⟨b,o,none⟩) t.length cap] 23)) (some ⟨b,o,none⟩) cap (.inr ⟨b,o,rfl,ht.below (by rw[hx];exact aF)⟩);rw[hc]at q1;have law:=fun p=>Zmz (x:=x) (p:=p) (cap:=cap) ht hP T
 have nL:∀(fn:Fn) (first cap:Array Value) (w:World),(Instr.makeFunc fn first cap).run Tryz.prog w= .ok (.func fn first cap) w:=fun _ _ _ _=>rfl
 have xV:∀(c:Array Value) (w:World),(callFunc 53 c).run Tryz.prog w= .ok (.enter 53 c) w:=fun c w=>by simp[go_sem,Tryz.func53]
 replace hx:=Zrr hx
 go_enter Tryz.func24,Tryz.ntmps24
 go_wp2_with fail
 try simp only[hx.out]
 generalize fX:w.alloc (.cells #[.slice (some ⟨b,o,none⟩) t.length cap] 23)=w1 at *;refine q1.mono ?_;rintro e w2 ⟨rfl,aO⟩;have hxp:x<w2.heap.size:=by have:=aO.size;omega
 have aL:Below x w w2:=aF.trans (aO.below.mono (by omega));obtain⟨q,hq⟩:∃q,q=t.length - 1:=⟨_,rfl⟩;have e1:(t.length:Int) - 1=(q:Int):=by omega
 have e2:IntKind.i64.wrap (q:Int)=(q:Int):=IntWalk.i64_in _ (by have:=(Zam hc).2.1;omega)
 have d0:((w2.alloc (.cells #[.pointer none,.slice none 0 0] 111)).alloc (.cells #[.func (.func 53) #[] #[.pointer (some ⟨x,0,none⟩),.pointer (some ⟨w2.heap.size,0,none⟩),.pointer (some ⟨w2.heap.size+1,0,none⟩)]] 112)).cell? ⟨x,0,none⟩=some (.slice (some ⟨b,o,none⟩) t.length cap):=by
  have hb:Below w2.heap.size w2 ((w2.alloc (.cells #[.pointer none,.slice none 0 0] 111)).alloc (.cells #[.func (.func 53) #[] #[.pointer (some ⟨x,0,none⟩),.pointer (some ⟨w2.heap.size,0,none⟩),.pointer (some ⟨w2.heap.size+1,0,none⟩)]] 112)):=((ZrE _ _).alloc (ZrQ _) _).alloc (by simp) _;exact(hb.cell (show (⟨x,0,none⟩:Addr).block<w2.heap.size from hxp)).trans (aO.cell c0)
 have fK:PrC w x w2.heap.size t b o cap [] ((w2.alloc (.cells #[.pointer none,.slice none 0 0] 111)).alloc (.cells #[.func (.func 53) #[] #[.pointer (some ⟨x,0,none⟩),.pointer (some ⟨w2.heap.size,0,none⟩),.pointer (some ⟨w2.heap.size+1,0,none⟩)]] 112)):=by
  have hb:Below w2.heap.size w2 ((w2.alloc (.cells #[.pointer none,.slice none 0 0] 111)).alloc (.cells #[.func (.func 53) #[] #[.pointer (some ⟨x,0,none⟩),.pointer (some ⟨w2.heap.size,0,none⟩),.pointer (some ⟨w2.heap.size+1,0,none⟩)]] 112)):=((ZrE _ _).alloc (ZrQ _) _).alloc (by simp) _;refine⟨by rw[hx.out];exact aL.trans (hb.mono (by omega)),⟨by rw[hx.out];exact ZrQ _,hxp,by rw[hx.out];exact hgP⟩,(hb.block x hxp).trans ((aO.below.block x (Zrv al).1).trans al),?_,?_⟩
  ·exact(Lib.IsBuilderF.of (Lib.fresh_isBuilder 111 5 w2)).alloc _
  ·have:=Zrz (w2.alloc (.cells #[.pointer none,.slice none 0 0] 111)) (.cells #[.func (.func 53) #[] #[.pointer (some ⟨x,0,none⟩),.pointer (some ⟨w2.heap.size,0,none⟩),.pointer (some ⟨w2.heap.size+1,0,none⟩)]] 112)
   simpa using this
 have ql:=law w2.heap.size (t.length - 1) [] _ hT fK (by simp only[List.length_nil];omega);rw[←hq]at ql;replace fK:=Zrr fK;replace hq:=Zrr hq;replace al:=Zrr al;replace aF:=Zrr aF;clear q1 law gy c0;go_wp2_with fail;refine ql.mono ?_;rintro e w4 ⟨rfl,kD⟩;rw[List.nil_append]at kD;have q5:=Tryz.Builder_String_any_k w2.heap.size w2.heap.size (L.prT T) w4 kD.bd kD.size;replace kD:=Zrr kD;clear ql fK d0;go_wp2_with fail;refine q5.mono ?_;rintro e w5 ⟨rfl,_,ah,_⟩;have aa:Hid (Below x w w5):=Zrr (by have h4:=kD.out.below;rw[hx.out]at h4;exact h4.trans (ah.mono (by omega)));clear q5 ah;go_wp2_with fail;go_ret2;exact⟨rfl,aa.out⟩
theorem Ze0{w:World}{k:Nat}{a b c:Value}{t:TypeId}(h:w.heap[k]? =some (.cells #[a,b,c] t (0,0)))(u v z:Value) :
  (((w.setCell ⟨k,0,none⟩ u).setCell ⟨k,1,none⟩ v).setCell ⟨k,2,none⟩ z).heap[k]? =some (.cells #[u,v,z] t (0,0)):=Zaj (Zaj (Zaj h 0 u) 1 v) 2 z
theorem Zcf{T:L.Tr}{φ:L.Asg→Bool}{sb r:Nat}{w:World}{l:List Int}(h:Zhq T φ sb r w)(hT:ZbI T l) :
  Calls Tryz.prog 42 #[.pointer (some ⟨sb,0,none⟩),.int .i64 (r:Nat)] w fun e w'=>e= .returned (.agg #[.pointer (some ⟨sb,0,none⟩),.int .i64 (r:Nat),.int .i64 (L.sizeTr T l (L.tabO l φ):Nat)])∧Below w.heap.size w w':=by
 have aF:=(ZrE w.heap.size w).alloc (ZrQ _) (.cells #[.pointer none,.int .i64 0,.int .i64 0] 90);have al:=Zrz w (.cells #[.pointer none,.int .i64 0,.int .i64 0] 90);have q1:=(h.below aF).size hT.sbl hT.root;generalize L.sizeTr T l (L.tabO l φ)=sz at *;generalize hx:w.heap.size=x at *;replace hx:=Zrr hx
 go_enter Tryz.func42,Tryz.ntmps42
 go_wp2_with fail
 try simp only[hx.out]
 generalize w.alloc (.cells #[.pointer none,.int .i64 0,.int .i64 0] 90)=w1 at *;refine q1.mono ?_;rintro e w2 ⟨rfl,aL⟩;have aS:=(aL.block x (Zrv al).1).trans al;obtain⟨z0,z1,z2⟩:=Za5 aS;have f0:w2.frozen? ⟨x,0,none⟩=false:=by simp[World.frozen?,aS]
 have f1:w2.frozen? ⟨x,1,none⟩=false:=by simp[World.frozen?,aS]
 have f2:w2.frozen? ⟨x,2,none⟩=false:=by simp[World.frozen?,aS]
 have cS:=Ze0 aS (.pointer (some ⟨sb,0,none⟩)) (.int .i64 (r:Nat)) (.int .i64 (sz:Nat));obtain⟨e0,e1,e2⟩:=Za5 cS;have aa:Hid (Below x w (((w2.setCell ⟨x,0,none⟩ (.pointer (some ⟨sb,0,none⟩))).setCell ⟨x,1,none⟩ (.int .i64 (r:Nat))).setCell ⟨x,2,none⟩ (.int .i64 (sz:Nat)))):=Zrr ((((Zem aF hx.out.symm aL).setCell (show x≤x from ZrQ _) _).setCell (show x≤x from ZrQ _) _).setCell (show x≤x from ZrQ _) _);replace aS:=Zrr aS;replace cS:=Zrr cS;clear q1 aF aL al;go_wp2_with fail;refine bodyPost_ret (v:=.agg #[.pointer (some ⟨sb,0,none⟩),.int .i64 (r:Nat),.int .i64 (sz:Nat)]) (by simp[results,Tryz.results42,go_sem,e0,e1,e2]) rfl ⟨rfl,aa.out⟩
def Zcm:Value:=.agg #[.int .i64 1,.func (.func 62) #[] #[],.int .i64 2,.func (.func 63) #[] #[],.int .i64 3,.func (.func 64) #[] #[]]
theorem ZkN(w:World):Calls Tryz.prog 77 #[] w fun e w'=>e= .returned Zcm∧Below w.heap.size w w':=by
 have al:=Zrz w (.cells #[.int .i64 1,.func (.func 62) #[] #[],.int .i64 2,.func (.func 63) #[] #[],.int .i64 3,.func (.func 64) #[] #[]] 136);have hb:=(ZrE w.heap.size w).alloc (ZrQ _) (.cells #[.int .i64 1,.func (.func 62) #[] #[],.int .i64 2,.func (.func 63) #[] #[],.int .i64 3,.func (.func 64) #[] #[]] 136)
 go_enter Tryz.func77,Tryz.ntmps77
 go_wp2_with fail;generalize w.alloc (.cells #[.int .i64 1,.func (.func 62) #[] #[],.int .i64 2,.func (.func 63) #[] #[],.int .i64 3,.func (.func 64) #[] #[]] 136)=w1 at *;have e0:w1.cell? ⟨w.heap.size,0,none⟩=some (.int .i64 1):=by rw[World.cell?,al];rfl
 have e1:w1.cell? ⟨w.heap.size,1,none⟩=some (.func (.func 62) #[] #[]):=by rw[World.cell?,al];rfl
 have e2:w1.cell? ⟨w.heap.size,2,none⟩=some (.int .i64 2):=by rw[World.cell?,al];rfl
 have e3:w1.cell? ⟨w.heap.size,3,none⟩=some (.func (.func 63) #[] #[]):=by rw[World.cell?,al];rfl
 have e4:w1.cell? ⟨w.heap.size,4,none⟩=some (.int .i64 3):=by rw[World.cell?,al];rfl
 have e5:w1.cell? ⟨w.heap.size,5,none⟩=some (.func (.func 64) #[] #[]):=by rw[World.cell?,al];rfl
 refine bodyPost_ret (v:=Zcm) (by simp[results,Tryz.results77,go_sem,e0,e1,e2,e3,e4,e5,Zcm]) rfl ⟨rfl,hb⟩
end Go.Proofs.YtemnmcfmabamcaaGreatDoor
end
