import Derived.Test.YtemnmcfmabamcaaGreatDoorYVcopy
set_option linter.unusedSimpArgs false
set_option linter.unusedVariables false
set_option maxRecDepth 100000
set_option maxHeartbeats 400000
section
namespace Go.Proofs.YtemnmcfmabamcaaGreatDoor
open Go Go.RowKit Go.Shelf
structure Zc0 (t:List VN) (φ:L.Asg→Bool) (sb r:Nat) (w:World):Prop where
 st:∃(B:Zar) (k:Nat) (s:St),B.sb=sb∧SS t B w k s w∧Val s r φ
abbrev Zhq(T:L.Tr)(φ:L.Asg→Bool)(sb r:Nat)(w:World):Prop:=Zc0 (T.post 0) φ sb r w
def Zjs (kd i:Nat)(T:L.Tr)(φ:L.Asg→Bool)(w:World)(e:Ending)(w':World):Prop :=
 Below w.heap.size w w'∧((L.mvT kd i T 0=none∧e= .returned (.tuple #[.pointer none,.int .i64 0,.int .i64 1])) ∨
  ∃(U:L.Tr) (sb r:Nat),L.mvT kd i T 0=some U∧e= .returned (.tuple #[.pointer (some ⟨sb,0,none⟩),.int .i64 (r:Nat),.int .i64 0])∧Zhq U φ sb r w')
noncomputable def Zle (t:List VN) (φ:L.Asg→Bool):List UInt8:=open Classical in
 if h:∃p:St × Nat,L.Inv p.1∧p.1.tree=t∧p.2<p.1.nodes.length∧L.sem p.1.nodes p.2=φ then L.tx h.choose.1.nodes h.choose.2 else []
theorem Zhn{t:List VN}{φ:L.Asg→Bool}{s:St}{r:Nat}(hi:L.Inv s)(ht:s.tree=t)(hv:Val s r φ):L.tx s.nodes r=Zle t φ:=by
 have h:∃p:St × Nat,L.Inv p.1∧p.1.tree=t∧p.2<p.1.nodes.length∧L.sem p.1.nodes p.2=φ:=⟨(s,r),hi,ht,hv.lt,funext hv.sem⟩;unfold Zle;rw[dif_pos h];obtain⟨g1,g2,g3,g4⟩:=h.choose_spec;exact L.tx_eq hi g1 (by rw[g2,ht]) _ _ hv.lt g3 (by rw[g4];exact funext hv.sem)
section
variable {T:L.Tr}{t:List VN}{φ:L.Asg→Bool}{sb r:Nat}{w:World}{l:List Int}
theorem Zc0.of{B:Zar}{w0:World}{k:Nat}{s:St}(h:SS t B w0 k s w)(hv:Val s r φ):Zc0 t φ B.sb r w:=by
 obtain⟨B',hB,_,hS,_⟩:=h.here;exact⟨⟨B',k,s,hB,hS,hv⟩⟩
theorem Zc0.below{w':World}(h:Zc0 t φ sb r w)(hb:Below w.heap.size w w'):Zc0 t φ sb r w':=by
 obtain⟨B,k,s,rfl,hS,hv⟩:=h.st;exact .of (hS.below hb) hv
theorem Zc0.chk(h:Zc0 t φ sb r w):Zae t=0:=by
 obtain⟨B,k,s,rfl,hS,hv⟩:=h.st;exact hS.chk
theorem Zi9(hT:ZbI T l){kd i:Nat}{e:Ending}{w':World}(h:Zdh kd (T.post 0) i φ w e w'):Zjs kd i T φ w e w':=by
 obtain⟨hb,h|⟨U,B,so,r,h1,h2,h3,h4,_⟩⟩:=ZpL hT.range h
 ·exact⟨hb,.inl h⟩
 ·exact⟨hb,.inr ⟨U,B.sb,r,h1,h2,.of h3 h4⟩⟩
theorem Zc0.right(h:Zhq T φ sb r w)(hT:ZbI T l)(hz:ZaY w)(hp:Zaz w)(i:Nat):Calls Tryz.prog 62 #[.pointer (some ⟨sb,0,none⟩),.int .i64 (r:Nat),.int .i64 (i:Nat)] w (Zjs 1 i T φ w):=by
 obtain⟨B,k,s,rfl,hS,hv⟩:=h.st;exact(ZiR hS hv hT.len hz hp).mono fun e w' h=>Zi9 hT h
theorem Zc0.left(h:Zhq T φ sb r w)(hT:ZbI T l)(hz:ZaY w)(hp:Zaz w)(i:Nat):Calls Tryz.prog 63 #[.pointer (some ⟨sb,0,none⟩),.int .i64 (r:Nat),.int .i64 (i:Nat)] w (Zjs 2 i T φ w):=by
 obtain⟨B,k,s,rfl,hS,hv⟩:=h.st;exact(ZkO hS hv hT.len hz hp).mono fun e w' h=>Zi9 hT h
theorem Zc0.swap(h:Zhq T φ sb r w)(hT:ZbI T l)(hz:ZaY w)(hp:Zaz w)(i:Nat):Calls Tryz.prog 64 #[.pointer (some ⟨sb,0,none⟩),.int .i64 (r:Nat),.int .i64 (i:Nat)] w (Zjs 3 i T φ w):=by
 obtain⟨B,k,s,rfl,hS,hv⟩:=h.st;exact(ZkP hS hv hT.len hz hp).mono fun e w' h=>Zi9 hT h
theorem Zc0.size(h:Zc0 t φ sb r w)(hl:L.SortedBel t (t.length - 1) l)(hT:L.IsT L.idc t (t.length - 1) T):Calls Tryz.prog 20 #[.pointer (some ⟨sb,0,none⟩),.int .i64 (r:Nat)] w fun e w'=>e= .returned (.tuple #[.int .i64 (L.sizeTr T l (L.tabO l φ):Nat),.int .i64 0])∧Below w.heap.size w w':=by
 obtain⟨B,k,s,rfl,hS,hv⟩:=h.st;exact Zp2 hS hv hl hT
theorem Zc0.text(h:Zc0 t φ sb r w):Calls Tryz.prog 14 #[.pointer (some ⟨sb,0,none⟩),.int .i64 (r:Nat)] w fun e w'=>e= .returned (.tuple #[.string ⟨(Zle t φ).toArray⟩,.int .i64 0])∧Below w.heap.size w w':=by
 obtain⟨B,k,s,rfl,hS,hv⟩:=h.st;rw[←Zhn hS.inv hS.tree hv];exact Zo0 hS hv.lt
theorem Zc0.at(h:Zc0 t φ sb r w):∃z:Int,Calls Tryz.prog 41 #[.pointer (some ⟨sb,0,none⟩),.int .i64 (r:Nat)] w fun e w'=>e= .returned (.tuple #[.int .i64 z,.int .i64 0])∧Below w.heap.size w w':=by
 obtain⟨B,k,s,rfl,hS,hv⟩:=h.st;exact⟨_,Zrn hS (Zry hv.lt)⟩
theorem Zc0.tree(h:Zc0 t φ sb r w):Calls Tryz.prog 19 #[.pointer (some ⟨sb,0,none⟩)] w fun e w'=>∃g cap,e= .returned (.slice (some ⟨g,0,none⟩) t.length cap)∧w.heap.size≤g∧Zag w' g 0 t∧Below w.heap.size w w':=by
 obtain⟨B,k,s,rfl,hS,hv⟩:=h.st;obtain⟨B',hB,hR,_,_⟩:=hS.here;have ht:=hS.tree;have hf:=hS.few;rw[←hB];refine(Zhm hR (by rw[ht];omega)).mono ?_;rintro e w' ⟨g,cap,cs,rfl,h1,h2,h3,h4⟩;rw[ht]at h3 ⊢;exact⟨g,cap,rfl,h1,fun j u hj=>by rw[World.cell?,h2];exact h3 j u hj,h4⟩
theorem Zc0.copy(h:Zc0 t φ sb r w)(hT:L.IsT L.idc t (t.length - 1) T)(hk:ZbI T l)(hz:ZaY w)(hp:Zaz w){b o cap:Nat}(hu:Zag w b o (T.post 0)) :
  Calls Tryz.prog 26 #[.pointer (some ⟨sb,0,none⟩),.int .i64 (r:Nat),.slice (some ⟨b,o,none⟩) (T.post 0).length cap] w fun e w'=>∃ei r',e= .returned (.tuple #[.pointer (some ⟨ei,0,none⟩),.int .i64 (r':Nat),.int .i64 0])∧Zhq T φ ei r' w'∧Below w.heap.size w w':=by
 have hc:=h.chk;obtain⟨B,k,s,rfl,hS,hv⟩:=h.st;refine(ZnO hS hv hu hk.chk hk.len (fun v=>(hT.root_mem hc v).symm.trans (hk.root.root_mem hk.chk v)) hz hp).mono ?_;rintro e w' ⟨B',so,r',rfl,h1,h2,_,h4⟩;exact⟨B'.sb,r',rfl,.of h1 h2,h4⟩
theorem ZoC(h:Zc0 t φ sb r w):(Zle t φ).length≤4000000:=by
 obtain⟨B,k,s,rfl,hS,hv⟩:=h.st;have hf:=hS.few;have h0:=hS.pos;have ht:=hS.tree;rw[←Zhn hS.inv hS.tree hv];have h1:=(L.tx_len hS.inv (by rw[ht];exact hf) r hv.lt (s.tree.length - 1) (by rw[ht];omega) (Zbb hS.inv hv.lt)).2;have h2:=L.nv_le hS.inv.tree (v:=s.tree.length - 1) (by rw[ht];omega);rw[ht]at h1 h2;exact ZrC h1 ((show ∀n,n≤6→L.tB n≤4000000 by decide) _ (by omega))
end
theorem Zqa(y z:Nat)(hy:y<64)(hz:z<64):bits BinOp.xor IntKind.i64 (y:Int) (z:Int)=((y ^^^ z:Nat):Int):=by
 have aD:y ^^^ z<2 ^ 6:=Nat.xor_lt_two_pow hy hz
 show IntKind.i64.wrap (((BitVec.ofInt 64 (y:Int) ^^^ BitVec.ofInt 64 (z:Int):BitVec 64).toNat:Nat):Int)=_
 rw[show ((BitVec.ofInt 64 (y:Int) ^^^ BitVec.ofInt 64 (z:Int)).toNat)=y ^^^ z from by
  rw[BitVec.toNat_xor,BitVec.ofInt_natCast,BitVec.ofInt_natCast,BitVec.toNat_ofNat,BitVec.toNat_ofNat,Nat.mod_eq_of_lt (by omega),Nat.mod_eq_of_lt (by omega)]]
 rw[IntWalk.i64_in _ (by omega)]
def Zqf (n k:Nat)(f:List Bool)(i:Nat):Bool:=(List.range i).any fun i=>f.getD i false !=f.getD (i ^^^ 2 ^ (n - 1 - k)) false
theorem ZlJ(n k:Nat)(f:List Bool)(i:Nat):Zqf n k f (i+1)=(Zqf n k f i || (f.getD i false !=f.getD (i ^^^ 2 ^ (n - 1 - k)) false)):=by
 unfold Zqf;rw[List.range_succ,List.any_append];simp
def ZgR (l:List Int)(f:List Bool)(k:Nat):List Int:=((List.range k).filter fun k=>L.depB l.length k f).map fun k=>l.getD k 0
theorem Zkn(l:List Int)(f:List Bool)(k:Nat):ZgR l f (k+1)=if L.depB l.length k f=true then ZgR l f k++[l.getD k 0] else ZgR l f k:=by
 unfold ZgR;rw[List.range_succ,List.filter_append,List.map_append]
 cases h:L.depB l.length k f <;> simp[List.filter_cons,h]
theorem ZhK(l:List Int)(f:List Bool)(k:Nat):(ZgR l f k).length≤k:=by
 unfold ZgR;rw[List.length_map];exact ZrC (List.length_filter_le _ _) (by simp)
def ZcW (w:World)(l:List Int)(f:List Bool)(k:Nat)(v:Value)(wr:World):Prop :=
 Below w.heap.size w wr∧w.heap.size<wr.heap.size∧wr.ownsRow (w.heap.size+1) 3 1 v (ZgR l f k).length ((ZgR l f k).map Zce)∧wr.heap[w.heap.size]? =some (.cells #[.int .u64 0,.int .u64 0] 82 (0,0))
theorem ZcW.next{w:World}{l:List Int}{f:List Bool}{k:Nat}{v:Value}{wr w':World}(h:ZcW w l f k v wr)(hb:Below wr.heap.size wr w'):ZcW w l f k v w':=by
 obtain⟨h1,h2,h3,h4⟩:=h;exact⟨h1.trans (hb.mono h1.size),ZrD h2 hb.size,Zaa h3 (fun _ hg=>hb.block _ (Zap h3 hg).1),(hb.block _ h2).trans h4⟩
theorem ZiA{w:World}{vl vf:Value}{l:List Int}{f:List Bool}(hv:SlI w vl l)(hf:SlB w vf f)(hl:l.length≤6)(hN:f.length=2 ^ l.length) :
  Calls Tryz.prog 81 #[vl,vf] w fun e w'=>e= .returned (ZbU (ofS (L.depL l f)))∧Below w.heap.size w w':=by
 obtain⟨ba,c,rfl,hc⟩:=hv;obtain⟨bf,of,cf,rfl,jk,lB⟩:=hf;have rQ:=ZbW hl
 have aN:Hid (∀k (hk:k<l.length),∃b o,ba=some ⟨b,o,none⟩∧b<w.heap.size∧w.cell? ⟨b,o+k,none⟩=some (.int .i64 l[k])):=Zrr fun k hk=>by
  rcases hc with ⟨_,rfl,_⟩|⟨b,o,e,h⟩
  ·simp at hk
  ·exact⟨b,o,e,Zrx w _ (h k hk),h k hk⟩
 obtain⟨i0,bz,bH,aj,av⟩:∃i,Tryz.prog.info? 3=some i∧i.zero=some (.int .i64 0)∧i.size=1∧i.bytes=8:=by
  have h:=Zdn
  cases hh:Tryz.prog.info? 3 with
  | none=>rw[hh]at h;cases h
  | some i =>
    rw[hh]at h;simp only[Option.map_some,ZrJ,Prod.mk.injEq]at h;exact⟨i,rfl,h.1,h.2.1,h.2.2⟩
 have al:=Zrz w (.cells #[.int .u64 0,.int .u64 0] 82);have aF:=(ZrE w.heap.size w).alloc (ZrQ _) (.cells #[.int .u64 0,.int .u64 0] 82);have h0:Hid (ZcW w l f 0 (.slice none 0 0) (w.alloc (.cells #[.int .u64 0,.int .u64 0] 82))):=Zrr ⟨aF,by simp,⟨rfl,.inl ⟨rfl,rfl⟩⟩,al⟩;replace lB:=Zrr lB;replace hN:=Zrr hN;clear hc al aF
 go_enter Tryz.func81,Tryz.ntmps81
 go_wp2_with fail;generalize w.alloc (.cells #[.int .u64 0,.int .u64 0] 82)=w1 at *
 go_loopw [5,6] (fun v kv wr=>∃k:Nat,k≤l.length∧kv= .int .i64 k∧Hid (ZcW w l f k v wr)) (fun _ kv _=>l.length - (intOf kv).toNat)
 case atStart=>exact⟨0,Nat.zero_le _,rfl,h0⟩
 case round =>
  clear h0;obtain⟨k,hk,rfl,hI⟩:=hrel
  by_cases aD:k<l.length
  ·have dk:decide ((k:Int)<(l.length:Int))=true:=ZrI (by omega)
   go_wp2_with fail;obtain⟨b,o,rfl,dv,hz⟩:=aN.out k aD;have wn:=Zrr (Zkn l f k);have hdk:=ZhK l f k;have bD:l.getD k 0=l[k]:=by rw[ZrG,Zry aD];rfl
   rw[bD]at wn;have iP:2 ^ (l.length - 1 - k)<64:=ZrD (Nat.pow_lt_pow_right (by omega) (by omega)) rQ;have jg:=Zrr (fun W=>Zly l.length k aD (by omega) W)
   have jS:Hid (∀i,i<f.length→i ^^^ 2 ^ (l.length - 1 - k)<f.length):=Zrr fun i hi=>by
    have e:=hN.out;rw[e]at hi ⊢;exact L.xor_lt aD hi
   have ar:=Zrr (fun i=>ZlJ l.length k f i);have jj:Hid (L.depB l.length k f=Zqf l.length k f f.length):=Zrr rfl;have hI0:Hid (Zqf l.length k f 0=false):=Zrr rfl;have hf64:f.length≤64:=by rw[hN.out];exact rQ
   generalize hP:2 ^ (l.length - 1 - k)=P at *;generalize eM:l[k]=z at *;generalize hD:Zqf l.length k f=D at *;replace hP:=Zrr hP;replace eM:=Zrr eM;replace hD:=Zrr hD;clear bD;obtain⟨wo,rfl⟩:∃wo,wo=wr:=⟨wr,rfl⟩
   go_loopw [7,8] (fun sv iv wr'=>∃i:Nat,i≤f.length∧iv= .int .i64 i∧sv= .bool (D i)∧Hid (ZcW w l f k u5 wr')) (fun _ iv _=>f.length - (intOf iv).toNat)
   case atStart=>exact⟨0,Nat.zero_le _,rfl,by rw[hI0.out],hI⟩
   case round =>
    clear hI;obtain⟨i,hi,rfl,rfl,hI⟩:=hrel
    by_cases sf:i<f.length
    ·have di:decide ((i:Int)<(f.length:Int))=true:=ZrI (by omega)
     have hj:=jS.out i sf;have hxor:=Zqa i P (by omega) iP;have aM:=Zrr (ar.out i);generalize i ^^^ P=j at *
     have F:Hid (∀wq,Ext wr wq→wq.cell? ⟨bf,of+i,none⟩=some (.bool f[i])∧wq.cell? ⟨bf,of+j,none⟩=some (.bool f[j])):=Zrr fun wq hq =>
      ⟨hq.cell ((hI.out.1.cell (p:=⟨bf,of+i,none⟩) jk).trans (lB.out i sf)),hq.cell ((hI.out.1.cell (p:=⟨bf,of+j,none⟩) jk).trans (lB.out j hj))⟩
     have gi:(0:Int)≤i:=by omega
     have gi2:(i:Int)<f.length:=by omega
     have gj:(0:Int)≤j:=by omega
     have gj2:(j:Int)<f.length:=by omega
     have e1:f.getD i false=f[i]:=by rw[ZrG,Zry sf];rfl
     have e2:f.getD j false=f[j]:=by rw[ZrG,Zry hj];rfl
     rw[e1,e2]at aM;clear e1 e2;generalize f[i]=fi at *;generalize f[j]=fj at *
     cases hd:D i
     ·rw[hd,Bool.false_or]at aM
      go_wp2_with fail
      (refine Zaf (by kernel_rfl) (by kernel_rfl) ?_
       repeat (refine wpQuiet_step (fun K hK=>?_)
               go_simp
               first
                | (refine hK _ ?_;clear hK K)
                | (replace hK:=Zrr hK
                   apply Exists.intro
                   refine⟨fun wq hq=>?_,hK.out _ ?_⟩
                   ·(obtain⟨f1,f2⟩:=F.out wq hq)
                    go_simp
                    first
                     | done
                     | rfl
                     | exact⟨rfl,rfl⟩
                     | (refine(jg.out _).mono ?_;rintro e w' ⟨rfl,rfl⟩;exact⟨rfl,hq⟩)
                   clear hK K))
       refine wpQuiet_nil ?_)
      intro w5 lJ;go_wp2_with fail;go_roundw
      case rel=>exact⟨i+1,by omega,by go_num,by rw[aM.out] <;> rfl,Zrr (hI.out.next lJ.below)⟩
      case measure=>simp[intOf];omega
     ·rw[hd,Bool.true_or]at aM
      go_wp2_with fail;(refine wp_region_held_drew (S:=(fun _=>True)) (by kernel_rfl) ?_ (fun aE=>?_))
      ·trivial
      have hT:True:=trivial;(refine ZrR (i:=0) (v:=?_) rfl (by kernel_rfl) (fun _ _ _ h=>h) (Or.inl ⟨by rfl,?_⟩) (by assumption) ?_);rotate_left
      ·(intro w aB;(try dsimp only at aB);go_simp;first|done|with_reducible rfl)
      (try simp only[Act.put,Zrs,Zrt,Zru]);(refine ZrR (i:=1) (v:=?_) rfl (by kernel_rfl) (fun _ _ _ h=>h) (Or.inl ⟨by rfl,?_⟩) (by assumption) ?_);rotate_left
      ·(intro w aB;(try dsimp only at aB);go_simp;first|done|with_reducible rfl)
      (try simp only[Act.put,Zrs,Zrt,Zru]);(refine ZrR (i:=2) (v:=_) rfl (by kernel_rfl) (fun _ _ _ h=>h) (Or.inr ⟨by rfl,rfl⟩) (by assumption) ?_);(try simp only[Act.put,Zrs,Zrt,Zru]);(refine ZrR (i:=3) (v:=_) rfl (by kernel_rfl) (fun _ _ _ h=>h) (Or.inr ⟨by rfl,rfl⟩) (by assumption) ?_);(try simp only[Act.put,Zrs,Zrt,Zru]);(refine ZrR (i:=4) (v:=_) rfl (by kernel_rfl) (fun _ _ _ h=>h) (Or.inr ⟨by rfl,rfl⟩) (by assumption) ?_);(try simp only[Act.put,Zrs,Zrt,Zru]);(refine ZrR (i:=5) (v:=_) rfl (by kernel_rfl) (fun _ _ _ h=>h) (Or.inr ⟨by rfl,rfl⟩) (by assumption) ?_);(try simp only[Act.put,Zrs,Zrt,Zru]);(refine ZrR (i:=6) (v:=_) rfl (by kernel_rfl) (fun _ _ _ h=>h) (Or.inr ⟨by rfl,rfl⟩) (by assumption) ?_);(try simp only[Act.put,Zrs,Zrt,Zru]);(refine ZrR (i:=7) (v:=_) rfl (by kernel_rfl) (fun _ _ _ h=>h) (Or.inr ⟨by rfl,rfl⟩) (by assumption) ?_);(try simp only[Act.put,Zrs,Zrt,Zru]);(refine ZrR (i:=8) (v:=_) rfl (by kernel_rfl) (fun _ _ _ h=>h) (Or.inr ⟨by rfl,rfl⟩) (by assumption) ?_);(try simp only[Act.put,Zrs,Zrt,Zru]);(refine ZrR (i:=9) (v:=_) rfl (by kernel_rfl) (fun _ _ _ h=>h) (Or.inr ⟨by rfl,rfl⟩) (by assumption) ?_);(try simp only[Act.put,Zrs,Zrt,Zru]);(refine ZrR (i:=10) (v:=_) rfl (by kernel_rfl) (fun _ _ _ h=>h) (Or.inr ⟨by rfl,rfl⟩) (by assumption) ?_);(try simp only[Act.put,Zrs,Zrt,Zru]);(refine ZrR (i:=11) (v:=_) rfl (by kernel_rfl) (fun _ _ _ h=>h) (Or.inr ⟨by rfl,rfl⟩) (by assumption) ?_);(try simp only[Act.put,Zrs,Zrt,Zru]);(refine ZrR (i:=12) (v:=_) rfl (by kernel_rfl) (fun _ _ _ h=>h) (Or.inr ⟨by rfl,rfl⟩) (by assumption) ?_);(try simp only[Act.put,Zrs,Zrt,Zru]);(refine ZrR (i:=13) (v:=_) rfl (by kernel_rfl) (fun _ _ _ h=>h) (Or.inr ⟨by rfl,rfl⟩) (by assumption) ?_);(try simp only[Act.put,Zrs,Zrt,Zru]);(refine ZrR (i:=14) (v:=_) rfl (by kernel_rfl) (fun _ _ _ h=>h) (Or.inr ⟨by rfl,rfl⟩) (by assumption) ?_);(try simp only[Act.put,Zrs,Zrt,Zru]);(refine ZrR (i:=15) (v:=_) rfl (by kernel_rfl) (fun _ _ _ h=>h) (Or.inr ⟨by rfl,rfl⟩) (by assumption) ?_);(try simp only[Act.put,Zrs,Zrt,Zru]);(refine ZrR (i:=16) (v:=?_) rfl (by kernel_rfl) (fun _ _ _ h=>h) (Or.inl ⟨by rfl,?_⟩) (by assumption) ?_);rotate_left
      ·(intro w aB;(try dsimp only at aB);go_simp;first|done|with_reducible rfl)
      (try simp only[Act.put,Zrs,Zrt,Zru]);(refine ZrR (i:=17) (v:=?_) rfl (by kernel_rfl) (fun _ _ _ h=>h) (Or.inl ⟨by rfl,?_⟩) (by assumption) ?_);rotate_left
      ·(intro w aB;(try dsimp only at aB);go_simp;first|done|with_reducible rfl)
      (try simp only[Act.put,Zrs,Zrt,Zru]);(refine wpAnyH_done (by kernel_rfl) ?_ _);have xT:=hI.out.next (ZrE wr.heap.size wr).drew;go_wp2_with fail;go_roundw
      case rel=>exact⟨i+1,by omega,by go_num,by rw[aM.out],Zrr xT⟩
      case measure=>simp[intOf];omega
    ·have di:decide ((i:Int)<(f.length:Int))=false:=ZrH (by omega)
     obtain rfl:i=f.length:=by omega
     rw[jj.out]at wn;have hzo:=(hI.out.1.cell dv).trans hz
     cases hd:D f.length
     ·rw[hd]at wn
      have aA:Hid (ZcW w l f (k+1) u5 wr):=Zrr (by
       obtain⟨g1,g2,g3,g4⟩:=hI.out;refine⟨g1,g2,?_,g4⟩;have:=wn.out;simp only[Bool.false_eq_true,if_false]at this;rw[this];exact g3)
      go_wp2_with fail;go_roundw
      case rel=>exact⟨k+1,by omega,by go_num,aA⟩
      case measure=>simp[intOf];omega
     ·rw[hd]at wn
      obtain⟨g1,g2,g3,g4⟩:=hI.out;clear hI
      go_wp2_with (at_builtin;refine wpList_append_own _ rfl _ _ 76 rfl (w.heap.size+1) 3 i0 (.int .i64 0) 1 8 Tryz.underlying76 bz bH aj av rfl (by decide) _ _ _ rfl (g3.alloc _) ⟨wr.heap.size,0,none⟩ 1 1 [.int .i64 z] rfl rfl (Zao _ _ _ _ rfl) (by simp[Value.oneCell']) (by unfold maxLen;omega) (by omega) (by simp;omega) ?_;intro v3 w3 au bP _)
      have aA:Hid (ZcW w l f (k+1) v3 w3):=Zrr (by
       have e:=wn.out;simp only[if_true]at e;refine⟨?_,?_,by rw[e];exact Zak au (by simp) (by simp[Zce]),?_⟩
       ·exact Below.grown (g1.alloc g1.size _) bP (by simp;have:=g1.size;omega) (fun k e=>by have:=Zay g3 e;omega)
       ·have:=bP.size;simp at this;omega
       ·refine(bP.block _ (by simp;omega) (fun e=>by have:=Zay g3 e.symm;omega)).trans ((heap_alloc_old _ _ g2).trans g4))
      go_roundw
      case rel=>exact⟨k+1,by omega,by go_num,aA⟩
      case measure=>simp[intOf];omega
  ·have dk:decide ((k:Int)<(l.length:Int))=false:=ZrH (by omega)
   obtain rfl:k=l.length:=by omega
   obtain⟨g1,g2,g3,g4⟩:=hI.out;clear hI;have he:ZgR l f l.length=L.depL l f:=rfl;rw[he]at g3;have fE:(L.depL l f).length≤6:=by have:=ZhK l f l.length;rw[he]at this;omega
   have qo:=Zda (L.depL l f) _ wr (Zbi (Zd6 (B':=w.heap.size) g3 (by omega))) (by omega);replace g3:=Zrr g3;go_wp2_with fail;refine qo.mono ?_;rintro e w4 ⟨rfl,aw⟩;have iX:w4.heap[w.heap.size]? =_:=(aw.block _ g2).trans g4;obtain⟨y0,y1⟩:=Zah iX;have z0:w4.frozen? ⟨w.heap.size,0,none⟩=false:=by simp[World.frozen?,iX]
   have z1:w4.frozen? ⟨w.heap.size,1,none⟩=false:=by simp[World.frozen?,iX]
   unfold ZbU;generalize aW:lo (ofS (L.depL l f))=x0 at *;generalize aK:hi (ofS (L.depL l f))=x1 at *;obtain⟨r0,r1⟩:=Zah (Zbn iX (.int .u64 x0) (.int .u64 x1));have qM:Below w.heap.size w ((w4.setCell ⟨w.heap.size,0,none⟩ (.int .u64 x0)).setCell ⟨w.heap.size,1,none⟩ (.int .u64 x1)):=((g1.trans (aw.mono g1.size)).setCell (ZrQ _) _).setCell (ZrQ _) _;go_wp2_with fail;exact bodyPost_ret (v:=.agg #[.int .u64 x0,.int .u64 x1]) (by simp[results,Tryz.results81,go_sem,r0,r1]) rfl ⟨by rw[ZbU,aW,aK],qM⟩
end Go.Proofs.YtemnmcfmabamcaaGreatDoor
end
