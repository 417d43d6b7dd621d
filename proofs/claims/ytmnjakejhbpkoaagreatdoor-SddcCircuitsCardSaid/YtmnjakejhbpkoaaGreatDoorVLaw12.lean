import Derived.Test.YtmnjakejhbpkoaaGreatDoorVVvars
set_option linter.unusedSimpArgs false
set_option linter.unusedVariables false
set_option maxRecDepth 100000
set_option maxHeartbeats 4000000
section
namespace Go.Proofs.YtmnjakejhbpkoaaGreatDoor
open Go Go.RowKit Go.Shelf
def SlT (w:World)(v:Value)(T:List (List Int)):Prop :=
 ∃ba c,v= .slice ba T.length c∧((c=c∧T=[]∧c=c)∨∃b o,ba=some ⟨b,o,none⟩∧∀j (hj:j<T.length),∃u,w.cell? ⟨b,o+j,none⟩=some u∧SlI w u T[j])
theorem SlT.ext{w w':World}{v:Value}{T:List (List Int)}(h:SlT w v T)(hb:Below w.heap.size w w'):SlT w' v T:=by
 obtain⟨ba,c,rfl,h⟩:=h;refine⟨ba,c,rfl,h.imp id ?_⟩;rintro⟨b,o,rfl,hc⟩
 exact⟨b,o,rfl,fun j hj=>by
  obtain⟨u,h1,h2⟩:=hc j hj;exact⟨u,(hb.cell (Zpk w _ h1)).trans h1,h2.ext hb⟩⟩
theorem ZjZ{n l:Int}(h0:0≤n)(h1:n≤128):L.validB n l=(decide (Zfq l≠0) && decide (Zfq l≤n)):=by
 unfold L.validB Zfq
 by_cases a:1≤l∧l≤128
 ·rw[if_pos a];rw[Bool.eq_iff_iff];simp only[Zpx,ZpA];omega
 ·rw[if_neg a]
  by_cases b:l≤-1∧-128≤l
  ·rw[if_pos b];rw[Bool.eq_iff_iff];simp only[Zpx,ZpA];omega
  ·rw[if_neg b];rw[Bool.eq_iff_iff];simp only[Zpx,ZpA];omega
theorem Zhp{n l:Int}(h0:0≤n)(h1:n≤128)(w:World):Calls Tryz.prog 148 #[.int .i64 l,.int .i64 n] w fun e w'=>e= .returned (.bool (L.validB n l))∧w=w':=by
 rw[ZjZ h0 h1];have q:=fun W=>ZgB l W
 by_cases a:Zfq l=0
 ·have e:((Zfq l ==0:Bool))=true:=by rw[beq_iff_eq];exact a
  have e2:decide (Zfq l≠0)=false:=Zpu (by omega);rw[e2];have q1:=q w;rw[a]at q1;clear a e e2 q
  go_enter Tryz.func148,Tryz.ntmps148
  go_wp2_with fail;refine q1.mono ?_;rintro e w2 ⟨rfl,rfl⟩;go_wp2_with fail;go_ret;exact⟨rfl,rfl⟩
 ·have e2:decide (Zfq l≠0)=true:=Zpv a
  rw[e2];generalize Zfq l=x at *;have q1:=q w;have d:(x ==0)=false:=by rw[beq_eq_false_iff_ne];exact a
  clear e2;replace a:=Zpe a
  go_enter Tryz.func148,Tryz.ntmps148
  go_wp2_with fail;refine q1.mono ?_;rintro e w2 ⟨rfl,rfl⟩;go_wp2_with fail;refine q1.mono ?_;rintro e w3 ⟨rfl,rfl⟩;go_wp2_with fail;go_ret;exact⟨by have:=a.out;simp[this],rfl⟩
theorem ZiZ{n:Int}:∀ {T:List (List Int)}{k:Nat}(hk:k<T.length) {c:Int},(∀j (hj:j<k),L.clChk n (T[j]'(by omega))=0)→L.clChk n T[k]=c→c≠0→L.scanChk n T=c
 | d :: T,0,hk,c,_,hb,hc=>by rw[L.scanChk,if_neg (by rw[show (d :: T)[0]=d from rfl]at hb;rw[hb];exact hc)];exact hb
 | d :: T,k+1,hk,c,h,hb,hc=>by
   rw[L.scanChk,if_pos (show L.clChk n d=0 from h 0 (by omega))];exact ZiZ (T:=T) (k:=k) (by simpa using hk) (fun j hj=>h (j+1) (by omega)) hb hc
theorem Zlw{n:Int}{T:List (List Int)}(h:∀j (hj:j<T.length),L.clChk n T[j]=0):L.scanChk n T=0 :=
 L.scanChk_ok.2 fun c hc=>by
  obtain⟨j,hj,rfl⟩:=List.getElem_of_mem hc;exact L.clChk_ok.1 (h j hj)
theorem ZnS{n:Int}{T:List (List Int)}(h0:0≤n)(h1:n≤128)(h2:T.length≤4096):L.thChk n T=L.scanChk n T:=by
 unfold L.thChk;rw[if_neg (by omega),if_neg (by omega)]
theorem Znj{n:Int}{c:List Int}(h:128<c.length):L.clChk n c=2:=by unfold L.clChk;rw[if_pos h]
theorem Zoc{n:Int}{c:List Int}(h:c.length≤128){m:Nat}(hm:m<c.length)(hb:L.validB n c[m]=false):L.clChk n c=1:=by
 unfold L.clChk;rw[if_neg (by omega),if_neg (fun e=>by have:=List.all_eq_true.1 e _ (Zpz hm);rw[hb]at this;cases this)]
theorem Zni{n:Int}{c:List Int}(h:c.length≤128)(hm:∀m (hm:m<c.length),L.validB n c[m]=true):L.clChk n c=0 :=
 L.clChk_ok.2 ⟨h,fun l hl=>by obtain⟨j,hj,rfl⟩:=List.getElem_of_mem hl;exact hm j hj⟩
theorem Zfg{n:Int}{T:List (List Int)}{v:Value}{w:World}(hv:SlT w v T) :
  Calls Tryz.prog 78 #[.agg #[.int .i64 n,v]] w fun e w'=>e= .returned (.int .i64 (L.thChk n T))∧Ext w w':=by
 obtain⟨ba,cp,rfl,hv⟩:=hv;have aC:Ext w (w.alloc (.cells #[.int .i64 n,.slice ba T.length cp] 24)):=(Ext.refl w).alloc _;have aX:=Zpm w (.cells #[.int .i64 n,.slice ba T.length cp] 24);obtain⟨w1,aD⟩:∃w1,w1=w.alloc (.cells #[.int .i64 n,.slice ba T.length cp] 24):=⟨_,rfl⟩;rw[←aD]at aC aX;have c0:w1.cell? ⟨w.heap.size,0,none⟩=some (.int .i64 n):=by simp[World.cell?,aX]
 have c1:w1.cell? ⟨w.heap.size,1,none⟩=some (.slice ba T.length cp):=by simp[World.cell?,aX]
 have aO:∀j (hj:j<T.length),∃b o u,ba=some ⟨b,o,none⟩∧w1.cell? ⟨b,o+j,none⟩=some u∧SlI w1 u T[j]:=fun j hj=>by
  rcases hv with ⟨_,rfl,_⟩|⟨b,o,rfl,h⟩
  ·simp at hj
  ·obtain⟨u,h1,h2⟩:=h j hj
   exact⟨b,o,u,rfl,aC.cell h1,h2.ext aC.below⟩
 replace aO:=Zpe aO;clear hv aX;replace aC:=Zpe aC
 by_cases cO:n<0
 ·have d0:decide (n<0)=true:=Zpv cO
  have hr:L.thChk n T=6:=by unfold L.thChk;rw[if_pos (.inl cO)]
  rw[hr];clear hr cO
  go_enter Tryz.func78,Tryz.ntmps78
  go_wp2_with fail;rw[←aD];replace aD:=Zpe aD;go_wp2_with fail;go_ret;exact⟨rfl,aC.out⟩
 have d0:decide (n<0)=false:=Zpu cO
 by_cases aX:n > 128
 ·have d1:decide (n > 128)=true:=Zpv aX
  have hr:L.thChk n T=6:=by unfold L.thChk;rw[if_pos (.inr aX)]
  rw[hr];clear hr cO aX
  go_enter Tryz.func78,Tryz.ntmps78
  go_wp2_with fail;rw[←aD];replace aD:=Zpe aD;go_wp2_with fail;go_ret;exact⟨rfl,aC.out⟩
 have d1:decide (n > 128)=false:=Zpu aX
 by_cases hl:(T.length:Int) > 4096
 ·have d2:decide ((T.length:Int) > 4096)=true:=Zpv hl
  have hr:L.thChk n T=2:=by unfold L.thChk;rw[if_neg (by omega),if_pos (by omega)]
  rw[hr];clear hr cO aX hl
  go_enter Tryz.func78,Tryz.ntmps78
  go_wp2_with fail;rw[←aD];replace aD:=Zpe aD;go_wp2_with fail;go_ret;exact⟨rfl,aC.out⟩
 have d2:decide ((T.length:Int) > 4096)=false:=Zpu hl;rw[ZnS (by omega) (by omega) (by omega)];have qv:=fun l W=>Zhp (n:=n) (l:=l) (by omega) (by omega) W
 replace qv:=Zpe qv
 go_enter Tryz.func78,Tryz.ntmps78
 go_wp2_with fail;rw[←aD];replace aD:=Zpe aD;go_wp2_with fail;clear d0 d1 d2
 go_loopw [22] (fun i wr=>wr=w1∧∃k:Nat,k≤T.length∧i= .int .i64 k∧∀j (hj:j<k) (cx:j<T.length),L.clChk n T[j]=0) (fun i _=>T.length - (intOf i).toNat)
 case atStart=>exact⟨rfl,0,Nat.zero_le _,rfl,fun j hj=>by omega⟩
 case round =>
  obtain⟨rfl,k,hk,rfl,bf⟩:=hrel;replace bf:=Zpe bf
  by_cases aE:k<T.length
  ·obtain⟨b,o,u,rfl,f1,f2⟩:=aO.out k aE
   obtain⟨bb,cc,rfl,f2⟩:=f2;have bQ:=fun c=>ZiZ (n:=n) (T:=T) aE (c:=c) fun j hj=>bf.out j hj (by omega)
   have ir:=bf.out;clear aO c1 aD bf;generalize e8:T[k]=c at *
   have f3:∀j (hj:j<c.length),∃b o,bb=some ⟨b,o,none⟩∧wr.cell? ⟨b,o+j,none⟩=some (.int .i64 c[j]):=fun j hj=>by
    rcases f2 with ⟨_,rfl,_⟩|⟨b,o,h1,h2⟩
    ·simp at hj
    ·exact⟨b,o,h1,h2 j hj⟩
   replace f3:=Zpe f3;clear f2;replace ir:=Zpe ir;replace bQ:=Zpe bQ;replace e8:=Zpe e8
   by_cases aL:(c.length:Int) > 128
   ·have d3:decide ((c.length:Int) > 128)=true:=Zpv aL
    have hr:=bQ.out 2 (Znj (by omega)) (by decide);replace hr:=Zpe hr;clear aL;go_wp2_with fail;go_ret;exact⟨by rw[hr.out] <;> rfl,aC.out⟩
   have d3:decide ((c.length:Int) > 128)=false:=Zpu aL;go_wp2_with fail
   go_loopw [31] (fun i w'=>w'=wr∧∃m:Nat,m≤c.length∧i= .int .i64 m∧∀j (hj:j<m) (cx:j<c.length),L.validB n c[j]=true) (fun i _=>c.length - (intOf i).toNat)
   case atStart=>exact⟨rfl,0,Nat.zero_le _,rfl,fun j hj=>by omega⟩
   case round =>
    obtain⟨rfl,m,hm,rfl,hv⟩:=hrel;replace hv:=Zpe hv
    by_cases hlt2:m<c.length
    ·obtain⟨b2,o2,rfl,f4⟩:=f3.out m hlt2
     have q:=qv.out c[m] wr
     cases lx:L.validB n c[m]
     ·have hr:=bQ.out 1 (Zoc (by omega) hlt2 lx) (by decide)
      rw[lx]at q;replace hr:=Zpe hr;replace lx:=Zpe lx;generalize c[m]=x at *;go_wp2_with fail;refine q.mono ?_;rintro e w2 ⟨rfl,rfl⟩;go_wp2_with fail;go_ret;exact⟨by rw[hr.out] <;> rfl,aC.out⟩
     ·rw[lx]at q
      replace lx:=Zpe lx
      have fo:∀j (hj:j<m+1) (cx:j<c.length),L.validB n c[j]=true:=fun j hj cx=>by
       by_cases e:j=m
       ·subst e;exact lx.out
       ·exact hv.out j (by omega) cx
      replace fo:=Zpe fo;clear lx;generalize c[m]=x at *;go_wp2_with fail;refine q.mono ?_;rintro e w2 ⟨rfl,rfl⟩;go_wp2_with fail;go_roundw
      case rel=>exact⟨trivial,m+1,by omega,by go_num,fo.out⟩
      case measure=>simp[intOf];omega
    ·obtain rfl:m=c.length:=by omega
     have fQ:L.clChk n c=0:=Zni (by omega) fun j hj=>hv.out j hj hj
     replace fQ:=Zpe fQ;clear hv;go_wp2_with fail;go_roundw
     case rel =>
      refine⟨trivial,k+1,by omega,by go_num,fun j hj cx=>?_⟩
      by_cases e:j=k
      ·subst e;rw[e8.out];exact fQ.out
      ·exact ir.out j (by omega) cx
     case measure=>simp[intOf];omega
  ·obtain rfl:k=T.length:=by omega
   have hr:L.scanChk n T=0:=Zlw fun j hj=>bf.out j hj hj
   replace hr:=Zpe hr;go_wp2_with fail;go_ret;exact⟨by rw[hr.out] <;> rfl,aC.out⟩
end Go.Proofs.YtmnjakejhbpkoaaGreatDoor
end
section
namespace Go.Proofs.YtmnjakejhbpkoaaGreatDoor
open Go Go.RowKit
section
variable {P:Program}{ops:Array Oper}{Q:Exit→Act→World→Prop}{md:Region.Mode}{S:World→Prop}{z:Nat}
def ZkW (md:Region.Mode)(ops:Array Oper)(z:Nat):Bool:=(List.range ops.size).all fun k=>decide (k=z) || ((ops[z]?).map fun o=>o.after.any fun e=>Region.binds md e && decide (e.on=k)).getD false
theorem ZgX(h:ZkW md ops z=true){listed:Array Bool}(hz:z∈Region.ready md ops listed){k:Nat}(hk:k∈Region.ready md ops listed):k=z:=by
 apply ZpB
 intro aH;obtain⟨mW,ok,aq,_⟩:=mem_ready.1 hk;obtain⟨bB,oz,hoz,aN⟩:=mem_ready.1 hz;have hks:k<ops.size:=(Zpi aq).1;have h1:=List.all_eq_true.1 h k (List.mem_range.2 hks);rw[Zpu aH,Bool.false_or,hoz]at h1;simp only[Option.map_some,Option.getD_some]at h1;rw[Array.any_eq_true']at h1;obtain⟨e,he,h2⟩:=h1;simp only[Zpx,ZpA]at h2;have h3:=aN e he h2.1;rw[h2.2]at h3;rcases Nat.lt_or_ge k listed.size with h'|h'
 ·simp[h']at mW h3;rw[mW]at h3;cases h3
 ·simp[Array.getElem?_eq_none h']at h3
def wpZ (P:Program)(md:Region.Mode)(ops:Array Oper)(Q:Exit→Act→World→Prop)(S:World→Prop)(z:Nat):Nat→Array Bool→Act→World→Prop
 | 0,listed,a,w=>Region.ready md ops listed=[]∧Q .normal a w
 | fuel+1,listed,a,w =>
   (Region.ready md ops listed=[]→Q .normal a w) ∧
   ∀i∈Region.ready md ops listed,wpOp P ops Q i (fun a' w'=>(i≠z→S w')∧wpZ P md ops Q S z fuel (listed.setIfInBounds i true) a' w') a w
theorem ZlR:∀(fuel:Nat) (listed:Array Bool) (a:Act) (w:World),wpZ P md ops Q S z fuel listed a w→wpAny P md ops Q fuel listed a w
 | 0,_,_,_,h=>h
 | fuel+1,_,_,_,h=>⟨h.1,fun i hi=>wpOp_mono (fun a' w' h'=>ZlR fuel _ a' w' h'.2) (h.2 i hi)⟩
theorem ZmN{listed:Array Bool}{a:Act}{w:World}(hr:Region.ready md ops listed=[])(h:Q .normal a w):∀fuel,wpZ P md ops Q S z fuel listed a w
 | 0=>⟨hr,h⟩
 | _+1=>⟨fun _=>h,by rw[hr];simp⟩
theorem Zhs(hz:ZkW md ops z=true){i:Nat}{oi:Oper}{v:Value}(hi:ops[i]? =some oi)(uK:i≠z)(pN:∀(j:Nat) (o:Oper) cs b,ops[j]? =some o→o.op≠.select cs b)
  (hQ:∀c a w,Q (.panic c) (a.put oi.dst v) w→Q (.panic c) a w) :
  ∀(fuel:Nat) (listed:Array Bool) (a:Act) (w:World),
    (∀j oj,ops[j]? =some oj→j≠i→listed.getD j true=false→(∀e∈oj.after,Region.binds md e=true→e.on≠i)→oi.apart ops oj=true) →
    i∈Region.ready md ops listed→YieldsIf P ops S oi v a→S w →
    wpZ P md ops Q S z fuel (listed.setIfInBounds i true) (a.put oi.dst v) w→wpZ P md ops Q S z (fuel+1) listed a w
 | 0,listed,a,w,_,hr,hy,hS,H=>⟨fun h=>(by rw[h]at hr;cases hr),fun j hj=>by
    by_cases lp:j=i
    ·subst lp;exact hy.wpOp hi hS ⟨fun _=>hS,H⟩
    ·have:=ready_mono hj lp
     rw[H.1]at this;cases this⟩
 | fuel+1,listed,a,w,hfree,hr,hy,hS,H=>⟨fun h=>(by rw[h]at hr;cases hr),fun j hj=>by
    by_cases lp:j=i
    ·subst lp;exact hy.wpOp hi hS ⟨fun _=>hS,H⟩
    have hjz:j≠z:=fun e=>uK (ZgX hz (e ▸ hj) hr)
    have h1:=H.2 j (ready_mono hj lp);obtain⟨sN,oj,se,aN⟩:=mem_ready.1 hj
    have x4:∀e∈oj.after,Region.binds md e=true→e.on≠i:=fun e he hb kq=>by
     have h2:=aN e he hb;have h0:=(mem_ready.1 hr).1;rw[kq]at h2;rcases Nat.lt_or_ge i listed.size with h'|h'
     ·simp[h']at h0 h2;rw[h0]at h2;cases h2
     ·simp[Array.getElem?_eq_none h']at h2
    have h2:=wpOp_putIf se (hfree j oj se lp sN x4) (fun cs b=>pN i oi cs b hi) (fun cs b=>pN j oj cs b se) hQ hy h1;refine wpOp_mono (fun a' w' h3=>⟨h3.2.1,Zhs hz hi uK pN hQ fuel (listed.setIfInBounds j true) a' w' (fun k ok hk xK qY bJ=>hfree k ok hk xK ?_ bJ) (ready_mono hr (Ne.symm lp)) h3.1 (h3.2.1 hjz) ?_⟩) h2
    ·by_cases nR:j=k
     ·subst nR;exact sN
     ·rw[getD_set_ne true nR]at qY;exact qY
    ·rw[Array.setIfInBounds_comm _ _ lp]
     exact h3.2.2⟩
end
theorem Zac{P:Program}{l:List Oper}{md:Region.Mode}{Q:Exit→Act→World→Prop}{S:World→Prop}{z i:Nat}{oi:Oper}{v:Value}{fuel:Nat}{listed:Array Bool}{a:Act}{w:World}(hi:l[i]? =some oi)(hz:ZkW md l.toArray z=true)(uK:i≠z)
  (hs:Region.noSelect l.toArray=true) (hf:Region.free md l.toArray listed i=true) (hr:(Region.ready md l.toArray listed).contains i=true)
  (hQ:∀c a w,Q (.panic c) (a.put oi.dst v) w→Q (.panic c) a w) (hy:YieldsIf P l.toArray S oi v a) (hS:S w)
  (h:wpZ P md l.toArray Q S z fuel (listed.setIfInBounds i true) (a.put oi.dst v) w):wpZ P md l.toArray Q S z (fuel+1) listed a w :=
 Zhs hz (by simpa using hi) uK (Region.noSelect_spec hs) hQ fuel listed a w (Region.free_spec (by simpa using hi) hf) (by simpa using hr) hy hS h
theorem ZaI{P:Program}{l:List Oper}{md:Region.Mode}{Q:Exit→Act→World→Prop}{S:World→Prop}{z i:Nat}{o:Oper}{fuel:Nat}{listed:Array Bool}{a:Act}{w:World}(hr:Region.ready md l.toArray listed=[i])(ho:l[i]? =some o)
  (h:∀K':Act→World→Prop,Shut (∀a w,S w→(S w→wpZ P md l.toArray Q S z fuel (listed.setIfInBounds i true) a w)→K' a w)→if Region.wanted o (yielded l.toArray a.tmps)=true then Oper.wp P o a w K' Q else K' (a.put o.dst undef) w) :
  wpZ P md l.toArray Q S z (fuel+1) listed a w:=by
 refine⟨fun h0=>(by rw[h0]at hr;cases hr),fun j hj=>?_⟩;rw[hr,List.mem_singleton]at hj;subst hj;exact wpOp_step (by simpa using ho) (fun K' hK=>h K' (fun a w hS hW=>hK a w ⟨fun _=>hS,hW hS⟩))
theorem Zbt{P:Program}{l:List Oper}{md:Region.Mode}{Q:Exit→Act→World→Prop}{S:World→Prop}{z:Nat}{o:Oper}{fuel:Nat}{listed:Array Bool}{a:Act}{w:World}(hr:Region.ready md l.toArray listed=[z])(ho:l[z]? =some o)(hd:Region.ready md l.toArray (listed.setIfInBounds z true)=[])
  (h:∀K':Act→World→Prop,Shut (∀a w,Q .normal a w→K' a w)→if Region.wanted o (yielded l.toArray a.tmps)=true then Oper.wp P o a w K' Q else K' (a.put o.dst undef) w) :
  wpZ P md l.toArray Q S z (fuel+1) listed a w:=by
 refine⟨fun h0=>(by rw[h0]at hr;cases hr),fun j hj=>?_⟩;rw[hr,List.mem_singleton]at hj;subst hj;exact wpOp_step (by simpa using ho) (fun K' hK=>h K' (fun a w hW=>hK a w ⟨fun hn=>absurd rfl hn,ZmN hd hW fuel⟩))
theorem ZaQ{P:Program}{l:List Oper}{Q:Exit→Act→World→Prop}{S:World→Prop}(z:Nat){id:Nat}{a:Act}{w:World}(hm:P.follows .mixedOrders=true)(hS:S w.drew)
  (h:S w.drew→wpZ P .any l.toArray Q S z l.toArray.size (Array.replicate l.toArray.size false) a w.drew):(Code.region id l.toArray true).wp P Q a w :=
 wp_region_any hm (ZlR _ _ _ _ (h hS))
end Go.Proofs.YtmnjakejhbpkoaaGreatDoor
end
section
namespace Go.Proofs.YtmnjakejhbpkoaaGreatDoor.L
theorem Zdg{p q r s:Nat}(hp:p<256)(hr:r<256):(p+256*q) &&& (r+256*s)=(p &&& r)+256*(q &&& s):=by
 have h1:((p+256*q) &&& (r+256*s)) % 2 ^ 8=p &&& r:=by
  rw[Nat.and_mod_two_pow]
  congr 1 <;> omega
 have h2:((p+256*q) &&& (r+256*s)) / 2 ^ 8=q &&& s:=by
  rw[←Nat.shiftRight_eq_div_pow,Nat.shiftRight_and_distrib,Nat.shiftRight_eq_div_pow,Nat.shiftRight_eq_div_pow]
  congr 1 <;> omega
 have:=Nat.div_add_mod ((p+256*q) &&& (r+256*s)) (2 ^ 8);rw[h1,h2]at this;omega
def g1 (A x:Nat):Nat:=(x / 2 &&& A)+(x &&& A)
def g2 (A x:Nat):Nat:=(x / 4 &&& A)+(x &&& A)
def g3 (A x:Nat):Nat:=(x / 16+x) &&& A
theorem Ziu{n:Nat}{p:Nat→Bool}(h:(List.range n).all p=true){k:Nat}(hk:k<n):p k=true:=List.all_eq_true.1 h k (List.mem_range.2 hk)
theorem t1:((List.range 512).all fun k=>((k % 256 / 2+128*(k / 256)) &&& 0x55) ==(k % 256 / 2 &&& 0x55))=true:=by decide +kernel
theorem t2:((List.range 1024).all fun k=>((k % 256 / 4+64*(k / 256)) &&& 0x33) ==(k % 256 / 4 &&& 0x33))=true:=by decide +kernel
theorem ZkF{A u y:Nat}(hu:u<256):g1 (0x55+256*A) (u+256*y)=g1 0x55 u+256*g1 A y:=by
 have h1:=Ziu t1 (k:=u+256*(y % 2)) (by omega);simp only[beq_iff_eq]at h1;rw[show (u+256*(y % 2)) % 256=u by omega,show (u+256*(y % 2)) / 256=y % 2 by omega]at h1;unfold g1;rw[show (u+256*y) / 2=(u / 2+128*(y % 2))+256*(y / 2) by omega,Zdg (by omega) (by omega),Zdg hu (by omega),h1];omega
theorem ZkG{A u y:Nat}(hu:u<256):g2 (0x33+256*A) (u+256*y)=g2 0x33 u+256*g2 A y:=by
 have h1:=Ziu t2 (k:=u+256*(y % 4)) (by omega);simp only[beq_iff_eq]at h1;rw[show (u+256*(y % 4)) % 256=u by omega,show (u+256*(y % 4)) / 256=y % 4 by omega]at h1;unfold g2;rw[show (u+256*y) / 4=(u / 4+64*(y % 4))+256*(y / 4) by omega,Zdg (by omega) (by omega),Zdg hu (by omega),h1];omega
theorem t3:((List.range 2048).all fun k=>!(decide (k % 256 % 16≤4) && decide (k % 256 / 16≤4) && decide (k / 256≤4)) || (((k % 256 / 16+16*(k / 256)+k % 256) &&& 0x0f) ==((k % 256 / 16+k % 256) &&& 0x0f)))=true:=by decide +kernel
theorem Zns{A u y:Nat}(hu:u<256)(h1:u % 16≤4)(h2:u / 16≤4)(h3:y % 16≤4):g3 (0x0f+256*A) (u+256*y)=g3 0x0f u+256*g3 A y:=by
 have h:=Ziu t3 (k:=u+256*(y % 16)) (by omega);rw[show (u+256*(y % 16)) % 256=u by omega,show (u+256*(y % 16)) / 256=y % 16 by omega,Zpv h1,Zpv h2,Zpv h3]at h;simp only[Bool.and_self,Bool.not_true,Bool.false_or,beq_iff_eq]at h;unfold g3;rw[show (u+256*y) / 16+(u+256*y)=(u / 16+16*(y % 16)+u)+256*(y / 16+y) by omega,Zdg (by omega) (by omega),h]
def Zda (u:Nat):Nat:=((List.range 8).filter fun i=>u.testBit i).length
theorem t4:((List.range 256).all fun u=>decide (g1 0x55 u<256) && (decide (g2 0x33 (g1 0x55 u)<256) && (decide (g2 0x33 (g1 0x55 u) % 16≤4) && (decide (g2 0x33 (g1 0x55 u) / 16≤4) && (g3 0x0f (g2 0x33 (g1 0x55 u)) ==Zda u)))))=true:=by decide +kernel
theorem Zfw{u:Nat}(hu:u<256):g1 0x55 u<256∧g2 0x33 (g1 0x55 u)<256∧g2 0x33 (g1 0x55 u) % 16≤4∧g2 0x33 (g1 0x55 u) / 16≤4∧g3 0x0f (g2 0x33 (g1 0x55 u))=Zda u:=by
 have h:=Ziu t4 hu;simp only[Zpx,ZpA,beq_iff_eq]at h;exact h
def rep (b:Nat):Nat→Nat
 | 0=>0
 | n+1=>b+256*rep b n
def pops:Nat→Nat→Nat
 | 0,_=>0
 | n+1,x=>Zda (x % 256)+256*pops n (x / 256)
theorem ZoP:∀(n x:Nat),x<256 ^ n→g2 (rep 0x33 n) (g1 (rep 0x55 n) x) % 16≤4
 | 0,x,_=>by unfold g2 g1 rep;simp
 | n+1,x,h=>by
   have e:x=x % 256+256*(x / 256):=by omega
   obtain⟨h1,h2,h3,h4,h5⟩:=Zfw (u:=x % 256) (by omega);rw[rep,rep,e,ZkF (by omega),ZkG h1];omega
theorem g_pops:∀(n x:Nat),x<256 ^ n→g3 (rep 0x0f n) (g2 (rep 0x33 n) (g1 (rep 0x55 n) x))=pops n x
 | 0,x,_=>by unfold g3 rep pops;simp
 | n+1,x,h=>by
   have e:x=x % 256+256*(x / 256):=by omega
   have hl:x / 256<256 ^ n:=by rw[Nat.pow_succ]at h;omega
   obtain⟨h1,h2,h3,h4,h5⟩:=Zfw (u:=x % 256) (by omega);have h6:=ZoP n (x / 256) hl;have h7:=g_pops n (x / 256) hl;rw[pops,rep,rep,rep]
   conv=>lhs;rw[e]
   rw[ZkF (by omega),ZkG h1,Zns h2 h3 h4 h6,h5,h7]
theorem ZcJ(u:Nat):Zda u≤8:=by
 unfold Zda;have:=List.length_filter_le (fun i=>u.testBit i) (List.range 8);simpa using this
theorem fold_pops{x:Nat}(c1 c2 c3:Nat)(h1:c1=(pops 8 x+pops 8 x / 256) % 18446744073709551616)(h2:c2=(c1+c1 / 65536) % 18446744073709551616)(h3:c3=(c2+c2 / 4294967296) % 18446744073709551616) :
  c3 % 128=Zda (x % 256)+Zda (x / 256 % 256)+Zda (x / 256 / 256 % 256)+Zda (x / 256 / 256 / 256 % 256)+Zda (x / 256 / 256 / 256 / 256 % 256)+Zda (x / 256 / 256 / 256 / 256 / 256 % 256)+Zda (x / 256 / 256 / 256 / 256 / 256 / 256 % 256)+Zda (x / 256 / 256 / 256 / 256 / 256 / 256 / 256 % 256):=by
 unfold pops pops pops pops pops pops pops pops pops at h1;have a0:=ZcJ (x % 256);have a1:=ZcJ (x / 256 % 256);have a2:=ZcJ (x / 256 / 256 % 256);have a3:=ZcJ (x / 256 / 256 / 256 % 256);have a4:=ZcJ (x / 256 / 256 / 256 / 256 % 256);have a5:=ZcJ (x / 256 / 256 / 256 / 256 / 256 % 256);have a6:=ZcJ (x / 256 / 256 / 256 / 256 / 256 / 256 % 256);have a7:=ZcJ (x / 256 / 256 / 256 / 256 / 256 / 256 / 256 % 256);generalize Zda (x % 256)=b0 at *;generalize Zda (x / 256 % 256)=b1 at *;generalize Zda (x / 256 / 256 % 256)=b2 at *;generalize Zda (x / 256 / 256 / 256 % 256)=b3 at *;generalize Zda (x / 256 / 256 / 256 / 256 % 256)=b4 at *;generalize Zda (x / 256 / 256 / 256 / 256 / 256 % 256)=b5 at *;generalize Zda (x / 256 / 256 / 256 / 256 / 256 / 256 % 256)=b6 at *;generalize Zda (x / 256 / 256 / 256 / 256 / 256 / 256 / 256 % 256)=b7 at *;have q1:(b0+256*(b1+256*(b2+256*(b3+256*(b4+256*(b5+256*(b6+256*(b7+256*0)))))))) / 256=b1+256*(b2+256*(b3+256*(b4+256*(b5+256*(b6+256*b7))))):=by omega
 rw[q1]at h1;clear q1;rw[Nat.mod_eq_of_lt (by omega)]at h1;have d1:c1=((b0+b1)+256*(b1+b2))+65536*((b2+b3)+256*(b3+b4)+65536*(b4+b5)+16777216*(b5+b6)+4294967296*(b6+b7)+1099511627776*b7):=by rw[h1];clear h1 h2 h3;omega
 clear h1
 have q2:c1 / 65536=(b2+b3)+256*(b3+b4)+65536*(b4+b5)+16777216*(b5+b6)+4294967296*(b6+b7)+1099511627776*b7:=by
  rw[d1];clear d1 h2 h3;rw[Nat.add_mul_div_left _ _ (by omega),Nat.div_eq_of_lt (by omega)];omega
 rw[q2,d1]at h2;clear q2 d1;rw[Nat.mod_eq_of_lt (by clear h2 h3;omega)]at h2;have d2:c2=((b0+b1+b2+b3)+256*(b1+b2+b3+b4)+65536*(b2+b3+b4+b5)+16777216*(b3+b4+b5+b6))+4294967296*((b4+b5+b6+b7)+256*(b5+b6+b7)+65536*(b6+b7)+16777216*b7):=by rw[h2];clear h2 h3;omega
 clear h2
 have q3:c2 / 4294967296=(b4+b5+b6+b7)+256*(b5+b6+b7)+65536*(b6+b7)+16777216*b7:=by
  rw[d2];clear d2 h3;rw[Nat.add_mul_div_left _ _ (by omega),Nat.div_eq_of_lt (by omega)];omega
 rw[q3,d2]at h3;clear q3 d2;rw[Nat.mod_eq_of_lt (by clear h3;omega)]at h3;have d3:c3=(b0+b1+b2+b3+b4+b5+b6+b7)+128*(2*(b1+b2+b3+b4+b5+b6+b7)+512*(b2+b3+b4+b5+b6+b7)+131072*(b3+b4+b5+b6+b7)+33554432*(b4+b5+b6+b7)+8589934592*(b5+b6+b7)+2199023255552*(b6+b7)+562949953421312*b7):=by rw[h3];clear h3;omega
 rw[d3];clear d3 h3;rw[Nat.add_mul_mod_self_left,Nat.mod_eq_of_lt (by omega)]
def popW(x:Nat):Nat:=((List.range 64).filter fun i=>x.testBit i).length
theorem popW_split(x:Nat):popW x=Zda (x % 256)+Zda (x / 256 % 256)+Zda (x / 256 / 256 % 256)+Zda (x / 256 / 256 / 256 % 256)+Zda (x / 256 / 256 / 256 / 256 % 256)+Zda (x / 256 / 256 / 256 / 256 / 256 % 256)+Zda (x / 256 / 256 / 256 / 256 / 256 / 256 % 256)+Zda (x / 256 / 256 / 256 / 256 / 256 / 256 / 256 % 256):=by
 have key:∀(k n x:Nat),((List.range (8+n)).filter fun i=>x.testBit i).length=Zda (x % 256)+((List.range n).filter fun i=>(x / 256).testBit i).length:=fun k n x=>by
  rw[List.range_add,List.filter_append,Zpo,List.filter_map,List.length_map]
  congr 1
  ·unfold Zda
   congr 1
   refine List.filter_congr fun i hi=>?_
   have hi8:=List.mem_range.1 hi;rw[show (256:Nat)=2 ^ 8 from rfl,Nat.testBit_mod_two_pow,Zpv hi8,Bool.true_and]
  ·congr 1
   refine List.filter_congr fun i _=>?_
   show x.testBit (8+i)=(x / 256).testBit i
   rw[show (256:Nat)=2 ^ 8 from rfl,←Nat.shiftRight_eq_div_pow,Nat.testBit_shiftRight]
 unfold popW;rw[show 64=8+56 from rfl,key 0,show 56=8+48 from rfl,key 0,show 48=8+40 from rfl,key 0,show 40=8+32 from rfl,key 0,show 32=8+24 from rfl,key 0,show 24=8+16 from rfl,key 0,show 16=8+8 from rfl,key 0,show 8=8+0 from rfl,key 0];simp only[List.range_zero,List.filter_nil,List.length_nil,Nat.add_zero];omega
end Go.Proofs.YtmnjakejhbpkoaaGreatDoor.L
end
