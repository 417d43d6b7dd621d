import Derived.Test.YtmnjakejhbpkoaaGreatDoorVT27d
set_option linter.unusedSimpArgs false
set_option linter.unusedVariables false
set_option maxRecDepth 100000
set_option maxHeartbeats 8000000
section
namespace Go.Proofs.YtmnjakejhbpkoaaGreatDoor
open Go Go.RowKit Go.Shelf
def Zja (w:World)(v:Value)(l:List Int)(φ:L.Asg→Bool):Prop :=
 ∃vl g c,v= .agg #[vl,.slice (some ⟨g,0,none⟩) (2 ^ l.length) c]∧SlI w vl l∧Zan w g 4 (2 ^ l.length) (fun k=>φ (L.nth l k))
theorem Zja.below{w w':World}{v:Value}{l:List Int}{φ:L.Asg→Bool}(h:Zja w v l φ)(hb:Below w.heap.size w w'):Zja w' v l φ:=by
 obtain⟨vl,g,c,h1,h2,h3⟩:=h;exact⟨vl,g,c,h1,h2.ext hb,h3.same (hb.block _ h3.lt)⟩
theorem ZcW{n:Nat}(h:n≤12):2 ^ n≤4096:=Zpp (Nat.pow_le_pow_right (by omega) h) (by omega:2 ^ 12≤4096)
theorem Zkj{l:List Int}{vl:Value}{w:World}(hv:SlI w vl l)(hl:l.length≤12) :
  Calls Tryz.prog 89 #[vl] w fun e w'=>∃g,e= .returned (.agg #[vl,.slice (some ⟨g,0,none⟩) (2 ^ l.length) (2 ^ l.length)])∧w.heap.size≤g∧Zan w' g 4 (2 ^ l.length) (fun _=>false)∧Below w.heap.size w w':=by
 have hw:=Zmz l.length (by omega);have hN:=ZcW hl;have dD:=Znf (2 ^ l.length) (by omega);generalize j5:2 ^ l.length=N at *;replace j5:=Zpe j5;obtain⟨ba,cp,rfl,_⟩:=hv
 go_enter Tryz.func89,Tryz.ntmps89
 go_wp2_with fail;obtain⟨f0,f1⟩:=ZbB w (.cells #[.slice ba l.length cp,.slice (some ⟨w.heap.size+1,0,none⟩) N N] 48) (.cells (madeCells #[.bool false] N) 4);have kF:=Zcb (w.alloc (.cells #[.slice ba l.length cp,.slice (some ⟨w.heap.size+1,0,none⟩) N N] 48)) (madeCells #[.bool false] N) 4 N (Ze0 _) (w.heap.size+1) (by simp);have am:Below w.heap.size w ((w.alloc (.cells #[.slice ba l.length cp,.slice (some ⟨w.heap.size+1,0,none⟩) N N] 48)).alloc (.cells (madeCells #[.bool false] N) 4)):=(((Ext.refl w).alloc _).alloc _).below;generalize (w.alloc (.cells #[.slice ba l.length cp,.slice (some ⟨w.heap.size+1,0,none⟩) N N] 48)).alloc (.cells (madeCells #[.bool false] N) 4)=W at *;have r0:W.cell? ⟨w.heap.size,0,none⟩=some (.slice ba l.length cp):=by rw[World.cell?,f0];rfl
 have r1:W.cell? ⟨w.heap.size,1,none⟩=some (.slice (some ⟨w.heap.size+1,0,none⟩) N N):=by rw[World.cell?,f0];rfl
 exact bodyPost_ret (v:=.agg #[.slice ba l.length cp,.slice (some ⟨w.heap.size+1,0,none⟩) N N]) (by simp[results,Tryz.results89,go_sem,r0,r1]) rfl ⟨w.heap.size+1,rfl,by omega,kF,am⟩
def Zcv (z:Nat)(w1:World)(g fb N:Nat)(vl:Value)(h:Nat→Bool)(k:Nat)(wr:World):Prop :=
 Below z w1 wr∧(z≤g∧z≤fb∧g≠fb)∧wr.heap[fb]? =some (.cells #[vl,.slice (some ⟨g,0,none⟩) N N] 48 (0,0))∧Zan wr g 4 N (fun j=>decide (j<k) && h j)
section
variable {z:Nat}{w1 wr w':World}{g fb N k:Nat}{vl:Value}{h:Nat→Bool}
theorem Zcv.next(hf:Zcv z w1 g fb N vl h k wr)(hb:Below wr.heap.size wr w')(hz:z≤wr.heap.size):Zcv z w1 g fb N vl h k w' :=
 ⟨hf.1.trans (hb.mono hz),hf.2.1,(hb.block _ (Zpi hf.2.2.1).1).trans hf.2.2.1,hf.2.2.2.same (hb.block _ hf.2.2.2.lt)⟩
theorem Zcv.put(hf:Zcv z w1 g fb N vl h k wr){b:Bool}(hb:b=h k):Zcv z w1 g fb N vl h (k+1) (wr.setCell ⟨g,k,none⟩ (.bool b)):=by
 refine⟨hf.1.setCell hf.2.1.1 _,hf.2.1,(Below.heap_setCell _ _ _ _ (fun e=>hf.2.1.2.2 e.symm)).trans hf.2.2.1,(hf.2.2.2.put k b).congr fun j _=>?_⟩
 by_cases e:j=k
 ·subst e;rw[if_pos rfl,hb];simp
 ·rw[if_neg e]
  congr 1
  exact decide_eq_decide.2 (by omega)
theorem Zcv.cells(hf:Zcv z w1 g fb N vl h k wr):wr.cell? ⟨fb,0,none⟩=some vl∧wr.cell? ⟨fb,1,none⟩=some (.slice (some ⟨g,0,none⟩) N N):=by
 constructor
 ·rw[World.cell?,hf.2.2.1];rfl
 ·rw[World.cell?,hf.2.2.1];rfl
theorem Zcv.size(hf:Zcv z w1 g fb N vl h k wr):z≤wr.heap.size:=by
 have:=hf.2.2.2.lt;have:=hf.2.1.1;omega
theorem Zcv.done(hf:Zcv z w1 g fb N vl h N wr):Zan wr g 4 N h:=hf.2.2.2.congr fun j hj=>by rw[Zpv hj,Bool.true_and]
theorem Zcv.first(hb:Below z w1 wr)(hg:z≤g)(kF:Zan wr g 4 N (fun _=>false))(hz:z≤wr.heap.size):Zcv z w1 g wr.heap.size N vl h 0 (wr.alloc (.cells #[vl,.slice (some ⟨g,0,none⟩) N N] 48)) :=
 ⟨hb.alloc hz _,⟨hg,hz,Nat.ne_of_lt kF.lt⟩,Zpm _ _,(kF.same (Below.heap_alloc _ _ _ kF.lt)).congr fun j _=>by simp⟩
end
theorem Zf3{w:World}{b:Nat}{v0 v1:Value}{t:TypeId}(h:w.heap[b]? =some (.cells #[v0,v1] t))(x0 x1:Value) :
  ((w.setCell ⟨b,0,none⟩ x0).setCell ⟨b,1,none⟩ x1).cell? ⟨b,0,none⟩=some x0∧((w.setCell ⟨b,0,none⟩ x0).setCell ⟨b,1,none⟩ x1).cell? ⟨b,1,none⟩=some x1:=by
 have h2:=Zag (Zag h 0 x0) 1 x1
 constructor
 ·rw[World.cell?,h2];rfl
 ·rw[World.cell?,h2];rfl
theorem Zan.stays{w w':World}{b n:Nat}{f:Nat→Bool}(h:Zan w b 4 n f)(hS:Zaz w w'):Zan w' b 4 n f:=by
 obtain⟨c,h1,h2⟩:=h;exact⟨c,hS.get h1 (by decide) (by decide),h2⟩
theorem Zja.stays{w w':World}{v vl o:Value}{l:List Int}{φ:L.Asg→Bool}{base:Nat}(h:Zja w v l φ)(hv:v= .agg #[vl,o])(aJ:w.ownsRow base 3 1 vl l.length (l.map ZeJ))(hS:Zaz w w'):Zja w' v l φ:=by
 obtain⟨vl',g,c,h1,h2,h3⟩:=h;rw[h1]at hv;simp only[Value.agg.injEq,Array.mk.injEq,List.cons.injEq,and_true]at hv;obtain⟨rfl,_⟩:=hv;exact⟨vl',g,c,h1,Za4 (Zby aJ hS),h3.stays hS⟩
theorem ZjU{t:List VN}{sb kk:Nat}{X:List Nat}{s:St}{w0 w:World}(hL:SL t sb kk X s w0 w){a:Nat}{φ:L.Asg→Bool}(ha:Val s a φ){vf:Value}{l:List Int}(hf:Zja w vf l φ)(gU:l.Nodup)(hr:∀v∈l,1≤v∧v≤128)(hl:l.length≤12) :
  Calls Tryz.prog 29 #[.pointer (some ⟨sb,0,none⟩),.int .i64 (a:Nat),vf] w fun e w'=>e= .returned (.bool true)∧Below w.heap.size w w':=by
 obtain⟨vl,g0,c0,rfl,bh,kD⟩:=hf;have ww:=kD.lt;have hN:=ZcW hl;have e0:=Zpm w (.cells #[vl,.slice (some ⟨g0,0,none⟩) (2 ^ l.length) c0] 48);have aC:Ext w (w.alloc (.cells #[vl,.slice (some ⟨g0,0,none⟩) (2 ^ l.length) c0] 48)):=(Ext.refl w).alloc _;obtain⟨w1,aD⟩:∃w1,w1=w.alloc (.cells #[vl,.slice (some ⟨g0,0,none⟩) (2 ^ l.length) c0] 48):=⟨_,rfl⟩;rw[←aD]at e0 aC;have yL:=bh.ext aC.below;have qs:=fun k (hk:k<2 ^ l.length) (W:World) (h:Below w.heap.size w W)=>ZgP (vo:=.slice (some ⟨g0,0,none⟩) (2 ^ l.length) c0) (bh.ext h) hr hl rfl k (Zpq hk hN)
 have qe:=fun k (W:World) (h:Below w.heap.size w W)=>(hL.below h).eval ha (L.setK l k l.length)
 simp only[L.asg_setK gU hr]at qe;have fQ:∀(W:World) (j:Nat),Below w.heap.size w W→j<2 ^ l.length→W.cell? ⟨g0,j,none⟩=some (.bool (φ (L.nth l j))):=fun W j h hj=>((kD.same (h.block _ ww)).cell hj).1
 generalize j5:2 ^ l.length=N at *;have yJ:∃ba cp,vl= .slice ba l.length cp:=by obtain⟨ba,cp,h,_⟩:=bh;exact⟨ba,cp,h⟩
 clear bh gU hr kD yL hL ha;obtain⟨ba,cp,rfl⟩:=yJ;obtain⟨f,hh⟩:∃f:Nat→Bool,∀k,φ (L.nth l k)=f k:=⟨_,fun _=>rfl⟩;simp only[hh]at qe fQ
 have hS:∀j V,j<N→Below w1.heap.size w1 V→(V.cell? ⟨w.heap.size,0,none⟩=some (.slice ba l.length cp)∧V.cell? ⟨w.heap.size,1,none⟩=some (.slice (some ⟨g0,0,none⟩) N c0))∧V.cell? ⟨g0,j,none⟩=some (.bool (f j)):=fun j V hj h=>by
  have f0:=(h.block w.heap.size (Zpi e0).1).trans e0;exact⟨⟨by rw[World.cell?,f0];rfl,by rw[World.cell?,f0];rfl⟩,fQ V j (aC.below.trans (h.mono aC.size)) hj⟩
 replace hh:=Zpe hh;replace j5:=Zpe j5;replace qs:=Zpe qs;replace qe:=Zpe qe;replace fQ:=Zpe fQ;replace hS:=Zpe hS;have c1:w1.cell? ⟨w.heap.size,1,none⟩=some (.slice (some ⟨g0,0,none⟩) N c0):=by rw[World.cell?,e0];rfl
 replace e0:=Zpe e0
 go_enter Tryz.func29,Tryz.ntmps29
 go_wp2_with fail;rw[←aD];replace aD:=Zpe aD;go_wp2_with fail
 go_loopw [11] (fun i wr=>∃k:Nat,k≤N∧i= .int .i64 (k:Int)∧Hid (Below w1.heap.size w1 wr)) (fun i _=>N - (intOf i).toNat)
 case atStart=>exact⟨0,by omega,rfl,Zpe (Zpr _ _)⟩
 case round =>
  obtain⟨k,hk,rfl,hI⟩:=hrel
  by_cases aE:k<N
  ·have d0:decide ((k:Int)<(N:Int))=true:=Zpv (by omega)
   have g0':(0:Int)≤(k:Int):=by omega
   have g1:(k:Int)<(N:Int):=by omega
   have jr:∀V,Below w1.heap.size w1 V→Below w.heap.size w V:=fun V h=>aC.below.trans (h.mono aC.size)
   replace jr:=Zpe jr;have hd:=Zpe (hI.out.trans ((Zpr w1.heap.size wr).drew));obtain⟨⟨r0,r1⟩,r2⟩:=hS.out k wr aE hI.out;go_wp2_with fail;(refine wp_region_held_drew (S:=(fun V=>(V.cell? ⟨w.heap.size,0,none⟩=some (.slice ba l.length cp)∧V.cell? ⟨w.heap.size,1,none⟩=some (.slice (some ⟨g0,0,none⟩) N c0))∧V.cell? ⟨g0,k,none⟩=some (.bool (f k)))) (by kernel_rfl) ?_ (fun aA=>?_))
   ·exact hS.out k _ aE hd.out
   (refine ZpE (i:=0) (v:=?_) rfl (by kernel_rfl) (fun _ _ _ h=>h) (Or.inl ⟨by rfl,?_⟩) (by assumption) ?_);rotate_left
   ·(intro w aB;(try dsimp only at aB);go_simp;first|done|with_reducible rfl)
   (try simp only[Act.put,Zpf,Zpg,Zph]);(refine ZpE (i:=1) (v:=?_) rfl (by kernel_rfl) (fun _ _ _ h=>h) (Or.inl ⟨by rfl,?_⟩) (by assumption) ?_);rotate_left
   ·(intro w aB;(try dsimp only at aB);go_simp;first|done|with_reducible rfl)
   (try simp only[Act.put,Zpf,Zpg,Zph]);(refine ZpE (i:=2) (v:=?_) rfl (by kernel_rfl) (fun _ _ _ h=>h) (Or.inl ⟨by rfl,?_⟩) (by assumption) ?_);rotate_left
   ·(intro w aB;(try dsimp only at aB);go_simp;first|done|with_reducible rfl)
   (try simp only[Act.put,Zpf,Zpg,Zph]);(refine ZpE (i:=3) (v:=?_) rfl (by kernel_rfl) (fun _ _ _ h=>h) (Or.inl ⟨by rfl,?_⟩) (by assumption) ?_);rotate_left
   ·(intro w aB;(try dsimp only at aB);go_simp;first|done|with_reducible rfl)
   (try simp only[Act.put,Zpf,Zpg,Zph]);(refine ZpE (i:=6) (v:=?_) rfl (by kernel_rfl) (fun _ _ _ h=>h) (Or.inl ⟨by rfl,?_⟩) (by assumption) ?_);rotate_left
   ·(intro w aB;(try dsimp only at aB);go_simp;first|done|with_reducible rfl)
   (try simp only[Act.put,Zpf,Zpg,Zph]);(refine ZpE (i:=7) (v:=?_) rfl (by kernel_rfl) (fun _ _ _ h=>h) (Or.inl ⟨by rfl,?_⟩) (by assumption) ?_);rotate_left
   ·(intro w aB;(try dsimp only at aB);go_simp;first|done|with_reducible rfl)
   (try simp only[Act.put,Zpf,Zpg,Zph]);(refine ZpE (i:=8) (v:=?_) rfl (by kernel_rfl) (fun _ _ _ h=>h) (Or.inl ⟨by rfl,?_⟩) (by assumption) ?_);rotate_left
   ·(intro w aB;(try dsimp only at aB);go_simp;first|done|with_reducible rfl)
   (try simp only[Act.put,Zpf,Zpg,Zph]);(refine ZpE (i:=9) (v:=?_) rfl (by kernel_rfl) (fun _ _ _ h=>h) (Or.inl ⟨by rfl,?_⟩) (by assumption) ?_);rotate_left
   ·(intro w aB;(try dsimp only at aB);go_simp;first|done|with_reducible rfl)
   (try simp only[Act.put,Zpf,Zpg,Zph]);(refine ZpE (i:=10) (v:=?_) rfl (by kernel_rfl) (fun _ _ _ h=>h) (Or.inl ⟨by rfl,?_⟩) (by assumption) ?_);rotate_left
   ·(intro w aB;(try dsimp only at aB);go_simp;first|done|with_reducible rfl)
   (try simp only[Act.put,Zpf,Zpg,Zph]);(refine wpAnyH_ready (rs:=[4]) (by kernel_rfl) (by simp) ?_);(refine Zaw rfl (fun K hK=>?_))
   ((rw[if_pos (by rfl)]);go_simp;refine(qs.out k aE _ (jr.out _ hd.out)).mono ?_;rintro e w3 ⟨rfl,aa⟩;have kI:=Zpe (hd.out.trans (aa.mono hd.out.size));refine hK.out _ _ (hS.out k _ aE kI.out) (fun aA=>?_);clear aa)
   (clear hK K)
   (try simp only[Act.put,Zpf,Zpg,Zph]);(refine wpAnyH_ready (rs:=[5]) (by kernel_rfl) (by simp) ?_);(refine Zaw rfl (fun K hK=>?_))
   ((rw[if_pos (by rfl)]);go_simp;refine(qe.out k _ (jr.out _ kI.out)).mono ?_;rintro e w4 ⟨rfl,bF⟩;have fh:=Zpe (kI.out.trans (bF.below.mono kI.out.size));refine hK.out _ _ (hS.out k _ aE fh.out) (fun aA=>?_);clear bF)
   (clear hK K)
   (try simp only[Act.put,Zpf,Zpg,Zph]);(refine ZpE (i:=11) (v:=?_) rfl (by kernel_rfl) (fun _ _ _ h=>h) (Or.inl ⟨by rfl,?_⟩) (by assumption) ?_);rotate_left
   ·(intro w aB;(try dsimp only at aB);go_simp;first|done|with_reducible rfl)
   (try simp only[Act.put,Zpf,Zpg,Zph]);(refine wpAnyH_done (by kernel_rfl) ?_ _);clear aA;have aH:(f k !=f k)=false:=by simp
   go_wp2_with fail;go_roundw
   case rel=>exact⟨k+1,by omega,by go_num,fh⟩
   case measure=>simp[intOf];omega
  ·obtain rfl:k=N:=by omega
   have d0:decide ((k:Int)<(k:Int))=false:=Zpu (by omega);go_wp2_with fail;go_ret;exact⟨rfl,aC.below.trans (hI.out.mono aC.size)⟩
def Zn5 (a b:Zak)(k:Nat):Prop:=∀v:Nat,1≤v→v<k→Zau a v=true→Zau b v=true
theorem Zn5.all{a b:Zak}(h:Zn5 a b 129)(v:Int)(hv:Zau a v=true):Zau b v=true:=by
 have hr:1≤v∧v≤128:=by
  unfold Zau at hv;simp only[Zpx,ZpA]at hv;exact hv.1
 have:=h v.toNat (by omega) (by omega);rw[show ((v.toNat:Nat):Int)=v by omega]at this;exact this hv
theorem ZfP(a b:Zak)(D:Bool)(hD:D=true↔∀v,Zau a v=true→Zau b v=true)(w:World):Calls Tryz.prog 83 #[.agg #[.int .u64 (lo a),.int .u64 (hi a)],.agg #[.int .u64 (lo b),.int .u64 (hi b)]] w fun e w'=>e= .returned (.bool D)∧Below w.heap.size w w':=by
 obtain⟨g0,g1⟩:=Zil w (.cells #[.int .u64 (lo a),.int .u64 (hi a)] 41) (.cells #[.int .u64 (lo b),.int .u64 (hi b)] 41);have aC:=((Ext.refl w).alloc (.cells #[.int .u64 (lo a),.int .u64 (hi a)] 41)).alloc (.cells #[.int .u64 (lo b),.int .u64 (hi b)] 41);have qa:=fun (v:Int) W=>ZbH a v W
 have qb:=fun (v:Int) W=>ZbH b v W
 unfold ZaT at qa qb;obtain⟨y0,y1⟩:=Zae g0;obtain⟨z0,z1⟩:=Zae g1;replace hD:=Zpe hD;replace qa:=Zpe qa;replace qb:=Zpe qb;clear g0 g1
 go_enter Tryz.func83,Tryz.ntmps83
 go_wp2_with fail;generalize (w.alloc (.cells #[.int .u64 (lo a),.int .u64 (hi a)] 41)).alloc (.cells #[.int .u64 (lo b),.int .u64 (hi b)] 41)=w1 at *;have h0:Hid (Ext w1 w1∧Zn5 a b 1):=Zpe ⟨Ext.refl _,fun v h1 h2=>by omega⟩
 go_loopw [5] (fun iv wr=>∃k:Nat,1≤k∧k≤129∧iv= .int .i64 (k:Nat)∧Hid (Ext w1 wr∧Zn5 a b k)) (fun iv _=>129 - (intOf iv).toNat)
 case atStart=>exact⟨1,by omega,by omega,rfl,h0⟩
 case round =>
  clear h0;obtain⟨k,sO,hk,rfl,hI⟩:=hrel
  by_cases aE:k≤128
  ·have dlt:decide ((k:Int)≤128)=true:=Zpv (by omega)
   have u0:=hI.out.1.cell y0;have u1:=hI.out.1.cell y1;have v0:=hI.out.1.cell z0;have v1:=hI.out.1.cell z1;have q1:=qa.out (k:Int) wr
   have aW:(Zau a (k:Int)=true→Zau b (k:Int)=true)→Zn5 a b (k+1):=fun h v h1 h2 h3=>by
    by_cases e:v=k
    ·subst e;exact h h3
    ·exact hI.out.2 v h1 (by omega) h3
   have bJ:Zau a (k:Int)=true→Zau b (k:Int)=false→D=false:=fun h1 h2=>by
    cases hd:D
    ·rfl
    ·have:=hD.out.1 hd _ h1
     rw[h2]at this;cases this
   replace aW:=Zpe aW;replace bJ:=Zpe bJ
   cases ha:Zau a (k:Int)
   ·rw[ha]at q1
    replace ha:=Zpe ha;go_wp2_with fail;refine q1.mono ?_;rintro e w2 ⟨rfl,aF⟩;clear q1;go_wp2_with fail;go_roundw
    case rel=>exact⟨k+1,by omega,by omega,by go_num,Zpe ⟨hI.out.1.trans aF,aW.out fun h=>by rw[ha.out]at h;cases h⟩⟩
    case measure=>simp[intOf];omega
   ·rw[ha]at q1
    replace ha:=Zpe ha;go_wp2_with fail;refine q1.mono ?_;rintro e w2 ⟨rfl,aF⟩;have q2:=qb.out (k:Int) w2;have v0':=aF.cell v0;have v1':=aF.cell v1;clear q1 u0 u1 v0 v1
    cases hb:Zau b (k:Int)
    ·rw[hb]at q2
     replace hb:=Zpe hb;go_wp2_with fail;refine q2.mono ?_;rintro e w3 ⟨rfl,aR⟩;clear q2;go_wp2_with fail;go_ret;exact⟨by rw[bJ.out ha.out hb.out];rfl,(aC.trans ((hI.out.1.trans aF).trans aR)).below⟩
    ·rw[hb]at q2
     replace hb:=Zpe hb;go_wp2_with fail;refine q2.mono ?_;rintro e w3 ⟨rfl,aR⟩;clear q2;go_wp2_with fail;go_roundw
     case rel=>exact⟨k+1,by omega,by omega,by go_num,Zpe ⟨(hI.out.1.trans aF).trans aR,aW.out fun _=>hb.out⟩⟩
     case measure=>simp[intOf];omega
  ·have dlt:decide ((k:Int)≤128)=false:=Zpu (by omega)
   obtain rfl:k=129:=by omega
   have hDt:=Zpe (hD.out.2 hI.out.2.all);go_wp2_with fail;go_ret;exact⟨by rw[hDt.out];rfl,(aC.trans hI.out.1).below⟩
theorem Zg1{t:List VN}(hc:Zad t=0){l:List Int}(hs:L.SortedBel t (t.length - 1) l)(u:Int):Zau (ofS l) u=true↔Zbm t u:=by
 rw[L.hasS_ofS];exact⟨fun h=>ZfS hc hs h.2,fun h=>⟨h.range,(hs.mem u).2 ((Zem hc u).2 h)⟩⟩
theorem SlI.shape{w:World}{v:Value}{l:List Int}(h:SlI w v l):∃ba cp,v= .slice ba l.length cp∧∀j (hj:j<l.length),∃b o,ba=some ⟨b,o,none⟩∧w.cell? ⟨b,o+j,none⟩=some (.int .i64 l[j]):=by
 obtain⟨ba,cp,rfl,gV⟩:=h;refine⟨ba,cp,rfl,fun j hj=>?_⟩;rcases gV with ⟨_,h2,_⟩|⟨b,o,rfl,h2⟩
 ·rw[h2]at hj;simp at hj
 ·exact⟨b,o,rfl,h2 j hj⟩
theorem Zhd{w:World}{v v':Value}{l:List Int}(hv:SlI w v l)(fo:SlI w v' l)(hl:l.length≤1048576) :
  Calls Tryz.prog 180 #[v,v'] w fun e w'=>e= .returned (.bool true)∧Ext w w':=by
 obtain⟨ba,cp,rfl,aO⟩:=hv.shape;obtain⟨lY,kU,rfl,ii⟩:=fo.shape;clear hv fo;have dn:((l.length:Int) !=(l.length:Int))=false:=by simp
 replace aO:=Zpe aO;replace ii:=Zpe ii
 go_enter Tryz.func180,Tryz.ntmps180
 go_wp2_with fail
 go_loopw [5] (fun i wr=>∃k:Nat,k≤l.length∧i= .int .i64 (k:Int)∧Hid (Ext w wr)) (fun i _=>l.length - (intOf i).toNat)
 case atStart=>exact⟨0,by omega,rfl,Zpe (Ext.refl _)⟩
 case round =>
  obtain⟨k,hk,rfl,hI⟩:=hrel
  by_cases aE:k<l.length
  ·have d0:decide ((k:Int)<(l.length:Int))=true:=Zpv (by omega)
   have g0':(0:Int)≤(k:Int):=by omega
   have g1:(k:Int)<(l.length:Int):=by omega
   obtain⟨b,o,rfl,hc⟩:=aO.out k aE;obtain⟨b',o',rfl,ff⟩:=ii.out k aE;have hd:=Zpe (hI.out.trans ((Ext.refl wr).drew));have m0:=hd.out.cell hc;have m1:=hd.out.cell ff;generalize l[k]=u at *;replace hc:=Zpe hc;replace ff:=Zpe ff;go_wp2_with fail;(refine wp_region_held_drew (S:=(fun V=>V.cell? ⟨b,o+k,none⟩=some (.int .i64 u)∧V.cell? ⟨b',o'+k,none⟩=some (.int .i64 u))) (by kernel_rfl) ?_ (fun aA=>?_))
   ·exact⟨m0,m1⟩
   (refine ZpE (i:=0) (v:=?_) rfl (by kernel_rfl) (fun _ _ _ h=>h) (Or.inl ⟨by rfl,?_⟩) (by assumption) ?_);rotate_left
   ·(intro w aB;(try dsimp only at aB);go_simp;first|done|with_reducible rfl)
   (try simp only[Act.put,Zpf,Zpg,Zph]);(refine ZpE (i:=1) (v:=?_) rfl (by kernel_rfl) (fun _ _ _ h=>h) (Or.inl ⟨by rfl,?_⟩) (by assumption) ?_);rotate_left
   ·(intro w aB;(try dsimp only at aB);go_simp;first|done|with_reducible rfl)
   (try simp only[Act.put,Zpf,Zpg,Zph]);(refine ZpE (i:=2) (v:=?_) rfl (by kernel_rfl) (fun _ _ _ h=>h) (Or.inl ⟨by rfl,?_⟩) (by assumption) ?_);rotate_left
   ·(intro w aB;(try dsimp only at aB);go_simp;first|done|with_reducible rfl)
   (try simp only[Act.put,Zpf,Zpg,Zph]);(refine ZpE (i:=3) (v:=?_) rfl (by kernel_rfl) (fun _ _ _ h=>h) (Or.inl ⟨by rfl,?_⟩) (by assumption) ?_);rotate_left
   ·(intro w aB;(try dsimp only at aB);go_simp;first|done|with_reducible rfl)
   (try simp only[Act.put,Zpf,Zpg,Zph]);(refine ZpE (i:=4) (v:=?_) rfl (by kernel_rfl) (fun _ _ _ h=>h) (Or.inl ⟨by rfl,?_⟩) (by assumption) ?_);rotate_left
   ·(intro w aB;(try dsimp only at aB);go_simp;first|done|with_reducible rfl)
   (try simp only[Act.put,Zpf,Zpg,Zph]);(refine ZpE (i:=5) (v:=?_) rfl (by kernel_rfl) (fun _ _ _ h=>h) (Or.inl ⟨by rfl,?_⟩) (by assumption) ?_);rotate_left
   ·(intro w aB;(try dsimp only at aB);go_simp;first|done|with_reducible rfl)
   (try simp only[Act.put,Zpf,Zpg,Zph]);(refine ZpE (i:=6) (v:=?_) rfl (by kernel_rfl) (fun _ _ _ h=>h) (Or.inl ⟨by rfl,?_⟩) (by assumption) ?_);rotate_left
   ·(intro w aB;(try dsimp only at aB);go_simp;first|done|with_reducible rfl)
   (try simp only[Act.put,Zpf,Zpg,Zph]);(refine ZpE (i:=7) (v:=?_) rfl (by kernel_rfl) (fun _ _ _ h=>h) (Or.inl ⟨by rfl,?_⟩) (by assumption) ?_);rotate_left
   ·(intro w aB;(try dsimp only at aB);go_simp;first|done|with_reducible rfl)
   (try simp only[Act.put,Zpf,Zpg,Zph]);(refine ZpE (i:=8) (v:=?_) rfl (by kernel_rfl) (fun _ _ _ h=>h) (Or.inl ⟨by rfl,?_⟩) (by assumption) ?_);rotate_left
   ·(intro w aB;(try dsimp only at aB);go_simp;first|done|with_reducible rfl)
   (try simp only[Act.put,Zpf,Zpg,Zph]);(refine wpAnyH_done (by kernel_rfl) ?_ _);clear aA;go_wp2_with fail;go_roundw
   case rel=>exact⟨k+1,by omega,by go_num,hd⟩
   case measure=>simp[intOf];omega
  ·obtain rfl:k=l.length:=by omega
   have d0:decide ((l.length:Int)<(l.length:Int))=false:=Zpu (by omega);go_wp2_with fail;go_ret;exact⟨rfl,hI.out⟩
theorem Zjr{kd lt:Int}{c:List Int}{u u':Value}{w:World}(hu:SlI w u c)(lw:SlI w u' c)(hl:c.length≤1048576) :
  Calls Tryz.prog 121 #[.agg #[.int .i64 kd,.int .i64 lt,u],.agg #[.int .i64 kd,.int .i64 lt,u']] w fun e w'=>e= .returned (.bool true)∧Ext w w':=by
 obtain⟨ba,cp,rfl,_⟩:=hu.shape;obtain⟨lY,kU,rfl,_⟩:=lw.shape;have aF:Ext w ((w.alloc (.cells #[.int .i64 kd,.int .i64 lt,.slice ba c.length cp] 166)).alloc (.cells #[.int .i64 kd,.int .i64 lt,.slice lY c.length kU] 166)):=((Ext.refl w).alloc _).alloc _;obtain⟨e0,e1⟩:=ZbB w (.cells #[.int .i64 kd,.int .i64 lt,.slice ba c.length cp] 166) (.cells #[.int .i64 kd,.int .i64 lt,.slice lY c.length kU] 166);have q:=Zhd (hu.ext aF.below) (lw.ext aF.below) hl;replace hu:=Zpe hu;replace lw:=Zpe lw;obtain⟨w1,aD⟩:∃W,W=(w.alloc (.cells #[.int .i64 kd,.int .i64 lt,.slice ba c.length cp] 166)).alloc (.cells #[.int .i64 kd,.int .i64 lt,.slice lY c.length kU] 166):=⟨_,rfl⟩;rw[←aD]at e0 e1 q aF;have k0:w1.cell? ⟨w.heap.size,0,none⟩=some (.int .i64 kd):=by rw[World.cell?,e0];rfl
 have k1:w1.cell? ⟨w.heap.size,1,none⟩=some (.int .i64 lt):=by rw[World.cell?,e0];rfl
 have k2:w1.cell? ⟨w.heap.size,2,none⟩=some (.slice ba c.length cp):=by rw[World.cell?,e0];rfl
 have m0:w1.cell? ⟨w.heap.size+1,0,none⟩=some (.int .i64 kd):=by rw[World.cell?,e1];rfl
 have m1:w1.cell? ⟨w.heap.size+1,1,none⟩=some (.int .i64 lt):=by rw[World.cell?,e1];rfl
 have m2:w1.cell? ⟨w.heap.size+1,2,none⟩=some (.slice lY c.length kU):=by rw[World.cell?,e1];rfl
 have dk:(kd ==kd)=true:=by simp
 have dl:(lt ==lt)=true:=by simp
 clear e0 e1;replace hl:=Zpe hl
 go_enter Tryz.func121,Tryz.ntmps121
 go_wp2_with fail;rw[←aD];replace aD:=Zpe aD
 try go_wp2_with fail
 refine q.mono ?_;rintro e w2 ⟨rfl,aR⟩;go_wp2_with fail;go_ret;exact⟨rfl,aF.trans aR⟩
theorem Zea{n:Int}{C:List L.Gt}{v v':Value}{w:World}(hv:SlC w v C)(fo:SlC w v' C)(h1:C.length≤5000)(h2:∀g∈C,g.inp.length≤200) :
  Calls Tryz.prog 55 #[.agg #[.int .i64 n,v],.agg #[.int .i64 n,v']] w fun e w'=>e= .returned (.bool true)∧Ext w w':=by
 obtain⟨e0,e1⟩:=ZbB w (.cells #[.int .i64 n,v] 84) (.cells #[.int .i64 n,v'] 84);have aC:Ext w ((w.alloc (.cells #[.int .i64 n,v] 84)).alloc (.cells #[.int .i64 n,v'] 84)):=((Ext.refl w).alloc _).alloc _;obtain⟨w1,aD⟩:∃w1,w1=(w.alloc (.cells #[.int .i64 n,v] 84)).alloc (.cells #[.int .i64 n,v'] 84):=⟨_,rfl⟩;rw[←aD]at e0 e1 aC;have c0:w1.cell? ⟨w.heap.size,0,none⟩=some (.int .i64 n):=by rw[World.cell?,e0];rfl
 have c1:w1.cell? ⟨w.heap.size,1,none⟩=some v:=by rw[World.cell?,e0];rfl
 have c2:w1.cell? ⟨w.heap.size+1,0,none⟩=some (.int .i64 n):=by rw[World.cell?,e1];rfl
 have c3:w1.cell? ⟨w.heap.size+1,1,none⟩=some v':=by rw[World.cell?,e1];rfl
 have bI:=hv.ext aC.below;have tQ:=fo.ext aC.below;obtain⟨ba,cp,rfl,aO⟩:=bI.shape;obtain⟨lY,kU,rfl,ii⟩:=tQ.shape;have dn:(n !=n)=false:=by simp
 have dl:((C.length:Int) !=(C.length:Int))=false:=by simp
 replace aO:=Zpe aO;replace ii:=Zpe ii;replace h2:=Zpe h2;clear hv fo bI tQ e0 e1;replace aC:=Zpe aC
 go_enter Tryz.func55,Tryz.ntmps55
 go_wp2_with fail;rw[←aD];replace aD:=Zpe aD
 try go_wp2_with fail
 clear dn dl
 go_loopw [5] (fun i wr=>∃k:Nat,k≤C.length∧i= .int .i64 (k:Nat)∧Hid (Ext w1 wr)) (fun i _=>C.length - (intOf i).toNat)
 case atStart=>exact⟨0,Nat.zero_le _,rfl,Zpe (Ext.refl _)⟩
 case round =>
  obtain⟨k,hk,rfl,ax⟩:=hrel;have a1:=ax.out.cell c1;have g0:(0:Int)≤(k:Int):=by omega
  by_cases aE:k<C.length
  ·have g1:(k:Int)<(C.length:Int):=by omega
   have d0:decide ((k:Int)<(C.length:Int))=true:=Zpv g1;obtain⟨b,o,bb,cc,rfl,f0,f1,f2,f3⟩:=aO.out k aE;obtain⟨b',o',bb',cc',rfl,f0',f1',f2',f3'⟩:=ii.out k aE;have hm:=h2.out _ (Zpz aE);generalize C[k]=g at *;obtain⟨kd,lt,ip⟩:=g
   dsimp only at *
   have hd:=Zpe (ax.out.drew);have q:=fun (W:World) (h:Ext w1 W)=>Zjr (kd:=kd) (lt:=lt) (f3.ext h.below) (f3'.ext h.below) (Zpp hm (by decide))
   have hS:=fun (V:World) (h:Ext w1 V)=>show (V.cell? ⟨w.heap.size,1,none⟩=some (.slice (some ⟨b,o,none⟩) C.length cp)∧V.cell? ⟨w.heap.size+1,1,none⟩=some (.slice (some ⟨b',o',none⟩) C.length kU))∧(V.cell? ⟨b,o+k*3,none⟩=some (.int .i64 kd)∧V.cell? ⟨b,o+k*3+1,none⟩=some (.int .i64 lt)∧V.cell? ⟨b,o+k*3+2,none⟩=some (.slice bb ip.length cc))∧(V.cell? ⟨b',o'+k*3,none⟩=some (.int .i64 kd)∧V.cell? ⟨b',o'+k*3+1,none⟩=some (.int .i64 lt)∧V.cell? ⟨b',o'+k*3+2,none⟩=some (.slice bb' ip.length cc')) from ⟨⟨h.cell c1,h.cell c3⟩,⟨h.cell f0,h.cell f1,h.cell f2⟩,⟨h.cell f0',h.cell f1',h.cell f2'⟩⟩
   replace hS:=Zpe hS;replace q:=Zpe q;clear f0 f1 f2 f3 f0' f1' f2' f3';generalize ip.length=M at *;clear c1 c3;go_wp2_with fail;(refine wp_region_held_drew (S:=(fun V=>(V.cell? ⟨w.heap.size,1,none⟩=some (.slice (some ⟨b,o,none⟩) C.length cp)∧V.cell? ⟨w.heap.size+1,1,none⟩=some (.slice (some ⟨b',o',none⟩) C.length kU))∧(V.cell? ⟨b,o+k*3,none⟩=some (.int .i64 kd)∧V.cell? ⟨b,o+k*3+1,none⟩=some (.int .i64 lt)∧V.cell? ⟨b,o+k*3+2,none⟩=some (.slice bb M cc))∧(V.cell? ⟨b',o'+k*3,none⟩=some (.int .i64 kd)∧V.cell? ⟨b',o'+k*3+1,none⟩=some (.int .i64 lt)∧V.cell? ⟨b',o'+k*3+2,none⟩=some (.slice bb' M cc')))) (by kernel_rfl) ?_ (fun aA=>?_))
   ·exact hS.out _ hd.out
   (refine ZpE (i:=0) (v:=?_) rfl (by kernel_rfl) (fun _ _ _ h=>h) (Or.inl ⟨by rfl,?_⟩) (by assumption) ?_);rotate_left
   ·(intro w aB;(try dsimp only at aB);go_simp;first|done|with_reducible rfl)
   (try simp only[Act.put,Zpf,Zpg,Zph]);(refine ZpE (i:=1) (v:=?_) rfl (by kernel_rfl) (fun _ _ _ h=>h) (Or.inl ⟨by rfl,?_⟩) (by assumption) ?_);rotate_left
   ·(intro w aB;(try dsimp only at aB);go_simp;first|done|with_reducible rfl)
   (try simp only[Act.put,Zpf,Zpg,Zph]);(refine ZpE (i:=2) (v:=?_) rfl (by kernel_rfl) (fun _ _ _ h=>h) (Or.inl ⟨by rfl,?_⟩) (by assumption) ?_);rotate_left
   ·(intro w aB;(try dsimp only at aB);go_simp;first|done|with_reducible rfl)
   (try simp only[Act.put,Zpf,Zpg,Zph]);(refine ZpE (i:=3) (v:=?_) rfl (by kernel_rfl) (fun _ _ _ h=>h) (Or.inl ⟨by rfl,?_⟩) (by assumption) ?_);rotate_left
   ·(intro w aB;(try dsimp only at aB);go_simp;first|done|with_reducible rfl)
   (try simp only[Act.put,Zpf,Zpg,Zph]);(refine ZpE (i:=4) (v:=?_) rfl (by kernel_rfl) (fun _ _ _ h=>h) (Or.inl ⟨by rfl,?_⟩) (by assumption) ?_);rotate_left
   ·(intro w aB;(try dsimp only at aB);go_simp;first|done|with_reducible rfl)
   (try simp only[Act.put,Zpf,Zpg,Zph]);(refine ZpE (i:=5) (v:=?_) rfl (by kernel_rfl) (fun _ _ _ h=>h) (Or.inl ⟨by rfl,?_⟩) (by assumption) ?_);rotate_left
   ·(intro w aB;(try dsimp only at aB);go_simp;first|done|with_reducible rfl)
   (try simp only[Act.put,Zpf,Zpg,Zph]);(refine ZpE (i:=6) (v:=?_) rfl (by kernel_rfl) (fun _ _ _ h=>h) (Or.inl ⟨by rfl,?_⟩) (by assumption) ?_);rotate_left
   ·(intro w aB;(try dsimp only at aB);go_simp;first|done|with_reducible rfl)
   (try simp only[Act.put,Zpf,Zpg,Zph]);(refine ZpE (i:=7) (v:=?_) rfl (by kernel_rfl) (fun _ _ _ h=>h) (Or.inl ⟨by rfl,?_⟩) (by assumption) ?_);rotate_left
   ·(intro w aB;(try dsimp only at aB);go_simp;first|done|with_reducible rfl)
   (try simp only[Act.put,Zpf,Zpg,Zph]);(refine ZpE (i:=8) (v:=?_) rfl (by kernel_rfl) (fun _ _ _ h=>h) (Or.inl ⟨by rfl,?_⟩) (by assumption) ?_);rotate_left
   ·(intro w aB;(try dsimp only at aB);go_simp;first|done|with_reducible rfl)
   (try simp only[Act.put,Zpf,Zpg,Zph]);(refine ZpE (i:=9) (v:=?_) rfl (by kernel_rfl) (fun _ _ _ h=>h) (Or.inl ⟨by rfl,?_⟩) (by assumption) ?_);rotate_left
   ·(intro w aB;(try dsimp only at aB);go_simp;first|done|with_reducible rfl)
   (try simp only[Act.put,Zpf,Zpg,Zph]);(refine wpAnyH_ready (rs:=[10]) (by kernel_rfl) (by simp) ?_);(refine Zaw rfl (fun K hK=>?_))
   ((rw[if_pos (by rfl)]);go_simp;(go_at_call 121);refine(q.out _ hd.out).mono ?_;rintro e v1 ⟨rfl,bI⟩;have fg:=Zpe (hd.out.trans bI);refine hK.out _ _ (hS.out _ fg.out) (fun aA=>?_);clear bI)
   (clear hK K)
   (try simp only[Act.put,Zpf,Zpg,Zph]);(refine ZpE (i:=11) (v:=?_) rfl (by kernel_rfl) (fun _ _ _ h=>h) (Or.inl ⟨by rfl,?_⟩) (by assumption) ?_);rotate_left
   ·(intro w aB;(try dsimp only at aB);go_simp;first|done|with_reducible rfl)
   (try simp only[Act.put,Zpf,Zpg,Zph]);(refine wpAnyH_done (by kernel_rfl) ?_ _);clear aA;go_wp2_with fail;go_roundw
   case rel=>exact⟨k+1,by omega,by go_num,fg⟩
   case measure=>simp[intOf];omega
  ·obtain rfl:k=C.length:=by omega
   have d0:decide ((C.length:Int)<(C.length:Int))=false:=Zpu (by omega);go_wp2_with fail;go_ret;exact⟨rfl,aC.out.trans ax.out⟩
end Go.Proofs.YtmnjakejhbpkoaaGreatDoor
end
