import Derived.Test.YtmnjakejhbpkoaaGreatDoorVReg
set_option linter.unusedSimpArgs false
set_option linter.unusedVariables false
set_option maxRecDepth 100000
set_option maxHeartbeats 4000000
namespace Go.Proofs.YtmnjakejhbpkoaaGreatDoor
open Go Go.RowKit Go.Shelf
def ZbE (t:List VN)(j:Nat)(m:Zak):Prop:=∀i,i<128→(m.getLsbD i=true↔L.Bel t j ((i:Int)+1))
def ZaN (w:World)(b:Nat)(n:Nat)(f:Nat→Zak):Prop:=∃c,w.heap[b]? =some (.cells c 41 (0,0))∧c.size=n*2∧∀j,j<n→c[j*2]? =some (.int .u64 (lo (f j)))∧c[j*2+1]? =some (.int .u64 (hi (f j)))
section
variable {w w':World}{b n:Nat}{f:Nat→Zak}
theorem ZaN.cell(h:ZaN w b n f){j:Nat}(hj:j<n):(w.cell? ⟨b,j*2,none⟩=some (.int .u64 (lo (f j)))∧w.cell? ⟨b,j*2+1,none⟩=some (.int .u64 (hi (f j))))∧w.frozen? ⟨b,j*2,none⟩=false∧w.frozen? ⟨b,j*2+1,none⟩=false:=by
 obtain⟨c,h1,h2,h3⟩:=h;obtain⟨h4,h5⟩:=h3 j hj;simp[World.cell?,World.frozen?,h1,h4,h5]
theorem ZaN.same(h:ZaN w b n f)(hs:w'.heap[b]? =w.heap[b]?):ZaN w' b n f:=by
 obtain⟨c,h1,h2,h3⟩:=h;exact⟨c,hs.trans h1,h2,h3⟩
theorem ZaN.lt(h:ZaN w b n f):b<w.heap.size:=by
 obtain⟨c,h1,h2,h3⟩:=h;exact(Zpi h1).1
theorem ZaN.ext(h:ZaN w b n f)(hs:Ext w w'):ZaN w' b n f:=h.same (hs.below.block b h.lt)
theorem ZaN.below(h:ZaN w b n f)(hs:Below w.heap.size w w'):ZaN w' b n f:=h.same (hs.block b h.lt)
def Zct (f:Nat→Zak)(i:Nat)(m:Zak):Nat→Zak:=fun j=>if j=i then m else f j
theorem ZaN.set(h:ZaN w b n f)(i:Nat)(m:Zak):ZaN ((w.setCell ⟨b,i*2,none⟩ (.int .u64 (lo m))).setCell ⟨b,i*2+1,none⟩ (.int .u64 (hi m))) b n (Zct f i m):=by
 obtain⟨c,h1,h2,h3⟩:=h;refine⟨_,Zag (Zag h1 _ _) _ _,by simpa using h2,fun j hj=>?_⟩;obtain⟨h4,h5⟩:=h3 j hj
 by_cases cN:j=i
 ·subst cN
  simp only[Zct,if_pos]
  constructor
  ·rw[Array.getElem?_setIfInBounds,if_neg (by omega),Array.getElem?_setIfInBounds,if_pos rfl,if_pos (by omega)]
  ·rw[Array.getElem?_setIfInBounds,if_pos rfl,if_pos (by simp;omega)]
 ·simp only[Zct,if_neg cN]
  constructor
  ·rw[Array.getElem?_setIfInBounds,if_neg (by omega),Array.getElem?_setIfInBounds,if_neg (by omega)];exact h4
  ·rw[Array.getElem?_setIfInBounds,if_neg (by omega),Array.getElem?_setIfInBounds,if_neg (by omega)];exact h5
end
theorem Zlz(w:World)(n:Nat)(ad:Nat)(ha:ad=w.heap.size):ZaN (w.alloc (.cells (madeCells #[.int .u64 0,.int .u64 0] (n*2)) 41)) ad n (fun _=>0):=by
 refine⟨_,Zal w _ ad ha,by simp[madeCells],fun j hj=>?_⟩;have e0:(j*2) % 2=0:=by omega
 have e1:(j*2+1) % 2=1:=by omega
 have l0:j*2<n*2:=by omega
 have l1:j*2+1<n*2:=by omega
 constructor
 ·simp[madeCells,l0,e0,lo]
 ·simp[madeCells,l1,e1,hi]
def Zbj (w:World)(g:Nat)(t:List VN)(k:Nat)(wr:World):Prop:=∃f:Nat→Zak,Ext w wr∧ZaN wr g t.length f∧(∀j,j<k→ZbE t j (f j))∧∀j,k≤j→f j=0
theorem Zbj.round{w wr w':World}{g k:Nat}{t:List VN}{f:Nat→Zak}{m:Zak}(hX:Ext w w')(hG:ZaN w' g t.length f)(h1:∀j,j<k→ZbE t j (f j))(h2:∀j,k≤j→f j=0)(hg:w.heap.size≤g)(hm:ZbE t k m) :
  Zbj w g t (k+1) ((w'.setCell ⟨g,k*2,none⟩ (.int .u64 (lo m))).setCell ⟨g,k*2+1,none⟩ (.int .u64 (hi m))):=by
 refine⟨_,(hX.setCell (by simpa using hg) _).setCell (by simpa using hg) _,hG.set k m,fun j hj=>?_,fun j hj=>?_⟩
 ·by_cases e:j=k
  ·subst e;simpa [Zct] using hm
  ·simpa [Zct,e] using h1 j (by omega)
 ·have e:j≠k:=by omega
  simpa [Zct,e] using h2 j (by omega)
theorem ZfF{t:List VN}(hc:Zad t=0){k:Nat}{y:VN}(hy:t[k]? =some y)(hl:Zaj y=true):ZbE t k (ZaA 0 y.var):=fun i hi=>by
 rw[Zdi _ _ _ hi,L.Bel.leaf hc hy hl];simp[eq_comm]
theorem ZfG{t:List VN}(hc:Zad t=0){k a b:Nat}{y:VN}{m n:Zak}(hy:t[k]? =some y)(hl:Zaj y=false)(ha:y.left=a)(hb:y.right=b)(h1:ZbE t a m)(h2:ZbE t b n):ZbE t k (m ||| n):=fun i hi=>by
 rw[L.Bel.kids hc hy hl ha hb,BitVec.getLsbD_or,Bool.or_eq_true,h1 i hi,h2 i hi]
theorem ZcP{w:World}{a1 a2 p:Addr}{v1 v2 u:Value}(h:w.cell? p=some u)(h1:a1≠p)(h2:a2≠p):((w.setCell a1 v1).setCell a2 v2).cell? p=some u:=by
 rw[World.cell?_setCell_other (h:=h2),World.cell?_setCell_other (h:=h1)];exact h
theorem ZjY(a b:Zak)(w:World):Calls Tryz.prog 138 #[.agg #[.int .u64 (lo a),.int .u64 (hi a)],.agg #[.int .u64 (lo b),.int .u64 (hi b)]] w fun e w'=>e= .returned (.agg #[.int .u64 (lo (a ||| b)),.int .u64 (hi (a ||| b))])∧Ext w w':=Zfj a b w
theorem ZmM(a:Zak)(v:Int)(w:World):Calls Tryz.prog 113 #[.agg #[.int .u64 (lo a),.int .u64 (hi a)],.int .i64 v] w fun e w'=>e= .returned (.agg #[.int .u64 (lo (ZaA a v)),.int .u64 (hi (ZaA a v))])∧Ext w w':=Zex a v w
theorem Zhr{t:List VN}(w:World)(b o cap:Nat)(h:Zam w b o t)(hc:Zad t=0) :
  Calls Tryz.prog 99 #[.slice (some ⟨b,o,none⟩) t.length cap] w fun e w'=>∃g f,w.heap.size≤g∧e= .returned (.slice (some ⟨g,0,none⟩) t.length t.length)∧ZaN w' g t.length f∧(∀j,j<t.length→ZbE t j (f j))∧Ext w w':=by
 obtain⟨dT,fJ,sc,au,_⟩:=Zar hc
 have dD:∀w:World,(Instr.makeSlice 134 (.int .i64 t.length) (.int .i64 t.length)).run Tryz.prog w= .ok (.slice (some ⟨w.heap.size,0,none⟩) t.length t.length) (w.alloc (.cells (madeCells #[.int .u64 0,.int .u64 0] (t.length*2)) 41)):=fun w=>by
  obtain⟨i,hi,hz,hs,hb⟩:=info_parts (show (Tryz.prog.info? 41).map (fun i=>(i.zero,i.size,i.bytes))=some (some (.agg #[.int .u64 0,.int .u64 0]),2,16) by kernel_rfl);have hr:=run_make (P:=Tryz.prog) w 134 41 i _ Tryz.underlying134 hi hz .i64 .i64 t.length t.length (by omega) (Int.le_refl _) (by rw[hb];omega) (by omega);rw[hs]at hr;simpa [Value.cells] using hr
 have hq:=ZbZ w (some ⟨b,o,none⟩) cap (.inr ⟨b,o,rfl,h⟩);rw[hc]at hq;have ja:=Zpe (Zb8 t 0 _ sc au);replace hc:=Zpe hc;clear au
 go_enter Tryz.func99,Tryz.ntmps99
 go_wp2_with fail;refine hq.mono ?_;rintro e w1 ⟨rfl,aC⟩;clear hq;go_wp2_with fail;have aV:Ext w (w1.alloc (.cells (madeCells #[.int .u64 0,.int .u64 0] (t.length*2)) 41)):=aC.alloc _;have aQ:Hid (Zbj w w1.heap.size t 0 (w1.alloc (.cells (madeCells #[.int .u64 0,.int .u64 0] (t.length*2)) 41))):=Zpe ⟨_,aV,Zlz w1 t.length _ rfl,fun j hj=>by omega,fun j _=>rfl⟩;have dC:=aC.size;clear aV aC;generalize w1.alloc (.cells (madeCells #[.int .u64 0,.int .u64 0] (t.length*2)) 41)=w2 at *;generalize w1.heap.size=g at *
 go_loopw [14] (fun i wr=>∃k:Nat,k≤t.length∧i= .int .i64 k∧Hid (Zbj w g t k wr))
  (fun i _=>t.length - (intOf i).toNat)
 case atStart=>exact⟨0,Nat.zero_le _,rfl,aQ⟩
 case round =>
  clear aQ;obtain⟨k,hk,rfl,hI⟩:=hrel;obtain⟨f,hX,hG,h1,h2⟩:=hI.out;clear hI
  by_cases aE:k<t.length
  ·have dlt:decide ((k:Int)<(t.length:Int))=true:=Zpv (by omega)
   obtain⟨n0,n1,n2⟩:=(h.ext hX).node aE;have gR:=ja.out k aE;have hy:Hid (t[k]? =some t[k]):=Zpe (Zpl aE);generalize t[k]=x at *;obtain⟨xl,xr,xv⟩:=x;simp only[Nat.zero_add]at n0 n1 n2 gR;have aK:=Zpm wr (.cells #[.int .i64 xl,.int .i64 xr,.int .i64 xv] 106);have aC:Ext wr (wr.alloc (.cells #[.int .i64 xl,.int .i64 xr,.int .i64 xv] 106)):=(Ext.refl wr).alloc _;have nF:=Zpe (hX.trans aC);have rD:=Zpe (hG.ext aC);obtain⟨b0,b1,b2⟩:=Zl6 aK;replace h1:=Zpe h1;replace h2:=Zpe h2;clear hG hX aK aC;go_wp2_with fail;generalize wr.alloc (.cells #[.int .i64 xl,.int .i64 xr,.int .i64 xv] 106)=w3 at *;generalize wr.heap.size=px at *;refine(ZdN ⟨xl,xr,xv⟩ w3).mono ?_;rintro e w4 ⟨rfl,ah⟩;have ek:=Zpe (rD.out.ext ah);have mK:=Zpe (nF.out.trans ah);have c0:=ah.cell b0;have c1:=ah.cell b1;have c2:=ah.cell b2;clear b0 b1 b2 n0 n1 n2 rD nF ah;have xA:(0:Int)≤k:=by omega
   cases aI:Zaj ⟨xl,xr,xv⟩
   ·obtain⟨_,l0,l1,r0,r1,aH⟩:=gR aI
    clear gR;obtain⟨ln,rfl⟩:∃n:Nat,xl=n:=⟨xl.toNat,by omega⟩;obtain⟨rn,rfl⟩:∃n:Nat,xr=n:=⟨xr.toNat,by omega⟩;have q0:(0:Int)≤ln:=by omega
    have q1:(ln:Int)<t.length:=by omega
    have q2:(0:Int)≤rn:=by omega
    have q3:(rn:Int)<t.length:=by omega
    have q4:(k:Int)<t.length:=by omega
    have hm:Hid (ZbE t k (f ln ||| f rn)):=Zpe (ZfG hc.out hy.out aI rfl rfl (h1.out ln (by omega)) (h1.out rn (by omega)));have l6:=ek.out.same (w':=w4.drew) rfl;obtain⟨⟨s1,s2⟩,_⟩:=l6.cell (j:=ln) (by omega);obtain⟨⟨s3,s4⟩,_⟩:=l6.cell (j:=rn) (by omega);have d0:w4.drew.cell? ⟨px,0,none⟩=some (.int .i64 ln):=c0;have d1:w4.drew.cell? ⟨px,1,none⟩=some (.int .i64 rn):=c1;generalize wv:f ln=fa at *;generalize iQ:f rn=fb at *;have qY:=fun W=>ZjY fa fb W
    clear aI;replace l6:=Zpe l6;have wG:=Zpe mK.out.drew;clear c0 c1 c2;go_wp2_with fail;(refine wp_region_held_drew (S:=(fun W=>(W.cell? ⟨px,0,none⟩=some (.int .i64 ln)∧W.cell? ⟨px,1,none⟩=some (.int .i64 rn))∧(W.cell? ⟨g,ln*2,none⟩=some (.int .u64 (lo fa))∧W.cell? ⟨g,ln*2+1,none⟩=some (.int .u64 (hi fa)))∧W.cell? ⟨g,rn*2,none⟩=some (.int .u64 (lo fb))∧W.cell? ⟨g,rn*2+1,none⟩=some (.int .u64 (hi fb)))) (by kernel_rfl) ?_ (fun aA=>?_))
    ·exact⟨⟨d0,d1⟩,⟨s1,s2⟩,s3,s4⟩
    (refine ZpE (i:=0) (v:=?_) rfl (by kernel_rfl) (fun _ _ _ h=>h) (Or.inl ⟨by rfl,?_⟩) (by assumption) ?_);rotate_left
    ·(intro w aB;(try dsimp only at aB);go_simp;first|done|with_reducible rfl)
    (try simp only[Act.put,Zpf,Zpg,Zph]);(refine ZpE (i:=1) (v:=?_) rfl (by kernel_rfl) (fun _ _ _ h=>h) (Or.inl ⟨by rfl,?_⟩) (by assumption) ?_);rotate_left
    ·(intro w aB;(try dsimp only at aB);go_simp;first|done|with_reducible rfl)
    (try simp only[Act.put,Zpf,Zpg,Zph]);(refine ZpE (i:=2) (v:=?_) rfl (by kernel_rfl) (fun _ _ _ h=>h) (Or.inl ⟨by rfl,?_⟩) (by assumption) ?_);rotate_left
    ·(intro w aB;(try dsimp only at aB);go_simp;first|done|with_reducible rfl)
    (try simp only[Act.put,Zpf,Zpg,Zph]);(refine ZpE (i:=3) (v:=?_) rfl (by kernel_rfl) (fun _ _ _ h=>h) (Or.inl ⟨by rfl,?_⟩) (by assumption) ?_);rotate_left
    ·(intro w aB;(try dsimp only at aB);go_simp;first|done|with_reducible rfl)
    (try simp only[Act.put,Zpf,Zpg,Zph]);(refine ZpE (i:=4) (v:=?_) rfl (by kernel_rfl) (fun _ _ _ h=>h) (Or.inl ⟨by rfl,?_⟩) (by assumption) ?_);rotate_left
    ·(intro w aB;(try dsimp only at aB);go_simp;first|done|with_reducible rfl)
    (try simp only[Act.put,Zpf,Zpg,Zph]);(refine ZpE (i:=5) (v:=?_) rfl (by kernel_rfl) (fun _ _ _ h=>h) (Or.inl ⟨by rfl,?_⟩) (by assumption) ?_);rotate_left
    ·(intro w aB;(try dsimp only at aB);go_simp;first|done|with_reducible rfl)
    (try simp only[Act.put,Zpf,Zpg,Zph]);(refine ZpE (i:=6) (v:=?_) rfl (by kernel_rfl) (fun _ _ _ h=>h) (Or.inl ⟨by rfl,?_⟩) (by assumption) ?_);rotate_left
    ·(intro w aB;(try dsimp only at aB);go_simp;first|done|with_reducible rfl)
    (try simp only[Act.put,Zpf,Zpg,Zph]);(refine ZpE (i:=7) (v:=?_) rfl (by kernel_rfl) (fun _ _ _ h=>h) (Or.inl ⟨by rfl,?_⟩) (by assumption) ?_);rotate_left
    ·(intro w aB;(try dsimp only at aB);go_simp;first|done|with_reducible rfl)
    (try simp only[Act.put,Zpf,Zpg,Zph]);(refine ZpE (i:=8) (v:=?_) rfl (by kernel_rfl) (fun _ _ _ h=>h) (Or.inl ⟨by rfl,?_⟩) (by assumption) ?_);rotate_left
    ·(intro w aB;(try dsimp only at aB);go_simp;first|done|with_reducible rfl)
    (try simp only[Act.put,Zpf,Zpg,Zph]);(refine ZpE (i:=9) (v:=?_) rfl (by kernel_rfl) (fun _ _ _ h=>h) (Or.inl ⟨by rfl,?_⟩) (by assumption) ?_);rotate_left
    ·(intro w aB;(try dsimp only at aB);go_simp;first|done|with_reducible rfl)
    (try simp only[Act.put,Zpf,Zpg,Zph]);(refine ZpE (i:=10) (v:=?_) rfl (by kernel_rfl) (fun _ _ _ h=>h) (Or.inl ⟨by rfl,?_⟩) (by assumption) ?_);rotate_left
    ·(intro w aB;(try dsimp only at aB);go_simp;first|done|with_reducible rfl)
    (try simp only[Act.put,Zpf,Zpg,Zph]);(refine ZpE (i:=11) (v:=?_) rfl (by kernel_rfl) (fun _ _ _ h=>h) (Or.inl ⟨by rfl,?_⟩) (by assumption) ?_);rotate_left
    ·(intro w aB;(try dsimp only at aB);go_simp;first|done|with_reducible rfl)
    (try simp only[Act.put,Zpf,Zpg,Zph]);(refine wpAnyH_ready (rs:=[12]) (by kernel_rfl) (by simp) ?_);(refine Zaw rfl (fun K hK=>?_))
    ((rw[if_pos (by rfl)]);go_simp;(go_at_call 138);refine(qY _).mono ?_;rintro e w6 ⟨rfl,eX⟩;refine hK.out _ _ ⟨⟨eX.cell d0,eX.cell d1⟩,⟨eX.cell s1,eX.cell s2⟩,eX.cell s3,eX.cell s4⟩ (fun aA=>?_))
    (clear hK K)
    (try simp only[Act.put,Zpf,Zpg,Zph]);have i6:=l6.out.ext eX;have wF:=Zpe (wG.out.trans eX);obtain⟨⟨z1,z2⟩,z3,z4⟩:=i6.cell aE;have iS:ln≠k:=by omega
    have eo:rn≠k:=by omega
    have kM:g≠px:=fun e=>by
     obtain⟨c,e1,e2,e3⟩:=i6;have d:=eX.cell d0;have:=(e3 k aE).1;rw[←e]at d;have d':=(e3 0 (by omega)).1;rw[World.cell?,e1]at d;simp at d;rw[Nat.zero_mul]at d';rw[d']at d;cases d
    (refine ZpE (i:=13) (v:=?_) rfl (by kernel_rfl) (fun _ _ _ h=>h) (Or.inl ⟨by rfl,?_⟩) (by assumption) ?_);rotate_left
    ·(intro w aB;(try dsimp only at aB);go_simp;first|done|with_reducible rfl)
    (try simp only[Act.put,Zpf,Zpg,Zph]);have ac:=Zpe (Zbj.round (wr:=w6) wF.out i6 h1.out h2.out dC hm.out)
    have aW:Hid (∀(v1 v2:Value),(fun W:World=>(W.cell? ⟨px,0,none⟩=some (.int .i64 ln)∧W.cell? ⟨px,1,none⟩=some (.int .i64 rn))∧(W.cell? ⟨g,ln*2,none⟩=some (.int .u64 (lo fa))∧W.cell? ⟨g,ln*2+1,none⟩=some (.int .u64 (hi fa)))∧W.cell? ⟨g,rn*2,none⟩=some (.int .u64 (lo fb))∧W.cell? ⟨g,rn*2+1,none⟩=some (.int .u64 (hi fb))) ((w6.setCell ⟨g,k*2,none⟩ v1).setCell ⟨g,k*2+1,none⟩ v2)):=Zpe fun v1 v2 =>
     ⟨⟨ZcP (eX.cell d0) (by simp[kM]) (by simp[kM]),ZcP (eX.cell d1) (by simp[kM]) (by simp[kM])⟩,⟨ZcP (eX.cell s1) (by simp <;> omega) (by simp <;> omega),ZcP (eX.cell s2) (by simp <;> omega) (by simp <;> omega)⟩,ZcP (eX.cell s3) (by simp <;> omega) (by simp <;> omega),ZcP (eX.cell s4) (by simp <;> omega) (by simp <;> omega)⟩
    (refine wpAnyH_ready (rs:=[14]) (by kernel_rfl) (by simp) ?_);(refine Zaw rfl (fun K hK=>?_))
    ((rw[if_pos (by rfl)]);go_simp;refine hK.out _ _ (aW.out _ _) (fun aA=>?_))
    (clear hK K)
    (try simp only[Act.put,Zpf,Zpg,Zph]);(refine wpAnyH_done (by kernel_rfl) ?_ _);go_wp2_with fail;go_roundw
    case rel=>exact⟨k+1,by omega,by go_num,ac⟩
    case measure=>simp[intOf];omega
   ·clear gR
    have hm:Hid (ZbE t k (ZaA 0 xv)):=Zpe (ZfF hc.out hy.out aI);have q4:(k:Int)<t.length:=by omega
    have l6:=ek.out.same (w':=w4.drew) rfl;obtain⟨⟨s1,s2⟩,_⟩:=l6.cell aE;rw[h2.out k (ZpD _)]at s1 s2;have d2:w4.drew.cell? ⟨px,2,none⟩=some (.int .i64 xv):=c2;have qY:=fun W=>ZmM 0 xv W
    clear aI;replace l6:=Zpe l6;have wG:=Zpe mK.out.drew;clear c0 c1 c2;go_wp2_with fail;(refine wp_region_held_drew (S:=(fun _=>True)) (by kernel_rfl) ?_ (fun aA=>?_))
    ·trivial
    have hT:True:=trivial;(refine ZpE (i:=0) (v:=?_) rfl (by kernel_rfl) (fun _ _ _ h=>h) (Or.inl ⟨by rfl,?_⟩) (by assumption) ?_);rotate_left
    ·(intro w aB;(try dsimp only at aB);go_simp;first|done|with_reducible rfl)
    (try simp only[Act.put,Zpf,Zpg,Zph]);(refine ZpE (i:=1) (v:=?_) rfl (by kernel_rfl) (fun _ _ _ h=>h) (Or.inl ⟨by rfl,?_⟩) (by assumption) ?_);rotate_left
    ·(intro w aB;(try dsimp only at aB);go_simp;first|done|with_reducible rfl)
    (try simp only[Act.put,Zpf,Zpg,Zph]);(refine ZpE (i:=2) (v:=?_) rfl (by kernel_rfl) (fun _ _ _ h=>h) (Or.inl ⟨by rfl,?_⟩) (by assumption) ?_);rotate_left
    ·(intro w aB;(try dsimp only at aB);go_simp;first|done|with_reducible rfl)
    (try simp only[Act.put,Zpf,Zpg,Zph]);(refine ZpE (i:=3) (v:=?_) rfl (by kernel_rfl) (fun _ _ _ h=>h) (Or.inl ⟨by rfl,?_⟩) (by assumption) ?_);rotate_left
    ·(intro w aB;(try dsimp only at aB);go_simp;first|done|with_reducible rfl)
    (try simp only[Act.put,Zpf,Zpg,Zph]);(refine ZpE (i:=4) (v:=?_) rfl (by kernel_rfl) (fun _ _ _ h=>h) (Or.inl ⟨by rfl,?_⟩) (by assumption) ?_);rotate_left
    ·(intro w aB;(try dsimp only at aB);go_simp;first|done|with_reducible rfl)
    (try simp only[Act.put,Zpf,Zpg,Zph]);(refine ZpE (i:=6) (v:=?_) rfl (by kernel_rfl) (fun _ _ _ h=>h) (Or.inl ⟨by rfl,?_⟩) (by assumption) ?_);rotate_left
    ·(intro w aB;(try dsimp only at aB);go_simp;first|done|with_reducible rfl)
    (try simp only[Act.put,Zpf,Zpg,Zph]);(refine wpAnyH_ready (rs:=[5,7]) (by kernel_rfl) (by simp) ?_);(refine Ziy rfl rfl (fun K hK=>?_) (fun K hK=>?_));(rw[if_pos (by rfl)]);go_simp;(refine hK.out _ _ trivial (fun hT=>?_))
    (clear hT hK K)
    (try simp only[Act.put,Zpf,Zpg,Zph]);(refine wpAnyH_ready (rs:=[7]) (by kernel_rfl) (by simp) ?_);(refine Zaw rfl (fun K hK=>?_));(rw[if_pos (by rfl)]);go_simp;(refine hK.out _ _ trivial (fun hT=>?_))
    (clear hT hK K)
    (try simp only[Act.put,Zpf,Zpg,Zph]);refine ?hRest1;rotate_left;(rw[if_pos (by rfl)]);go_simp;(refine hK.out _ _ trivial (fun hT=>?_))
    (clear hT hK K)
    (try simp only[Act.put,Zpf,Zpg,Zph]);(refine wpAnyH_ready (rs:=[5]) (by kernel_rfl) (by simp) ?_);(refine Zaw rfl (fun K hK=>?_));(rw[if_pos (by rfl)]);go_simp;(refine hK.out _ _ trivial (fun hT=>?_))
    (clear hT hK K)
    (try simp only[Act.put,Zpf,Zpg,Zph]);exact ?hRest1;(refine wpAnyH_ready (rs:=[8]) (by kernel_rfl) (by simp) ?_);(refine Zaw rfl (fun K hK=>?_))
    ((rw[if_pos (by rfl)]);go_simp;(go_at_call 113);refine(qY _).mono ?_;rintro e w6 ⟨rfl,eX⟩;refine hK.out _ _ trivial (fun hT=>?_))
    (clear hK K)
    (try simp only[Act.put,Zpf,Zpg,Zph]);have i6:=l6.out.ext eX;have wF:=Zpe (wG.out.trans eX);obtain⟨⟨z1,z2⟩,z3,z4⟩:=i6.cell aE;(refine ZpE (i:=9) (v:=?_) rfl (by kernel_rfl) (fun _ _ _ h=>h) (Or.inl ⟨by rfl,?_⟩) (by assumption) ?_);rotate_left
    ·(intro w aB;(try dsimp only at aB);go_simp;first|done|with_reducible rfl)
    (try simp only[Act.put,Zpf,Zpg,Zph]);have ac:=Zpe (Zbj.round (wr:=w6) wF.out i6 h1.out h2.out dC hm.out);clear hT;(refine wpAnyH_ready (rs:=[10]) (by kernel_rfl) (by simp) ?_);(refine Zaw rfl (fun K hK=>?_))
    ((rw[if_pos (by rfl)]);go_simp;refine hK.out _ _ trivial (fun hT=>?_))
    (clear hK K)
    (try simp only[Act.put,Zpf,Zpg,Zph]);(refine wpAnyH_done (by kernel_rfl) ?_ _);go_wp2_with fail;go_roundw
    case rel=>exact⟨k+1,by omega,by go_num,ac⟩
    case measure=>simp[intOf];omega
  ·have dlt:decide ((k:Int)<(t.length:Int))=false:=Zpu (by omega)
   obtain rfl:k=t.length:=by omega
   replace hG:=Zpe hG;replace hX:=Zpe hX;replace h1:=Zpe h1;go_wp2_with fail;go_ret;exact⟨g,f,dC,rfl,hG.out,h1.out,hX.out⟩
end Go.Proofs.YtmnjakejhbpkoaaGreatDoor
namespace Go.Proofs.YtmnjakejhbpkoaaGreatDoor
open Go Go.RowKit Go.Shelf
theorem Zoy(x y a b:Int)(w:World):(Op.equalIn 10000 41 (.agg #[.int .u64 x,.int .u64 y]) (.agg #[.int .u64 a,.int .u64 b])).run Tryz.prog w= .ok (decide (x=a) && decide (y=b)) w:=by
 obtain⟨i0,cX,_,_,_⟩:=info_parts (show (Tryz.prog.info? 39).map (fun i=>(i.zero,i.size,i.bytes))=some (some (.int .u64 0),1,8) by kernel_rfl);rw[run_equalIn_array w 9999 _ _ Tryz.underlying41 cX];have hc:Tryz.prog.cellsOf 39=1:=by kernel_rfl
 rw[hc,show List.range 2=[0,1] from rfl];simp[Op.eqItems,go_sem,Tryz.underlying39]
 by_cases h1:x=a <;> by_cases h2:y=b <;> simp[h1,h2]
theorem Zi5{t:List VN}(w:World)(b o cap:Nat)(h:Zam w b o t)(hc:Zad t=0) :
  Calls Tryz.prog 150 #[.slice (some ⟨b,o,none⟩) t.length cap] w fun e w'=>∃m,e= .returned (.agg #[.int .u64 (lo m),.int .u64 (hi m)])∧ZbE t (t.length - 1) m∧Below w.heap.size w w':=by
 obtain⟨dT,fJ,_⟩:=Zar hc;obtain⟨n,hn⟩:∃n,t.length=n+1:=⟨t.length - 1,by omega⟩;have d0:((t.length:Int) ==0)=false:=beq_eq_false_iff_ne.2 (by omega);have p7:IntKind.i64.wrap ((t.length:Int) - 1)=(n:Int):=by rw[hn];rw[IntWalk.i64_in _ (by omega)];omega
 have g0:(0:Int)≤n:=by omega
 have g1:(n:Int)<t.length:=by omega
 have aS:=(Zpr w.heap.size w).alloc (ZpD _) (.cells #[.int .u64 0,.int .u64 0] 41);have ao:=Zpm w (.cells #[.int .u64 0,.int .u64 0] 41);have q:=Zhr (cap:=cap) _ b o (h.below aS) hc;replace aS:=Zpe aS;replace ao:=Zpe ao;rw[show t.length - 1=n by omega];replace hn:=Zpe hn
 go_enter Tryz.func150,Tryz.ntmps150
 go_wp2_with fail;generalize w.alloc (.cells #[.int .u64 0,.int .u64 0] 41)=w1 at *;refine q.mono ?_;rintro e w2 ⟨g,f,hg,rfl,hS,hf,aF⟩;obtain⟨⟨s1,s2⟩,_⟩:=hS.cell (j:=n) (by have:=hn.out;omega);have hm:=Zpe (hf n (by have:=hn.out;omega));have jb:w2.heap[w.heap.size]? =_:=(aF.below.block _ (Zpi ao.out).1).trans ao.out;obtain⟨y0,y1⟩:=Zae jb;have z0:w2.frozen? ⟨w.heap.size,0,none⟩=false:=by simp[World.frozen?,jb]
 have z1:w2.frozen? ⟨w.heap.size,1,none⟩=false:=by simp[World.frozen?,jb]
 generalize aV:lo (f n)=x0 at *;generalize aC:hi (f n)=x1 at *;obtain⟨r0,r1⟩:=Zae (Zav jb (.int .u64 x0) (.int .u64 x1));have lZ:Below w.heap.size w ((w2.setCell ⟨w.heap.size,0,none⟩ (.int .u64 x0)).setCell ⟨w.heap.size,1,none⟩ (.int .u64 x1)):=((aS.out.trans (aF.below.mono aS.out.size)).setCell (ZpD _) _).setCell (ZpD _) _;replace hf:=Zpe hf;replace jb:=Zpe jb;replace aF:=Zpe aF;replace hS:=Zpe hS;replace lZ:=Zpe lZ;clear q;go_wp2_with fail;exact bodyPost_ret (v:=.agg #[.int .u64 x0,.int .u64 x1]) (by simp[results,Tryz.results150,go_sem,r0,r1]) rfl ⟨f n,by rw[aV,aC],hm.out,lZ.out⟩
theorem Zem{t:List VN}(hc:Zad t=0)(v:Int):L.Bel t (t.length - 1) v↔Zbm t v :=
 ⟨fun ⟨u,y,h1,h2,h3,_⟩=>⟨u,y,h1,h2,h3⟩,fun ⟨u,y,h1,h2,h3⟩=>⟨u,y,h1,h2,h3,L.Und.root hc t.length u (Zpj h1).1 (by omega)⟩⟩
theorem Zfi{W:World}{t:List VN}{ba:Option Addr}(hc:Zad t=0)(h:t=[]∨∃b o,ba=some ⟨b,o,none⟩∧Zam W b o t):∃b o,ba=some ⟨b,o,none⟩∧Zam W b o t :=
 h.resolve_left (fun e=>by have:=(Zar hc).1;rw[e]at this;simp at this)
end Go.Proofs.YtmnjakejhbpkoaaGreatDoor
