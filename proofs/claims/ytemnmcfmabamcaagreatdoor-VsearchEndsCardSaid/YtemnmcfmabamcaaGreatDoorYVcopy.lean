import Derived.Test.YtemnmcfmabamcaaGreatDoorYMade
set_option linter.unusedSimpArgs false
set_option linter.unusedVariables false
set_option maxRecDepth 100000
set_option maxHeartbeats 4000000
namespace Go.Proofs.YtemnmcfmabamcaaGreatDoor
open Go Go.RowKit Go.Shelf
def ZdS (t:List VN)(j:Nat)(m:Zax):Prop:=∀i,i<128→(m.getLsbD i=true↔L.Bel t j ((i:Int)+1))
theorem ZdS.iff{t u:List VN}{j k:Nat}{m n:Zax}(h:ZdS t j m)(g:ZdS u k n):m=n↔∀v,L.Bel t j v↔L.Bel u k v:=by
 constructor
 ·rintro rfl v
  by_cases hv:1≤v∧v≤128
  ·have h1:=h (v - 1).toNat (by omega)
   have h2:=g (v - 1).toNat (by omega);rw[show (((v - 1).toNat:Nat):Int)+1=v by omega]at h1 h2;exact h1.symm.trans h2
  ·exact⟨fun hb=>(hv hb.range).elim,fun hb=>(hv hb.range).elim⟩
 ·intro hh
  refine BitVec.eq_of_getLsbD_eq fun i hi=>?_
  rw[Bool.eq_iff_iff,h i hi,g i hi];exact hh _
def ZbH (w:World)(b:Nat)(n:Nat)(f:Nat→Zax):Prop:=∃c,w.heap[b]? =some (.cells c 82 (0,0))∧c.size=n*2∧∀j,j<n→c[j*2]? =some (.int .u64 (lo (f j)))∧c[j*2+1]? =some (.int .u64 (hi (f j)))
section
variable {w w':World}{b n:Nat}{f:Nat→Zax}
theorem ZbH.cell(h:ZbH w b n f){j:Nat}(hj:j<n):(w.cell? ⟨b,j*2,none⟩=some (.int .u64 (lo (f j)))∧w.cell? ⟨b,j*2+1,none⟩=some (.int .u64 (hi (f j))))∧w.frozen? ⟨b,j*2,none⟩=false∧w.frozen? ⟨b,j*2+1,none⟩=false:=by
 obtain⟨c,h1,h2,h3⟩:=h;obtain⟨h4,h5⟩:=h3 j hj;simp[World.cell?,World.frozen?,h1,h4,h5]
theorem ZbH.same(h:ZbH w b n f)(hs:w'.heap[b]? =w.heap[b]?):ZbH w' b n f:=by
 obtain⟨c,h1,h2,h3⟩:=h;exact⟨c,hs.trans h1,h2,h3⟩
theorem ZbH.lt(h:ZbH w b n f):b<w.heap.size:=by
 obtain⟨c,h1,h2,h3⟩:=h;exact(Zrv h1).1
theorem ZbH.ext(h:ZbH w b n f)(hs:Ext w w'):ZbH w' b n f:=h.same (hs.below.block b h.lt)
def Zk1 (f:Nat→Zax)(i:Nat)(m:Zax):Nat→Zax:=fun j=>if j=i then m else f j
theorem ZbH.set(h:ZbH w b n f)(i:Nat)(m:Zax):ZbH ((w.setCell ⟨b,i*2,none⟩ (.int .u64 (lo m))).setCell ⟨b,i*2+1,none⟩ (.int .u64 (hi m))) b n (Zk1 f i m):=by
 obtain⟨c,h1,h2,h3⟩:=h;refine⟨_,Zaj (Zaj h1 _ _) _ _,by simpa using h2,fun j hj=>?_⟩;obtain⟨h4,h5⟩:=h3 j hj
 by_cases iD:j=i
 ·subst iD
  simp only[Zk1,if_pos]
  constructor
  ·rw[Array.getElem?_setIfInBounds,if_neg (by omega),Array.getElem?_setIfInBounds,if_pos rfl,if_pos (by omega)]
  ·rw[Array.getElem?_setIfInBounds,if_pos rfl,if_pos (by simp;omega)]
 ·simp only[Zk1,if_neg iD]
  constructor
  ·rw[Array.getElem?_setIfInBounds,if_neg (by omega),Array.getElem?_setIfInBounds,if_neg (by omega)];exact h4
  ·rw[Array.getElem?_setIfInBounds,if_neg (by omega),Array.getElem?_setIfInBounds,if_neg (by omega)];exact h5
end
theorem Zp0(w:World)(n:Nat)(ad:Nat)(ha:ad=w.heap.size):ZbH (w.alloc (.cells (madeCells #[.int .u64 0,.int .u64 0] (n*2)) 82)) ad n (fun _=>0):=by
 refine⟨_,Zaq w _ ad ha,by simp[madeCells],fun j hj=>?_⟩;have e0:(j*2) % 2=0:=by omega
 have e1:(j*2+1) % 2=1:=by omega
 have l0:j*2<n*2:=by omega
 have l1:j*2+1<n*2:=by omega
 constructor
 ·simp[madeCells,l0,e0,lo]
 ·simp[madeCells,l1,e1,hi]
def Zgg (w:World)(g:Nat)(t:List VN)(k:Nat)(wr:World):Prop:=∃f:Nat→Zax,Ext w wr∧ZbH wr g t.length f∧(∀j,j<k→ZdS t j (f j))∧∀j,k≤j→f j=0
theorem Zgg.round{w wr w':World}{g k:Nat}{t:List VN}{f:Nat→Zax}{m:Zax}(hX:Ext w w')(hG:ZbH w' g t.length f)(h1:∀j,j<k→ZdS t j (f j))(h2:∀j,k≤j→f j=0)(hg:w.heap.size≤g)(hm:ZdS t k m) :
  Zgg w g t (k+1) ((w'.setCell ⟨g,k*2,none⟩ (.int .u64 (lo m))).setCell ⟨g,k*2+1,none⟩ (.int .u64 (hi m))):=by
 refine⟨_,(hX.setCell (by simpa using hg) _).setCell (by simpa using hg) _,hG.set k m,fun j hj=>?_,fun j hj=>?_⟩
 ·by_cases e:j=k
  ·subst e;simpa [Zk1] using hm
  ·simpa [Zk1,e] using h1 j (by omega)
 ·have e:j≠k:=by omega
  simpa [Zk1,e] using h2 j (by omega)
theorem ZkB{t:List VN}(hc:Zae t=0){k:Nat}{y:VN}(hy:t[k]? =some y)(hl:Zai y=true):ZdS t k (Zb8 0 y.var):=fun i hi=>by
 rw[ZdV _ _ _ hi,L.Bel.leaf hc hy hl];simp[eq_comm]
theorem ZkC{t:List VN}(hc:Zae t=0){k a b:Nat}{y:VN}{m n:Zax}(hy:t[k]? =some y)(hl:Zai y=false)(ha:y.left=a)(hb:y.right=b)(h1:ZdS t a m)(h2:ZdS t b n):ZdS t k (m ||| n):=fun i hi=>by
 rw[L.Bel.kids hc hy hl ha hb,BitVec.getLsbD_or,Bool.or_eq_true,h1 i hi,h2 i hi]
theorem Zdk{w:World}{a1 a2 p:Addr}{v1 v2 u:Value}(h:w.cell? p=some u)(h1:a1≠p)(h2:a2≠p):((w.setCell a1 v1).setCell a2 v2).cell? p=some u:=by
 rw[World.cell?_setCell_other (h:=h2),World.cell?_setCell_other (h:=h1)];exact h
theorem Zk7(a b:Zax)(w:World):Calls Tryz.prog 117 #[.agg #[.int .u64 (lo a),.int .u64 (hi a)],.agg #[.int .u64 (lo b),.int .u64 (hi b)]] w fun e w'=>e= .returned (.agg #[.int .u64 (lo (a ||| b)),.int .u64 (hi (a ||| b))])∧Ext w w':=Zf0 a b w
theorem ZoJ(a:Zax)(v:Int)(w:World):Calls Tryz.prog 116 #[.agg #[.int .u64 (lo a),.int .u64 (hi a)],.int .i64 v] w fun e w'=>e= .returned (.agg #[.int .u64 (lo (Zb8 a v)),.int .u64 (hi (Zb8 a v))])∧Ext w w':=Zkc a v w
theorem Znh{t:List VN}(w:World)(b o cap:Nat)(h:Zag w b o t)(hc:Zae t=0) :
  Calls Tryz.prog 88 #[.slice (some ⟨b,o,none⟩) t.length cap] w fun e w'=>∃g f,w.heap.size≤g∧e= .returned (.slice (some ⟨g,0,none⟩) t.length t.length)∧ZbH w' g t.length f∧(∀j,j<t.length→ZdS t j (f j))∧Ext w w':=by
 obtain⟨eM,fN,sc,bM,_⟩:=Zam hc
 have iO:∀w:World,(Instr.makeSlice 147 (.int .i64 t.length) (.int .i64 t.length)).run Tryz.prog w= .ok (.slice (some ⟨w.heap.size,0,none⟩) t.length t.length) (w.alloc (.cells (madeCells #[.int .u64 0,.int .u64 0] (t.length*2)) 82)):=fun w=>by
  obtain⟨i,hi,hz,hs,hb⟩:=info_parts (show (Tryz.prog.info? 82).map (fun i=>(i.zero,i.size,i.bytes))=some (some (.agg #[.int .u64 0,.int .u64 0]),2,16) by kernel_rfl);have hr:=run_make (P:=Tryz.prog) w 147 82 i _ Tryz.underlying147 hi hz .i64 .i64 t.length t.length (by omega) (Int.le_refl _) (by rw[hb];omega) (by omega);rw[hs]at hr;simpa [Value.cells] using hr
 have hq:=ZbJ w (some ⟨b,o,none⟩) cap (.inr ⟨b,o,rfl,h⟩);rw[hc]at hq;have fD:=Zrr (Zdw t 0 _ sc bM);replace hc:=Zrr hc;clear bM
 go_enter Tryz.func88,Tryz.ntmps88
 go_wp2_with fail;refine hq.mono ?_;rintro e w1 ⟨rfl,aK⟩;clear hq;go_wp2_with fail;have aW:Ext w (w1.alloc (.cells (madeCells #[.int .u64 0,.int .u64 0] (t.length*2)) 82)):=aK.alloc _;have aY:Hid (Zgg w w1.heap.size t 0 (w1.alloc (.cells (madeCells #[.int .u64 0,.int .u64 0] (t.length*2)) 82))):=Zrr ⟨_,aW,Zp0 w1 t.length _ rfl,fun j hj=>by omega,fun j _=>rfl⟩;have eE:=aK.size;clear aW aK;generalize w1.alloc (.cells (madeCells #[.int .u64 0,.int .u64 0] (t.length*2)) 82)=w2 at *;generalize w1.heap.size=g at *
 go_loopw [14] (fun i wr=>∃k:Nat,k≤t.length∧i= .int .i64 k∧Hid (Zgg w g t k wr))
  (fun i _=>t.length - (intOf i).toNat)
 case atStart=>exact⟨0,Nat.zero_le _,rfl,aY⟩
 case round =>
  clear aY;obtain⟨k,hk,rfl,hI⟩:=hrel;obtain⟨f,hX,hG,h1,h2⟩:=hI.out;clear hI
  by_cases aD:k<t.length
  ·have dlt:decide ((k:Int)<(t.length:Int))=true:=ZrI (by omega)
   obtain⟨n0,n1,n2⟩:=(h.ext hX).node aD;have gD:=fD.out k aD;have hy:Hid (t[k]? =some t[k]):=Zrr (Zry aD);generalize t[k]=x at *;obtain⟨xl,xr,xv⟩:=x;simp only[Nat.zero_add]at n0 n1 n2 gD;have aC:=Zrz wr (.cells #[.int .i64 xl,.int .i64 xr,.int .i64 xv] 78);have aK:Ext wr (wr.alloc (.cells #[.int .i64 xl,.int .i64 xr,.int .i64 xv] 78)):=(Ext.refl wr).alloc _;have yD:=Zrr (hX.trans aK);have hG3:=Zrr (hG.ext aK);obtain⟨b0,b1,b2⟩:=Za5 aC;replace h1:=Zrr h1;replace h2:=Zrr h2;clear hG hX aC aK;go_wp2_with fail;generalize wr.alloc (.cells #[.int .i64 xl,.int .i64 xr,.int .i64 xv] 78)=w3 at *;generalize wr.heap.size=px at *;refine(Zbu ⟨xl,xr,xv⟩ w3).mono ?_;rintro e w4 ⟨rfl,gz⟩;have tf:=Zrr (hG3.out.ext gz);have yE:=Zrr (yD.out.trans gz);have c0:=gz.cell b0;have c1:=gz.cell b1;have c2:=gz.cell b2;clear b0 b1 b2 n0 n1 n2 hG3 yD gz;have hgk0:(0:Int)≤k:=by omega
   cases aI:Zai ⟨xl,xr,xv⟩
   ·obtain⟨_,l0,l1,r0,r1,aJ⟩:=gD aI
    clear gD;obtain⟨ln,rfl⟩:∃n:Nat,xl=n:=⟨xl.toNat,by omega⟩;obtain⟨rn,rfl⟩:∃n:Nat,xr=n:=⟨xr.toNat,by omega⟩;have q0:(0:Int)≤ln:=by omega
    have q1:(ln:Int)<t.length:=by omega
    have q2:(0:Int)≤rn:=by omega
    have q3:(rn:Int)<t.length:=by omega
    have q4:(k:Int)<t.length:=by omega
    have hm:Hid (ZdS t k (f ln ||| f rn)):=Zrr (ZkC hc.out hy.out aI rfl rfl (h1.out ln (by omega)) (h1.out rn (by omega)));have pg:=tf.out.same (w':=w4.drew) rfl;obtain⟨⟨s1,s2⟩,_⟩:=pg.cell (j:=ln) (by omega);obtain⟨⟨s3,s4⟩,_⟩:=pg.cell (j:=rn) (by omega);have d0:w4.drew.cell? ⟨px,0,none⟩=some (.int .i64 ln):=c0;have d1:w4.drew.cell? ⟨px,1,none⟩=some (.int .i64 rn):=c1;generalize hfa:f ln=fa at *;generalize qn:f rn=fb at *;have hun:=fun W=>Zk7 fa fb W
    clear aI;replace pg:=Zrr pg;have hXd:=Zrr yE.out.drew;clear c0 c1 c2;go_wp2_with fail;(refine wp_region_held_drew (S:=(fun W=>(W.cell? ⟨px,0,none⟩=some (.int .i64 ln)∧W.cell? ⟨px,1,none⟩=some (.int .i64 rn))∧(W.cell? ⟨g,ln*2,none⟩=some (.int .u64 (lo fa))∧W.cell? ⟨g,ln*2+1,none⟩=some (.int .u64 (hi fa)))∧W.cell? ⟨g,rn*2,none⟩=some (.int .u64 (lo fb))∧W.cell? ⟨g,rn*2+1,none⟩=some (.int .u64 (hi fb)))) (by kernel_rfl) ?_ (fun aE=>?_))
    ·exact⟨⟨d0,d1⟩,⟨s1,s2⟩,s3,s4⟩
    (refine ZrR (i:=0) (v:=?_) rfl (by kernel_rfl) (fun _ _ _ h=>h) (Or.inl ⟨by rfl,?_⟩) (by assumption) ?_);rotate_left
    ·(intro w aB;(try dsimp only at aB);go_simp;first|done|with_reducible rfl)
    (try simp only[Act.put,Zrs,Zrt,Zru]);(refine ZrR (i:=1) (v:=?_) rfl (by kernel_rfl) (fun _ _ _ h=>h) (Or.inl ⟨by rfl,?_⟩) (by assumption) ?_);rotate_left
    ·(intro w aB;(try dsimp only at aB);go_simp;first|done|with_reducible rfl)
    (try simp only[Act.put,Zrs,Zrt,Zru]);(refine ZrR (i:=2) (v:=?_) rfl (by kernel_rfl) (fun _ _ _ h=>h) (Or.inl ⟨by rfl,?_⟩) (by assumption) ?_);rotate_left
    ·(intro w aB;(try dsimp only at aB);go_simp;first|done|with_reducible rfl)
    (try simp only[Act.put,Zrs,Zrt,Zru]);(refine ZrR (i:=3) (v:=?_) rfl (by kernel_rfl) (fun _ _ _ h=>h) (Or.inl ⟨by rfl,?_⟩) (by assumption) ?_);rotate_left
    ·(intro w aB;(try dsimp only at aB);go_simp;first|done|with_reducible rfl)
    (try simp only[Act.put,Zrs,Zrt,Zru]);(refine ZrR (i:=4) (v:=?_) rfl (by kernel_rfl) (fun _ _ _ h=>h) (Or.inl ⟨by rfl,?_⟩) (by assumption) ?_);rotate_left
    ·(intro w aB;(try dsimp only at aB);go_simp;first|done|with_reducible rfl)
    (try simp only[Act.put,Zrs,Zrt,Zru]);(refine ZrR (i:=5) (v:=?_) rfl (by kernel_rfl) (fun _ _ _ h=>h) (Or.inl ⟨by rfl,?_⟩) (by assumption) ?_);rotate_left
    ·(intro w aB;(try dsimp only at aB);go_simp;first|done|with_reducible rfl)
    (try simp only[Act.put,Zrs,Zrt,Zru]);(refine ZrR (i:=6) (v:=?_) rfl (by kernel_rfl) (fun _ _ _ h=>h) (Or.inl ⟨by rfl,?_⟩) (by assumption) ?_);rotate_left
    ·(intro w aB;(try dsimp only at aB);go_simp;first|done|with_reducible rfl)
    (try simp only[Act.put,Zrs,Zrt,Zru]);(refine ZrR (i:=7) (v:=?_) rfl (by kernel_rfl) (fun _ _ _ h=>h) (Or.inl ⟨by rfl,?_⟩) (by assumption) ?_);rotate_left
    ·(intro w aB;(try dsimp only at aB);go_simp;first|done|with_reducible rfl)
    (try simp only[Act.put,Zrs,Zrt,Zru]);(refine ZrR (i:=8) (v:=?_) rfl (by kernel_rfl) (fun _ _ _ h=>h) (Or.inl ⟨by rfl,?_⟩) (by assumption) ?_);rotate_left
    ·(intro w aB;(try dsimp only at aB);go_simp;first|done|with_reducible rfl)
    (try simp only[Act.put,Zrs,Zrt,Zru]);(refine ZrR (i:=9) (v:=?_) rfl (by kernel_rfl) (fun _ _ _ h=>h) (Or.inl ⟨by rfl,?_⟩) (by assumption) ?_);rotate_left
    ·(intro w aB;(try dsimp only at aB);go_simp;first|done|with_reducible rfl)
    (try simp only[Act.put,Zrs,Zrt,Zru]);(refine ZrR (i:=10) (v:=?_) rfl (by kernel_rfl) (fun _ _ _ h=>h) (Or.inl ⟨by rfl,?_⟩) (by assumption) ?_);rotate_left
    ·(intro w aB;(try dsimp only at aB);go_simp;first|done|with_reducible rfl)
    (try simp only[Act.put,Zrs,Zrt,Zru]);(refine ZrR (i:=11) (v:=?_) rfl (by kernel_rfl) (fun _ _ _ h=>h) (Or.inl ⟨by rfl,?_⟩) (by assumption) ?_);rotate_left
    ·(intro w aB;(try dsimp only at aB);go_simp;first|done|with_reducible rfl)
    (try simp only[Act.put,Zrs,Zrt,Zru]);(refine wpAnyH_ready (rs:=[12]) (by kernel_rfl) (by simp) ?_);(refine ZaW rfl (fun K hK=>?_))
    ((rw[if_pos (by rfl)]);go_simp;(go_at_call 117);refine(hun _).mono ?_;rintro e w6 ⟨rfl,iy⟩;refine hK.out _ _ ⟨⟨iy.cell d0,iy.cell d1⟩,⟨iy.cell s1,iy.cell s2⟩,iy.cell s3,iy.cell s4⟩ (fun aE=>?_))
    (clear hK K)
    (try simp only[Act.put,Zrs,Zrt,Zru]);have vw:=pg.out.ext iy;have hX6:=Zrr (hXd.out.trans iy);obtain⟨⟨z1,z2⟩,z3,z4⟩:=vw.cell aD;have bU:ln≠k:=by omega
    have kp:rn≠k:=by omega
    have oe:g≠px:=fun e=>by
     obtain⟨c,e1,e2,e3⟩:=vw;have d:=iy.cell d0;have:=(e3 k aD).1;rw[←e]at d;have d':=(e3 0 (by omega)).1;rw[World.cell?,e1]at d;simp at d;rw[Nat.zero_mul]at d';rw[d']at d;cases d
    (refine ZrR (i:=13) (v:=?_) rfl (by kernel_rfl) (fun _ _ _ h=>h) (Or.inl ⟨by rfl,?_⟩) (by assumption) ?_);rotate_left
    ·(intro w aB;(try dsimp only at aB);go_simp;first|done|with_reducible rfl)
    (try simp only[Act.put,Zrs,Zrt,Zru]);have aZ:=Zrr (Zgg.round (wr:=w6) hX6.out vw h1.out h2.out eE hm.out)
    have aM:Hid (∀(v1 v2:Value),(fun W:World=>(W.cell? ⟨px,0,none⟩=some (.int .i64 ln)∧W.cell? ⟨px,1,none⟩=some (.int .i64 rn))∧(W.cell? ⟨g,ln*2,none⟩=some (.int .u64 (lo fa))∧W.cell? ⟨g,ln*2+1,none⟩=some (.int .u64 (hi fa)))∧W.cell? ⟨g,rn*2,none⟩=some (.int .u64 (lo fb))∧W.cell? ⟨g,rn*2+1,none⟩=some (.int .u64 (hi fb))) ((w6.setCell ⟨g,k*2,none⟩ v1).setCell ⟨g,k*2+1,none⟩ v2)):=Zrr fun v1 v2 =>
     ⟨⟨Zdk (iy.cell d0) (by simp[oe]) (by simp[oe]),Zdk (iy.cell d1) (by simp[oe]) (by simp[oe])⟩,⟨Zdk (iy.cell s1) (by simp <;> omega) (by simp <;> omega),Zdk (iy.cell s2) (by simp <;> omega) (by simp <;> omega)⟩,Zdk (iy.cell s3) (by simp <;> omega) (by simp <;> omega),Zdk (iy.cell s4) (by simp <;> omega) (by simp <;> omega)⟩
    (refine wpAnyH_ready (rs:=[14]) (by kernel_rfl) (by simp) ?_);(refine ZaW rfl (fun K hK=>?_))
    ((rw[if_pos (by rfl)]);go_simp;refine hK.out _ _ (aM.out _ _) (fun aE=>?_))
    (clear hK K)
    (try simp only[Act.put,Zrs,Zrt,Zru]);(refine wpAnyH_done (by kernel_rfl) ?_ _);go_wp2_with fail;go_roundw
    case rel=>exact⟨k+1,by omega,by go_num,aZ⟩
    case measure=>simp[intOf];omega
   ·clear gD
    have hm:Hid (ZdS t k (Zb8 0 xv)):=Zrr (ZkB hc.out hy.out aI);have q4:(k:Int)<t.length:=by omega
    have pg:=tf.out.same (w':=w4.drew) rfl;obtain⟨⟨s1,s2⟩,_⟩:=pg.cell aD;rw[h2.out k (ZrQ _)]at s1 s2;have d2:w4.drew.cell? ⟨px,2,none⟩=some (.int .i64 xv):=c2;have hun:=fun W=>ZoJ 0 xv W
    clear aI;replace pg:=Zrr pg;have hXd:=Zrr yE.out.drew;clear c0 c1 c2;go_wp2_with fail;(refine wp_region_held_drew (S:=(fun _=>True)) (by kernel_rfl) ?_ (fun aE=>?_))
    ·trivial
    have hT:True:=trivial;(refine ZrR (i:=0) (v:=?_) rfl (by kernel_rfl) (fun _ _ _ h=>h) (Or.inl ⟨by rfl,?_⟩) (by assumption) ?_);rotate_left
    ·(intro w aB;(try dsimp only at aB);go_simp;first|done|with_reducible rfl)
    (try simp only[Act.put,Zrs,Zrt,Zru]);(refine ZrR (i:=1) (v:=?_) rfl (by kernel_rfl) (fun _ _ _ h=>h) (Or.inl ⟨by rfl,?_⟩) (by assumption) ?_);rotate_left
    ·(intro w aB;(try dsimp only at aB);go_simp;first|done|with_reducible rfl)
    (try simp only[Act.put,Zrs,Zrt,Zru]);(refine ZrR (i:=2) (v:=?_) rfl (by kernel_rfl) (fun _ _ _ h=>h) (Or.inl ⟨by rfl,?_⟩) (by assumption) ?_);rotate_left
    ·(intro w aB;(try dsimp only at aB);go_simp;first|done|with_reducible rfl)
    (try simp only[Act.put,Zrs,Zrt,Zru]);(refine ZrR (i:=3) (v:=?_) rfl (by kernel_rfl) (fun _ _ _ h=>h) (Or.inl ⟨by rfl,?_⟩) (by assumption) ?_);rotate_left
    ·(intro w aB;(try dsimp only at aB);go_simp;first|done|with_reducible rfl)
    (try simp only[Act.put,Zrs,Zrt,Zru]);(refine ZrR (i:=4) (v:=?_) rfl (by kernel_rfl) (fun _ _ _ h=>h) (Or.inl ⟨by rfl,?_⟩) (by assumption) ?_);rotate_left
    ·(intro w aB;(try dsimp only at aB);go_simp;first|done|with_reducible rfl)
    (try simp only[Act.put,Zrs,Zrt,Zru]);(refine ZrR (i:=6) (v:=?_) rfl (by kernel_rfl) (fun _ _ _ h=>h) (Or.inl ⟨by rfl,?_⟩) (by assumption) ?_);rotate_left
    ·(intro w aB;(try dsimp only at aB);go_simp;first|done|with_reducible rfl)
    (try simp only[Act.put,Zrs,Zrt,Zru]);(refine wpAnyH_ready (rs:=[5,7]) (by kernel_rfl) (by simp) ?_);(refine ZlG rfl rfl (fun K hK=>?_) (fun K hK=>?_));(rw[if_pos (by rfl)]);go_simp;(refine hK.out _ _ trivial (fun hT=>?_))
    (clear hT hK K)
    (try simp only[Act.put,Zrs,Zrt,Zru]);(refine wpAnyH_ready (rs:=[7]) (by kernel_rfl) (by simp) ?_);(refine ZaW rfl (fun K hK=>?_));(rw[if_pos (by rfl)]);go_simp;(refine hK.out _ _ trivial (fun hT=>?_))
    (clear hT hK K)
    (try simp only[Act.put,Zrs,Zrt,Zru]);refine ?hRest3;rotate_left;(rw[if_pos (by rfl)]);go_simp;(refine hK.out _ _ trivial (fun hT=>?_))
    (clear hT hK K)
    (try simp only[Act.put,Zrs,Zrt,Zru]);(refine wpAnyH_ready (rs:=[5]) (by kernel_rfl) (by simp) ?_);(refine ZaW rfl (fun K hK=>?_));(rw[if_pos (by rfl)]);go_simp;(refine hK.out _ _ trivial (fun hT=>?_))
    (clear hT hK K)
    (try simp only[Act.put,Zrs,Zrt,Zru]);exact ?hRest3;(refine wpAnyH_ready (rs:=[8]) (by kernel_rfl) (by simp) ?_);(refine ZaW rfl (fun K hK=>?_))
    ((rw[if_pos (by rfl)]);go_simp;(go_at_call 116);refine(hun _).mono ?_;rintro e w6 ⟨rfl,iy⟩;refine hK.out _ _ trivial (fun hT=>?_))
    (clear hK K)
    (try simp only[Act.put,Zrs,Zrt,Zru]);have vw:=pg.out.ext iy;have hX6:=Zrr (hXd.out.trans iy);obtain⟨⟨z1,z2⟩,z3,z4⟩:=vw.cell aD;(refine ZrR (i:=9) (v:=?_) rfl (by kernel_rfl) (fun _ _ _ h=>h) (Or.inl ⟨by rfl,?_⟩) (by assumption) ?_);rotate_left
    ·(intro w aB;(try dsimp only at aB);go_simp;first|done|with_reducible rfl)
    (try simp only[Act.put,Zrs,Zrt,Zru]);have aZ:=Zrr (Zgg.round (wr:=w6) hX6.out vw h1.out h2.out eE hm.out);clear hT;(refine wpAnyH_ready (rs:=[10]) (by kernel_rfl) (by simp) ?_);(refine ZaW rfl (fun K hK=>?_))
    ((rw[if_pos (by rfl)]);go_simp;refine hK.out _ _ trivial (fun hT=>?_))
    (clear hK K)
    (try simp only[Act.put,Zrs,Zrt,Zru]);(refine wpAnyH_done (by kernel_rfl) ?_ _);go_wp2_with fail;go_roundw
    case rel=>exact⟨k+1,by omega,by go_num,aZ⟩
    case measure=>simp[intOf];omega
  ·have dlt:decide ((k:Int)<(t.length:Int))=false:=ZrH (by omega)
   obtain rfl:k=t.length:=by omega
   replace hG:=Zrr hG;replace hX:=Zrr hX;replace h1:=Zrr h1;go_wp2_with fail;go_ret;exact⟨g,f,eE,rfl,hG.out,h1.out,hX.out⟩
end Go.Proofs.YtemnmcfmabamcaaGreatDoor
namespace Go.Proofs.YtemnmcfmabamcaaGreatDoor
open Go Go.RowKit Go.Shelf
theorem ZqM(x y a b:Int)(w:World):(Op.equalIn 10000 82 (.agg #[.int .u64 x,.int .u64 y]) (.agg #[.int .u64 a,.int .u64 b])).run Tryz.prog w= .ok (decide (x=a) && decide (y=b)) w:=by
 obtain⟨i0,bz,_,_,_⟩:=info_parts (show (Tryz.prog.info? 80).map (fun i=>(i.zero,i.size,i.bytes))=some (some (.int .u64 0),1,8) by kernel_rfl);rw[run_equalIn_array w 9999 _ _ Tryz.underlying82 bz];have hc:Tryz.prog.cellsOf 80=1:=by kernel_rfl
 rw[hc,show List.range 2=[0,1] from rfl];simp[Op.eqItems,go_sem,Tryz.underlying80]
 by_cases h1:x=a <;> by_cases h2:y=b <;> simp[h1,h2]
theorem Zj8{t:List VN}(w:World)(b o cap:Nat)(h:Zag w b o t)(hc:Zae t=0) :
  Calls Tryz.prog 60 #[.slice (some ⟨b,o,none⟩) t.length cap] w fun e w'=>∃m,e= .returned (.agg #[.int .u64 (lo m),.int .u64 (hi m)])∧ZdS t (t.length - 1) m∧Below w.heap.size w w':=by
 obtain⟨eM,fN,_⟩:=Zam hc;obtain⟨n,hn⟩:∃n,t.length=n+1:=⟨t.length - 1,by omega⟩;have d0:((t.length:Int) ==0)=false:=beq_eq_false_iff_ne.2 (by omega);have rp:IntKind.i64.wrap ((t.length:Int) - 1)=(n:Int):=by rw[hn];rw[IntWalk.i64_in _ (by omega)];omega
 have g0:(0:Int)≤n:=by omega
 have g1:(n:Int)<t.length:=by omega
 have aF:=(ZrE w.heap.size w).alloc (ZrQ _) (.cells #[.int .u64 0,.int .u64 0] 82);have al:=Zrz w (.cells #[.int .u64 0,.int .u64 0] 82);have q:=Znh (cap:=cap) _ b o (h.below aF) hc;replace aF:=Zrr aF;replace al:=Zrr al;rw[show t.length - 1=n by omega];replace hn:=Zrr hn
 go_enter Tryz.func60,Tryz.ntmps60
 go_wp2_with fail;generalize w.alloc (.cells #[.int .u64 0,.int .u64 0] 82)=w1 at *;refine q.mono ?_;rintro e w2 ⟨g,f,hg,rfl,hS,hf,aO⟩;obtain⟨⟨s1,s2⟩,_⟩:=hS.cell (j:=n) (by have:=hn.out;omega);have hm:=Zrr (hf n (by have:=hn.out;omega));have iX:w2.heap[w.heap.size]? =_:=(aO.below.block _ (Zrv al.out).1).trans al.out;obtain⟨y0,y1⟩:=Zah iX;have z0:w2.frozen? ⟨w.heap.size,0,none⟩=false:=by simp[World.frozen?,iX]
 have z1:w2.frozen? ⟨w.heap.size,1,none⟩=false:=by simp[World.frozen?,iX]
 generalize aW:lo (f n)=x0 at *;generalize aK:hi (f n)=x1 at *;obtain⟨r0,r1⟩:=Zah (Zbn iX (.int .u64 x0) (.int .u64 x1));have qM:Below w.heap.size w ((w2.setCell ⟨w.heap.size,0,none⟩ (.int .u64 x0)).setCell ⟨w.heap.size,1,none⟩ (.int .u64 x1)):=((aF.out.trans (aO.below.mono aF.out.size)).setCell (ZrQ _) _).setCell (ZrQ _) _;replace hf:=Zrr hf;replace iX:=Zrr iX;replace aO:=Zrr aO;replace hS:=Zrr hS;replace qM:=Zrr qM;clear q;go_wp2_with fail;exact bodyPost_ret (v:=.agg #[.int .u64 x0,.int .u64 x1]) (by simp[results,Tryz.results60,go_sem,r0,r1]) rfl ⟨f n,by rw[aW,aK],hm.out,qM.out⟩
theorem Zjx{t:List VN}(hc:Zae t=0)(v:Int):L.Bel t (t.length - 1) v↔ZdI t v :=
 ⟨fun ⟨u,y,h1,h2,h3,_⟩=>⟨u,y,h1,h2,h3⟩,fun ⟨u,y,h1,h2,h3⟩=>⟨u,y,h1,h2,h3,L.Und.root hc t.length u (Zrw h1).1 (by omega)⟩⟩
def Zpc (u:List VN)(φ:L.Asg→Bool)(w:World)(e:Ending)(w':World):Prop :=
 ∃(B:Zar) (so:St) (r:Nat),e= .returned (.tuple #[.pointer (some ⟨B.sb,0,none⟩),.int .i64 (r:Nat),.int .i64 0])∧SS u B w' 300000 so w'∧Val so r φ∧(∀j∈B.mut,w.heap.size≤j)∧Below w.heap.size w w'
theorem ZnO{w:World}{t u:List VN}{s:St}{B1:Zar}{k1 root b o cap:Nat}{φ:L.Asg→Bool}(hs:SS t B1 w k1 s w)(hv:Val s root φ)(hu:Zag w b o u)(sW:Zae u=0)(h7:u.length≤7)(gV:∀v,ZdI t v↔ZdI u v)(hT:ZaY w)(hP:Zaz w) :
  Calls Tryz.prog 26 #[.pointer (some ⟨B1.sb,0,none⟩),.int .i64 (root:Nat),.slice (some ⟨b,o,none⟩) u.length cap] w (Zpc u φ w):=by
 have q1:=ZmV hs hv.lt;have bu:=hs.few;have hct:=hs.chk;replace hs:=Zrr hs;replace sW:=Zrr sW;replace hct:=Zrr hct
 go_enter Tryz.func26,Tryz.ntmps26
 go_wp2_with fail;refine q1.mono ?_;rintro e w2 ⟨oo,_,rfl,aL⟩;have qc:=ZbJ w2 (some ⟨b,o,none⟩) cap (.inr ⟨b,o,rfl,hu.below aL⟩);rw[sW.out]at qc;clear q1;go_wp2_with fail;refine qc.mono ?_;rintro e w3 ⟨rfl,aR⟩;have aU:=aL.trans (aR.below.mono aL.size);have qa:=Zj8 w3 b o cap (hu.below aU) sW.out;clear qc;go_wp2_with fail;refine qa.mono ?_;rintro e w4 ⟨m,rfl,hm,aw⟩;have qW:=aU.trans (aw.mono aU.size);have eO:=hs.out.below qW;have mi:=eO.tree;obtain⟨Bh,xh,xn⟩:=eO.held;have qt:=Zhm xh (by rw[mi];omega);rw[xn.sb,mi]at qt;replace hm:=Zrr hm;replace eO:=Zrr eO;clear qa xh xn mi;go_wp2_with fail;refine qt.mono ?_;rintro e w5 ⟨g5,cp5,cs5,rfl,wK,nt,y6,ah⟩;have zu:Zag w5 g5 0 t:=fun j x hj=>by rw[World.cell?,nt];exact y6 j x hj
 have uF:=qW.trans (ah.mono qW.size);have qb:=Zj8 w5 g5 0 cp5 zu hct.out;clear qt nt y6 zu;go_wp2_with fail;refine qb.mono ?_;rintro e w6 ⟨m',rfl,gS,bZ⟩;have je:=uF.trans (bZ.mono uF.size);obtain rfl:m=m':=(hm.out.iff gS).2 fun v=>by rw[Zjx sW.out,Zjx hct.out];exact(gV v).symm
 have wk:=fun W=>ZqM (lo m) (hi m) (lo m) (hi m) W
 obtain⟨B6,ej,du,hs6,_⟩:=(hs.out.below je).here;have qo:=ZjT (cap:=cap) hs6 hv (hu.below je) sW.out h7 (fun v hv=>(gV v).1 hv) (hT.same (je.block _ hT.lt')) (hP.same (je.block _ hP.lt));rw[ej]at qo;generalize lo m=x0 at *;generalize hi m=x1 at *;replace hs6:=Zrr hs6;replace du:=Zrr du;replace je:=Zrr je;clear qb hm gS eO bZ uF qW aU aL;go_wp2_with fail;refine qo.mono ?_;rintro e w7 ⟨B,so,r,rfl,fT,hv7,iM,cq⟩;replace fT:=Zrr fT;clear qo;go_wp2_with fail;go_ret3;exact⟨B,so,r,rfl,fT.out,hv7,fun j hj=>ZrC je.out.size (iM j hj),je.out.trans (cq.mono je.out.size)⟩
theorem Znf{t u:List VN}(w:World)(ba ca:Option Addr)(c c':Nat)(ht:t=[]∨∃b o,ba=some ⟨b,o,none⟩∧Zag w b o t)(hu:u=[]∨∃b o,ca=some ⟨b,o,none⟩∧Zag w b o u)(hl:t.length≤1048576) :
  Calls Tryz.prog 18 #[.slice ba t.length c,.slice ca u.length c'] w fun e w'=>e= .returned (.bool (decide (t=u)))∧Ext w w':=by
 generalize hD:decide (t=u)=D at *;replace hD:=Zrr hD
 by_cases aX:t.length=u.length
 ·have d0:((t.length:Int) !=(u.length:Int))=false:=by simp[aX]
  have pW:u.length=t.length:=aX.symm;replace aX:=Zrr aX;rw[pW];have dn:((t.length:Int) !=(t.length:Int))=false:=by simp
  clear d0;replace pW:=Zrr pW
  go_enter Tryz.func18,Tryz.ntmps18
  go_wp2_with fail;have h0:Hid (Ext w w∧t.take 0=u.take 0):=Zrr ⟨Ext.refl w,rfl⟩
  go_loopw [5] (fun i wr=>∃k:Nat,k≤t.length∧i= .int .i64 (k:Nat)∧Hid (Ext w wr∧t.take k=u.take k)) (fun i _=>t.length - (intOf i).toNat)
  case atStart=>exact⟨0,Nat.zero_le _,rfl,h0⟩
  case round =>
   clear h0;obtain⟨k,hk,rfl,hI⟩:=hrel
   by_cases aD:k<t.length
   ·have dlt:decide ((k:Int)<(t.length:Int))=true:=ZrI (by omega)
    have zC:k<u.length:=by have:=aX.out;omega
    obtain⟨b,o,rfl,hta⟩:=ht.resolve_left (fun e=>by rw[e]at aD;simp at aD);obtain⟨b',o',rfl,hua⟩:=hu.resolve_left (fun e=>by rw[e]at zC;simp at zC);obtain⟨n0,n1,n2⟩:=(hta.ext hI.out.1).node aD;obtain⟨m0,m1,m2⟩:=(hua.ext hI.out.1).node zC;have jQ:t.take (k+1)=t.take k++[t[k]]:=by rw[List.take_add_one,Zry aD];rfl
    have huk:u.take (k+1)=u.take k++[u[k]]:=by rw[List.take_add_one,Zry zC];rfl
    have aJ:t[k]≠u[k]→¬ t=u:=fun h e=>by subst e;exact h rfl
    generalize t[k]=x at *;generalize u[k]=y at *;obtain⟨x1,x2,x3⟩:=x;obtain⟨y1,y2,y3⟩:=y;simp only at n0 n1 n2 m0 m1 m2;have g0:(0:Int)≤k:=by omega
    have g1:(k:Int)<t.length:=by omega
    have hv:∀W,(Op.equalIn 10000 78 (.agg #[.int .i64 x1,.int .i64 x2,.int .i64 x3]) (.agg #[.int .i64 y1,.int .i64 y2,.int .i64 y3])).run Tryz.prog W= .ok (decide (x1=y1) && decide (x2=y2) && decide (x3=y3)) W:=fun W=>Zrm x1 x2 x3 y1 y2 y3 W
    have F1:=Zrr fun (W:World) (hW:Ext wr W)=>And.intro (And.intro (hW.cell n0) (And.intro (hW.cell n1) (hW.cell n2))) (And.intro (hW.cell m0) (And.intro (hW.cell m1) (hW.cell m2)))
    replace jQ:=Zrr jQ;replace huk:=Zrr huk;clear n0 n1 n2 m0 m1 m2
    cases he:(decide (x1=y1) && decide (x2=y2) && decide (x3=y3))
    ·have vv:D=false:=hD.out.symm.trans (ZrH (aJ fun e=>by
      cases e
      simp at he))
     rw[he]at hv;replace he:=Zrr he;replace vv:=Zrr vv;clear aJ;go_wp2_with fail
     (refine Zaf (by kernel_rfl) (by kernel_rfl) ?_
      repeat (refine wpQuiet_step (fun K hK=>?_)
              go_simp
              first
               | (refine hK _ ?_;clear hK K)
               | (replace hK:=Zrr hK
                  apply Exists.intro
                  refine⟨fun wq hq=>?_,hK.out _ ?_⟩
                  ·(obtain⟨⟨f1,f2,f3⟩,f4,f5,f6⟩:=F1.out wq hq)
                   go_simp
                   first
                    | done
                    | rfl
                    | exact⟨rfl,rfl⟩
                    | fail
                  clear hK K))
      refine wpQuiet_nil ?_)
     intro w5 lJ;go_wp2_with fail;go_ret;exact⟨by rw[vv.out];rfl,hI.out.1.trans lJ⟩
    ·rw[he]at hv
     simp only[ZrK,ZrN]at he;obtain⟨⟨rfl,rfl⟩,rfl⟩:=he;clear aJ;go_wp2_with fail
     (refine Zaf (by kernel_rfl) (by kernel_rfl) ?_
      repeat (refine wpQuiet_step (fun K hK=>?_)
              go_simp
              first
               | (refine hK _ ?_;clear hK K)
               | (replace hK:=Zrr hK
                  apply Exists.intro
                  refine⟨fun wq hq=>?_,hK.out _ ?_⟩
                  ·(obtain⟨⟨f1,f2,f3⟩,f4,f5,f6⟩:=F1.out wq hq)
                   go_simp
                   first
                    | done
                    | rfl
                    | exact⟨rfl,rfl⟩
                    | fail
                  clear hK K))
      refine wpQuiet_nil ?_)
     intro w5 lJ;go_wp2_with fail;go_roundw
     case rel=>exact⟨k+1,by omega,by go_num,Zrr ⟨hI.out.1.trans lJ,by rw[jQ.out,huk.out,hI.out.2]⟩⟩
     case measure=>simp[intOf];omega
   ·have dlt:decide ((k:Int)<(t.length:Int))=false:=ZrH (by omega)
    have hDt:=Zrr (hD.out.symm.trans (ZrI (by
     have:=hI.out.2
     rwa [List.take_of_length_le (by omega),List.take_of_length_le (by have:=aX.out;omega)]at this)))
    go_wp2_with fail;go_ret;exact⟨by rw[hDt.out];rfl,hI.out.1⟩
 ·have d0:((t.length:Int) !=(u.length:Int))=true:=by simp;omega
  have vv:D=false:=hD.out.symm.trans (ZrH fun e=>aX (by rw[e]));rw[vv];clear vv
  go_enter Tryz.func18,Tryz.ntmps18
  go_wp2_with fail;go_ret;exact⟨rfl,Ext.refl w⟩
theorem Zkt{t:List VN}(hf:ZnW t=true):t.length≤7∧Zae t=0:=by
 unfold ZnW at hf;simpa only[ZrK,ZrN] using hf
theorem Zm5{W:World}{t:List VN}{ba:Option Addr}(hc:Zae t=0)(h:t=[]∨∃b o,ba=some ⟨b,o,none⟩∧Zag W b o t):∃b o,ba=some ⟨b,o,none⟩∧Zag W b o t :=
 h.resolve_left (fun e=>by have:=(Zam hc).1;rw[e]at this;simp at this)
end Go.Proofs.YtemnmcfmabamcaaGreatDoor
