import Derived.Test.YtemnmcfmabamcaaGreatDoorYVs7
import Derived.Test.YtemnmcfmabamcaaGreatDoorYVq
set_option linter.unusedSimpArgs false
set_option linter.unusedVariables false
set_option maxRecDepth 100000
set_option maxHeartbeats 8000000
namespace Go.Proofs.YtemnmcfmabamcaaGreatDoor
open Go Go.RowKit Go.Shelf
def ZbL:List (Nat × Nat)→List Value
 | []=>[]
 | m :: r=>.int .i64 (m.1:Nat) :: .int .i64 (m.2:Nat) :: ZbL r
theorem ZcH:∀(ms:List (Nat × Nat)) (m:Nat × Nat),ZbL (ms++[m])=ZbL ms++[.int .i64 (m.1:Nat),.int .i64 (m.2:Nat)]
 | [],_=>rfl
 | x :: r,m=>by simp only[ZbL,List.cons_append,ZcH r m]
theorem ZfH:∀(ms:List (Nat × Nat)) (j:Nat) (hj:j<ms.length),(ZbL ms)[j*2]? =some (.int .i64 (ms[j].1:Nat))∧(ZbL ms)[j*2+1]? =some (.int .i64 (ms[j].2:Nat))
 | m :: r,0,_=>⟨rfl,rfl⟩
 | m :: r,j+1,hj=>by
   have:=ZfH r j (by simpa using hj);simp only[ZbL,List.getElem_cons_succ];rw[show (j+1)*2=j*2+1+1 by omega];simpa using this
structure SeI (w0:World) (φ:L.Asg→Bool) (l:List Int) (x:Nat) (s:L.Tr × List (Nat × Nat)) (v:Value) (w:World):Prop where
 bel:Below w0.heap.size w0 w
 st:∃sb r:Nat,Zhq s.1 φ sb r w∧w.heap[x]? =some (.cells (stC sb r (L.sizeTr s.1 l (L.tabO l φ))) 90 (0,0))
 ok:ZbI s.1 l
 row:w.ownsRow w0.heap.size 45 2 v s.2.length (ZbL s.2)
theorem ZmK{w:World}{N sz n:Nat}{e:TypeId}{v:Value}{xs:List Value}(h:w.ownsRow N e sz v n xs):∃ba cp,v= .slice ba n cp:=by
 rcases ZaT h with ⟨e,h0⟩|⟨g,cp,e⟩
 ·exact⟨none,0,by rw[h0];exact e⟩
 ·exact⟨some ⟨g,0,none⟩,cp,e⟩
def ZdT (T:L.Tr)(φ:L.Asg→Bool)(l:List Int)(k:Nat)(w:World)(e:Ending)(w':World):Prop:=∃(sb r:Nat) (v:Value),e= .returned (.tuple #[.pointer (some ⟨sb,0,none⟩),.int .i64 (r:Nat),v,.int .i64 0]) ∧
 Zhq (L.searchT l (L.tabO l φ) (T.post 0).length k (T,[])).1 φ sb r w'∧ZbI (L.searchT l (L.tabO l φ) (T.post 0).length k (T,[])).1 l ∧
 w'.ownsRow w.heap.size 45 2 v (L.searchT l (L.tabO l φ) (T.post 0).length k (T,[])).2.length (ZbL (L.searchT l (L.tabO l φ) (T.post 0).length k (T,[])).2)∧Below w.heap.size w w'
theorem ZbI.pr{T:L.Tr}{l:List Int}(h:ZbI T l):(L.prT T).length≤100000:=by
 have:=L.prT_len T;have:=T.size_vars;have:=h.small;omega
section
variable {w0 w w':World}{φ:L.Asg→Bool}{l:List Int}{x:Nat}{s:L.Tr × List (Nat × Nat)}{v:Value}
theorem SeI.below(h:SeI w0 φ l x s v w)(hb:Below w.heap.size w w'):SeI w0 φ l x s v w':=by
 obtain⟨sb,r,h1,h2⟩:=h.st;exact⟨h.bel.trans (hb.mono h.bel.size),⟨sb,r,h1.below hb,(hb.block _ (Zrv h2).1).trans h2⟩,h.ok,Zaa h.row fun k hk=>hb.block k (Zap h.row hk).1⟩
theorem SeI.store{U:L.Tr}{sbU rU:Nat}(h:SeI w0 φ l x s v w)(hU:ZbI U l)(hS:Zhq U φ sbU rU w)(hx:w0.heap.size≤x)(hg:Zdm<w0.heap.size∧gTz<w0.heap.size) :
  SeI w0 φ l x (U,s.2) v (((w.setCell ⟨x,0,none⟩ (.pointer (some ⟨sbU,0,none⟩))).setCell ⟨x,1,none⟩ (.int .i64 (rU:Nat))).setCell ⟨x,2,none⟩ (.int .i64 (L.sizeTr U l (L.tabO l φ):Nat))):=by
 obtain⟨sb,r,h1,h2⟩:=h.st;refine⟨ZeC h.bel hx _ _ _,⟨sbU,rU,?_,Ze0 h2 _ _ _⟩,hU,Zaa h.row fun k hk=>ZbQ _ _ _ fun e=>?_⟩
 ·exact hS.turn h2 (by decide) (by decide) (by decide) (by decide) ⟨by omega,by omega⟩ fun g o aJ ho=>(ZbQ _ _ _ aJ).trans ho
 ·obtain⟨_,c,hc⟩:=Zap h.row hk
  rw[e,h2]at hc;simp at hc
theorem SeI.push(h:SeI w0 φ l x s v w){m:Nat × Nat}{v':Value}(hg:w.grownBy w' v.ownBlock)(ho:w'.ownsRow w0.heap.size 45 2 v' (s.2.length+1) (ZbL s.2++[.int .i64 (m.1:Nat),.int .i64 (m.2:Nat)]))(ev:Zdm<w0.heap.size∧gTz<w0.heap.size) :
  SeI w0 φ l x (s.1,s.2++[m]) v' w':=by
 obtain⟨sb,r,h1,h2⟩:=h.st;refine⟨Below.grown h.bel hg h.bel.size fun k e=>Zay h.row e,⟨sb,r,h1.row h.row hg (by decide) (by decide) (by decide) (by decide) ev,?_⟩,h.ok,Zak ho (by simp) (ZcH _ _).symm⟩;refine(hg.block x (Zrv h2).1 fun e=>?_).trans h2;obtain⟨_,c,hc⟩:=Zap h.row e.symm;rw[h2]at hc;simp at hc
end
theorem ZpM:(Tryz.prog.info? 45).map (fun i=>(i.zero,i.size,i.bytes))=some (some (.agg #[.int .i64 0,.int .i64 0]),2,16):=by kernel_rfl
theorem ZgA{t:List VN}{T:L.Tr}{φ:L.Asg→Bool}{l:List Int}{sb r k:Nat}{w:World}(h:Zc0 t φ sb r w)(hI:L.IsT L.idc t (t.length - 1) T)(hT:ZbI T l)(hz:ZaY w)(hp:Zaz w)(hk:k≤100) :
  Calls Tryz.prog 15 #[.pointer (some ⟨sb,0,none⟩),.int .i64 (r:Nat),.int .i64 (k:Nat)] w (ZdT T φ l k w):=by
 have hc:=h.chk;have t0:=(Zam hc).1;have ev:Hid (Zdm<w.heap.size∧gTz<w.heap.size):=Zrr ⟨hp.lt,hz.lt'⟩;have n7:=hT.len;have hok0:=hT;unfold ZdT;obtain⟨n,hn⟩:∃n,n=(T.post 0).length:=⟨_,rfl⟩;rw[←hn];have hn7:n≤7:=by omega
 obtain⟨E,hE⟩:∃E,E=L.searchT l (L.tabO l φ) n k (T,[]):=⟨_,rfl⟩;rw[←hE];have dne:((t.length:Int) ==0)=false:=by rw[beq_eq_false_iff_ne];omega
 have dk0:decide ((k:Int)<0)=false:=ZrH (by omega);have dk1:decide ((k:Int) > 100)=false:=ZrH (by omega);have dk1':decide ((100:Int)<k)=false:=ZrH (by omega);replace hn:=Zrr hn;replace hE:=Zrr hE;have q1:=h.tree
 go_enter Tryz.func15,Tryz.ntmps15
 go_wp2_with fail
 go_step3
 go_wp2_with fail;refine q1.mono ?_;rintro e w1 ⟨g1,c1,rfl,_,_,aF⟩;have h1:=h.below aF;obtain⟨z,q2⟩:=h1.at
 clear q1;go_wp2_with fail;refine q2.mono ?_;rintro e w2 ⟨rfl,aL⟩;have qH:=aF.trans (aL.mono aF.size);have h2:=h.below qH;have q3:=h2.tree;clear q2 h1 aF aL;go_wp2_with fail;refine q3.mono ?_;rintro e w3 ⟨g3,c3,rfl,_,nW,aU⟩;have bw3:=qH.trans (aU.mono qH.size);have q4:=ZfN (cap:=c3) nW hc hI hT.pr (hp.same (bw3.block _ hp.lt));have q5:=fun W (hb:Below w.heap.size w W)=>Zh2 (T:=T) (w:=W) hT.nd hT.range (by have:=hT.small;omega) (hp.same (hb.block _ hp.lt))
 replace q5:=Zrr q5;clear q3 h2 nW;go_wp2_with fail;refine q4.mono ?_;rintro e w4 ⟨rfl,aw⟩;have bw4:=bw3.trans (aw.mono bw3.size);have q5':=q5.out w4 bw4;clear q4;go_wp2_with fail;refine q5'.mono ?_;rintro e w5 ⟨g5,c5,rfl,_,zu,ah⟩;have vi:=bw4.trans (ah.mono bw4.size);have q6:=(h.below vi).copy (cap:=c5) hI hT (hz.same (vi.block _ hz.lt')) (hp.same (vi.block _ hp.lt)) zu;rw[←hn.out]at q6 ⊢;clear q5 q5' zu;go_wp2_with fail;refine q6.mono ?_;rintro e w6 ⟨sb6,r6,rfl,h6,bZ⟩;have bw6:=vi.trans (bZ.mono vi.size);have q7:=Zcf h6 hT;clear q6;go_wp2_with fail;refine q7.mono ?_;rintro e w7 ⟨rfl,cq⟩;have bw7:=bw6.trans (cq.mono bw6.size);have h7:=h6.below cq;obtain⟨x,hx⟩:∃x,w7.heap.size=x:=⟨_,rfl⟩;obtain⟨sz7,re⟩:∃sz7,sz7=L.sizeTr T l (L.tabO l φ):=⟨_,rfl⟩;obtain⟨w8,hw8⟩:∃w8,w8=w7.alloc (.cells #[.pointer (some ⟨sb6,0,none⟩),.int .i64 (r6:Nat),.int .i64 (sz7:Nat)] 90):=⟨_,rfl⟩;have qY:Below w7.heap.size w7 w8:=by rw[hw8];exact(ZrE _ _).alloc (ZrQ _) _
 have rq:w8.heap[x]? =some (.cells #[.pointer (some ⟨sb6,0,none⟩),.int .i64 (r6:Nat),.int .i64 (sz7:Nat)] 90 (0,0)):=by rw[hw8,←hx];exact Zrz _ _
 have vz:Hid (SeI w φ l x (T,[]) (.slice none 0 0) w8):=Zrr ⟨bw7.trans (qY.mono bw7.size),⟨sb6,r6,h7.below qY,by rw[←re];exact rq⟩,hT,World.ownsRow_nil _ _ _ _⟩;have hwx:Hid (w.heap.size≤x):=Zrr (by rw[←hx];exact bw7.size);rw[←re];clear q7 rq qY h7 h6 cq bZ ah aw aU qH bw3 bw4 vi bw6 bw7;replace h:=Zrr h;replace re:=Zrr re;go_wp2_with fail
 go_step3
 go_wp2_with fail
 try simp only[hx]
 rw[←hw8];replace hx:=Zrr hx;replace hw8:=Zrr hw8
 go_loopw [20,75] (fun mv iv wr=>∃(j:Nat) (s:L.Tr × List (Nat × Nat)) (ba:Option Addr) (m cp:Nat),j≤k∧iv= .int .i64 (j:Nat)∧mv= .slice ba m cp∧Hid (m=s.2.length)∧m≤7*j∧Hid (L.searchT l (L.tabO l φ) n (k - j) s=E)∧Hid (SeI w φ l x s mv wr)) (fun _ iv _=>k - (intOf iv).toNat)
 case atStart=>exact⟨0,(T,[]),none,0,0,by omega,rfl,rfl,Zrr rfl,by omega,Zrr (by rw[hE.out,Nat.sub_zero]),vz⟩
 case round =>
  clear vz;obtain⟨j,s,ba,m,cp,hj,rfl,rfl,hm,cY,pL,hS⟩:=hrel
  by_cases aD:j<k
  ·have dlt:decide ((j:Int)<(k:Int))=true:=ZrI (by omega)
   have h0:Hid (SeI w φ l x s (.slice ba m cp) wr):=hS;clear hS;go_wp2_with fail
   go_loopw [20,81] (fun mv iv wr=>∃(i:Nat) (s':L.Tr × List (Nat × Nat)) (pd:Option Addr) (m' fR:Nat),i≤n∧iv= .int .i64 (i:Nat)∧mv= .slice pd m' fR∧Hid (m'=s'.2.length)∧m'≤7*j+i∧Hid (s'=(List.range i).foldl (L.stepT l (L.tabO l φ)) s)∧Hid (SeI w φ l x s' mv wr)) (fun _ iv _=>n - (intOf iv).toNat)
   case atStart=>exact⟨0,s,ba,m,cp,by omega,rfl,rfl,hm,by omega,Zrr rfl,h0⟩
   case round =>
    clear h0;obtain⟨i,s',pd,m',fR,hi,rfl,rfl,gS,jO,i7,hS⟩:=hrel
    by_cases sf:i<n
    ·have dli:decide ((i:Int)<(n:Int))=true:=ZrI (by omega)
     obtain⟨sb1,r1,aM,al⟩:=hS.out.st;have bel:=hS.out.bel;have qb:=Zkj (i:=i) aM hS.out.ok (hz.same (bel.block _ hz.lt')) (hp.same (bel.block _ hp.lt)) (by omega);have gO:=L.bestT_ok l (L.tabO l φ) s'.1 i;have ar:L.stepT l (L.tabO l φ) s' i=if 0<(L.bestT l (L.tabO l φ) s'.1 i).2.2 then ((L.bestT l (L.tabO l φ) s'.1 i).1,s'.2++[(i,(L.bestT l (L.tabO l φ) s'.1 i).2.2)]) else s':=rfl
     have nj:ZbI (L.bestT l (L.tabO l φ) s'.1 i).1 l:=by
      by_cases h0:0<(L.bestT l (L.tabO l φ) s'.1 i).2.2
      ·obtain⟨_,g2,_⟩:=gO.some h0
       obtain⟨p1,p2⟩:=L.mvT_perm _ _ _ g2;exact hS.out.ok.perm p1 p2
      ·rw[(gO.none (by omega)).1];exact hS.out.ok
     obtain⟨⟨U,sU,kd⟩,hb⟩:∃b,b=L.bestT l (L.tabO l φ) s'.1 i:=⟨_,rfl⟩;rw[←hb]at qb gO ar nj;have eC:sU=L.sizeTr U l (L.tabO l φ):=gO.sz
     have dE:kd≤3:=by
      by_cases h0:0<kd
      ·exact(gO.some h0).1
      ·omega
     simp only at qb ar nj;obtain⟨sz1,rd⟩:∃sz1,sz1=L.sizeTr s'.1 l (L.tabO l φ):=⟨_,rfl⟩;unfold stC at qb al;rw[←rd]at qb al;obtain⟨c0,c1,c2⟩:=Za5 al;replace eC:=Zrr eC;replace rd:=Zrr rd;replace hb:=Zrr hb;replace ar:=Zrr ar;replace nj:=Zrr nj;clear aM gO bel al;go_wp2_with fail;refine qb.mono ?_;rintro e w2 ⟨sbN,rN,rfl,hStN,hbN⟩;have bB:=hS.out.below hbN;obtain⟨yb,jD⟩:∃yb,w2.heap.size=yb:=⟨_,rfl⟩;obtain⟨w3,jR⟩:∃w3,w3=w2.alloc (.cells #[.pointer (some ⟨sbN,0,none⟩),.int .i64 (rN:Nat),.int .i64 (sU:Nat)] 90):=⟨_,rfl⟩;have aU:Below w2.heap.size w2 w3:=by rw[jR];exact(ZrE _ _).alloc (ZrQ _) _
     have fL:=Zrr (bB.below aU);clear qb hS c0 c1 c2
     by_cases lh:0<kd
     ·have dk:decide ((kd:Int) > 0)=true:=ZrI (by omega)
      have dk':decide ((0:Int)<(kd:Int))=true:=ZrI (by omega);have hy3:w3.heap[yb]? =some (.cells #[.pointer (some ⟨sbN,0,none⟩),.int .i64 (rN:Nat),.int .i64 (sU:Nat)] 90 (0,0)):=by rw[jR,←jD];exact Zrz _ _
      obtain⟨y0,y1,y2⟩:=Za5 hy3;obtain⟨sb4,r4,_,jh⟩:=bB.st;obtain⟨sz4,mB⟩:∃sz4,sz4=L.sizeTr s'.1 l (L.tabO l φ):=⟨_,rfl⟩;unfold stC at jh;rw[←mB]at jh;obtain⟨z0,z1,z2⟩:=Za5 jh;have f0:w2.frozen? ⟨x,0,none⟩=false:=by simp[World.frozen?,jh]
      have f1:w2.frozen? ⟨x,1,none⟩=false:=by simp[World.frozen?,jh]
      have f2:w2.frozen? ⟨x,2,none⟩=false:=by simp[World.frozen?,jh]
      have gW:x<yb:=by rw[←jD];exact(Zrv jh).1
      rw[jR]at y0 y1 y2;replace jh:=Zrr jh;replace hy3:=Zrr hy3;clear aU mB;obtain⟨iv,dN,cP,cI,dM⟩:=info_parts ZpM
      have hSs:SeI w φ l x (U,s'.2) (.slice pd m' fR) (((w2.setCell ⟨x,0,none⟩ (.pointer (some ⟨sbN,0,none⟩))).setCell ⟨x,1,none⟩ (.int .i64 (rN:Nat))).setCell ⟨x,2,none⟩ (.int .i64 (sU:Nat))):=by
       have:=bB.store nj.out hStN hwx.out ev.out;rw[←eC.out]at this;exact this
      have iu:(((w2.setCell ⟨x,0,none⟩ (.pointer (some ⟨sbN,0,none⟩))).setCell ⟨x,1,none⟩ (.int .i64 (rN:Nat))).setCell ⟨x,2,none⟩ (.int .i64 (sU:Nat))).heap.size=yb:=by simp[jD]
      have bO:SeI w φ l x (U,s'.2) (.slice pd m' fR) (((((w2.setCell ⟨x,0,none⟩ (.pointer (some ⟨sbN,0,none⟩))).setCell ⟨x,1,none⟩ (.int .i64 (rN:Nat))).setCell ⟨x,2,none⟩ (.int .i64 (sU:Nat))).alloc (.cells #[.pointer (some ⟨sbN,0,none⟩),.int .i64 (rN:Nat),.int .i64 (sU:Nat)] 90)).alloc (.cells #[.int .i64 (i:Nat),.int .i64 (kd:Nat)] 45)):=hSs.below (((ZrE _ _).alloc (ZrQ _) _).alloc (by simp) _);have dY:=Zak bO.row (show _=m' from gS.out.symm) rfl
      have aG:=World.news_of_block (cs:=#[.int .i64 (i:Nat),.int .i64 (kd:Nat)]) (t:=45) (fr:=(0,0)) (w:=((((w2.setCell ⟨x,0,none⟩ (.pointer (some ⟨sbN,0,none⟩))).setCell ⟨x,1,none⟩ (.int .i64 (rN:Nat))).setCell ⟨x,2,none⟩ (.int .i64 (sU:Nat))).alloc (.cells #[.pointer (some ⟨sbN,0,none⟩),.int .i64 (rN:Nat),.int .i64 (sU:Nat)] 90)).alloc (.cells #[.int .i64 (i:Nat),.int .i64 (kd:Nat)] 45)) (B:=yb+1) (by
       have:=Zrz ((((w2.setCell ⟨x,0,none⟩ (.pointer (some ⟨sbN,0,none⟩))).setCell ⟨x,1,none⟩ (.int .i64 (rN:Nat))).setCell ⟨x,2,none⟩ (.int .i64 (sU:Nat))).alloc (.cells #[.pointer (some ⟨sbN,0,none⟩),.int .i64 (rN:Nat),.int .i64 (sU:Nat)] 90)) (.cells #[.int .i64 (i:Nat),.int .i64 (kd:Nat)] 45);have e:((((w2.setCell ⟨x,0,none⟩ (.pointer (some ⟨sbN,0,none⟩))).setCell ⟨x,1,none⟩ (.int .i64 (rN:Nat))).setCell ⟨x,2,none⟩ (.int .i64 (sU:Nat))).alloc (.cells #[.pointer (some ⟨sbN,0,none⟩),.int .i64 (rN:Nat),.int .i64 (sU:Nat)] 90)).heap.size=yb+1:=by simp[jD]
       rw[e]at this;exact this)
      have aH:∀u∈[Value.int .i64 (i:Nat),.int .i64 (kd:Nat)],u.oneCell'=true:=by simp[Value.oneCell']
      have jt:w.heap.size≤(((((w2.setCell ⟨x,0,none⟩ (.pointer (some ⟨sbN,0,none⟩))).setCell ⟨x,1,none⟩ (.int .i64 (rN:Nat))).setCell ⟨x,2,none⟩ (.int .i64 (sU:Nat))).alloc (.cells #[.pointer (some ⟨sbN,0,none⟩),.int .i64 (rN:Nat),.int .i64 (sU:Nat)] 90)).alloc (.cells #[.int .i64 (i:Nat),.int .i64 (kd:Nat)] 45)).heap.size:=bO.bel.size;replace bO:=Zrr bO;clear bB hSs iu
      go_wp2_with (at_builtin;go_loud (refine wpList_append_own _ rfl _ _ 34 rfl w.heap.size 45 iv (.agg #[.int .i64 0,.int .i64 0]) 2 16 Tryz.underlying34 dN cP cI dM rfl (by decide) _ _ _ rfl dY ⟨yb+1,0,none⟩ 1 1 [.int .i64 (i:Nat),.int .i64 (kd:Nat)] rfl rfl aG aH (by unfold maxLen;omega) (by omega) jt ?_);intro v8 w9 pA wM _;have iA:=bO.out.push (m:=(i,kd)) wM (Zak pA (by rw[gS.out]) rfl) ev.out;obtain⟨ba8,cp8,rfl⟩:=ZmK pA;replace iA:=Zrr iA;clear wM pA dY aG jt)
      exact⟨⟨i+1,(U,s'.2++[(i,kd)]),ba8,m'+1,cp8,by omega,rfl,rfl,Zrr (by rw[gS.out];simp),by omega,Zrr (by rw[List.range_succ,List.foldl_append,←i7.out,List.foldl_cons,List.foldl_nil,ar.out,if_pos lh]),iA⟩,by simp[intOf];omega⟩
     ·have dk:decide ((kd:Int) > 0)=false:=ZrH (by omega)
      have dk':decide ((0:Int)<(kd:Int))=false:=ZrH (by omega);clear aU bB;go_wp2_with fail
      try simp only[jD]
      try rw[←jR]
      go_roundw
      case rel=>exact⟨i+1,s',pd,m',fR,by omega,by go_num,rfl,gS,by omega,Zrr (by rw[List.range_succ,List.foldl_append,←i7.out,List.foldl_cons,List.foldl_nil,ar.out,if_neg lh]),fL⟩
      case measure=>simp[intOf];omega
    ·have dli:decide ((i:Int)<(n:Int))=false:=ZrH (by omega)
     obtain rfl:i=n:=by omega
     have ij:s'=L.passT l (L.tabO l φ) i s:=i7.out;have hkj:k - j=(k - (j+1))+1:=by omega
     have aH:=pL.out;rw[hkj]at aH;unfold L.searchT at aH;simp only[←ij]at aH;replace ij:=Zrr ij
     by_cases jy:m'=m
     ·have dmm:((m':Int) ==(m:Int))=true:=by rw[beq_iff_eq];omega
      have pQ:Hid (s'=E):=Zrr (by rw[if_pos (by have a:=gS.out;have b:=hm.out;omega)]at aH;exact aH);clear aH;subst jy;obtain⟨sbE,rE,aM,al⟩:=hS.out.st;obtain⟨szE,pV⟩:∃szE,szE=L.sizeTr s'.1 l (L.tabO l φ):=⟨_,rfl⟩;unfold stC at al;rw[←pV]at al;obtain⟨c0,c1,c2⟩:=Za5 al;have F1:=Zrr fun (W:World) (hW:Ext wr W)=>And.intro (hW.cell c0) (hW.cell c1)
      replace aM:=Zrr aM;clear al c0 c1 c2 pV;go_wp2_with fail
      (refine Zaf (by kernel_rfl) (by kernel_rfl) ?_
       repeat (refine wpQuiet_step (fun K hK=>?_)
               go_simp
               first
                | (refine hK _ ?_;clear hK K)
                | (replace hK:=Zrr hK
                   apply Exists.intro
                   refine⟨fun wq hq=>?_,hK.out _ ?_⟩
                   ·(obtain⟨f1,f2⟩:=F1.out wq hq)
                    go_simp
                    first
                     | done
                     | rfl
                     | exact⟨rfl,rfl⟩
                     | done
                   clear hK K))
       refine wpQuiet_nil ?_)
      intro w5 rk
      have aa:Zhq E.1 φ sbE rE w5∧ZbI E.1 l∧w5.ownsRow w.heap.size 45 2 (.slice pd m' fR) E.2.length (ZbL E.2)∧Below w.heap.size w w5:=by
       have bO:=hS.out.below rk.below;rw[←pQ.out];exact⟨aM.out.below rk.below,bO.ok,bO.row,bO.bel⟩
      replace aa:=Zrr aa;clear F1 hS;go_wp2_with fail
      try rw[Exit.noGoto_ret]
      refine bodyPost_ret (v:=.tuple #[.pointer (some ⟨sbE,0,none⟩),.int .i64 (rE:Nat),.slice pd m' fR,.int .i64 0]) (by simp[results,Tryz.results15,go_sem]) rfl ⟨sbE,rE,_,rfl,aa.out⟩
     ·have dmm:((m':Int) ==(m:Int))=false:=by rw[beq_eq_false_iff_ne];omega
      have pM:Hid (L.searchT l (L.tabO l φ) i (k - (j+1)) s'=E):=Zrr (by rw[if_neg (by have a:=gS.out;have b:=hm.out;omega)]at aH;exact aH);clear aH;go_wp2_with fail;exact⟨⟨j+1,s',pd,m',fR,by omega,rfl,rfl,gS,by omega,pM,hS⟩,by simp[intOf];omega⟩
  ·have dlt:decide ((j:Int)<(k:Int))=false:=ZrH (by omega)
   have pQ:Hid (s=E):=Zrr (by
    have:=pL.out;rw[show k - j=0 by omega]at this;exact this)
   obtain⟨sbE,rE,aM,al⟩:=hS.out.st;obtain⟨szE,pV⟩:∃szE,szE=L.sizeTr s.1 l (L.tabO l φ):=⟨_,rfl⟩;unfold stC at al;rw[←pV]at al;obtain⟨c0,c1,c2⟩:=Za5 al;have F1:=Zrr fun (W:World) (hW:Ext wr W)=>And.intro (hW.cell c0) (hW.cell c1)
   replace aM:=Zrr aM;clear al c0 c1 c2 pV;go_wp2_with fail
   (refine Zaf (by kernel_rfl) (by kernel_rfl) ?_
    repeat (refine wpQuiet_step (fun K hK=>?_)
            go_simp
            first
             | (refine hK _ ?_;clear hK K)
             | (replace hK:=Zrr hK
                apply Exists.intro
                refine⟨fun wq hq=>?_,hK.out _ ?_⟩
                ·(obtain⟨f1,f2⟩:=F1.out wq hq)
                 go_simp
                 first
                  | done
                  | rfl
                  | exact⟨rfl,rfl⟩
                  | done
                clear hK K))
    refine wpQuiet_nil ?_)
   intro w5 rk
   have aa:Zhq E.1 φ sbE rE w5∧ZbI E.1 l∧w5.ownsRow w.heap.size 45 2 (.slice ba m cp) E.2.length (ZbL E.2)∧Below w.heap.size w w5:=by
    have bO:=hS.out.below rk.below;rw[←pQ.out];exact⟨aM.out.below rk.below,bO.ok,bO.row,bO.bel⟩
   replace aa:=Zrr aa;clear F1 hS;go_wp2_with fail
   try rw[Exit.noGoto_ret]
   refine bodyPost_ret (v:=.tuple #[.pointer (some ⟨sbE,0,none⟩),.int .i64 (rE:Nat),.slice ba m cp,.int .i64 0]) (by simp[results,Tryz.results15,go_sem]) rfl ⟨sbE,rE,_,rfl,aa.out⟩
end Go.Proofs.YtemnmcfmabamcaaGreatDoor
