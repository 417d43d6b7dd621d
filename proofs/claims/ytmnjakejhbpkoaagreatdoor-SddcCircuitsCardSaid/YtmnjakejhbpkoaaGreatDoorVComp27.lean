import Derived.Test.YtmnjakejhbpkoaaGreatDoorVCj7
import Derived.Deep.CutRange
set_option linter.unusedSimpArgs false
set_option linter.unusedVariables false
set_option maxRecDepth 100000
set_option maxHeartbeats 8000000
section
namespace Go.Proofs.YtmnjakejhbpkoaaGreatDoor
open Go Go.RowKit Go.Shelf
theorem Zkt{C:List L.Gt}{n:Nat}(aq:L.ciChk n C=0)(a:Zak):L.ciφ C (L.asg (a &&& ZhA n))=L.ciφ C (L.asg a):=by
 obtain⟨⟨cO,aX⟩,_,_,_,aN⟩:=L.ciChk_ok.1 aq;refine L.ciφ_dep fun g hg hk=>?_
 obtain⟨j,hj,rfl⟩:=List.getElem_of_mem hg;have hr:=L.validB_range aX (ZeP (aN j hj) hk)
 show Zau (a &&& ZhA n) _=Zau a _
 rw[ZiC,(ZcE _ n (by omega)).2 ⟨hr.1,hr.2.1⟩,Bool.and_true]
theorem Zgc{n:Nat}{C:List L.Gt}{u vl:Value}{l:List Int}{w:World}(hv:SlC w u C)(h2:∀g∈C,g.inp.length≤200)(aq:L.ciChk n C=0)(bh:SlI w vl l)(gU:l.Nodup)(hr:∀v∈l,1≤v∧v≤128)(hl:l.length≤12) :
  Calls Tryz.prog 56 #[.agg #[.int .i64 (n:Nat),u],vl] w fun e w'=>∃v,e= .returned v∧Zja w' v l (L.ciφ C)∧(∃o,v= .agg #[vl,o])∧Below w.heap.size w w':=by
 obtain⟨⟨cO,aX⟩,_⟩:=L.ciChk_ok.1 aq;obtain⟨e0,e1⟩:=ZbB w (.cells #[.int .i64 (n:Nat),u] 84) (.cells #[.slice none 0 0,.slice none 0 0] 48);have aC:Ext w ((w.alloc (.cells #[.int .i64 (n:Nat),u] 84)).alloc (.cells #[.slice none 0 0,.slice none 0 0] 48)):=((Ext.refl w).alloc _).alloc _;have cM:((w.alloc (.cells #[.int .i64 (n:Nat),u] 84)).alloc (.cells #[.slice none 0 0,.slice none 0 0] 48)).heap.size=w.heap.size+2:=by simp
 obtain⟨w1,aD⟩:∃w1,w1=(w.alloc (.cells #[.int .i64 (n:Nat),u] 84)).alloc (.cells #[.slice none 0 0,.slice none 0 0] 48):=⟨_,rfl⟩;rw[←aD]at e0 e1 aC cM;have hN:=ZcW hl;have qb:=Zkj (bh.ext aC.below) hl;have qs:=fun k (hk:k<4096) (go no co:Nat) (W:World) (h:Below w1.heap.size w1 W)=>ZgP (vo:=.slice (some ⟨go,0,none⟩) no co) ((bh.ext aC.below).ext h) hr hl rfl k hk
 have qa:=fun W=>ZfO n (by omega) W
 have qc:=fun k W=>ZjP (L.setK l k l.length) (ZhA n) W
 have qe:=fun k (W:World) (h:Below w1.heap.size w1 W)=>Zhc (n:=n) ((hv.ext aC.below).ext h) h2 aq (L.setK l k l.length &&& ZhA n) (fun v h=>by
  rw[ZiC,Zpx]at h;exact((ZcE v n (by omega)).1 h.2).2)
 have av:∀k,L.ciφ C (L.asg (L.setK l k l.length &&& ZhA n))=L.ciφ C (L.nth l k):=fun k=>by
  rw[Zkt aq,L.asg_setK gU hr]
 simp only[av]at qe;have aG:∀(W:World) (g c:Nat),Below w.heap.size w W→Zan W g 4 (2 ^ l.length) (fun k=>L.ciφ C (L.nth l k))→Zja W (.agg #[vl,.slice (some ⟨g,0,none⟩) (2 ^ l.length) c]) l (L.ciφ C):=fun W g c h hb=>⟨vl,g,c,rfl,bh.ext h,hb⟩
 generalize j5:2 ^ l.length=N at *;obtain⟨bb,cc,rfl,_⟩:=hv;have yJ:∃ba cp,vl= .slice ba l.length cp:=by obtain⟨ba,cp,h,_⟩:=bh;exact⟨ba,cp,h⟩
 clear bh gU hr aq;obtain⟨ba,cp,rfl⟩:=yJ;obtain⟨f,hh⟩:∃f:Nat→Bool,∀k,L.ciφ C (L.nth l k)=f k:=⟨_,fun _=>rfl⟩;simp only[hh]at qe aG;replace hh:=Zpe hh;replace cM:=Zpe cM;replace j5:=Zpe j5;replace aG:=Zpe aG;replace qs:=Zpe qs;replace qa:=Zpe qa;replace qc:=Zpe qc;replace qe:=Zpe qe;replace e0:=Zpe e0;replace e1:=Zpe e1;clear av
 have hS:∀(g fb k:Nat) V,Zcv w1.heap.size w1 g fb N (.slice ba l.length cp) f k V→(V.cell? ⟨fb,0,none⟩=some (.slice ba l.length cp)∧V.cell? ⟨fb,1,none⟩=some (.slice (some ⟨g,0,none⟩) N N))∧V.cell? ⟨w.heap.size,0,none⟩=some (.int .i64 (n:Nat))∧V.cell? ⟨w.heap.size,1,none⟩=some (.slice bb C.length cc):=fun g fb k V h=>by
  have f0:=(h.1.block w.heap.size (by rw[cM.out];omega)).trans e0.out;exact⟨h.cells,by rw[World.cell?,f0];rfl,by rw[World.cell?,f0];rfl⟩
 replace hS:=Zpe hS
 go_enter Tryz.func56,Tryz.ntmps56
 go_wp2_with fail;rw[←aD];replace aD:=Zpe aD;go_wp2_with fail;refine qb.mono ?_;rintro e w2 ⟨g,rfl,hg,kF,aP⟩;clear qb;have uC:=Zpe (Zcv.first (vl:=.slice ba l.length cp) (h:=f) aP hg kF aP.size);go_wp2_with fail
 go_loopw [6] (fun i wr=>∃k:Nat,k≤N∧i= .int .i64 (k:Int)∧Hid (Zcv w1.heap.size w1 g w2.heap.size N (.slice ba l.length cp) f k wr)) (fun i _=>N - (intOf i).toNat)
 case atStart=>exact⟨0,by omega,rfl,uC⟩
 case round =>
  clear uC kF aP;obtain⟨k,hk,rfl,hI⟩:=hrel;have eF:=hI.out.1;obtain⟨k0,k1⟩:=hI.out.cells;have f0:=(eF.block _ (by rw[cM.out];omega)).trans e0.out;have f1:=(eF.block _ (by rw[cM.out];omega)).trans e1.out;have r0:wr.cell? ⟨w.heap.size,0,none⟩=some (.int .i64 (n:Nat)):=by rw[World.cell?,f0];rfl
  have r1:wr.cell? ⟨w.heap.size,1,none⟩=some (.slice bb C.length cc):=by rw[World.cell?,f0];rfl
  have x0:wr.cell? ⟨w.heap.size+1,0,none⟩=some (.slice none 0 0):=by rw[World.cell?,f1];rfl
  have x1:wr.cell? ⟨w.heap.size+1,1,none⟩=some (.slice none 0 0):=by rw[World.cell?,f1];rfl
  have z0:wr.frozen? ⟨w.heap.size+1,0,none⟩=false:=by simp[World.frozen?,f1]
  have z1:wr.frozen? ⟨w.heap.size+1,1,none⟩=false:=by simp[World.frozen?,f1]
  by_cases aE:k<N
  ·have d0:decide ((k:Int)<(N:Int))=true:=Zpv (by omega)
   have g0:(0:Int)≤(k:Int):=by omega
   have g1:(k:Int)<(N:Int):=by omega
   have uF:=Zpe (hI.out.next (Zpr _ _).drew hI.out.size);clear f0 f1 r0 r1 x0 x1 z0 z1;go_wp2_with fail;(refine wp_region_held_drew (S:=(fun V=>(V.cell? ⟨w2.heap.size,0,none⟩=some (.slice ba l.length cp)∧V.cell? ⟨w2.heap.size,1,none⟩=some (.slice (some ⟨g,0,none⟩) N N))∧V.cell? ⟨w.heap.size,0,none⟩=some (.int .i64 (n:Nat))∧V.cell? ⟨w.heap.size,1,none⟩=some (.slice bb C.length cc))) (by kernel_rfl) ?_ (fun aA=>?_))
   ·exact hS.out _ _ _ _ uF.out
   (refine ZpE (i:=0) (v:=?_) rfl (by kernel_rfl) (fun _ _ _ h=>h) (Or.inl ⟨by rfl,?_⟩) (by assumption) ?_);rotate_left
   ·(intro w aB;(try dsimp only at aB);go_simp;first|done|with_reducible rfl)
   (try simp only[Act.put,Zpf,Zpg,Zph]);(refine ZpE (i:=1) (v:=?_) rfl (by kernel_rfl) (fun _ _ _ h=>h) (Or.inl ⟨by rfl,?_⟩) (by assumption) ?_);rotate_left
   ·(intro w aB;(try dsimp only at aB);go_simp;first|done|with_reducible rfl)
   (try simp only[Act.put,Zpf,Zpg,Zph]);(refine ZpE (i:=2) (v:=?_) rfl (by kernel_rfl) (fun _ _ _ h=>h) (Or.inl ⟨by rfl,?_⟩) (by assumption) ?_);rotate_left
   ·(intro w aB;(try dsimp only at aB);go_simp;first|done|with_reducible rfl)
   (try simp only[Act.put,Zpf,Zpg,Zph]);(refine ZpE (i:=3) (v:=?_) rfl (by kernel_rfl) (fun _ _ _ h=>h) (Or.inl ⟨by rfl,?_⟩) (by assumption) ?_);rotate_left
   ·(intro w aB;(try dsimp only at aB);go_simp;first|done|with_reducible rfl)
   (try simp only[Act.put,Zpf,Zpg,Zph]);(refine ZpE (i:=4) (v:=?_) rfl (by kernel_rfl) (fun _ _ _ h=>h) (Or.inl ⟨by rfl,?_⟩) (by assumption) ?_);rotate_left
   ·(intro w aB;(try dsimp only at aB);go_simp;first|done|with_reducible rfl)
   (try simp only[Act.put,Zpf,Zpg,Zph]);(refine ZpE (i:=5) (v:=?_) rfl (by kernel_rfl) (fun _ _ _ h=>h) (Or.inl ⟨by rfl,?_⟩) (by assumption) ?_);rotate_left
   ·(intro w aB;(try dsimp only at aB);go_simp;first|done|with_reducible rfl)
   (try simp only[Act.put,Zpf,Zpg,Zph]);(refine ZpE (i:=7) (v:=?_) rfl (by kernel_rfl) (fun _ _ _ h=>h) (Or.inl ⟨by rfl,?_⟩) (by assumption) ?_);rotate_left
   ·(intro w aB;(try dsimp only at aB);go_simp;first|done|with_reducible rfl)
   (try simp only[Act.put,Zpf,Zpg,Zph]);(refine ZpE (i:=8) (v:=?_) rfl (by kernel_rfl) (fun _ _ _ h=>h) (Or.inl ⟨by rfl,?_⟩) (by assumption) ?_);rotate_left
   ·(intro w aB;(try dsimp only at aB);go_simp;first|done|with_reducible rfl)
   (try simp only[Act.put,Zpf,Zpg,Zph]);(refine wpAnyH_ready (rs:=[6]) (by kernel_rfl) (by simp) ?_);(refine Zaw rfl (fun K hK=>?_))
   ((rw[if_pos (by rfl)]);go_simp;refine(qs.out k (by omega) g N N _ uF.out.1).mono ?_;rintro e w3 ⟨rfl,aa⟩;have wj:=Zpe (uF.out.next aa uF.out.size);refine hK.out _ _ (hS.out _ _ _ _ wj.out) (fun aA=>?_);clear aa)
   (clear hK K)
   (try simp only[Act.put,Zpf,Zpg,Zph]);(refine wpAnyH_ready (rs:=[9]) (by kernel_rfl) (by simp) ?_);(refine Zaw rfl (fun K hK=>?_))
   ((rw[if_pos (by rfl)]);go_simp;refine(qa.out _).mono ?_;rintro e w4 ⟨rfl,bF⟩;have wk:=Zpe (wj.out.next bF wj.out.size);refine hK.out _ _ (hS.out _ _ _ _ wk.out) (fun aA=>?_);clear bF)
   (clear hK K)
   (try simp only[Act.put,Zpf,Zpg,Zph]);(refine wpAnyH_ready (rs:=[10]) (by kernel_rfl) (by simp) ?_);(refine Zaw rfl (fun K hK=>?_))
   ((rw[if_pos (by rfl)]);go_simp;refine(qc.out k _).mono ?_;rintro e w5 ⟨rfl,aj⟩;have uE:=Zpe (wk.out.next aj wk.out.size);refine hK.out _ _ (hS.out _ _ _ _ uE.out) (fun aA=>?_);clear aj)
   (clear hK K)
   (try simp only[Act.put,Zpf,Zpg,Zph]);(refine wpAnyH_ready (rs:=[11]) (by kernel_rfl) (by simp) ?_);(refine Zaw rfl (fun K hK=>?_))
   ((rw[if_pos (by rfl)]);go_simp;refine(qe.out k _ uE.out.1).mono ?_;rintro e w6 ⟨rfl,jL⟩;have wt:=Zpe (uE.out.next jL uE.out.size);refine hK.out _ _ (hS.out _ _ _ _ wt.out) (fun aA=>?_);clear jL)
   (clear hK K)
   (try simp only[Act.put,Zpf,Zpg,Zph]);obtain⟨s1,s2⟩:=wt.out.2.2.2.cell (j:=k) aE;(refine ZpE (i:=12) (v:=?_) rfl (by kernel_rfl) (fun _ _ _ h=>h) (Or.inl ⟨by rfl,?_⟩) (by assumption) ?_);rotate_left
   ·(intro w aB;(try dsimp only at aB);go_simp;first|done|with_reducible rfl)
   (try simp only[Act.put,Zpf,Zpg,Zph]);have hf7:=Zpe (wt.out.put (b:=f k) rfl);(refine wpAnyH_ready (rs:=[13]) (by kernel_rfl) (by simp) ?_);(refine Zaw rfl (fun K hK=>?_))
   ((rw[if_pos (by rfl)]);go_simp;refine hK.out _ _ (hS.out _ _ _ _ hf7.out) (fun aA=>?_))
   (clear hK K)
   (try simp only[Act.put,Zpf,Zpg,Zph]);(refine wpAnyH_done (by kernel_rfl) ?_ _);clear aA;go_wp2_with fail;go_roundw
   case rel=>exact⟨k+1,by omega,by go_num,hf7⟩
   case measure=>simp[intOf];omega
  ·obtain rfl:k=N:=by omega
   have d0:decide ((k:Int)<(k:Int))=false:=Zpu (by omega);replace f0:=Zpe f0;replace f1:=Zpe f1;go_wp2_with fail;have am:Below w.heap.size w ((wr.setCell ⟨w.heap.size+1,0,none⟩ (.slice ba l.length cp)).setCell ⟨w.heap.size+1,1,none⟩ (.slice (some ⟨g,0,none⟩) k k)):=((aC.below.trans (eF.mono aC.size)).setCell (Nat.le_succ _) _).setCell (Nat.le_succ _) _
   have hbb:Zan ((wr.setCell ⟨w.heap.size+1,0,none⟩ (.slice ba l.length cp)).setCell ⟨w.heap.size+1,1,none⟩ (.slice (some ⟨g,0,none⟩) k k)) g 4 k f:=by
    have dC:g≠w.heap.size+1:=by have:=hI.out.2.1.1;have:=cM.out;omega
    exact(hI.out.done.same (Below.heap_setCell _ _ _ _ dC)).same (Below.heap_setCell _ _ _ _ dC)
   obtain⟨y0,y1⟩:=Zf3 f1.out (.slice ba l.length cp) (.slice (some ⟨g,0,none⟩) k k);generalize (wr.setCell ⟨w.heap.size+1,0,none⟩ (.slice ba l.length cp)).setCell ⟨w.heap.size+1,1,none⟩ (.slice (some ⟨g,0,none⟩) k k)=W at *;exact bodyPost_ret (v:=.agg #[.slice ba l.length cp,.slice (some ⟨g,0,none⟩) k k]) (by simp[results,Tryz.results56,go_sem,y0,y1]) rfl ⟨_,rfl,aG.out _ _ _ am hbb,⟨_,rfl⟩,am⟩
theorem Znq{t:List VN}(h:Zdm t=true):t.length≤300:=by
 unfold Zdm at h
 split at h
 ·simpa using h
 ·have:t.length≤11:=by simpa using h
  omega
theorem Zjm{t:List VN}(w:World)(ba:Option Addr)(cap:Nat)(ht:t=[]∨∃b o,ba=some ⟨b,o,none⟩∧Zam w b o t)(hl:t.length≤300) :
  Calls Tryz.prog 18 #[.slice ba t.length cap] w fun e w'=>∃b c,e= .returned (.slice (some ⟨b,0,none⟩) t.length c)∧Zam w' b 0 t∧Below w.heap.size w w':=by
 cases ba with
 | none =>
   obtain rfl:t=[]:=ht.resolve_right (by rintro⟨b,o,h,_⟩;cases h);refine(ZhO w cap).mono fun e w' hh=>?_
   exact⟨w.heap.size,0,hh.1,fun j u hj=>by simp[Zaq]at hj,hh.2⟩
 | some a =>
   refine(Zjn w (some a) cap ht (fun h=>by cases h) hl).mono fun e w' hh=>?_
   obtain⟨b,c,h1,_,_,h4,h5⟩:=hh;exact⟨b,c,h1,h4,h5⟩
end Go.Proofs.YtmnjakejhbpkoaaGreatDoor
end
section
namespace Go.Proofs.YtmnjakejhbpkoaaGreatDoor
open Go Go.RowKit Go.Shelf
open Classical in
noncomputable def Zb0 (n:Int) (C:List L.Gt) (t:List VN):Int :=
 if L.ciChk n C≠0 then L.ciChk n C else if Zad t≠0 then Zad t else if (∀u,Zau (L.ciVars C) u=true→Zbm t u) then 0 else 1
theorem Zl9{n:Int}{C:List L.Gt}{t:List VN}(h:Zb0 n C t=0):L.ciChk n C=0∧Zad t=0∧∀u,Zau (L.ciVars C) u=true→Zbm t u:=by
 unfold Zb0 at h
 split at h
 ·rename_i h1;exact absurd h h1
 ·rename_i h1
  split at h
  ·rename_i h2;exact absurd h h2
  ·rename_i h2
   split at h
   ·rename_i h3;exact⟨Decidable.not_not.1 h1,Decidable.not_not.1 h2,h3⟩
   ·cases h
theorem Zjh{n:Int}{C:List L.Gt}{v:Value}{w:World}(hv:SlC w v C)(hl:C.length≤5000)(fq:∀g∈C,g.inp.length≤200){t:List VN}(ba:Option Addr)(cap:Nat)(h:t=[]∨∃b o,ba=some ⟨b,o,none⟩∧Zam w b o t)(hE:Zb0 n C t≠0) :
  Calls Tryz.prog 52 #[.agg #[.int .i64 n,v],.slice ba t.length cap] w fun e w'=>e= .returned (.tuple #[.pointer none,.int .i64 0,.int .i64 (Zb0 n C t)])∧Below w.heap.size w w':=by
 by_cases h1:L.ciChk n C=0
 ·by_cases h2:Zad t=0
  ·by_cases h3:∀u,Zau (L.ciVars C) u=true→Zbm t u
   ·exact absurd (by unfold Zb0;rw[if_neg (fun h=>h h1),if_neg (fun h=>h h2),if_pos h3]) hE
   ·have e:Zb0 n C t=1:=by unfold Zb0;rw[if_neg (fun h=>h h1),if_neg (fun h=>h h2),if_neg h3]
    rw[e];obtain⟨b,o,rfl,ht⟩:=Zfi h2 h;have h4:∃u,Zau (L.ciVars C) u=true∧¬ Zbm t u:=ZpB fun hn=>h3 fun u hu=>ZpB fun hv=>hn ⟨u,hu,hv⟩
    exact ZeD hv fq (some ⟨b,o,none⟩) cap h1 (E:=1) (by decide) fun W hW=>ZnK W b o cap (L.ciVars C) (ht.ext hW) h2 h4
  ·have e:Zb0 n C t=Zad t:=by unfold Zb0;rw[if_neg (fun h=>h h1),if_pos h2]
   rw[e];exact ZeD hv fq ba cap h1 (E:=Zad t) h2 fun W hW=>(Zmy W ba cap (L.ciVars C) (h.imp id fun ⟨b,o,e,ht⟩=>⟨b,o,e,ht.ext hW⟩) h2).mono fun e w' hh=>⟨hh.1,hh.2.below⟩
 ·have e:Zb0 n C t=L.ciChk n C:=by unfold Zb0;rw[if_pos h1]
  rw[e];exact(ZhM hv hl fq ba t.length cap h1).mono fun e w' hh=>⟨hh.1,hh.2.below⟩
open Classical in
theorem Ze6{n:Int}{C:List L.Gt}{t:List VN}{a:Zak}(ha:L.ciChk n C=0→a=L.ciVars C)(w:World)(ba:Option Addr)(cap:Nat)(ht:t=[]∨∃b o,ba=some ⟨b,o,none⟩∧Zam w b o t)(nj:t.length≤5864062014805)(hF:Zdm t=true) :
  Calls Tryz.prog 21 #[.int .i64 (L.ciChk n C),.agg #[.int .u64 (lo a),.int .u64 (hi a)],.slice ba t.length cap] w fun e w'=>e= .returned (.int .i64 (Zb0 n C t))∧Below w.heap.size w w':=by
 have e0:=Zpm w (.cells #[.int .u64 (lo a),.int .u64 (hi a)] 41);have aC:Ext w (w.alloc (.cells #[.int .u64 (lo a),.int .u64 (hi a)] 41)):=(Ext.refl w).alloc _;obtain⟨w1,aD⟩:∃w1,w1=w.alloc (.cells #[.int .u64 (lo a),.int .u64 (hi a)] 41):=⟨_,rfl⟩;rw[←aD]at e0 aC;have fZ:t=[]∨∃b o,ba=some ⟨b,o,none⟩∧Zam w1 b o t:=ht.imp id fun ⟨b,o,e,h⟩=>⟨b,o,e,h.ext aC⟩
 have qk:=ZdV w1 ba cap fZ nj
 by_cases h1:L.ciChk n C=0
 ·obtain rfl:=ha h1
  clear ha
  have jH:Zb0 n C t=if Zad t≠0 then Zad t else if (∀u,Zau (L.ciVars C) u=true→Zbm t u) then 0 else 1:=by
   unfold Zb0;rw[if_neg (by rw[h1];simp)]
  rw[h1]
  by_cases h2:Zad t=0
  ·rw[if_neg (by rw[h2];simp)]at jH
   obtain⟨b,o,rfl,eV⟩:=Zfi h2 fZ;rw[h2]at qk;have q1:=fun (W:World) (h:Below w1.heap.size w1 W)=>ZdB W b o cap (eV.below h) h2
   have aY:=Zky hF h2;have hl6:=L.nv_le h2 (v:=t.length - 1) (by have:=(Zar h2).1;omega);have aL:∀l,L.SortedBel t (t.length - 1) l→l.length≤1048576:=fun l hl=>by rw[hl.len h2 (by have:=(Zar h2).1;omega)];omega
   have hD:∀l,L.SortedBel t (t.length - 1) l→∀W,Calls Tryz.prog 83 #[.agg #[.int .u64 (lo (L.ciVars C)),.int .u64 (hi (L.ciVars C))],.agg #[.int .u64 (lo (ofS l)),.int .u64 (hi (ofS l))]] W fun e w'=>e= .returned (.bool (decide (∀u,Zau (L.ciVars C) u=true→Zbm t u)))∧Below W.heap.size W w':=fun l hl W =>
    ZfP _ _ _ (by
     rw[decide_eq_true_iff];exact⟨fun h u hu=>(Zg1 h2 hl u).2 (h u hu),fun h u hu=>(Zg1 h2 hl u).1 (h u hu)⟩) W
   obtain⟨A,hA⟩:∃A,decide (∀u,Zau (L.ciVars C) u=true→Zbm t u)=A:=⟨_,rfl⟩
   have mz:Zb0 n C t=if A=true then 0 else 1:=by
    rw[jH,←hA]
    by_cases h:(∀u,Zau (L.ciVars C) u=true→Zbm t u)
    ·rw[if_pos h,if_pos (by simpa using h)]
    ·rw[if_neg h,if_neg (by simpa using h)]
   simp only[hA]at hD;replace hA:=Zpe hA;clear jH;have y0:w1.cell? ⟨w.heap.size,0,none⟩=some (.int .u64 (lo (L.ciVars C))):=by rw[World.cell?,e0];rfl
   have y1:w1.cell? ⟨w.heap.size,1,none⟩=some (.int .u64 (hi (L.ciVars C))):=by rw[World.cell?,e0];rfl
   generalize L.ciVars C=S at *;replace e0:=Zpe e0;replace q1:=Zpe q1;replace hD:=Zpe hD;replace aL:=Zpe aL;replace mz:=Zpe mz;replace h1:=Zpe h1;replace h2:=Zpe h2;clear ht fZ hl6 aY
   go_enter Tryz.func21,Tryz.ntmps21
   go_wp2_with fail;rw[←aD];replace aD:=Zpe aD;go_wp2_with fail;refine qk.mono ?_;rintro e w2 ⟨rfl,aF⟩;have a0:=aF.cell y0;have a1:=aF.cell y1;clear qk y0 y1;have hd:=Zpe (aF.below.trans ((Zpr w1.heap.size w2).drew));have ud:=aC.size;go_wp2_with fail;(refine wp_region_held_drew (S:=(fun V=>V.cell? ⟨w.heap.size,0,none⟩=some (.int .u64 (lo S))∧V.cell? ⟨w.heap.size,1,none⟩=some (.int .u64 (hi S)))) (by kernel_rfl) ?_ (fun aA=>?_))
   ·exact⟨a0,a1⟩
   (refine ZpE (i:=0) (v:=?_) rfl (by kernel_rfl) (fun _ _ _ h=>h) (Or.inl ⟨by rfl,?_⟩) (by assumption) ?_);rotate_left
   ·(intro w aB;(try dsimp only at aB);go_simp;first|done|with_reducible rfl)
   (try simp only[Act.put,Zpf,Zpg,Zph]);(refine ZpE (i:=1) (v:=?_) rfl (by kernel_rfl) (fun _ _ _ h=>h) (Or.inl ⟨by rfl,?_⟩) (by assumption) ?_);rotate_left
   ·(intro w aB;(try dsimp only at aB);go_simp;first|done|with_reducible rfl)
   (try simp only[Act.put,Zpf,Zpg,Zph])
   have bR:∀V,Below w1.heap.size w1 V→V.cell? ⟨w.heap.size,0,none⟩=some (.int .u64 (lo S))∧V.cell? ⟨w.heap.size,1,none⟩=some (.int .u64 (hi S)):=fun V h=>by
    have f0:=(h.block _ (Zpi e0.out).1).trans e0.out;exact⟨by rw[World.cell?,f0];rfl,by rw[World.cell?,f0];rfl⟩
   replace bR:=Zpe bR;(refine wpAnyH_ready (rs:=[2]) (by kernel_rfl) (by simp) ?_);(refine Zaw rfl (fun K hK=>?_))
   ((rw[if_pos (by rfl)]);go_simp;refine(q1.out _ hd.out).mono ?_;rintro e w3 ⟨v,l,rfl,aJ,cq,aa⟩;have kI:=Zpe (hd.out.trans (aa.mono hd.out.size));refine hK.out _ _ (bR.out _ kI.out) (fun aA=>?_);clear aa)
   (clear hK K)
   (try simp only[Act.put,Zpf,Zpg,Zph]);(refine wpAnyH_ready (rs:=[3]) (by kernel_rfl) (by simp) ?_);(refine Zaw rfl (fun K hK=>?_))
   ((rw[if_pos (by rfl)]);go_simp;refine(Ze9 l v _ (Za4 aJ) (aL.out l cq)).mono ?_;rintro e w4 ⟨rfl,bF⟩;have fh:=Zpe (kI.out.trans (bF.mono kI.out.size));refine hK.out _ _ (bR.out _ fh.out) (fun aA=>?_);clear bF)
   (clear hK K)
   (try simp only[Act.put,Zpf,Zpg,Zph])
   (unfold ZaT)
   (refine wpAnyH_ready (rs:=[4]) (by kernel_rfl) (by simp) ?_);(refine Zaw rfl (fun K hK=>?_))
   ((rw[if_pos (by rfl)]);go_simp;refine(hD.out l cq _).mono ?_;rintro e w5 ⟨rfl,aj⟩;have fj:=Zpe (fh.out.trans (aj.mono fh.out.size));refine hK.out _ _ (bR.out _ fj.out) (fun aA=>?_);clear aj)
   (clear hK K)
   (try simp only[Act.put,Zpf,Zpg,Zph]);(refine ZpE (i:=5) (v:=?_) rfl (by kernel_rfl) (fun _ _ _ h=>h) (Or.inl ⟨by rfl,?_⟩) (by assumption) ?_);rotate_left
   ·(intro w aB;(try dsimp only at aB);go_simp;first|done|with_reducible rfl)
   (try simp only[Act.put,Zpf,Zpg,Zph]);(refine wpAnyH_done (by kernel_rfl) ?_ _);clear aA;have am:=aC.below.trans (fj.out.mono ud)
   cases A
   ·go_wp2_with fail
    go_ret;exact⟨by rw[mz.out];rfl,am⟩
   ·go_wp2_with fail
    go_ret;exact⟨by rw[mz.out];rfl,am⟩
  ·rw[if_pos h2]at jH
   have d2:(Zad t !=0)=true:=by simpa using h2
   replace jH:=Zpe jH;generalize Zad t=z2 at *;replace e0:=Zpe e0;clear ht fZ
   go_enter Tryz.func21,Tryz.ntmps21
   go_wp2_with fail;rw[←aD];replace aD:=Zpe aD;go_wp2_with fail;refine qk.mono ?_;rintro e w2 ⟨rfl,aF⟩;clear qk;go_wp2_with fail;go_ret;exact⟨by rw[jH.out];rfl,(aC.trans aF).below⟩
 ·have jH:Hid (Zb0 n C t=L.ciChk n C):=Zpe (by unfold Zb0;rw[if_pos h1])
  have d1:(L.ciChk n C !=0)=true:=by simpa using h1
  clear ha;generalize L.ciChk n C=z1 at *;replace e0:=Zpe e0;clear ht fZ qk
  go_enter Tryz.func21,Tryz.ntmps21
  go_wp2_with fail;go_ret;exact⟨by rw[jH.out];rfl,by rw[←aD];exact aC.below⟩
end Go.Proofs.YtmnjakejhbpkoaaGreatDoor
end
section
namespace Go.Proofs.YtmnjakejhbpkoaaGreatDoor
open Go Go.RowKit Go.Shelf
def Zfo (f:Nat→Bool)(k:Nat):Nat:=((List.range k).filter f).length
theorem Zma(f:Nat→Bool)(k:Nat):Zfo f k≤k:=by
 have:=List.length_filter_le f (List.range k);simpa [Zfo] using this
theorem Zjk(f:Nat→Bool)(k:Nat):Zfo f (k+1)=Zfo f k+(if f k=true then 1 else 0):=by
 unfold Zfo;rw[List.range_succ,List.filter_append,Zpo]
 cases h:f k <;> simp[h]
theorem ZhS{φ:L.Asg→Bool}{vf:Value}{l:List Int}{w:World}(hf:Zja w vf l φ)(gU:l.Nodup)(hl:l.length≤12) :
  Calls Tryz.prog 31 #[vf] w fun e w'=>e= .returned (.int .i64 (L.cnt l φ:Nat))∧Ext w w':=by
 obtain⟨vl,g0,c0,rfl,bh,kD⟩:=hf;have ww:=kD.lt;have hN:=ZcW hl;have hcr:=L.cnt_range l φ gU;have e0:=Zpm w (.cells #[vl,.slice (some ⟨g0,0,none⟩) (2 ^ l.length) c0] 48);have aC:Ext w (w.alloc (.cells #[vl,.slice (some ⟨g0,0,none⟩) (2 ^ l.length) c0] 48)):=(Ext.refl w).alloc _;obtain⟨w1,aD⟩:∃w1,w1=w.alloc (.cells #[vl,.slice (some ⟨g0,0,none⟩) (2 ^ l.length) c0] 48):=⟨_,rfl⟩;rw[←aD]at e0 aC;have fQ:∀(j:Nat),j<2 ^ l.length→w1.cell? ⟨g0,j,none⟩=some (.bool (φ (L.nth l j))):=fun j hj=>((kD.same (aC.below.block _ ww)).cell hj).1
 generalize j5:2 ^ l.length=N at *;clear bh gU kD;have c1:w1.cell? ⟨w.heap.size,1,none⟩=some (.slice (some ⟨g0,0,none⟩) N c0):=by rw[World.cell?,e0];rfl
 obtain⟨f,uG⟩:∃f:Nat→Bool,f=fun k=>φ (L.nth l k):=⟨_,rfl⟩
 have eC:∀(j:Nat),j<N→w1.cell? ⟨g0,j,none⟩=some (.bool (f j)):=fun j hj=>by rw[uG];exact fQ j hj
 have wg:Zfo f N=L.cnt l φ:=by rw[uG];exact hcr
 clear fQ hcr;rw[←wg];replace wg:=Zpe wg;replace uG:=Zpe uG;replace j5:=Zpe j5;replace eC:=Zpe eC;replace e0:=Zpe e0
 go_enter Tryz.func31,Tryz.ntmps31
 go_wp2_with fail;rw[←aD];replace aD:=Zpe aD;go_wp2_with fail
 go_loopw [3,4] (fun n i wr=>∃k:Nat,k≤N∧i= .int .i64 (k:Int)∧n= .int .i64 (Zfo f k:Nat)∧wr=w1) (fun _ i _=>N - (intOf i).toNat)
 case atStart=>exact⟨0,by omega,rfl,rfl,rfl⟩
 case round =>
  obtain⟨k,hk,rfl,rfl,rfl⟩:=hrel
  by_cases aE:k<N
  ·have d0:decide ((k:Int)<(N:Int))=true:=Zpv (by omega)
   have g0':(0:Int)≤(k:Int):=by omega
   have g1:(k:Int)<(N:Int):=by omega
   have hc:=eC.out k aE;have hs:=Zjk f k;have gG:=Zma f k;generalize Zfo f k=q at *
   cases hB:f k
   ·rw[hB]at hc
    have pK:Hid (Zfo f (k+1)=q):=Zpe (by rw[hs,hB];rfl);clear hs;go_wp2_with fail;go_roundw
    case rel=>exact⟨k+1,by omega,by go_num,by rw[pK.out],by first|rfl|trivial⟩
    case measure=>simp[intOf];omega
   ·rw[hB]at hc
    have pK:Hid (Zfo f (k+1)=q+1):=Zpe (by rw[hs,hB];rfl);clear hs;go_wp2_with fail;go_roundw
    case rel=>exact⟨k+1,by omega,by go_num,by rw[pK.out] <;> go_num,by first|rfl|trivial⟩
    case measure=>simp[intOf];omega
  ·obtain rfl:k=N:=by omega
   have d0:decide ((k:Int)<(k:Int))=false:=Zpu (by omega);go_wp2_with fail;go_ret;exact⟨rfl,aC⟩
structure CB (t:List VN) (sb k root fb:Nat) (vl o:Value) (l:List Int) (φ:L.Asg→Bool) (s:St) (w0 W:World):Prop where
 sl:SL t sb k [] s w0 W
 val:Val s root φ
 box:W.heap[fb]? =some (.cells #[vl,o] 48)
 fn:Zja W (.agg #[vl,o]) l φ
 row:∃base,W.ownsRow base 3 1 vl l.length (l.map ZeJ)
section
variable {t:List VN}{sb k k' root fb:Nat}{vl o:Value}{l:List Int}{φ:L.Asg→Bool}{s s':St}{w0 W W':World}
theorem CB.stays(h:CB t sb k root fb vl o l φ s w0 W)(hs:SL t sb k' [] s' w0 W')(hv:Val s' root φ)(hS:Zaz W W'):CB t sb k' root fb vl o l φ s' w0 W' :=
 ⟨hs,hv,hS.get h.box (by decide) (by decide),(by obtain⟨_,hr⟩:=h.row;exact h.fn.stays rfl hr hS),(by obtain⟨_,hr⟩:=h.row;exact⟨_,Zby hr hS⟩)⟩
theorem CB.below(h:CB t sb k root fb vl o l φ s w0 W)(hb:Below W.heap.size W W'):CB t sb k root fb vl o l φ s w0 W':=h.stays (h.sl.below hb) h.val (Zaz.of_below hb)
theorem CB.cells(h:CB t sb k root fb vl o l φ s w0 W):W.cell? ⟨fb,0,none⟩=some vl∧W.cell? ⟨fb,1,none⟩=some o:=by
 refine⟨?_,?_⟩
 ·rw[World.cell?,h.box];rfl
 ·rw[World.cell?,h.box];rfl
theorem CB.made{w4:World}{n1 n2:Value}(hS:SL t sb k [] s w0 w4)(hv:Val s root φ)(hb:Below w4.heap.size w4 W)(hf:w4.heap.size≤fb)(aK:W.heap[fb]? =some (.cells #[n1,n2] 48))(fU:Zja W (.agg #[vl,o]) l φ)(aJ:∃base,W.ownsRow base 3 1 vl l.length (l.map ZeJ)) :
  CB t sb k root fb vl o l φ s w0 ((W.setCell ⟨fb,0,none⟩ vl).setCell ⟨fb,1,none⟩ o)∧Below w4.heap.size w4 ((W.setCell ⟨fb,0,none⟩ vl).setCell ⟨fb,1,none⟩ o):=by
 have dx:Below w4.heap.size w4 ((W.setCell ⟨fb,0,none⟩ vl).setCell ⟨fb,1,none⟩ o):=(hb.setCell hf _).setCell hf _
 have aH:∀(g:Nat) (c:Array Value) (ty:TypeId),W.heap[g]? =some (.cells c ty (0,0))→ty≠48→((W.setCell ⟨fb,0,none⟩ vl).setCell ⟨fb,1,none⟩ o).heap[g]? =W.heap[g]?:=fun g c ty h1 h2=>by
  have nK:g≠fb:=by
   intro e;rw[e,aK]at h1;simp only[Zpw,Obj.cells.injEq]at h1;exact h2 h1.2.1.symm
  exact(Below.heap_setCell _ _ _ _ nK).trans (Below.heap_setCell _ _ _ _ nK)
 have n5:∃base,((W.setCell ⟨fb,0,none⟩ vl).setCell ⟨fb,1,none⟩ o).ownsRow base 3 1 vl l.length (l.map ZeJ):=by
  obtain⟨base,a,h|⟨g,cap,cur,rfl,bk,bV,hr⟩⟩:=aJ
  ·exact⟨base,a,.inl h⟩
  ·exact⟨base,a,.inr ⟨g,cap,cur,rfl,bk,(aH _ _ _ bV (by decide)).trans bV,hr⟩⟩
 refine⟨⟨hS.below dx,hv,Zag (Zag aK 0 vl) 1 o,?_,n5⟩,dx⟩;obtain⟨_,hr⟩:=n5;obtain⟨vl',g,c,h1,_,h3⟩:=fU;simp only[Value.agg.injEq,Array.mk.injEq,List.cons.injEq,and_true]at h1;obtain⟨rfl,rfl⟩:=h1;obtain⟨cc,h4,h5⟩:=h3;exact⟨_,g,c,rfl,Za4 hr,⟨cc,(aH _ _ _ h4 (by decide)).trans h4,h5⟩⟩
end
end Go.Proofs.YtmnjakejhbpkoaaGreatDoor
end
