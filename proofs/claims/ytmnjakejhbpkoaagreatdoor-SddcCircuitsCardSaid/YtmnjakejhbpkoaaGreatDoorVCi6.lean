import Derived.Test.YtmnjakejhbpkoaaGreatDoorVCi5
set_option linter.unusedSimpArgs false
set_option linter.unusedVariables false
set_option maxRecDepth 100000
set_option maxHeartbeats 16000000
namespace Go.Proofs.YtmnjakejhbpkoaaGreatDoor
open Go Go.RowKit Go.Shelf
theorem ZiI{α:Type}{l:List α}(h:l.length=2):∃a b,l=[a,b]:=by
 match l,h with
 | [a,b],_=>exact⟨a,b,rfl⟩
theorem ZfJ{α:Type}{l:List α}(h:l.length=3):∃a b c,l=[a,b,c]:=by
 match l,h with
 | [a,b,c],_=>exact⟨a,b,c,rfl⟩
theorem Zd4{k:Int}{n:Nat}(h:L.gAllow k n=true):((k=0∨k=1∨k=2)∧n=0)∨(k=3∧n=1)∨(k=7∧n=2)∨(k=8∧n=3)∨k=4∨k=5∨k=6:=by
 unfold L.gAllow at h
 repeat' split at h
 all_goals (simp only[ZpA]at h;omega)
theorem Zmi{t:List VN}{sb k k':Nat}{s:St}{w0 w:World}{g:Nat}{ins:List Nat}{φs:List (L.Asg→Bool)}{kd lt:Int}{ip:List Int}{bb:Option Addr}{M cc:Nat}
  (h:SL t sb k [] s w0 w) (kV:Val s 0 fun _=>false) (py:Val s 1 fun _=>true) (aL:ins.length=φs.length) (eQ:L.gAllow kd ins.length=true) (bh:kd=2→Zbm t (lt.natAbs:Int)) (bg:ins.length≤12) (hr:ZbK w g 3 ins.length (fun j=>Zab (ins.getD j 0))) (av:∀j (h1:j<ins.length) (h2:j<φs.length),Val s ins[j] φs[j]) (hk:k'+372+369*ins.length≤k) :
  Calls Tryz.prog 117 #[.pointer (some ⟨sb,0,none⟩),.agg #[.int .i64 kd,.int .i64 lt,.slice bb M cc],.slice (some ⟨g,0,none⟩) ins.length ins.length] w (Zft t sb k' [] s w0 w fun x=>L.gVal ⟨kd,lt,ip⟩ (φs.map fun f=>f x) x):=by
 obtain⟨e0,e1⟩:=ZbB w (.cells #[.pointer (some ⟨sb,0,none⟩)] 32) (.cells #[.int .i64 kd,.int .i64 lt,.slice bb M cc] 166);have aS:Below w.heap.size w ((w.alloc (.cells #[.pointer (some ⟨sb,0,none⟩)] 32)).alloc (.cells #[.int .i64 kd,.int .i64 lt,.slice bb M cc] 166)):=(((Ext.refl w).alloc _).alloc _).below;obtain⟨w1,aD⟩:∃w1,w1=(w.alloc (.cells #[.pointer (some ⟨sb,0,none⟩)] 32)).alloc (.cells #[.int .i64 kd,.int .i64 lt,.slice bb M cc] 166):=⟨_,rfl⟩;rw[←aD]at e0 e1 aS;obtain⟨bx,ao⟩:∃bx,bx=w.heap.size:=⟨_,rfl⟩;rw[←ao]at e0 e1;have c0:w1.cell? ⟨bx,0,none⟩=some (.pointer (some ⟨sb,0,none⟩)):=by rw[World.cell?,e0];rfl
 have k0:w1.cell? ⟨bx+1,0,none⟩=some (.int .i64 kd):=by rw[World.cell?,e1];rfl
 have k1:w1.cell? ⟨bx+1,1,none⟩=some (.int .i64 lt):=by rw[World.cell?,e1];rfl
 have bO:=h.below aS;have iE:=hr.below aS;have fG:=Zaz.of_below aS;have ew:=fun (V:World) (hV:Zaz w1 V)=>show V.cell? ⟨bx,0,none⟩=some (.pointer (some ⟨sb,0,none⟩)) by rw[World.cell?,ZgL e0 hV];rfl
 have bG:=fun (V:World) (hV:Zaz w1 V) (j:Nat) (hj:j<ins.length)=>(iE.stays hV).at_ hj
 have lq:∀(fn:Fn) (first cap:Array Value) (w:World),(Instr.makeFunc fn first cap).run Tryz.prog w= .ok (.func fn first cap) w:=fun _ _ _ _=>rfl
 have fg:Zaz w1 w1.drew:=Zaz.of_below (Zpr _ _).drew;have lg:=h.below (aS.drew);have qand:=Zmh (k':=k') bO py aL bg iE av (by omega);have qor:=Znu (k':=k') bO kV aL bg iE av (by omega);have qxor:=Zmj (k':=k') (bx:=bx) bO kV e0 aL bg iE av (by omega);replace h:=Zpe h;replace kV:=Zpe kV;replace py:=Zpe py;replace hr:=Zpe hr;replace iE:=Zpe iE;replace ew:=Zpe ew;replace bG:=Zpe bG;replace bO:=Zpe bO;replace lg:=Zpe lg;replace fG:=Zpe fG;replace fg:=Zpe fg;replace ao:=Zpe ao;replace bh:=Zpe bh;replace av:=Zpe av;clear e0 e1 aS;have ix:=Zd4 eQ;clear eQ;rcases ix with ⟨vG,hn⟩|⟨rfl,hn⟩|⟨rfl,hn⟩|⟨rfl,hn⟩|rfl|rfl|rfl
 ·clear qand qor qxor
  replace hn:=Zpe hn;replace aL:=Zpe aL;rcases vG with rfl|rfl|rfl
  ·go_enter Tryz.func117,Tryz.ntmps117
   go_wp2_with fail;rw[←aD,←ao.out];replace aD:=Zpe aD;go_wp2_with fail;go_ret2;exact⟨0,s,rfl,bO.out.less (by omega),L.Step.refl h.out.inv,kV.out.congr fun x=>by simp[L.gVal],(fun x hx=>by cases hx),fG.out⟩
  ·go_enter Tryz.func117,Tryz.ntmps117
   go_wp2_with fail;rw[←aD,←ao.out];replace aD:=Zpe aD;go_wp2_with fail;go_ret2;exact⟨1,s,rfl,bO.out.less (by omega),L.Step.refl h.out.inv,py.out.congr fun x=>by simp[L.gVal],(fun x hx=>by cases hx),fG.out⟩
  ·have q:=bO.out.lit (bh.out rfl)
   go_enter Tryz.func117,Tryz.ntmps117
   go_wp2_with fail;rw[←aD,←ao.out];replace aD:=Zpe aD;go_wp2_with fail;refine q.mono ?_;rintro e w2 ⟨r2,s2,rfl,aZ,bT,ap,_,bU⟩;replace aZ:=Zpe aZ;clear q;go_wp2_with fail;go_ret2;exact⟨r2,s2,rfl,aZ.out.less (by omega),bT,ap.congr fun x=>by simp[L.gVal];rfl,(fun x hx=>by cases hx),fG.out.trans bU⟩
 ·clear qand qor qxor
  obtain⟨a,rfl⟩:=List.length_eq_one_iff.1 hn;obtain⟨φ,rfl⟩:=List.length_eq_one_iff.1 (aL.symm.trans hn);have ha:Val s a φ:=av.out 0 (by simp) (by simp);have q:=lg.out.not (k':=k') (by omega) ha;clear hn aL;have i0:=bG.out w1.drew fg.out 0 (by simp);have b0:=ew.out w1.drew fg.out;simp only[List.length_singleton,List.getElem_cons_zero,Nat.zero_add]at *
  go_enter Tryz.func117,Tryz.ntmps117
  go_wp2_with fail;rw[←aD,←ao.out];replace aD:=Zpe aD;go_wp2_with fail;(refine wp_region_held_drew (S:=(fun V=>V.cell? ⟨bx,0,none⟩=some (.pointer (some ⟨sb,0,none⟩))∧V.cell? ⟨g,0,none⟩=some (.int .i64 (a:Nat)))) (by kernel_rfl) ?_ (fun aA=>?_))
  ·exact⟨b0,i0⟩
  (refine ZpE (i:=0) (v:=?_) rfl (by kernel_rfl) (fun _ _ _ h=>h) (Or.inl ⟨by rfl,?_⟩) (by assumption) ?_);rotate_left
  ·(intro w aB;(try dsimp only at aB);go_simp;first|done|with_reducible rfl)
  (try simp only[Act.put,Zpf,Zpg,Zph]);(refine ZpE (i:=1) (v:=?_) rfl (by kernel_rfl) (fun _ _ _ h=>h) (Or.inl ⟨by rfl,?_⟩) (by assumption) ?_);rotate_left
  ·(intro w aB;(try dsimp only at aB);go_simp;first|done|with_reducible rfl)
  (try simp only[Act.put,Zpf,Zpg,Zph]);(refine ZpE (i:=2) (v:=?_) rfl (by kernel_rfl) (fun _ _ _ h=>h) (Or.inl ⟨by rfl,?_⟩) (by assumption) ?_);rotate_left
  ·(intro w aB;(try dsimp only at aB);go_simp;first|done|with_reducible rfl)
  (try simp only[Act.put,Zpf,Zpg,Zph]);(refine ZpE (i:=3) (v:=?_) rfl (by kernel_rfl) (fun _ _ _ h=>h) (Or.inl ⟨by rfl,?_⟩) (by assumption) ?_);rotate_left
  ·(intro w aB;(try dsimp only at aB);go_simp;first|done|with_reducible rfl)
  (try simp only[Act.put,Zpf,Zpg,Zph]);(refine wpAnyH_ready (rs:=[4]) (by kernel_rfl) (by simp) ?_);(refine Zaw rfl (fun K hK=>?_))
  ((rw[if_pos (by rfl)]);go_simp;(go_at_call 39);refine q.mono ?_;rintro e w2 ⟨r2,s2,rfl,aZ,bT,ap,_,bU⟩;have jo:=fg.out.trans bU;have i1:=bG.out w2 jo 0 (by simp);refine hK.out _ _ ⟨ew.out w2 jo,i1⟩ (fun aA=>?_))
  (clear hK K)
  (try simp only[Act.put,Zpf,Zpg,Zph]);replace aZ:=Zpe aZ;replace ap:=Zpe ap;(refine ZpE (i:=5) (v:=?_) rfl (by kernel_rfl) (fun _ _ _ h=>h) (Or.inl ⟨by rfl,?_⟩) (by assumption) ?_);rotate_left
  ·(intro w aB;(try dsimp only at aB);go_simp;first|done|with_reducible rfl)
  (try simp only[Act.put,Zpf,Zpg,Zph]);(refine ZpE (i:=6) (v:=?_) rfl (by kernel_rfl) (fun _ _ _ h=>h) (Or.inl ⟨by rfl,?_⟩) (by assumption) ?_);rotate_left
  ·(intro w aB;(try dsimp only at aB);go_simp;first|done|with_reducible rfl)
  (try simp only[Act.put,Zpf,Zpg,Zph]);(refine ZpE (i:=7) (v:=?_) rfl (by kernel_rfl) (fun _ _ _ h=>h) (Or.inl ⟨by rfl,?_⟩) (by assumption) ?_);rotate_left
  ·(intro w aB;(try dsimp only at aB);go_simp;first|done|with_reducible rfl)
  (try simp only[Act.put,Zpf,Zpg,Zph]);(refine ZpE (i:=8) (v:=?_) rfl (by kernel_rfl) (fun _ _ _ h=>h) (Or.inl ⟨by rfl,?_⟩) (by assumption) ?_);rotate_left
  ·(intro w aB;(try dsimp only at aB);go_simp;first|done|with_reducible rfl)
  (try simp only[Act.put,Zpf,Zpg,Zph]);(refine wpAnyH_done (by kernel_rfl) ?_ _);clear aA q i0 i1 b0;go_wp2_with fail;go_ret2;exact⟨r2,s2,rfl,aZ.out,bT,ap.out.congr fun x=>by simp[L.gVal],(fun x hx=>by cases hx),fG.out.trans jo⟩
 ·clear qand qor qxor
  obtain⟨a,b,rfl⟩:=ZiI hn;obtain⟨φ,ψ,rfl⟩:=ZiI (aL.symm.trans hn);have ha:Val s a φ:=av.out 0 (by simp) (by simp);have hb:Val s b ψ:=av.out 1 (by simp) (by simp);clear hn aL;have q:=ZlT (k':=k'+3) lg.out (by simp at hk;omega) ha hb;have i0:=bG.out w1.drew fg.out 0 (by simp);have i1:=bG.out w1.drew fg.out 1 (by simp);have b0:=ew.out w1.drew fg.out;simp only[ZpC,List.length_nil,List.getElem_cons_zero,List.getElem_cons_succ,Nat.zero_add,Nat.reduceAdd]at *
  go_enter Tryz.func117,Tryz.ntmps117
  go_wp2_with fail;rw[←aD,←ao.out];replace aD:=Zpe aD;go_wp2_with fail;(refine wp_region_held_drew (S:=(fun V=>V.cell? ⟨bx,0,none⟩=some (.pointer (some ⟨sb,0,none⟩))∧V.cell? ⟨g,0,none⟩=some (.int .i64 (a:Nat))∧V.cell? ⟨g,1,none⟩=some (.int .i64 (b:Nat)))) (by kernel_rfl) ?_ (fun aA=>?_))
  ·exact⟨b0,i0,i1⟩
  (refine ZpE (i:=0) (v:=?_) rfl (by kernel_rfl) (fun _ _ _ h=>h) (Or.inl ⟨by rfl,?_⟩) (by assumption) ?_);rotate_left
  ·(intro w aB;(try dsimp only at aB);go_simp;first|done|with_reducible rfl)
  (try simp only[Act.put,Zpf,Zpg,Zph]);(refine ZpE (i:=1) (v:=?_) rfl (by kernel_rfl) (fun _ _ _ h=>h) (Or.inl ⟨by rfl,?_⟩) (by assumption) ?_);rotate_left
  ·(intro w aB;(try dsimp only at aB);go_simp;first|done|with_reducible rfl)
  (try simp only[Act.put,Zpf,Zpg,Zph]);(refine ZpE (i:=2) (v:=?_) rfl (by kernel_rfl) (fun _ _ _ h=>h) (Or.inl ⟨by rfl,?_⟩) (by assumption) ?_);rotate_left
  ·(intro w aB;(try dsimp only at aB);go_simp;first|done|with_reducible rfl)
  (try simp only[Act.put,Zpf,Zpg,Zph]);(refine ZpE (i:=3) (v:=?_) rfl (by kernel_rfl) (fun _ _ _ h=>h) (Or.inl ⟨by rfl,?_⟩) (by assumption) ?_);rotate_left
  ·(intro w aB;(try dsimp only at aB);go_simp;first|done|with_reducible rfl)
  (try simp only[Act.put,Zpf,Zpg,Zph]);(refine ZpE (i:=4) (v:=?_) rfl (by kernel_rfl) (fun _ _ _ h=>h) (Or.inl ⟨by rfl,?_⟩) (by assumption) ?_);rotate_left
  ·(intro w aB;(try dsimp only at aB);go_simp;first|done|with_reducible rfl)
  (try simp only[Act.put,Zpf,Zpg,Zph]);(refine ZpE (i:=5) (v:=?_) rfl (by kernel_rfl) (fun _ _ _ h=>h) (Or.inl ⟨by rfl,?_⟩) (by assumption) ?_);rotate_left
  ·(intro w aB;(try dsimp only at aB);go_simp;first|done|with_reducible rfl)
  (try simp only[Act.put,Zpf,Zpg,Zph]);(refine ZpE (i:=6) (v:=?_) rfl (by kernel_rfl) (fun _ _ _ h=>h) (Or.inl ⟨by rfl,?_⟩) (by assumption) ?_);rotate_left
  ·(intro w aB;(try dsimp only at aB);go_simp;first|done|with_reducible rfl)
  (try simp only[Act.put,Zpf,Zpg,Zph]);(refine wpAnyH_ready (rs:=[7]) (by kernel_rfl) (by simp) ?_);(refine Zaw rfl (fun K hK=>?_))
  ((rw[if_pos (by rfl)]);go_simp;(go_at_call 178);refine q.mono ?_;rintro e w2 ⟨r2,s2,rfl,aZ,bT,ap,_,bU⟩;have jo:=fg.out.trans bU;have j0:=bG.out w2 jo 0 (by simp);have j1:=bG.out w2 jo 1 (by simp);refine hK.out _ _ ⟨ew.out w2 jo,j0,j1⟩ (fun aA=>?_))
  (clear hK K)
  (try simp only[Act.put,Zpf,Zpg,Zph]);have c2:=ew.out w2 jo;have q2:=aZ.not (k':=k') (by omega) ap;replace aZ:=Zpe aZ;replace ap:=Zpe ap;(refine ZpE (i:=8) (v:=?_) rfl (by kernel_rfl) (fun _ _ _ h=>h) (Or.inl ⟨by rfl,?_⟩) (by assumption) ?_);rotate_left
  ·(intro w aB;(try dsimp only at aB);go_simp;first|done|with_reducible rfl)
  (try simp only[Act.put,Zpf,Zpg,Zph]);(refine ZpE (i:=9) (v:=?_) rfl (by kernel_rfl) (fun _ _ _ h=>h) (Or.inl ⟨by rfl,?_⟩) (by assumption) ?_);rotate_left
  ·(intro w aB;(try dsimp only at aB);go_simp;first|done|with_reducible rfl)
  (try simp only[Act.put,Zpf,Zpg,Zph]);(refine ZpE (i:=10) (v:=?_) rfl (by kernel_rfl) (fun _ _ _ h=>h) (Or.inl ⟨by rfl,?_⟩) (by assumption) ?_);rotate_left
  ·(intro w aB;(try dsimp only at aB);go_simp;first|done|with_reducible rfl)
  (try simp only[Act.put,Zpf,Zpg,Zph]);(refine ZpE (i:=11) (v:=?_) rfl (by kernel_rfl) (fun _ _ _ h=>h) (Or.inl ⟨by rfl,?_⟩) (by assumption) ?_);rotate_left
  ·(intro w aB;(try dsimp only at aB);go_simp;first|done|with_reducible rfl)
  (try simp only[Act.put,Zpf,Zpg,Zph]);(refine ZpE (i:=12) (v:=?_) rfl (by kernel_rfl) (fun _ _ _ h=>h) (Or.inl ⟨by rfl,?_⟩) (by assumption) ?_);rotate_left
  ·(intro w aB;(try dsimp only at aB);go_simp;first|done|with_reducible rfl)
  (try simp only[Act.put,Zpf,Zpg,Zph]);(refine wpAnyH_done (by kernel_rfl) ?_ _);clear aA q i0 i1 b0 j0 j1 c0 k0 k1;go_wp2_with fail;refine q2.mono ?_;rintro e w3 ⟨r3,s3,rfl,bd,eD,cD,_,dG⟩;replace bd:=Zpe bd;replace cD:=Zpe cD;clear q2;go_wp2_with fail;go_ret2;exact⟨r3,s3,rfl,bd.out,bT.trans eD,cD.out.congr fun x=>by simp[L.gVal];cases φ x <;> cases ψ x <;> rfl,(fun x hx=>by cases hx),fG.out.trans (jo.trans dG)⟩
 ·clear qand qor qxor
  obtain⟨a,b,c,rfl⟩:=ZfJ hn;obtain⟨φ,ψ,χ,rfl⟩:=ZfJ (aL.symm.trans hn);have ha:Val s a φ:=av.out 0 (by simp) (by simp);have hb:Val s b ψ:=av.out 1 (by simp) (by simp);have hc:Val s c χ:=av.out 2 (by simp) (by simp);clear hn aL;have q:=lg.out.not (k':=k'+363) (by simp at hk;omega) ha;have i0:=bG.out w1.drew fg.out 0 (by simp);have b0:=ew.out w1.drew fg.out;simp only[ZpC,List.length_nil,List.getElem_cons_zero,List.getElem_cons_succ,Nat.zero_add,Nat.reduceAdd]at *
  go_enter Tryz.func117,Tryz.ntmps117
  go_wp2_with fail;rw[←aD,←ao.out];replace aD:=Zpe aD;go_wp2_with fail;(refine wp_region_held_drew (S:=(fun V=>V.cell? ⟨bx,0,none⟩=some (.pointer (some ⟨sb,0,none⟩))∧V.cell? ⟨g,0,none⟩=some (.int .i64 (a:Nat)))) (by kernel_rfl) ?_ (fun aA=>?_))
  ·exact⟨b0,i0⟩
  (refine ZpE (i:=0) (v:=?_) rfl (by kernel_rfl) (fun _ _ _ h=>h) (Or.inl ⟨by rfl,?_⟩) (by assumption) ?_);rotate_left
  ·(intro w aB;(try dsimp only at aB);go_simp;first|done|with_reducible rfl)
  (try simp only[Act.put,Zpf,Zpg,Zph]);(refine ZpE (i:=1) (v:=?_) rfl (by kernel_rfl) (fun _ _ _ h=>h) (Or.inl ⟨by rfl,?_⟩) (by assumption) ?_);rotate_left
  ·(intro w aB;(try dsimp only at aB);go_simp;first|done|with_reducible rfl)
  (try simp only[Act.put,Zpf,Zpg,Zph]);(refine ZpE (i:=2) (v:=?_) rfl (by kernel_rfl) (fun _ _ _ h=>h) (Or.inl ⟨by rfl,?_⟩) (by assumption) ?_);rotate_left
  ·(intro w aB;(try dsimp only at aB);go_simp;first|done|with_reducible rfl)
  (try simp only[Act.put,Zpf,Zpg,Zph]);(refine ZpE (i:=3) (v:=?_) rfl (by kernel_rfl) (fun _ _ _ h=>h) (Or.inl ⟨by rfl,?_⟩) (by assumption) ?_);rotate_left
  ·(intro w aB;(try dsimp only at aB);go_simp;first|done|with_reducible rfl)
  (try simp only[Act.put,Zpf,Zpg,Zph]);(refine wpAnyH_ready (rs:=[4]) (by kernel_rfl) (by simp) ?_);(refine Zaw rfl (fun K hK=>?_))
  ((rw[if_pos (by rfl)]);go_simp;(go_at_call 39);refine q.mono ?_;rintro e w2 ⟨r2,s2,rfl,aZ,bT,ap,_,bU⟩;have jo:=fg.out.trans bU;have j0:=bG.out w2 jo 0 (by simp);refine hK.out _ _ ⟨ew.out w2 jo,j0⟩ (fun aA=>?_))
  (clear hK K)
  (try simp only[Act.put,Zpf,Zpg,Zph]);(refine ZpE (i:=5) (v:=?_) rfl (by kernel_rfl) (fun _ _ _ h=>h) (Or.inl ⟨by rfl,?_⟩) (by assumption) ?_);rotate_left
  ·(intro w aB;(try dsimp only at aB);go_simp;first|done|with_reducible rfl)
  (try simp only[Act.put,Zpf,Zpg,Zph]);(refine ZpE (i:=6) (v:=?_) rfl (by kernel_rfl) (fun _ _ _ h=>h) (Or.inl ⟨by rfl,?_⟩) (by assumption) ?_);rotate_left
  ·(intro w aB;(try dsimp only at aB);go_simp;first|done|with_reducible rfl)
  (try simp only[Act.put,Zpf,Zpg,Zph]);(refine ZpE (i:=7) (v:=?_) rfl (by kernel_rfl) (fun _ _ _ h=>h) (Or.inl ⟨by rfl,?_⟩) (by assumption) ?_);rotate_left
  ·(intro w aB;(try dsimp only at aB);go_simp;first|done|with_reducible rfl)
  (try simp only[Act.put,Zpf,Zpg,Zph]);(refine ZpE (i:=8) (v:=?_) rfl (by kernel_rfl) (fun _ _ _ h=>h) (Or.inl ⟨by rfl,?_⟩) (by assumption) ?_);rotate_left
  ·(intro w aB;(try dsimp only at aB);go_simp;first|done|with_reducible rfl)
  (try simp only[Act.put,Zpf,Zpg,Zph]);(refine ZpE (i:=9) (v:=?_) rfl (by kernel_rfl) (fun _ _ _ h=>h) (Or.inl ⟨by rfl,?_⟩) (by assumption) ?_);rotate_left
  ·(intro w aB;(try dsimp only at aB);go_simp;first|done|with_reducible rfl)
  (try simp only[Act.put,Zpf,Zpg,Zph]);(refine wpAnyH_done (by kernel_rfl) ?_ _);have lH:Zaz w1 w2.drew:=jo.trans (Zaz.of_below (Zpr _ _).drew);have m0:=bG.out w2.drew lH 0 (by simp);have m1:=bG.out w2.drew lH 1 (by simp);have m2:=bG.out w2.drew lH 2 (by simp);have c2:=ew.out w2.drew lH;simp only[List.getElem_cons_zero,List.getElem_cons_succ,Nat.zero_add]at m0 m1 m2;have eI:=h.out.inv;have q2:=Zfy (k':=k') (aZ.below ((Zpr _ _).drew)) (by omega) (ha.step eI bT) (hb.step eI bT) ap (hc.step eI bT);replace aZ:=Zpe aZ;replace ap:=Zpe ap;clear aA q i0 b0 j0 c0 k0 k1;go_wp2_with fail;(refine wp_region_held_drew (S:=(fun V=>V.cell? ⟨bx,0,none⟩=some (.pointer (some ⟨sb,0,none⟩))∧V.cell? ⟨g,0,none⟩=some (.int .i64 (a:Nat))∧V.cell? ⟨g,1,none⟩=some (.int .i64 (b:Nat))∧V.cell? ⟨g,2,none⟩=some (.int .i64 (c:Nat)))) (by kernel_rfl) ?_ (fun aA=>?_))
  ·exact⟨c2,m0,m1,m2⟩
  (refine ZpE (i:=0) (v:=?_) rfl (by kernel_rfl) (fun _ _ _ h=>h) (Or.inl ⟨by rfl,?_⟩) (by assumption) ?_);rotate_left
  ·(intro w aB;(try dsimp only at aB);go_simp;first|done|with_reducible rfl)
  (try simp only[Act.put,Zpf,Zpg,Zph]);(refine ZpE (i:=1) (v:=?_) rfl (by kernel_rfl) (fun _ _ _ h=>h) (Or.inl ⟨by rfl,?_⟩) (by assumption) ?_);rotate_left
  ·(intro w aB;(try dsimp only at aB);go_simp;first|done|with_reducible rfl)
  (try simp only[Act.put,Zpf,Zpg,Zph]);(refine ZpE (i:=2) (v:=?_) rfl (by kernel_rfl) (fun _ _ _ h=>h) (Or.inl ⟨by rfl,?_⟩) (by assumption) ?_);rotate_left
  ·(intro w aB;(try dsimp only at aB);go_simp;first|done|with_reducible rfl)
  (try simp only[Act.put,Zpf,Zpg,Zph]);(refine ZpE (i:=3) (v:=?_) rfl (by kernel_rfl) (fun _ _ _ h=>h) (Or.inl ⟨by rfl,?_⟩) (by assumption) ?_);rotate_left
  ·(intro w aB;(try dsimp only at aB);go_simp;first|done|with_reducible rfl)
  (try simp only[Act.put,Zpf,Zpg,Zph]);(refine ZpE (i:=4) (v:=?_) rfl (by kernel_rfl) (fun _ _ _ h=>h) (Or.inl ⟨by rfl,?_⟩) (by assumption) ?_);rotate_left
  ·(intro w aB;(try dsimp only at aB);go_simp;first|done|with_reducible rfl)
  (try simp only[Act.put,Zpf,Zpg,Zph]);(refine ZpE (i:=5) (v:=?_) rfl (by kernel_rfl) (fun _ _ _ h=>h) (Or.inl ⟨by rfl,?_⟩) (by assumption) ?_);rotate_left
  ·(intro w aB;(try dsimp only at aB);go_simp;first|done|with_reducible rfl)
  (try simp only[Act.put,Zpf,Zpg,Zph]);(refine ZpE (i:=6) (v:=?_) rfl (by kernel_rfl) (fun _ _ _ h=>h) (Or.inl ⟨by rfl,?_⟩) (by assumption) ?_);rotate_left
  ·(intro w aB;(try dsimp only at aB);go_simp;first|done|with_reducible rfl)
  (try simp only[Act.put,Zpf,Zpg,Zph]);(refine ZpE (i:=7) (v:=?_) rfl (by kernel_rfl) (fun _ _ _ h=>h) (Or.inl ⟨by rfl,?_⟩) (by assumption) ?_);rotate_left
  ·(intro w aB;(try dsimp only at aB);go_simp;first|done|with_reducible rfl)
  (try simp only[Act.put,Zpf,Zpg,Zph]);(refine ZpE (i:=8) (v:=?_) rfl (by kernel_rfl) (fun _ _ _ h=>h) (Or.inl ⟨by rfl,?_⟩) (by assumption) ?_);rotate_left
  ·(intro w aB;(try dsimp only at aB);go_simp;first|done|with_reducible rfl)
  (try simp only[Act.put,Zpf,Zpg,Zph]);(refine ZpE (i:=9) (v:=?_) rfl (by kernel_rfl) (fun _ _ _ h=>h) (Or.inl ⟨by rfl,?_⟩) (by assumption) ?_);rotate_left
  ·(intro w aB;(try dsimp only at aB);go_simp;first|done|with_reducible rfl)
  (try simp only[Act.put,Zpf,Zpg,Zph]);(refine ZpE (i:=10) (v:=?_) rfl (by kernel_rfl) (fun _ _ _ h=>h) (Or.inl ⟨by rfl,?_⟩) (by assumption) ?_);rotate_left
  ·(intro w aB;(try dsimp only at aB);go_simp;first|done|with_reducible rfl)
  (try simp only[Act.put,Zpf,Zpg,Zph]);(refine wpAnyH_ready (rs:=[11]) (by kernel_rfl) (by simp) ?_);(refine Zaw rfl (fun K hK=>?_))
  ((rw[if_pos (by rfl)]);go_simp;(go_at_call 179);refine q2.mono ?_;rintro e w3 ⟨r3,s3,rfl,bd,eD,cD,_,dG⟩;have lI:=lH.trans dG;have n0:=bG.out w3 lI 0 (by simp);have n1:=bG.out w3 lI 1 (by simp);have n2:=bG.out w3 lI 2 (by simp);simp only[List.getElem_cons_zero,List.getElem_cons_succ,Nat.zero_add]at n0 n1 n2;refine hK.out _ _ ⟨ew.out w3 lI,n0,n1,n2⟩ (fun aA=>?_))
  (clear hK K)
  (try simp only[Act.put,Zpf,Zpg,Zph]);replace bd:=Zpe bd;replace cD:=Zpe cD;(refine ZpE (i:=12) (v:=?_) rfl (by kernel_rfl) (fun _ _ _ h=>h) (Or.inl ⟨by rfl,?_⟩) (by assumption) ?_);rotate_left
  ·(intro w aB;(try dsimp only at aB);go_simp;first|done|with_reducible rfl)
  (try simp only[Act.put,Zpf,Zpg,Zph]);(refine ZpE (i:=13) (v:=?_) rfl (by kernel_rfl) (fun _ _ _ h=>h) (Or.inl ⟨by rfl,?_⟩) (by assumption) ?_);rotate_left
  ·(intro w aB;(try dsimp only at aB);go_simp;first|done|with_reducible rfl)
  (try simp only[Act.put,Zpf,Zpg,Zph]);(refine ZpE (i:=14) (v:=?_) rfl (by kernel_rfl) (fun _ _ _ h=>h) (Or.inl ⟨by rfl,?_⟩) (by assumption) ?_);rotate_left
  ·(intro w aB;(try dsimp only at aB);go_simp;first|done|with_reducible rfl)
  (try simp only[Act.put,Zpf,Zpg,Zph]);(refine ZpE (i:=15) (v:=?_) rfl (by kernel_rfl) (fun _ _ _ h=>h) (Or.inl ⟨by rfl,?_⟩) (by assumption) ?_);rotate_left
  ·(intro w aB;(try dsimp only at aB);go_simp;first|done|with_reducible rfl)
  (try simp only[Act.put,Zpf,Zpg,Zph]);(refine wpAnyH_done (by kernel_rfl) ?_ _);clear aA q2 n0 n1 n2 m0 m1 m2 c2;go_wp2_with fail;go_ret2;exact⟨r3,s3,rfl,bd.out,bT.trans eD,cD.out.congr fun x=>by simp[L.gVal],(fun x hx=>by cases hx),fG.out.trans lI⟩
 ·clear qor qxor
  replace aL:=Zpe aL;replace qand:Calls Tryz.prog 152 #[.slice (some ⟨g,0,none⟩) ins.length ins.length,.func (.func 82) #[.pointer (some ⟨sb,0,none⟩)] #[],.int .i64 1] w1 (Zft t sb k' [] s w0 w1 fun x=>(φs.map fun f=>f x).all id):=qand
  go_enter Tryz.func117,Tryz.ntmps117
  go_wp2_with fail;rw[←aD,←ao.out];replace aD:=Zpe aD;go_wp2_with fail;refine qand.mono ?_;rintro e w2 ⟨r2,s2,rfl,aZ,bT,ap,_,bU⟩;replace aZ:=Zpe aZ;clear qand;go_wp2_with fail;go_ret2;exact⟨r2,s2,rfl,aZ.out,bT,ap.congr fun x=>by simp[L.gVal],(fun x hx=>by cases hx),fG.out.trans bU⟩
 ·clear qand qxor
  replace aL:=Zpe aL;replace qor:Calls Tryz.prog 152 #[.slice (some ⟨g,0,none⟩) ins.length ins.length,.func (.func 41) #[.pointer (some ⟨sb,0,none⟩)] #[],.int .i64 0] w1 (Zft t sb k' [] s w0 w1 fun x=>(φs.map fun f=>f x).any id):=qor
  go_enter Tryz.func117,Tryz.ntmps117
  go_wp2_with fail;rw[←aD,←ao.out];replace aD:=Zpe aD;go_wp2_with fail;refine qor.mono ?_;rintro e w2 ⟨r2,s2,rfl,aZ,bT,ap,_,bU⟩;replace aZ:=Zpe aZ;clear qor;go_wp2_with fail;go_ret2;exact⟨r2,s2,rfl,aZ.out,bT,ap.congr fun x=>by simp[L.gVal],(fun x hx=>by cases hx),fG.out.trans bU⟩
 ·clear qand qor
  replace aL:=Zpe aL;replace qxor:Calls Tryz.prog 152 #[.slice (some ⟨g,0,none⟩) ins.length ins.length,.func (.func 177) #[] #[.pointer (some ⟨bx,0,none⟩)],.int .i64 0] w1 (Zft t sb k' [] s w0 w1 fun x=>(φs.map fun f=>f x).foldl (fun o y=>o !=y) false):=qxor
  go_enter Tryz.func117,Tryz.ntmps117
  go_wp2_with fail;rw[←aD,←ao.out];replace aD:=Zpe aD;go_wp2_with fail;refine qxor.mono ?_;rintro e w2 ⟨r2,s2,rfl,aZ,bT,ap,_,bU⟩;replace aZ:=Zpe aZ;clear qxor;go_wp2_with fail;go_ret2;exact⟨r2,s2,rfl,aZ.out,bT,ap.congr fun x=>by simp[L.gVal],(fun x hx=>by cases hx),fG.out.trans bU⟩
end Go.Proofs.YtmnjakejhbpkoaaGreatDoor
