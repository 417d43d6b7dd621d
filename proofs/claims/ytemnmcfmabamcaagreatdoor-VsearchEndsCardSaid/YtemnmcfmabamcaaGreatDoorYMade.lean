import Derived.Test.YtemnmcfmabamcaaGreatDoorYOver
import Derived.Test.YtemnmcfmabamcaaGreatDoorYVmv
set_option linter.unusedSimpArgs false
set_option linter.unusedVariables false
set_option maxRecDepth 100000
set_option maxHeartbeats 4000000
section
namespace Go.Proofs.YtemnmcfmabamcaaGreatDoor
open Go Go.RowKit Go.Shelf
def Zdh (kd:Nat)(t:List VN)(i:Int)(φ:L.Asg→Bool)(w:World)(e:Ending)(w':World):Prop :=
 Below w.heap.size w w'∧((ZdW kd t i=false∧e= .returned (.tuple #[.pointer none,.int .i64 0,.int .i64 1])) ∨
  (ZdW kd t i=true∧∃(n:Nat) (T U:L.Tr) (B:Zar) (so:St) (r:Nat),i=n∧n<t.length∧L.IsT L.idc t (t.length - 1) T∧L.Mv t kd n (t.length - 1) T U ∧
    e= .returned (.tuple #[.pointer (some ⟨B.sb,0,none⟩),.int .i64 (r:Nat),.int .i64 0])∧SS (U.post 0) B w' 300000 so w'∧Val so r φ∧∀j∈B.mut,w.heap.size≤j))
theorem ZkM{t:List VN}(hc:Zae t=0){kd n:Nat}{T U:L.Tr}(hT:L.IsT L.idc t (t.length - 1) T)(hM:L.Mv t kd n (t.length - 1) T U):∀v,ZdI t v↔ZdI (U.post 0) v:=fun v=>by
 obtain⟨h1,h2,_,h4⟩:=L.moved_ok hc hT hM;exact((hT.root_mem hc v).symm.trans (h4 v).symm).trans (h2.root_mem h1 v)
theorem Zff{w:World}{t:List VN}{s:St}{B1:Zar}{k1 root fm kd:Nat}{i:Int}{φ:L.Asg→Bool}(hs:SS t B1 w k1 s w)(hv:Val s root φ)(h7:t.length≤7)(hT:ZaY w)(hP:Zaz w)
  (hKf:∀(c:Array Value) (w:World),(callFunc fm c).run Tryz.prog w= .ok (.enter fm c) w) (hfm:∀(W:World) (b o cap:Nat),Zag W b o t→Calls Tryz.prog fm #[.slice (some ⟨b,o,none⟩) t.length cap,.int .i64 i] W (Zbo kd t i W)) :
  Calls Tryz.prog 95 #[.agg #[.func (.func fm) #[] #[]],.pointer (some ⟨B1.sb,0,none⟩),.int .i64 (root:Nat),.int .i64 i] w (Zdh kd t i φ w):=by
 generalize hx:w.heap.size=x at *;have aF:=(ZrE w.heap.size w).alloc (ZrQ _) (.cells #[.func (.func fm) #[] #[]] 156);have al:=Zrz w (.cells #[.func (.func fm) #[] #[]] 156);rw[hx]at al;have gy:=hs.below aF;have q1:=ZmV gy hv.lt;have nk:(w.alloc (.cells #[.func (.func fm) #[] #[]] 156)).cell? ⟨x,0,none⟩=some (.func (.func fm) #[] #[]):=by rw[World.cell?,al];rfl
 replace gy:=Zrr gy;replace hx:=Zrr hx
 go_enter Tryz.func95,Tryz.ntmps95
 go_wp2_with fail;simp only[hx.out];generalize w.alloc (.cells #[.func (.func fm) #[] #[]] 156)=w1 at *;refine q1.mono ?_;rintro e w2 ⟨oo,_,rfl,aL⟩;have iB:=aF.trans (aL.mono aF.size);have fD:=(ZrE w2.heap.size w2).drew;have mg:=gy.out.below (aL.trans (fD.mono aL.size));have wG:=(aL.cell (Zrx w1 _ nk)).trans nk;obtain⟨Bh,xh,xn⟩:=mg.held;have mi:=mg.tree;have qt:=Zhm xh (by rw[mi];omega);rw[xn.sb,mi]at qt;replace mg:=Zrr mg;clear q1 xh xn
 cases bV:ZdW kd t i
 ·go_wp2_with fail
  (refine wp_region_held_drew (S:=(fun W=>W.cell? ⟨x,0,none⟩=some (.func (.func fm) #[] #[]))) (by kernel_rfl) ?_ (fun aE=>?_))
  ·exact wG
  (refine ZrR (i:=0) (v:=?_) rfl (by kernel_rfl) (fun _ _ _ h=>h) (Or.inl ⟨by rfl,?_⟩) (by assumption) ?_);rotate_left
  ·(intro w aB;(try dsimp only at aB);go_simp;first|done|with_reducible rfl)
  (try simp only[Act.put,Zrs,Zrt,Zru]);(refine ZrR (i:=1) (v:=?_) rfl (by kernel_rfl) (fun _ _ _ h=>h) (Or.inl ⟨by rfl,?_⟩) (by assumption) ?_);rotate_left
  ·(intro w aB;(try dsimp only at aB);go_simp;first|done|with_reducible rfl)
  (try simp only[Act.put,Zrs,Zrt,Zru]);(refine ZrR (i:=2) (v:=?_) rfl (by kernel_rfl) (fun _ _ _ h=>h) (Or.inl ⟨by rfl,?_⟩) (by assumption) ?_);rotate_left
  ·(intro w aB;(try dsimp only at aB);go_simp;first|done|with_reducible rfl)
  (try simp only[Act.put,Zrs,Zrt,Zru]);(refine ZrR (i:=4) (v:=?_) rfl (by kernel_rfl) (fun _ _ _ h=>h) (Or.inl ⟨by rfl,?_⟩) (by assumption) ?_);rotate_left
  ·(intro w aB;(try dsimp only at aB);go_simp;first|done|with_reducible rfl)
  (try simp only[Act.put,Zrs,Zrt,Zru]);(refine wpAnyH_ready (rs:=[3]) (by kernel_rfl) (by simp) ?_);(refine ZaW rfl (fun K hK=>?_))
  ((rw[if_pos (by rfl)]);go_simp;(go_at_call 19);refine qt.mono ?_;rintro e w3 ⟨g3,cp3,cs3,rfl,bP,yj,oX,aU⟩;have gF:=(aU.cell (Zrx w2 _ wG)).trans wG;refine hK.out _ _ gF (fun aE=>?_))
  (clear hK K)
  (try simp only[Act.put,Zrs,Zrt,Zru]);have nW:Zag w3 g3 0 t:=fun j u hj=>by rw[World.cell?,yj];exact oX j u hj
  have qf:=hfm w3 g3 0 cp3 nW;have cS:=Zrr (mg.out.below aU);have oR:=Zrr (iB.trans ((fD.trans (aU.mono fD.size)).mono iB.size));clear qt yj oX nW;(refine wpAnyH_ready (rs:=[5]) (by kernel_rfl) (by simp) ?_);(refine ZaW rfl (fun K hK=>?_))
  ((rw[if_pos (by rfl)]);go_simp;refine qf.mono ?_;rintro e w4 ⟨aw,jW⟩;obtain⟨_,rfl⟩:=jW.resolve_right (fun h=>by rw[bV]at h;exact Bool.noConfusion h.1);have ju:=(aw.cell (Zrx w3 _ gF)).trans gF;refine hK.out _ _ ju (fun aE=>?_))
  (clear hK K)
  (try simp only[Act.put,Zrs,Zrt,Zru]);(refine ZrR (i:=6) (v:=?_) rfl (by kernel_rfl) (fun _ _ _ h=>h) (Or.inl ⟨by rfl,?_⟩) (by assumption) ?_);rotate_left
  ·(intro w aB;(try dsimp only at aB);go_simp;first|done|with_reducible rfl)
  (try simp only[Act.put,Zrs,Zrt,Zru]);(refine ZrR (i:=7) (v:=?_) rfl (by kernel_rfl) (fun _ _ _ h=>h) (Or.inl ⟨by rfl,?_⟩) (by assumption) ?_);rotate_left
  ·(intro w aB;(try dsimp only at aB);go_simp;first|done|with_reducible rfl)
  (try simp only[Act.put,Zrs,Zrt,Zru]);(refine ZrR (i:=8) (v:=?_) rfl (by kernel_rfl) (fun _ _ _ h=>h) (Or.inl ⟨by rfl,?_⟩) (by assumption) ?_);rotate_left
  ·(intro w aB;(try dsimp only at aB);go_simp;first|done|with_reducible rfl)
  (try simp only[Act.put,Zrs,Zrt,Zru]);(refine ZrR (i:=9) (v:=?_) rfl (by kernel_rfl) (fun _ _ _ h=>h) (Or.inl ⟨by rfl,?_⟩) (by assumption) ?_);rotate_left
  ·(intro w aB;(try dsimp only at aB);go_simp;first|done|with_reducible rfl)
  (try simp only[Act.put,Zrs,Zrt,Zru]);(refine ZrR (i:=10) (v:=?_) rfl (by kernel_rfl) (fun _ _ _ h=>h) (Or.inl ⟨by rfl,?_⟩) (by assumption) ?_);rotate_left
  ·(intro w aB;(try dsimp only at aB);go_simp;first|done|with_reducible rfl)
  (try simp only[Act.put,Zrs,Zrt,Zru]);(refine wpAnyH_done (by kernel_rfl) ?_ _);go_wp2_with fail;go_ret3;exact⟨oR.out.trans (aw.mono oR.out.size),.inl ⟨bV,rfl⟩⟩
 ·go_wp2_with fail
  (refine wp_region_held_drew (S:=(fun W=>W.cell? ⟨x,0,none⟩=some (.func (.func fm) #[] #[]))) (by kernel_rfl) ?_ (fun aE=>?_))
  ·exact wG
  (refine ZrR (i:=0) (v:=?_) rfl (by kernel_rfl) (fun _ _ _ h=>h) (Or.inl ⟨by rfl,?_⟩) (by assumption) ?_);rotate_left
  ·(intro w aB;(try dsimp only at aB);go_simp;first|done|with_reducible rfl)
  (try simp only[Act.put,Zrs,Zrt,Zru]);(refine ZrR (i:=1) (v:=?_) rfl (by kernel_rfl) (fun _ _ _ h=>h) (Or.inl ⟨by rfl,?_⟩) (by assumption) ?_);rotate_left
  ·(intro w aB;(try dsimp only at aB);go_simp;first|done|with_reducible rfl)
  (try simp only[Act.put,Zrs,Zrt,Zru]);(refine ZrR (i:=2) (v:=?_) rfl (by kernel_rfl) (fun _ _ _ h=>h) (Or.inl ⟨by rfl,?_⟩) (by assumption) ?_);rotate_left
  ·(intro w aB;(try dsimp only at aB);go_simp;first|done|with_reducible rfl)
  (try simp only[Act.put,Zrs,Zrt,Zru]);(refine ZrR (i:=4) (v:=?_) rfl (by kernel_rfl) (fun _ _ _ h=>h) (Or.inl ⟨by rfl,?_⟩) (by assumption) ?_);rotate_left
  ·(intro w aB;(try dsimp only at aB);go_simp;first|done|with_reducible rfl)
  (try simp only[Act.put,Zrs,Zrt,Zru]);(refine wpAnyH_ready (rs:=[3]) (by kernel_rfl) (by simp) ?_);(refine ZaW rfl (fun K hK=>?_))
  ((rw[if_pos (by rfl)]);go_simp;(go_at_call 19);refine qt.mono ?_;rintro e w3 ⟨g3,cp3,cs3,rfl,bP,yj,oX,aU⟩;have gF:=(aU.cell (Zrx w2 _ wG)).trans wG;refine hK.out _ _ gF (fun aE=>?_))
  (clear hK K)
  (try simp only[Act.put,Zrs,Zrt,Zru]);have nW:Zag w3 g3 0 t:=fun j u hj=>by rw[World.cell?,yj];exact oX j u hj
  have qf:=hfm w3 g3 0 cp3 nW;have cS:=Zrr (mg.out.below aU);have oR:=Zrr (iB.trans ((fD.trans (aU.mono fD.size)).mono iB.size));clear qt yj oX nW;(refine wpAnyH_ready (rs:=[5]) (by kernel_rfl) (by simp) ?_);(refine ZaW rfl (fun K hK=>?_))
  ((rw[if_pos (by rfl)]);go_simp;refine qf.mono ?_;rintro e w4 ⟨aw,jW⟩;obtain⟨_,n,T,U,g,cp,bC,bU,hTT,hM,rfl,hTU,hgU⟩:=jW.resolve_left (fun h=>by rw[bV]at h;exact Bool.noConfusion h.1);have ju:=(aw.cell (Zrx w3 _ gF)).trans gF;refine hK.out _ _ ju (fun aE=>?_))
  (clear hK K)
  (try simp only[Act.put,Zrs,Zrt,Zru]);(refine ZrR (i:=6) (v:=?_) rfl (by kernel_rfl) (fun _ _ _ h=>h) (Or.inl ⟨by rfl,?_⟩) (by assumption) ?_);rotate_left
  ·(intro w aB;(try dsimp only at aB);go_simp;first|done|with_reducible rfl)
  (try simp only[Act.put,Zrs,Zrt,Zru]);(refine ZrR (i:=7) (v:=?_) rfl (by kernel_rfl) (fun _ _ _ h=>h) (Or.inl ⟨by rfl,?_⟩) (by assumption) ?_);rotate_left
  ·(intro w aB;(try dsimp only at aB);go_simp;first|done|with_reducible rfl)
  (try simp only[Act.put,Zrs,Zrt,Zru]);(refine ZrR (i:=8) (v:=?_) rfl (by kernel_rfl) (fun _ _ _ h=>h) (Or.inl ⟨by rfl,?_⟩) (by assumption) ?_);rotate_left
  ·(intro w aB;(try dsimp only at aB);go_simp;first|done|with_reducible rfl)
  (try simp only[Act.put,Zrs,Zrt,Zru]);(refine ZrR (i:=9) (v:=?_) rfl (by kernel_rfl) (fun _ _ _ h=>h) (Or.inl ⟨by rfl,?_⟩) (by assumption) ?_);rotate_left
  ·(intro w aB;(try dsimp only at aB);go_simp;first|done|with_reducible rfl)
  (try simp only[Act.put,Zrs,Zrt,Zru]);(refine ZrR (i:=10) (v:=?_) rfl (by kernel_rfl) (fun _ _ _ h=>h) (Or.inl ⟨by rfl,?_⟩) (by assumption) ?_);rotate_left
  ·(intro w aB;(try dsimp only at aB);go_simp;first|done|with_reducible rfl)
  (try simp only[Act.put,Zrs,Zrt,Zru]);(refine wpAnyH_done (by kernel_rfl) ?_ _);have lX:=oR.out.trans (aw.mono oR.out.size);obtain⟨B4,fC,gY,eO,_⟩:=(cS.out.below aw).here;obtain⟨m1,_,m3,_⟩:=L.moved_ok hs.chk hTT hM;have qo:=ZjT (cap:=cp) eO hv hTU m1 (by omega) (fun v hv=>(ZkM hs.chk hTT hM v).1 hv) (hT.same (lX.block _ hT.lt')) (hP.same (lX.block _ hP.lt));rw[fC]at qo;replace lX:=Zrr lX;replace hTU:=Zrr hTU;replace eO:=Zrr eO;replace gY:=Zrr gY;clear qf aE aw ju gF;go_wp2_with fail;refine qo.mono ?_;rintro e w5 ⟨B,so,r,rfl,bO,jz,nK,ah⟩;replace bO:=Zrr bO;go_wp2_with fail;go_ret3;exact⟨lX.out.trans (ah.mono lX.out.size),.inr ⟨bV,n,T,U,B,so,r,bC,bU,hTT,hM,rfl,bO.out,jz,fun j hj=>ZrC lX.out.size (nK j hj)⟩⟩
end Go.Proofs.YtemnmcfmabamcaaGreatDoor
namespace Go.Proofs.YtemnmcfmabamcaaGreatDoor
open Go Go.RowKit Go.Shelf
theorem ZmI{t:List VN}(hc:Zae t=0)(i:Int):∀(W:World) (b o cap:Nat),Zag W b o t→Calls Tryz.prog 94 #[.slice (some ⟨b,o,none⟩) t.length cap,.int .i64 i] W (Zbo 1 t i W):=fun W b o cap h=>Zk8 h hc
theorem Zn6{t:List VN}(hc:Zae t=0)(i:Int):∀(W:World) (b o cap:Nat),Zag W b o t→Calls Tryz.prog 96 #[.slice (some ⟨b,o,none⟩) t.length cap,.int .i64 i] W (Zbo 2 t i W):=fun W b o cap h=>Zne h hc
theorem Zoy{t:List VN}(hc:Zae t=0)(i:Int):∀(W:World) (b o cap:Nat),Zag W b o t→Calls Tryz.prog 97 #[.slice (some ⟨b,o,none⟩) t.length cap,.int .i64 i] W (Zbo 3 t i W):=fun W b o cap h=>Zng h hc
theorem ZiR{w:World}{t:List VN}{s:St}{B1:Zar}{k1 root:Nat}{i:Int}{φ:L.Asg→Bool}(hs:SS t B1 w k1 s w)(hv:Val s root φ)(h7:t.length≤7)(hT:ZaY w)(hP:Zaz w) :
  Calls Tryz.prog 62 #[.pointer (some ⟨B1.sb,0,none⟩),.int .i64 (root:Nat),.int .i64 i] w (Zdh 1 t i φ w):=by
 have q:=Zff (fm:=94) (kd:=1) (i:=i) hs hv h7 hT hP (fun c w=>by simp[go_sem,Tryz.func94]) (ZmI hs.chk i)
 go_enter Tryz.func62,Tryz.ntmps62
 go_wp2_with fail;refine q.mono ?_;rintro e w1 ⟨hb,⟨bV,rfl⟩|⟨bV,n,T,U,B,so,r,bC,bU,mw,hM,rfl,hS,nX,hm⟩⟩
 ·clear q
  go_wp2_with fail;go_ret3;exact⟨hb,.inl ⟨bV,rfl⟩⟩
 ·clear q
  replace hS:=Zrr hS;replace hM:=Zrr hM;go_wp2_with fail;go_ret3;exact⟨hb,.inr ⟨bV,n,T,U,B,so,r,bC,bU,mw,hM.out,rfl,hS.out,nX,hm⟩⟩
theorem ZkO{w:World}{t:List VN}{s:St}{B1:Zar}{k1 root:Nat}{i:Int}{φ:L.Asg→Bool}(hs:SS t B1 w k1 s w)(hv:Val s root φ)(h7:t.length≤7)(hT:ZaY w)(hP:Zaz w) :
  Calls Tryz.prog 63 #[.pointer (some ⟨B1.sb,0,none⟩),.int .i64 (root:Nat),.int .i64 i] w (Zdh 2 t i φ w):=by
 have q:=Zff (fm:=96) (kd:=2) (i:=i) hs hv h7 hT hP (fun c w=>by simp[go_sem,Tryz.func96]) (Zn6 hs.chk i)
 go_enter Tryz.func63,Tryz.ntmps63
 go_wp2_with fail;refine q.mono ?_;rintro e w1 ⟨hb,⟨bV,rfl⟩|⟨bV,n,T,U,B,so,r,bC,bU,mw,hM,rfl,hS,nX,hm⟩⟩
 ·clear q
  go_wp2_with fail;go_ret3;exact⟨hb,.inl ⟨bV,rfl⟩⟩
 ·clear q
  replace hS:=Zrr hS;replace hM:=Zrr hM;go_wp2_with fail;go_ret3;exact⟨hb,.inr ⟨bV,n,T,U,B,so,r,bC,bU,mw,hM.out,rfl,hS.out,nX,hm⟩⟩
theorem ZkP{w:World}{t:List VN}{s:St}{B1:Zar}{k1 root:Nat}{i:Int}{φ:L.Asg→Bool}(hs:SS t B1 w k1 s w)(hv:Val s root φ)(h7:t.length≤7)(hT:ZaY w)(hP:Zaz w) :
  Calls Tryz.prog 64 #[.pointer (some ⟨B1.sb,0,none⟩),.int .i64 (root:Nat),.int .i64 i] w (Zdh 3 t i φ w):=by
 have q:=Zff (fm:=97) (kd:=3) (i:=i) hs hv h7 hT hP (fun c w=>by simp[go_sem,Tryz.func97]) (Zoy hs.chk i)
 go_enter Tryz.func64,Tryz.ntmps64
 go_wp2_with fail;refine q.mono ?_;rintro e w1 ⟨hb,⟨bV,rfl⟩|⟨bV,n,T,U,B,so,r,bC,bU,mw,hM,rfl,hS,nX,hm⟩⟩
 ·clear q
  go_wp2_with fail;go_ret3;exact⟨hb,.inl ⟨bV,rfl⟩⟩
 ·clear q
  replace hS:=Zrr hS;replace hM:=Zrr hM;go_wp2_with fail;go_ret3;exact⟨hb,.inr ⟨bV,n,T,U,B,so,r,bC,bU,mw,hM.out,rfl,hS.out,nX,hm⟩⟩
def ZnW (t:List VN):Bool:=decide (t.length≤7) && decide (Zae t=0)
end Go.Proofs.YtemnmcfmabamcaaGreatDoor
end
section
namespace Go.Proofs.YtemnmcfmabamcaaGreatDoor
open Go Go.RowKit Go.Shelf
theorem ZgY{t:List VN}{n:Nat}{y:VN}(hy:t[n]? =some y):ZaC t n= !Zai y:=by
 unfold ZaC;have hn:=(Zrw hy).1;have h1:decide ((0:Int)≤n)=true:=ZrI (by omega);have h2:decide ((n:Int)<t.length)=true:=ZrI (by omega);rw[Int.toNat_natCast,ZrG,hy];rw[h1,h2];rfl
theorem Zjz{t:List VN}{kd n:Nat}(h:L.CanAt t kd n):ZdW kd t n=true:=by
 obtain⟨y,hy,hl,h1,h2⟩:=h.here;unfold ZdW;rw[ZgY hy,hl,Zd3 hy,Zd4 hy]
 by_cases e1:kd=1
 ·obtain⟨a,x,ha,hx,jS⟩:=h1 e1
  rw[if_pos e1,ha,ZgY hx,jS];rfl
 ·rw[if_neg e1]
  by_cases e2:kd=2
  ·obtain⟨b,x,hb,hx,jS⟩:=h2 e2
   rw[if_pos e2,hb,ZgY hx,jS];rfl
  ·rw[if_neg e2];rfl
theorem ZpL{T:L.Tr}(hv:∀v∈T.vars,1≤v∧v≤128){kd n:Nat}{φ:L.Asg→Bool}{w:World}{e:Ending}{w':World}(h:Zdh kd (T.post 0) n φ w e w') :
  Below w.heap.size w w'∧((L.mvT kd n T 0=none∧e= .returned (.tuple #[.pointer none,.int .i64 0,.int .i64 1])) ∨
   ∃(U:L.Tr) (B:Zar) (so:St) (r:Nat),L.mvT kd n T 0=some U∧e= .returned (.tuple #[.pointer (some ⟨B.sb,0,none⟩),.int .i64 (r:Nat),.int .i64 0])∧SS (U.post 0) B w' 300000 so w'∧Val so r φ∧∀j∈B.mut,w.heap.size≤j):=by
 obtain⟨hb,⟨hc,he⟩|⟨hc,n',T',U,B,so,r,e1,e2,hT,hM,he,hS,hV,hm⟩⟩:=h
 ·refine⟨hb,.inl ⟨?_,he⟩⟩
  cases hU:L.mvT kd n T 0 with
  | none=>rfl
  | some U =>
    have:=Zjz (L.mvT_can T U 0 [] [] (t:=T.post 0) (by simp) rfl hU);rw[hc]at this;cases this
 ·obtain rfl:n=n':=by omega
  have hT0:=L.isT_root hv;obtain rfl:=hT.uniq hT0;exact⟨hb,.inr ⟨U,B,so,r,(L.mvT_post _ _).2 hM,he,hS,hV,hm⟩⟩
structure ZbI (T:L.Tr) (l:List Int):Prop where
 nd:T.vars.Nodup
 range:∀v∈T.vars,1≤v∧v≤128
 small:T.size≤7
 sorted:l.Pairwise (· < ·)
 mem:∀v,v∈l↔v∈T.vars
theorem ZbI.chk{T:L.Tr}{l:List Int}(h:ZbI T l):Zae (T.post 0)=0:=L.post_check h.nd h.range (by have:=h.small;omega)
theorem ZbI.root{T:L.Tr}{l:List Int}(h:ZbI T l):L.IsT L.idc (T.post 0) ((T.post 0).length - 1) T:=L.isT_root h.range
theorem ZbI.sbl{T:L.Tr}{l:List Int}(h:ZbI T l):L.SortedBel (T.post 0) ((T.post 0).length - 1) l:=⟨h.sorted,fun x=>(h.mem x).trans (h.root.mem h.chk x)⟩
theorem ZbI.perm{T U:L.Tr}{l:List Int}(h:ZbI T l)(hp:U.vars.Perm T.vars)(hs:U.size=T.size):ZbI U l :=
 ⟨hp.nodup_iff.2 h.nd,fun v hv=>h.range v (hp.mem_iff.1 hv),by rw[hs];exact h.small,h.sorted,fun v=>(h.mem v).trans hp.mem_iff.symm⟩
theorem ZbI.len{T:L.Tr}{l:List Int}(h:ZbI T l):(T.post 0).length≤7:=by rw[L.Tr.post_len];exact h.small
theorem Zp5{t:List VN}(hc:Zae t=0)(h7:t.length≤7){l:List Int}(hl:L.SortedBel t (t.length - 1) l){T:L.Tr}(hT:L.IsT L.idc t (t.length - 1) T):ZbI T l :=
 ⟨hT.nodup hc,hT.range hc,ZrC (hT.size_le hc) h7,hl.sorted,fun v=>(hl.mem v).trans (hT.mem hc v).symm⟩
theorem Zp2{t:List VN}{B0:Zar}{w0 w:World}{k a:Nat}{s:St}{φ:L.Asg→Bool}(h:SS t B0 w0 k s w)(ha:Val s a φ){l:List Int}(hl:L.SortedBel t (t.length - 1) l){T:L.Tr}(hT:L.IsT L.idc t (t.length - 1) T) :
  Calls Tryz.prog 20 #[.pointer (some ⟨B0.sb,0,none⟩),.int .i64 a] w fun e w'=>e= .returned (.tuple #[.int .i64 (L.sizeTr T l (L.tabO l φ):Nat),.int .i64 0])∧Below w.heap.size w w':=by
 refine(ZmV h ha.lt).mono ?_;rintro e w' ⟨o,⟨h1,h2⟩,rfl,hb⟩;have ht:=h.tree;have e:L.sem s.nodes a=φ:=funext ha.sem;have aX:=h.room.len;have:=L.sizeTr_law h.inv (l:=l) (by rw[ht];exact hl) (T:=T) (by rw[ht];exact hT) (by omega) ha.lt h1 h2;rw[e]at this;rw[this];exact⟨rfl,hb⟩
end Go.Proofs.YtemnmcfmabamcaaGreatDoor
end
section
namespace Go.Proofs.YtemnmcfmabamcaaGreatDoor
open Go Go.RowKit Go.Shelf
def Zo9 (B0:Zar)(w0:World)(ba:Option Addr)(vs:List Value):Prop:=vs=[]∨∃b o,ba=some ⟨b,o,none⟩∧b∉B0.mut∧∀j (hj:j<vs.length),w0.cell? ⟨b,o+j,none⟩=some vs[j]
theorem Zo9.at{t:List VN}{B0:Zar}{w0 w:World}{k:Nat}{s:St}{ba:Option Addr}{vs:List Value}(h:Zo9 B0 w0 ba vs)(hS:SS t B0 w0 k s w){j:Nat}(hj:j<vs.length):∃b o,ba=some ⟨b,o,none⟩∧w.cell? ⟨b,o+j,none⟩=some vs[j]:=by
 rcases h with rfl|⟨b,o,rfl,hm,hc⟩
 ·simp at hj
 ·exact⟨b,o,rfl,hS.cell (hc j hj) hm⟩
theorem Zkk(y c:Nat)(hy:y<65536)(hc:c<65536):bits BinOp.and IntKind.u16 (y:Int) (c:Int)=((y &&& c:Nat):Int):=by
 have aD:y &&& c<65536:=Nat.lt_of_le_of_lt Nat.and_le_left hy
 have e:∀z:Nat,z<65536→IntKind.u16.wrap (z:Int)=z:=fun z hz=>by
  simp[IntKind.wrap,IntKind.bits,IntKind.signed];omega
 show IntKind.u16.wrap (((BitVec.ofInt 16 (y:Int) &&& BitVec.ofInt 16 (c:Int):BitVec 16).toNat:Nat):Int)=_
 rw[show ((BitVec.ofInt 16 (y:Int) &&& BitVec.ofInt 16 (c:Int)).toNat)=y &&& c from by
  rw[BitVec.toNat_and,BitVec.ofInt_natCast,BitVec.ofInt_natCast,BitVec.toNat_ofNat,BitVec.toNat_ofNat,Nat.mod_eq_of_lt (by omega),Nat.mod_eq_of_lt (by omega)]]
 exact e _ aD
end Go.Proofs.YtemnmcfmabamcaaGreatDoor
namespace Go.Proofs.YtemnmcfmabamcaaGreatDoor
open Go Go.RowKit Go.Shelf
theorem Zok{w w':World}{v:Value}{l:List Int}{B:Zar}{s:St}(h:w'.ownsRow w.heap.size 3 1 v l.length (l.map Zce))(hR:Rep B s w'):∃ba cp,v= .slice ba l.length cp∧Zo9 B w' ba (l.map Zce):=by
 cases eM:l with
 | nil =>
   rw[eM]at h;obtain⟨ba,cp,e,_⟩:=Zbi h;exact⟨ba,cp,e,.inl rfl⟩
 | cons x0 l0 =>
   rw[←eM];obtain⟨g,cp,e,eE,hc⟩:=ZcK h (by rw[eM];simp);refine⟨_,cp,e,.inr ⟨g,0,rfl,fun bV=>?_,fun j hj=>?_⟩⟩
   ·obtain⟨c,jC⟩:=(Zap h (k:=g) (by rw[e];rfl)).2
    exact hR.not_mut jC (by decide) (by decide) bV
   ·have h1:=hc j _ (Zry hj)
    have uD:(⟨g,0,none⟩:Addr).add j=⟨g,j,none⟩:=by unfold Addr.add;split <;> simp_all
    rw[uD]at h1;rw[Nat.zero_add];exact h1
theorem Zj9{t:List VN}(hc:Zae t=0)(h11:t.length≤11):∃l,Zf1 t=some l∧l.length≤6∧L.SortedBel t (t.length - 1) l∧∀v∈l,ZdI t v:=by
 obtain⟨l,h1,h2⟩:=L.varsR_spec hc;have h0:=(Zam hc).1;have h3:=h2.len hc (by omega);have h4:=L.nv_le hc (v:=t.length - 1) (by omega);refine⟨l,h1,by omega,h2,fun v hv=>?_⟩;obtain⟨u,y,a1,a2,a3,_⟩:=(h2.mem v).1 hv;exact⟨u,y,a1,a2,a3⟩
end Go.Proofs.YtemnmcfmabamcaaGreatDoor
end
section
namespace Go.Proofs.YtemnmcfmabamcaaGreatDoor
open Go Go.RowKit Go.Shelf
def mdφ (l:List Int)(bits n:Nat):L.Asg→Bool:=fun y=>decide (ZeK l y<n) && bits.testBit (ZeK l y)
def mdψ (l:List Int)(n k:Nat):L.Asg→Bool:=fun y=>(List.range k).all fun j=>y (l.getD j 0) ==n.testBit (l.length - 1 - j)
theorem Zob{l:List Int}{n:Nat}(hn:n<2 ^ l.length)(y:L.Asg):mdψ l n l.length y=decide (ZeK l y=n):=by
 rw[Bool.eq_iff_iff,decide_eq_true_iff,mdψ,List.all_eq_true]
 constructor
 ·intro h
  refine Nat.eq_of_testBit_eq fun i=>?_
  rcases Nat.lt_or_ge i l.length with hi|hi
  ·have:=h (l.length - 1 - i) (List.mem_range.2 (by omega))
   have hb:=ZbF l y (j:=l.length - 1 - i) (by omega);rw[show l.length - 1 - (l.length - 1 - i)=i by omega]at this hb;rw[hb];simpa [ZrG,Zry (show l.length - 1 - i<l.length by omega)] using this
  ·rw[Nat.testBit_lt_two_pow (ZrD (ZcE l y) (Nat.pow_le_pow_right (by omega) hi)),Nat.testBit_lt_two_pow (ZrD hn (Nat.pow_le_pow_right (by omega) hi))]
 ·intro e j hj
  have db:=List.mem_range.1 hj;have hb:=ZbF l y db;rw[e]at hb;simp[ZrG,Zry db,hb]
theorem ZjQ(l:List Int)(n k:Nat)(hk:k<l.length)(z:Int)(hz:z=if n.testBit (l.length - 1 - k)=true then l[k] else -l[k])(h1:1≤l[k])(y:L.Asg):(mdψ l n k y && Zn9 z y)=mdψ l n (k+1) y:=by
 unfold mdψ Zn9;rw[List.range_succ,List.all_append]
 congr 1
 simp only[List.all_cons,List.all_nil,Bool.and_true,ZrG,Zry hk,Option.getD_some]
 cases hb:n.testBit (l.length - 1 - k)
 ·rw[hb]at hz
  simp only[Bool.false_eq_true,if_false]at hz;rw[show ((z.natAbs:Nat):Int)=l[k] by omega,ZrH (by omega)]
 ·rw[hb]at hz
  simp only[if_true]at hz;rw[show ((z.natAbs:Nat):Int)=l[k] by omega,ZrI (by omega)]
theorem ZjO(l:List Int)(bits n:Nat)(h:bits.testBit n=false)(y:L.Asg):mdφ l bits n y=mdφ l bits (n+1) y:=by
 unfold mdφ
 by_cases e:ZeK l y=n
 ·rw[e,h];simp
 ·congr 1
  rw[Bool.eq_iff_iff,decide_eq_true_iff,decide_eq_true_iff];omega
theorem ZjP(l:List Int)(bits n:Nat)(h:bits.testBit n=true)(hn:n<2 ^ l.length)(y:L.Asg):(mdφ l bits n y || mdψ l n l.length y)=mdφ l bits (n+1) y:=by
 rw[Zob hn];unfold mdφ
 by_cases e:ZeK l y=n
 ·rw[e,h];simp
 ·rw[ZrH e,Bool.or_false]
  congr 1
  rw[Bool.eq_iff_iff,decide_eq_true_iff,decide_eq_true_iff];omega
def Zli (wa:World)(t:List VN)(B:Zar)(w0:World)(φ:L.Asg→Bool)(r:Nat)(wr:World):Prop:=∃so,SS t B w0 300000 so wr∧Val so r φ∧Below wa.heap.size wa wr
def ZgG (wa:World)(t:List VN)(B:Zar)(w0:World)(φ ψ:L.Asg→Bool)(r x:Nat)(wr:World):Prop:=∃so,SS t B w0 300000 so wr∧Val so r φ∧Val so x ψ∧Below wa.heap.size wa wr
end Go.Proofs.YtemnmcfmabamcaaGreatDoor
namespace Go.Proofs.YtemnmcfmabamcaaGreatDoor
open Go Go.RowKit Go.Shelf
def t4v:List VN:=[⟨-1,-1,1⟩,⟨-1,-1,2⟩,⟨-1,-1,3⟩,⟨1,2,0⟩,⟨0,3,0⟩]
def Zni:List UInt8:=[40,45,49,32,70,59,32,49,32,40,45,50,32,70,59,32,50,32,51,41,41]
def vwB:Bool:=match Zbc (ZbD t4v) 1 0 with
 | none=>false
 | some (a,s1)=>match Zbc s1 2 1 with
   | none=>false
   | some (b,s2)=>match Zbc s2 3 2 with
     | none=>false
     | some (c,s3)=>match Zlc 14 s3 b c with
       | none=>false
       | some (d,s4)=>match Zlc 14 s4 a d with
         | none=>false
         | some (e,s5)=>decide (L.tx s5.nodes e=Zni)
theorem Zp8:vwB=true:=by kernel_rfl
structure DS (t:List VN) (s:St):Prop where
 room:L.Room s 300000
 tree:s.tree=t
theorem Zfm{t:List VN}{s:St}{l:Int}{u:Nat}{y:VN}(h:DS t s)(hy:t[u]? =some y)(hl:Zai y=true)(hv:y.var=(l.natAbs:Int)):∃c s',Zbc s l u=some (c,s')∧DS t s'∧L.Step s s'∧Val s' c (Zn9 l):=by
 obtain⟨c,s',e,st,lt,sm,bg⟩:=L.literal_spec h.room (l:=l) (u:=u) (y:=y) (by rw[h.tree];exact hy) hl hv;have hr:=h.room.room;exact⟨c,s',e,⟨⟨st.inv,by rw[st.tree];exact h.room.few,by omega⟩,by rw[st.tree];exact h.tree⟩,st,⟨lt,sm⟩⟩
theorem ZhL{t:List VN}{s:St}{a b:Nat}{φ ψ:L.Asg→Bool}(h:DS t s)(hc:Zae t=0)(h7:t.length≤7)(ha:Val s a φ)(hb:Val s b ψ):∃c s',Zlc 14 s a b=some (c,s')∧DS t s'∧L.Step s s'∧Val s' c fun y=>φ y && ψ y:=by
 have t0:=(Zam hc).1;have lB:=(Zbm hc h7).1;obtain⟨c,s',e,st,lt,sm,bg⟩:=L.and_spec hc (by omega) (t.length - 1) (by omega) 14 (by omega) s a b h.tree (h.room.less (by omega)) ha.lt hb.lt (by rw[←h.tree];exact Zbb h.room.inv ha.lt) (by rw[←h.tree];exact Zbb h.room.inv hb.lt);have hr:=h.room.room;exact⟨c,s',e,⟨⟨st.inv,by rw[st.tree];exact h.room.few,by omega⟩,by rw[st.tree];exact h.tree⟩,st,⟨lt,fun y=>by rw[sm];show (L.sem s.nodes a y && L.sem s.nodes b y)=_;rw[ha.sem,hb.sem]⟩⟩
theorem Zp9{so:St}{r:Nat}{φ:L.Asg→Bool}(hi:L.Inv so)(ht:so.tree=t4v)(hv:Val so r φ)(hφ:∀y,φ y=(y 1 && (y 2 && y 3))):L.tx so.nodes r=Zni:=by
 have hc:Zae t4v=0:=by kernel_rfl
 have h0:DS t4v (ZbD t4v):=⟨⟨ZiT hc,by show t4v.length≤11;decide,by rw[ZiS];exact ZrQ _⟩,rfl⟩;obtain⟨a,s1,e1,d1,st1,v1⟩:=Zfm (l:=1) (u:=0) h0 (y:=⟨-1,-1,1⟩) rfl rfl rfl;obtain⟨b,s2,e2,d2,p9,v2⟩:=Zfm (l:=2) (u:=1) d1 (y:=⟨-1,-1,2⟩) rfl rfl rfl;obtain⟨c,s3,e3,d3,nY,v3⟩:=Zfm (l:=3) (u:=2) d2 (y:=⟨-1,-1,3⟩) rfl rfl rfl;obtain⟨d,s4,e4,d4,ww,v4⟩:=ZhL d3 hc (by decide) (v2.step d2.room.inv nY) v3;obtain⟨e,s5,e5,d5,tW,v5⟩:=ZhL d4 hc (by decide) (((v1.step d1.room.inv p9).step d2.room.inv nY).step d3.room.inv ww) v4;have e1:Zbc (ZbD t4v) 1 0=some (a,s1):=e1;have e2:Zbc s1 2 1=some (b,s2):=e2;have e3:Zbc s2 3 2=some (c,s3):=e3;have hd:=Zp8;unfold vwB at hd;rw[e1]at hd;simp only at hd;rw[e2]at hd;simp only at hd;rw[e3]at hd;simp only at hd;rw[e4]at hd;simp only at hd;rw[e5]at hd;simp only[ZrN]at hd;rw[←hd];refine L.tx_eq d5.room.inv hi (by rw[ht,d5.tree]) e r v5.lt hv.lt ?_ |>.symm
 funext y
 rw[v5.sem,hv.sem,hφ];simp only[Zn9]
 cases h1:y 1 <;> cases h2:y 2 <;> cases h3:y 3 <;> simp_all
end Go.Proofs.YtemnmcfmabamcaaGreatDoor
end
