import Derived.Test.YtemnmcfmabamcaaGreatDoorYVpost
set_option linter.unusedSimpArgs false
set_option linter.unusedVariables false
set_option maxRecDepth 100000
set_option maxHeartbeats 4000000
namespace Go.Proofs.YtemnmcfmabamcaaGreatDoor
open Go Go.RowKit Go.Shelf
def Zpa (w:World)(u:List VN)(v:Value)(w':World):Prop:=∃g cap,v= .slice (some ⟨g,0,none⟩) u.length cap∧Zag w' g 0 u∧w.heap.size≤g∧Below w.heap.size w w'
theorem Zha{w:World}{N:Nat}{v:Value}{u:List VN}(h:w.ownsRow N 78 3 v u.length (Zal u))(hu:0<u.length):∃g cap,v= .slice (some ⟨g,0,none⟩) u.length cap∧Zag w g 0 u∧N≤g:=by
 have h':=h;obtain⟨_,⟨rfl,e⟩|⟨g,cap,cur,rfl,hg,_⟩⟩:=h
 ·rw[e]at hu;cases hu
 ·refine⟨g,cap,rfl,fun j x hj=>?_,hg⟩
  have:=h'.cells (g:=g) rfl j x hj
  rwa [Addr.add_lit]at this
theorem Zhd{w:World}{t:List VN}{b o cap fc:Nat}{caps:Array Value}{chg:Nat→VN→VN}{U:L.Tr}(ht:Zag w b o t)(cw:Zge w t fc caps chg)(hU:L.IsT chg t (t.length - 1) U)(hs:U.size≤255)(eH:t.length≤255) :
  Calls Tryz.prog 123 #[.slice (some ⟨b,o,none⟩) t.length cap,.func (.func fc) #[] caps] w fun e w'=>∃v,e= .returned v∧Zpa w (U.post 0) v w':=by
 have nL:∀(fn:Fn) (first cap:Array Value) (w:World),(Instr.makeFunc fn first cap).run Tryz.prog w= .ok (.func fn first cap) w:=fun _ _ _ _=>rfl
 have xV:∀(c:Array Value) (w:World),(callFunc 143 c).run Tryz.prog w= .ok (.enter 143 c) w:=fun c w=>by simp[go_sem,Tryz.func143]
 obtain⟨g0,g1,g2,g3⟩:=Ze4 w (.cells #[.slice (some ⟨b,o,none⟩) t.length cap] 23) (.cells #[.func (.func fc) #[] caps] 178) (.cells #[.slice none 0 0] 23) (.cells #[.func (.func 143) #[] #[.pointer (some ⟨w.heap.size,0,none⟩),.pointer (some ⟨w.heap.size+1,0,none⟩),.pointer (some ⟨w.heap.size+3,0,none⟩),.pointer (some ⟨w.heap.size+2,0,none⟩)]] 124);have da:Below w.heap.size w ((((w.alloc (.cells #[.slice (some ⟨b,o,none⟩) t.length cap] 23)).alloc (.cells #[.func (.func fc) #[] caps] 178)).alloc (.cells #[.slice none 0 0] 23)).alloc (.cells #[.func (.func 143) #[] #[.pointer (some ⟨w.heap.size,0,none⟩),.pointer (some ⟨w.heap.size+1,0,none⟩),.pointer (some ⟨w.heap.size+3,0,none⟩),.pointer (some ⟨w.heap.size+2,0,none⟩)]] 124)):=(((((Ext.refl w).alloc _).alloc _).alloc _).alloc _).below;have hC:PoC w t b o cap (.func (.func fc) #[] caps) [] (.slice none 0 0) _:=⟨da,g0,g1,g2,g3,World.ownsRow_nil _ _ _ _⟩;have t0:=hU.lt;have q:=Zmy ht cw U (t.length - 1) [] _ _ hU hC (by simpa using hs)
 have rp:IntKind.i64.wrap ((t.length:Int) - 1)=((t.length - 1:Nat):Int):=by
  have:=hU.lt;rw[IntWalk.i64_in _ (by omega)];omega
 clear g0 g1 g2 g3 da
 go_enter Tryz.func123,Tryz.ntmps123
 go_wp2_with fail;refine q.mono ?_;rintro e w' ⟨v',rfl,hC',_⟩;obtain⟨_,_,c2,_⟩:=hC'.cells;have dQ:=L.Tr.post_len U 0;have aT:=hC'.row;rw[List.nil_append,List.length_nil]at aT;obtain⟨g,cp,rfl,hT,hg⟩:=Zha aT (by rw[dQ];exact U.pos);have hb:=hC'.below;clear q hC aT hC';replace hT:=Zrr hT;replace hb:=Zrr hb;go_wp2_with fail;go_ret;exact⟨_,rfl,g,cp,by rw[dQ];rfl,hT.out,by omega,hb.out⟩
def ZaC (t:List VN)(i:Int):Bool:=decide (0≤i) && (decide (i<t.length) && !Zai (t.getD i.toNat ⟨0,0,0⟩))
theorem ZaV{t:List VN}{i:Int}(h:ZaC t i=true):∃(n:Nat) (y:VN),i=n∧t[n]? =some y∧Zai y=false:=by
 simp only[ZaC,ZrK,ZrN,Bool.not_eq_true']at h;obtain⟨h1,h2,h3⟩:=h;refine⟨i.toNat,t.getD i.toNat ⟨0,0,0⟩,by omega,?_,h3⟩;rw[ZrG,Zry (by omega)];rfl
theorem Zfy{t:List VN}(w:World)(b o cap:Nat)(ht:Zag w b o t)(i:Int):Calls Tryz.prog 122 #[.slice (some ⟨b,o,none⟩) t.length cap,.int .i64 i] w fun e w'=>e= .returned (.bool (ZaC t i))∧Ext w w':=by
 by_cases h0:0≤i
 ·have d0:decide (i≥0)=true:=ZrI h0
  by_cases h1:i<t.length
  ·have d1:decide (i<(t.length:Int))=true:=ZrI h1
   obtain⟨n,rfl⟩:∃n:Nat,i=n:=⟨i.toNat,by omega⟩;obtain⟨n0,n1,n2⟩:=ht.node (k:=n) (by omega);have hq:=Zbu (t[n]'(by omega)) w
   have bC:ZaC t n= !Zai (t[n]'(by omega)):=by
    unfold ZaC;rw[ZrI h0,ZrI h1,Int.toNat_natCast,ZrG,Zry (by omega)];rfl
   rw[bC];generalize t[n]'(by omega)=y at *;clear bC
   go_enter Tryz.func122,Tryz.ntmps122
   go_wp2_with fail;refine hq.mono ?_;rintro e w1 ⟨rfl,aK⟩;clear hq;go_wp2_with fail;go_ret;exact⟨rfl,aK⟩
  ·have d1:decide (i<(t.length:Int))=false:=ZrH h1
   have bC:ZaC t i=false:=by unfold ZaC;rw[ZrH h1];simp
   rw[bC]
   go_enter Tryz.func122,Tryz.ntmps122
   go_wp2_with fail;go_ret;exact⟨rfl,Ext.refl _⟩
 ·have d0:decide (i≥0)=false:=ZrH h0
  have bC:ZaC t i=false:=by unfold ZaC;rw[ZrH h0];simp
  rw[bC]
  go_enter Tryz.func122,Tryz.ntmps122
  go_wp2_with fail;go_ret;exact⟨rfl,Ext.refl _⟩
theorem Zbf(W:World)(X Y:Array Value)(s t:TypeId):Below W.heap.size W ((W.alloc (.cells X s)).alloc (.cells Y t))∧((W.alloc (.cells X s)).alloc (.cells Y t)).heap[W.heap.size]? =some (.cells X s (0,0))∧((W.alloc (.cells X s)).alloc (.cells Y t)).heap[W.heap.size+1]? =some (.cells Y t (0,0)):=by
 refine⟨(((Ext.refl W).alloc _).alloc _).below,?_,?_⟩
 ·rw[Below.heap_alloc _ _ _ (by simp)];exact Zaq _ _ _ rfl
 ·exact Zaq _ _ _ (by simp)
theorem Zox{w:World}{t:List VN}{n pb:Nat}(hb:w.cell? ⟨pb,0,none⟩=some (.int .i64 (n:Nat))):Zge w t 126 #[.pointer (some ⟨pb,0,none⟩)] (L.chS n):=by
 refine⟨fun c w=>by simp[go_sem,Tryz.func126],fun i y hy hl W hW=>?_⟩;have hbW:=(hW.cell (Zrx w _ hb)).trans hb;obtain⟨yl,yr,yv⟩:=y
 show Calls Tryz.prog 126 #[.int .i64 (i:Int),.agg #[.int .i64 yl,.int .i64 yr,.int .i64 yv],.pointer (some ⟨pb,0,none⟩)] W _
 have hx:=((Ext.refl W).alloc (.cells #[.int .i64 yl,.int .i64 yr,.int .i64 yv] 78)).alloc (.cells #[.int .i64 0,.int .i64 0,.int .i64 0] 78);have hbX:=hx.cell hbW
 by_cases hi:i=n
 ·subst hi
  have d0:((i:Int) ==(i:Int))=true:=by simp
  go_enter Tryz.func126,Tryz.ntmps126
  go_wp2_with fail;obtain⟨h1,_,h3⟩:=Zbf W #[.int .i64 yr,.int .i64 yl,.int .i64 yv] #[.int .i64 yr,.int .i64 yl,.int .i64 yv] 78 78;obtain⟨e0,e1,e2⟩:=Za5 h3;exact bodyPost_ret (v:=.agg #[.int .i64 yr,.int .i64 yl,.int .i64 yv]) (by simp[results,Tryz.results126,go_sem,e0,e1,e2]) rfl ⟨by simp[Zfn,L.chS],h1⟩
 ·have d0:((i:Int) ==(n:Int))=false:=by simp;omega
  go_enter Tryz.func126,Tryz.ntmps126
  go_wp2_with fail;obtain⟨h1,_,h3⟩:=Zbf W #[.int .i64 yl,.int .i64 yr,.int .i64 yv] #[.int .i64 yl,.int .i64 yr,.int .i64 yv] 78 78;obtain⟨e0,e1,e2⟩:=Za5 h3;exact bodyPost_ret (v:=.agg #[.int .i64 yl,.int .i64 yr,.int .i64 yv]) (by simp[results,Tryz.results126,go_sem,e0,e1,e2]) rfl ⟨by simp[Zfn,L.chS,hi],h1⟩
theorem ZmH{w:World}{t:List VN}{b o cap n low pa pt pl pp:Nat}{x:VN}{a bb c:Int}(ht:Zag w b o t)(tD:w.cell? ⟨pa,0,none⟩=some (.int .i64 (n:Nat)))(iQ:w.cell? ⟨pt,0,none⟩=some (.slice (some ⟨b,o,none⟩) t.length cap))(dQ:w.cell? ⟨pl,0,none⟩=some (.int .i64 (low:Nat)))
  (lH:w.cell? ⟨pp,1,none⟩=some (.int .i64 c)) (hx:t[low]? =some x) (x1:x.left=a) (x2:x.right=bb):Zge w t 124 #[.pointer (some ⟨pa,0,none⟩),.pointer (some ⟨pt,0,none⟩),.pointer (some ⟨pl,0,none⟩),.pointer (some ⟨pp,0,none⟩)] (L.chR n low a bb c):=by
 refine⟨fun c w=>by simp[go_sem,Tryz.func124],fun i y hy hl W hW=>?_⟩;obtain⟨lD,rfl⟩:=Zrw hx;obtain⟨n0,n1,n2⟩:=(ht.below hW).node lD;rw[x1]at n0;rw[x2]at n1;have ga:=(hW.cell (Zrx w _ tD)).trans tD;have gt:=(hW.cell (Zrx w _ iQ)).trans iQ;have gl:=(hW.cell (Zrx w _ dQ)).trans dQ;have gp:=(hW.cell (Zrx w _ lH)).trans lH;have l0:(0:Int)≤low:=by omega
 have l1:(low:Int)<t.length:=by omega
 obtain⟨yl,yr,yv⟩:=y
 show Calls Tryz.prog 124 #[.int .i64 (i:Int),.agg #[.int .i64 yl,.int .i64 yr,.int .i64 yv],.pointer (some ⟨pa,0,none⟩),.pointer (some ⟨pt,0,none⟩),.pointer (some ⟨pl,0,none⟩),.pointer (some ⟨pp,0,none⟩)] W _
 obtain⟨aL,_,hz⟩:=Zbf W #[.int .i64 yl,.int .i64 yr,.int .i64 yv] #[.int .i64 0,.int .i64 0,.int .i64 0] 78 78;have aO:=((Ext.refl W).alloc (.cells #[.int .i64 yl,.int .i64 yr,.int .i64 yv] 78)).alloc (.cells #[.int .i64 0,.int .i64 0,.int .i64 0] 78);have qI:=aO.cell ga;have vk:=aO.cell gl;obtain⟨W2,lT⟩:∃W2,W2=(W.alloc (.cells #[.int .i64 yl,.int .i64 yr,.int .i64 yv] 78)).alloc (.cells #[.int .i64 0,.int .i64 0,.int .i64 0] 78):=⟨_,rfl⟩;rw[←lT]at aL hz aO;have ga2:=aO.cell ga;have qK:=aO.cell gt;have oJ:=aO.cell gl;have qJ:=aO.cell gp;have m0:=aO.cell n0;have m1:=aO.cell n1;have b1:=Zrx W _ gt;have b2:=Zrx W _ gl;have b3:=Zrx W _ gp;have b4:=Zrx W _ n0;obtain⟨z0,z1,z2⟩:=Za5 hz;have f0:W2.frozen? ⟨W.heap.size+1,0,none⟩=false:=by simp[World.frozen?,hz]
 have f1:W2.frozen? ⟨W.heap.size+1,1,none⟩=false:=by simp[World.frozen?,hz]
 have f2:W2.frozen? ⟨W.heap.size+1,2,none⟩=false:=by simp[World.frozen?,hz]
 simp only at b1 b2 b3 b4
 have dH:∀u v0 v1:Value,∀k,k<W.heap.size→(((W2.setCell ⟨W.heap.size+1,0,none⟩ u).setCell ⟨W.heap.size+1,1,none⟩ v0).setCell ⟨W.heap.size+1,2,none⟩ v1).heap[k]? =W2.heap[k]?:=fun u v0 v1 k hk=>by
  rw[Zbh _ _ (by omega),Zbh _ _ (by omega),Zbh _ _ (by omega)]
 have aZ:∀u0 u1 u2:Value,Below W.heap.size W (((W2.setCell ⟨W.heap.size+1,0,none⟩ u0).setCell ⟨W.heap.size+1,1,none⟩ u1).setCell ⟨W.heap.size+1,2,none⟩ u2).drew∧(((W2.setCell ⟨W.heap.size+1,0,none⟩ u0).setCell ⟨W.heap.size+1,1,none⟩ u1).setCell ⟨W.heap.size+1,2,none⟩ u2).drew.heap[W.heap.size+1]? =some (.cells #[u0,u1,u2] 78 (0,0)):=fun u0 u1 u2=>by
  have h1:=((aL.setCell (p:=⟨W.heap.size+1,0,none⟩) (Nat.le_succ _) u0).setCell (p:=⟨W.heap.size+1,1,none⟩) (Nat.le_succ _) u1).setCell (p:=⟨W.heap.size+1,2,none⟩) (Nat.le_succ _) u2;exact⟨h1.trans ((ZrE _ _).drew.mono h1.size),Zaj (Zaj (Zaj hz 0 u0) 1 u1) 2 u2⟩
 replace dH:=Zrr dH;replace aZ:=Zrr aZ;replace lT:=Zrr lT;replace hz:=Zrr hz
 by_cases hi:i=n
 ·subst hi
  have d0:((i:Int) ==(i:Int))=true:=by simp
  go_enter Tryz.func124,Tryz.ntmps124
  go_wp2_with fail;rw[←lT.out];clear qI vk;(refine wp_region_held_drew (S:=(fun w'=>w'.cell? ⟨pt,0,none⟩=some (.slice (some ⟨b,o,none⟩) t.length cap)∧w'.cell? ⟨pl,0,none⟩=some (.int .i64 (low:Nat))∧w'.cell? ⟨pp,1,none⟩=some (.int .i64 c)∧w'.cell? ⟨b,o+low*3,none⟩=some (.int .i64 a)∧w'.cell? ⟨b,o+low*3+1,none⟩=some (.int .i64 bb))) (by kernel_rfl) ?_ (fun aE=>?_))
  ·exact⟨qK,oJ,qJ,m0,m1⟩
  (refine ZrR (i:=0) (v:=?_) rfl (by kernel_rfl) (fun _ _ _ h=>h) (Or.inl ⟨by rfl,?_⟩) (by assumption) ?_);rotate_left
  ·(intro w aB;(try dsimp only at aB);go_simp;first|done|with_reducible rfl)
  (try simp only[Act.put,Zrs,Zrt,Zru]);(refine ZrR (i:=1) (v:=?_) rfl (by kernel_rfl) (fun _ _ _ h=>h) (Or.inl ⟨by rfl,?_⟩) (by assumption) ?_);rotate_left
  ·(intro w aB;(try dsimp only at aB);go_simp;first|done|with_reducible rfl)
  (try simp only[Act.put,Zrs,Zrt,Zru]);(refine ZrR (i:=2) (v:=?_) rfl (by kernel_rfl) (fun _ _ _ h=>h) (Or.inl ⟨by rfl,?_⟩) (by assumption) ?_);rotate_left
  ·(intro w aB;(try dsimp only at aB);go_simp;first|done|with_reducible rfl)
  (try simp only[Act.put,Zrs,Zrt,Zru]);(refine ZrR (i:=3) (v:=?_) rfl (by kernel_rfl) (fun _ _ _ h=>h) (Or.inl ⟨by rfl,?_⟩) (by assumption) ?_);rotate_left
  ·(intro w aB;(try dsimp only at aB);go_simp;first|done|with_reducible rfl)
  (try simp only[Act.put,Zrs,Zrt,Zru]);(refine ZrR (i:=4) (v:=?_) rfl (by kernel_rfl) (fun _ _ _ h=>h) (Or.inl ⟨by rfl,?_⟩) (by assumption) ?_);rotate_left
  ·(intro w aB;(try dsimp only at aB);go_simp;first|done|with_reducible rfl)
  (try simp only[Act.put,Zrs,Zrt,Zru]);(refine ZrR (i:=5) (v:=?_) rfl (by kernel_rfl) (fun _ _ _ h=>h) (Or.inl ⟨by rfl,?_⟩) (by assumption) ?_);rotate_left
  ·(intro w aB;(try dsimp only at aB);go_simp;first|done|with_reducible rfl)
  (try simp only[Act.put,Zrs,Zrt,Zru]);(refine ZrR (i:=6) (v:=?_) rfl (by kernel_rfl) (fun _ _ _ h=>h) (Or.inl ⟨by rfl,?_⟩) (by assumption) ?_);rotate_left
  ·(intro w aB;(try dsimp only at aB);go_simp;first|done|with_reducible rfl)
  (try simp only[Act.put,Zrs,Zrt,Zru]);have cS:=fun u v0 v1=>dH.out u v0 v1
  (refine wpAnyH_ready (rs:=[7]) (by kernel_rfl) (by simp) ?_);(refine ZaW rfl (fun K hK=>?_))
  ((rw[if_pos (by rfl)]);go_simp;refine hK.out _ _ ⟨(ZrF (cS _ _ _ _ b1)).trans qK,(ZrF (cS _ _ _ _ b2)).trans oJ,(ZrF (cS _ _ _ _ b3)).trans qJ,(ZrF (cS _ _ _ _ b4)).trans m0,(ZrF (cS _ _ _ _ b4)).trans m1⟩ (fun aE=>?_))
  (clear hK K)
  (try simp only[Act.put,Zrs,Zrt,Zru]);(refine wpAnyH_done (by kernel_rfl) ?_ _);go_wp2_with fail;obtain⟨gk,vS⟩:=aZ.out (.int .i64 a) (.int .i64 low) (.int .i64 0);obtain⟨e0,e1,e2⟩:=Za5 vS;exact bodyPost_ret (v:=.agg #[.int .i64 a,.int .i64 low,.int .i64 0]) (by simp[results,Tryz.results124,go_sem,e0,e1,e2]) rfl ⟨by simp[Zfn,L.chR],gk⟩
 ·have d0:((i:Int) ==(n:Int))=false:=by simp;omega
  by_cases hj:i=low
  ·subst hj
   have d1:((i:Int) ==(i:Int))=true:=by simp
   go_enter Tryz.func124,Tryz.ntmps124
   go_wp2_with fail;rw[←lT.out];clear qI vk;(refine wp_region_held_drew (S:=(fun w'=>w'.cell? ⟨pt,0,none⟩=some (.slice (some ⟨b,o,none⟩) t.length cap)∧w'.cell? ⟨pl,0,none⟩=some (.int .i64 (i:Nat))∧w'.cell? ⟨pp,1,none⟩=some (.int .i64 c)∧w'.cell? ⟨b,o+i*3,none⟩=some (.int .i64 a)∧w'.cell? ⟨b,o+i*3+1,none⟩=some (.int .i64 bb))) (by kernel_rfl) ?_ (fun aE=>?_))
   ·exact⟨qK,oJ,qJ,m0,m1⟩
   (refine ZrR (i:=0) (v:=?_) rfl (by kernel_rfl) (fun _ _ _ h=>h) (Or.inl ⟨by rfl,?_⟩) (by assumption) ?_);rotate_left
   ·(intro w aB;(try dsimp only at aB);go_simp;first|done|with_reducible rfl)
   (try simp only[Act.put,Zrs,Zrt,Zru]);(refine ZrR (i:=1) (v:=?_) rfl (by kernel_rfl) (fun _ _ _ h=>h) (Or.inl ⟨by rfl,?_⟩) (by assumption) ?_);rotate_left
   ·(intro w aB;(try dsimp only at aB);go_simp;first|done|with_reducible rfl)
   (try simp only[Act.put,Zrs,Zrt,Zru]);(refine ZrR (i:=2) (v:=?_) rfl (by kernel_rfl) (fun _ _ _ h=>h) (Or.inl ⟨by rfl,?_⟩) (by assumption) ?_);rotate_left
   ·(intro w aB;(try dsimp only at aB);go_simp;first|done|with_reducible rfl)
   (try simp only[Act.put,Zrs,Zrt,Zru]);(refine ZrR (i:=3) (v:=?_) rfl (by kernel_rfl) (fun _ _ _ h=>h) (Or.inl ⟨by rfl,?_⟩) (by assumption) ?_);rotate_left
   ·(intro w aB;(try dsimp only at aB);go_simp;first|done|with_reducible rfl)
   (try simp only[Act.put,Zrs,Zrt,Zru]);(refine ZrR (i:=4) (v:=?_) rfl (by kernel_rfl) (fun _ _ _ h=>h) (Or.inl ⟨by rfl,?_⟩) (by assumption) ?_);rotate_left
   ·(intro w aB;(try dsimp only at aB);go_simp;first|done|with_reducible rfl)
   (try simp only[Act.put,Zrs,Zrt,Zru]);(refine ZrR (i:=5) (v:=?_) rfl (by kernel_rfl) (fun _ _ _ h=>h) (Or.inl ⟨by rfl,?_⟩) (by assumption) ?_);rotate_left
   ·(intro w aB;(try dsimp only at aB);go_simp;first|done|with_reducible rfl)
   (try simp only[Act.put,Zrs,Zrt,Zru]);(refine ZrR (i:=6) (v:=?_) rfl (by kernel_rfl) (fun _ _ _ h=>h) (Or.inl ⟨by rfl,?_⟩) (by assumption) ?_);rotate_left
   ·(intro w aB;(try dsimp only at aB);go_simp;first|done|with_reducible rfl)
   (try simp only[Act.put,Zrs,Zrt,Zru]);(refine ZrR (i:=7) (v:=?_) rfl (by kernel_rfl) (fun _ _ _ h=>h) (Or.inl ⟨by rfl,?_⟩) (by assumption) ?_);rotate_left
   ·(intro w aB;(try dsimp only at aB);go_simp;first|done|with_reducible rfl)
   (try simp only[Act.put,Zrs,Zrt,Zru]);have cS:=fun u v0 v1=>dH.out u v0 v1
   (refine wpAnyH_ready (rs:=[8]) (by kernel_rfl) (by simp) ?_);(refine ZaW rfl (fun K hK=>?_))
   ((rw[if_pos (by rfl)]);go_simp;refine hK.out _ _ ⟨(ZrF (cS _ _ _ _ b1)).trans qK,(ZrF (cS _ _ _ _ b2)).trans oJ,(ZrF (cS _ _ _ _ b3)).trans qJ,(ZrF (cS _ _ _ _ b4)).trans m0,(ZrF (cS _ _ _ _ b4)).trans m1⟩ (fun aE=>?_))
   (clear hK K)
   (try simp only[Act.put,Zrs,Zrt,Zru]);(refine wpAnyH_done (by kernel_rfl) ?_ _);go_wp2_with fail;obtain⟨gk,vS⟩:=aZ.out (.int .i64 bb) (.int .i64 c) (.int .i64 0);obtain⟨e0,e1,e2⟩:=Za5 vS;exact bodyPost_ret (v:=.agg #[.int .i64 bb,.int .i64 c,.int .i64 0]) (by simp[results,Tryz.results124,go_sem,e0,e1,e2]) rfl ⟨by simp[Zfn,L.chR,hi],gk⟩
  ·have d1:((i:Int) ==(low:Int))=false:=by simp;omega
   go_enter Tryz.func124,Tryz.ntmps124
   go_wp2_with fail;obtain⟨h1,_,h3⟩:=Zbf W #[.int .i64 yl,.int .i64 yr,.int .i64 yv] #[.int .i64 yl,.int .i64 yr,.int .i64 yv] 78 78;obtain⟨e0,e1,e2⟩:=Za5 h3;exact bodyPost_ret (v:=.agg #[.int .i64 yl,.int .i64 yr,.int .i64 yv]) (by simp[results,Tryz.results124,go_sem,e0,e1,e2]) rfl ⟨by simp[Zfn,L.chR,hi,hj],h1⟩
theorem Zn5{w:World}{t:List VN}{b o cap n low pa pt pl pp:Nat}{x:VN}{a bb c:Int}(ht:Zag w b o t)(tD:w.cell? ⟨pa,0,none⟩=some (.int .i64 (n:Nat)))(iQ:w.cell? ⟨pt,0,none⟩=some (.slice (some ⟨b,o,none⟩) t.length cap))(dQ:w.cell? ⟨pl,0,none⟩=some (.int .i64 (low:Nat)))
  (lH:w.cell? ⟨pp,0,none⟩=some (.int .i64 a)) (hx:t[low]? =some x) (x1:x.left=bb) (x2:x.right=c):Zge w t 125 #[.pointer (some ⟨pa,0,none⟩),.pointer (some ⟨pl,0,none⟩),.pointer (some ⟨pt,0,none⟩),.pointer (some ⟨pp,0,none⟩)] (L.chL n low a bb c):=by
 refine⟨fun c w=>by simp[go_sem,Tryz.func125],fun i y hy hl W hW=>?_⟩;obtain⟨lD,rfl⟩:=Zrw hx;obtain⟨n0,n1,n2⟩:=(ht.below hW).node lD;rw[x1]at n0;rw[x2]at n1;have ga:=(hW.cell (Zrx w _ tD)).trans tD;have gt:=(hW.cell (Zrx w _ iQ)).trans iQ;have gl:=(hW.cell (Zrx w _ dQ)).trans dQ;have gp:=(hW.cell (Zrx w _ lH)).trans lH;have l0:(0:Int)≤low:=by omega
 have l1:(low:Int)<t.length:=by omega
 obtain⟨yl,yr,yv⟩:=y
 show Calls Tryz.prog 125 #[.int .i64 (i:Int),.agg #[.int .i64 yl,.int .i64 yr,.int .i64 yv],.pointer (some ⟨pa,0,none⟩),.pointer (some ⟨pl,0,none⟩),.pointer (some ⟨pt,0,none⟩),.pointer (some ⟨pp,0,none⟩)] W _
 obtain⟨aL,_,hz⟩:=Zbf W #[.int .i64 yl,.int .i64 yr,.int .i64 yv] #[.int .i64 0,.int .i64 0,.int .i64 0] 78 78;have aO:=((Ext.refl W).alloc (.cells #[.int .i64 yl,.int .i64 yr,.int .i64 yv] 78)).alloc (.cells #[.int .i64 0,.int .i64 0,.int .i64 0] 78);have qI:=aO.cell ga;have vk:=aO.cell gl;obtain⟨W2,lT⟩:∃W2,W2=(W.alloc (.cells #[.int .i64 yl,.int .i64 yr,.int .i64 yv] 78)).alloc (.cells #[.int .i64 0,.int .i64 0,.int .i64 0] 78):=⟨_,rfl⟩;rw[←lT]at aL hz aO;have ga2:=aO.cell ga;have qK:=aO.cell gt;have oJ:=aO.cell gl;have qJ:=aO.cell gp;have m0:=aO.cell n0;have m1:=aO.cell n1;have b1:=Zrx W _ gt;have b2:=Zrx W _ gl;have b3:=Zrx W _ gp;have b4:=Zrx W _ n0;obtain⟨z0,z1,z2⟩:=Za5 hz;have f0:W2.frozen? ⟨W.heap.size+1,0,none⟩=false:=by simp[World.frozen?,hz]
 have f1:W2.frozen? ⟨W.heap.size+1,1,none⟩=false:=by simp[World.frozen?,hz]
 have f2:W2.frozen? ⟨W.heap.size+1,2,none⟩=false:=by simp[World.frozen?,hz]
 simp only at b1 b2 b3 b4
 have dH:∀u v0 v1:Value,∀k,k<W.heap.size→(((W2.setCell ⟨W.heap.size+1,0,none⟩ u).setCell ⟨W.heap.size+1,1,none⟩ v0).setCell ⟨W.heap.size+1,2,none⟩ v1).heap[k]? =W2.heap[k]?:=fun u v0 v1 k hk=>by
  rw[Zbh _ _ (by omega),Zbh _ _ (by omega),Zbh _ _ (by omega)]
 have aZ:∀u0 u1 u2:Value,Below W.heap.size W (((W2.setCell ⟨W.heap.size+1,0,none⟩ u0).setCell ⟨W.heap.size+1,1,none⟩ u1).setCell ⟨W.heap.size+1,2,none⟩ u2).drew∧(((W2.setCell ⟨W.heap.size+1,0,none⟩ u0).setCell ⟨W.heap.size+1,1,none⟩ u1).setCell ⟨W.heap.size+1,2,none⟩ u2).drew.heap[W.heap.size+1]? =some (.cells #[u0,u1,u2] 78 (0,0)):=fun u0 u1 u2=>by
  have h1:=((aL.setCell (p:=⟨W.heap.size+1,0,none⟩) (Nat.le_succ _) u0).setCell (p:=⟨W.heap.size+1,1,none⟩) (Nat.le_succ _) u1).setCell (p:=⟨W.heap.size+1,2,none⟩) (Nat.le_succ _) u2;exact⟨h1.trans ((ZrE _ _).drew.mono h1.size),Zaj (Zaj (Zaj hz 0 u0) 1 u1) 2 u2⟩
 replace dH:=Zrr dH;replace aZ:=Zrr aZ;replace lT:=Zrr lT;replace hz:=Zrr hz
 by_cases hi:i=n
 ·subst hi
  have d0:((i:Int) ==(i:Int))=true:=by simp
  go_enter Tryz.func125,Tryz.ntmps125
  go_wp2_with fail;rw[←lT.out];clear qI vk;(refine wp_region_held_drew (S:=(fun w'=>w'.cell? ⟨pt,0,none⟩=some (.slice (some ⟨b,o,none⟩) t.length cap)∧w'.cell? ⟨pl,0,none⟩=some (.int .i64 (low:Nat))∧w'.cell? ⟨pp,0,none⟩=some (.int .i64 a)∧w'.cell? ⟨b,o+low*3,none⟩=some (.int .i64 bb)∧w'.cell? ⟨b,o+low*3+1,none⟩=some (.int .i64 c))) (by kernel_rfl) ?_ (fun aE=>?_))
  ·exact⟨qK,oJ,qJ,m0,m1⟩
  (refine ZrR (i:=0) (v:=?_) rfl (by kernel_rfl) (fun _ _ _ h=>h) (Or.inl ⟨by rfl,?_⟩) (by assumption) ?_);rotate_left
  ·(intro w aB;(try dsimp only at aB);go_simp;first|done|with_reducible rfl)
  (try simp only[Act.put,Zrs,Zrt,Zru]);(refine ZrR (i:=1) (v:=?_) rfl (by kernel_rfl) (fun _ _ _ h=>h) (Or.inl ⟨by rfl,?_⟩) (by assumption) ?_);rotate_left
  ·(intro w aB;(try dsimp only at aB);go_simp;first|done|with_reducible rfl)
  (try simp only[Act.put,Zrs,Zrt,Zru]);(refine ZrR (i:=2) (v:=?_) rfl (by kernel_rfl) (fun _ _ _ h=>h) (Or.inl ⟨by rfl,?_⟩) (by assumption) ?_);rotate_left
  ·(intro w aB;(try dsimp only at aB);go_simp;first|done|with_reducible rfl)
  (try simp only[Act.put,Zrs,Zrt,Zru]);(refine ZrR (i:=3) (v:=?_) rfl (by kernel_rfl) (fun _ _ _ h=>h) (Or.inl ⟨by rfl,?_⟩) (by assumption) ?_);rotate_left
  ·(intro w aB;(try dsimp only at aB);go_simp;first|done|with_reducible rfl)
  (try simp only[Act.put,Zrs,Zrt,Zru]);(refine ZrR (i:=4) (v:=?_) rfl (by kernel_rfl) (fun _ _ _ h=>h) (Or.inl ⟨by rfl,?_⟩) (by assumption) ?_);rotate_left
  ·(intro w aB;(try dsimp only at aB);go_simp;first|done|with_reducible rfl)
  (try simp only[Act.put,Zrs,Zrt,Zru]);(refine ZrR (i:=5) (v:=?_) rfl (by kernel_rfl) (fun _ _ _ h=>h) (Or.inl ⟨by rfl,?_⟩) (by assumption) ?_);rotate_left
  ·(intro w aB;(try dsimp only at aB);go_simp;first|done|with_reducible rfl)
  (try simp only[Act.put,Zrs,Zrt,Zru]);(refine ZrR (i:=6) (v:=?_) rfl (by kernel_rfl) (fun _ _ _ h=>h) (Or.inl ⟨by rfl,?_⟩) (by assumption) ?_);rotate_left
  ·(intro w aB;(try dsimp only at aB);go_simp;first|done|with_reducible rfl)
  (try simp only[Act.put,Zrs,Zrt,Zru]);have cS:=fun u v0 v1=>dH.out u v0 v1
  (refine wpAnyH_ready (rs:=[7]) (by kernel_rfl) (by simp) ?_);(refine ZaW rfl (fun K hK=>?_))
  ((rw[if_pos (by rfl)]);go_simp;refine hK.out _ _ ⟨(ZrF (cS _ _ _ _ b1)).trans qK,(ZrF (cS _ _ _ _ b2)).trans oJ,(ZrF (cS _ _ _ _ b3)).trans qJ,(ZrF (cS _ _ _ _ b4)).trans m0,(ZrF (cS _ _ _ _ b4)).trans m1⟩ (fun aE=>?_))
  (clear hK K)
  (try simp only[Act.put,Zrs,Zrt,Zru]);(refine wpAnyH_done (by kernel_rfl) ?_ _);go_wp2_with fail;obtain⟨gk,vS⟩:=aZ.out (.int .i64 low) (.int .i64 c) (.int .i64 0);obtain⟨e0,e1,e2⟩:=Za5 vS;exact bodyPost_ret (v:=.agg #[.int .i64 low,.int .i64 c,.int .i64 0]) (by simp[results,Tryz.results125,go_sem,e0,e1,e2]) rfl ⟨by simp[Zfn,L.chL],gk⟩
 ·have d0:((i:Int) ==(n:Int))=false:=by simp;omega
  by_cases hj:i=low
  ·subst hj
   have d1:((i:Int) ==(i:Int))=true:=by simp
   go_enter Tryz.func125,Tryz.ntmps125
   go_wp2_with fail;rw[←lT.out];clear qI vk;(refine wp_region_held_drew (S:=(fun w'=>w'.cell? ⟨pt,0,none⟩=some (.slice (some ⟨b,o,none⟩) t.length cap)∧w'.cell? ⟨pl,0,none⟩=some (.int .i64 (i:Nat))∧w'.cell? ⟨pp,0,none⟩=some (.int .i64 a)∧w'.cell? ⟨b,o+i*3,none⟩=some (.int .i64 bb)∧w'.cell? ⟨b,o+i*3+1,none⟩=some (.int .i64 c))) (by kernel_rfl) ?_ (fun aE=>?_))
   ·exact⟨qK,oJ,qJ,m0,m1⟩
   (refine ZrR (i:=0) (v:=?_) rfl (by kernel_rfl) (fun _ _ _ h=>h) (Or.inl ⟨by rfl,?_⟩) (by assumption) ?_);rotate_left
   ·(intro w aB;(try dsimp only at aB);go_simp;first|done|with_reducible rfl)
   (try simp only[Act.put,Zrs,Zrt,Zru]);(refine ZrR (i:=1) (v:=?_) rfl (by kernel_rfl) (fun _ _ _ h=>h) (Or.inl ⟨by rfl,?_⟩) (by assumption) ?_);rotate_left
   ·(intro w aB;(try dsimp only at aB);go_simp;first|done|with_reducible rfl)
   (try simp only[Act.put,Zrs,Zrt,Zru]);(refine ZrR (i:=2) (v:=?_) rfl (by kernel_rfl) (fun _ _ _ h=>h) (Or.inl ⟨by rfl,?_⟩) (by assumption) ?_);rotate_left
   ·(intro w aB;(try dsimp only at aB);go_simp;first|done|with_reducible rfl)
   (try simp only[Act.put,Zrs,Zrt,Zru]);(refine ZrR (i:=3) (v:=?_) rfl (by kernel_rfl) (fun _ _ _ h=>h) (Or.inl ⟨by rfl,?_⟩) (by assumption) ?_);rotate_left
   ·(intro w aB;(try dsimp only at aB);go_simp;first|done|with_reducible rfl)
   (try simp only[Act.put,Zrs,Zrt,Zru]);(refine ZrR (i:=4) (v:=?_) rfl (by kernel_rfl) (fun _ _ _ h=>h) (Or.inl ⟨by rfl,?_⟩) (by assumption) ?_);rotate_left
   ·(intro w aB;(try dsimp only at aB);go_simp;first|done|with_reducible rfl)
   (try simp only[Act.put,Zrs,Zrt,Zru]);(refine ZrR (i:=5) (v:=?_) rfl (by kernel_rfl) (fun _ _ _ h=>h) (Or.inl ⟨by rfl,?_⟩) (by assumption) ?_);rotate_left
   ·(intro w aB;(try dsimp only at aB);go_simp;first|done|with_reducible rfl)
   (try simp only[Act.put,Zrs,Zrt,Zru]);(refine ZrR (i:=6) (v:=?_) rfl (by kernel_rfl) (fun _ _ _ h=>h) (Or.inl ⟨by rfl,?_⟩) (by assumption) ?_);rotate_left
   ·(intro w aB;(try dsimp only at aB);go_simp;first|done|with_reducible rfl)
   (try simp only[Act.put,Zrs,Zrt,Zru]);(refine ZrR (i:=7) (v:=?_) rfl (by kernel_rfl) (fun _ _ _ h=>h) (Or.inl ⟨by rfl,?_⟩) (by assumption) ?_);rotate_left
   ·(intro w aB;(try dsimp only at aB);go_simp;first|done|with_reducible rfl)
   (try simp only[Act.put,Zrs,Zrt,Zru]);have cS:=fun u v0 v1=>dH.out u v0 v1
   (refine wpAnyH_ready (rs:=[8]) (by kernel_rfl) (by simp) ?_);(refine ZaW rfl (fun K hK=>?_))
   ((rw[if_pos (by rfl)]);go_simp;refine hK.out _ _ ⟨(ZrF (cS _ _ _ _ b1)).trans qK,(ZrF (cS _ _ _ _ b2)).trans oJ,(ZrF (cS _ _ _ _ b3)).trans qJ,(ZrF (cS _ _ _ _ b4)).trans m0,(ZrF (cS _ _ _ _ b4)).trans m1⟩ (fun aE=>?_))
   (clear hK K)
   (try simp only[Act.put,Zrs,Zrt,Zru]);(refine wpAnyH_done (by kernel_rfl) ?_ _);go_wp2_with fail;obtain⟨gk,vS⟩:=aZ.out (.int .i64 a) (.int .i64 bb) (.int .i64 0);obtain⟨e0,e1,e2⟩:=Za5 vS;exact bodyPost_ret (v:=.agg #[.int .i64 a,.int .i64 bb,.int .i64 0]) (by simp[results,Tryz.results125,go_sem,e0,e1,e2]) rfl ⟨by simp[Zfn,L.chL,hi],gk⟩
  ·have d1:((i:Int) ==(low:Int))=false:=by simp;omega
   go_enter Tryz.func125,Tryz.ntmps125
   go_wp2_with fail;obtain⟨h1,_,h3⟩:=Zbf W #[.int .i64 yl,.int .i64 yr,.int .i64 yv] #[.int .i64 yl,.int .i64 yr,.int .i64 yv] 78 78;obtain⟨e0,e1,e2⟩:=Za5 h3;exact bodyPost_ret (v:=.agg #[.int .i64 yl,.int .i64 yr,.int .i64 yv]) (by simp[results,Tryz.results125,go_sem,e0,e1,e2]) rfl ⟨by simp[Zfn,L.chL,hi,hj],h1⟩
end Go.Proofs.YtemnmcfmabamcaaGreatDoor
