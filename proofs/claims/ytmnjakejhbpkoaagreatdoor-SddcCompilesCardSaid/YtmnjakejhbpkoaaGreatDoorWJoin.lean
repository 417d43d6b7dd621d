import Derived.Test.YtmnjakejhbpkoaaGreatDoorWView10
import Derived.Test.YtmnjakejhbpkoaaGreatDoorWEv5
import Derived.Test.YtmnjakejhbpkoaaGreatDoorWView4
section
set_option linter.unusedSimpArgs false
set_option linter.unusedVariables false
namespace Go.Proofs.YtmnjakejhbpkoaaGreatDoor
open Go Go.RowKit Go.Shelf
section
variable {t:List VN} {sb k k':Nat} {X:List Nat} {s:St} {w0:World} {xv gt ct gb pc pn yes:Nat} {f:Nat→VSet} {l:Int} {W:World} {m:List (Nat × Nat)}
theorem cg_mono {a b:Nat} (h:a≤b):L.cg a≤L.cg b:=by unfold L.cg;split <;> split <;> (try split) <;> (try split) <;> omega
theorem given_any (hX:xv∈X∧gt∈X∧gb∈X) (hv:1≤(l.natAbs:Int)∧(l.natAbs:Int)≤128):∀ (P:Nat),P < t.length→∀ (a k k':Nat) (s:St) (m:List (Nat × Nat)) (W:World),GI t sb X w0 xv gt ct gb pc pn f l yes k s m W→a < s.nodes.length→L.Dep (L.Bel t P) (L.sem s.nodes a)→k'+L.cg (L.nv t P)≤k →
  Calls Tryz.prog 102 #[.pointer (some ⟨xv,0,none⟩),.int .i64 (a:Nat),.int .i64 (yes:Nat),.int .i64 (l.natAbs:Nat)] W (RetG t sb X w0 xv gt ct gb pc pn f l yes k' s W (L.giv (L.sem s.nodes a) (l.natAbs:Int) (decide (0 < l)))):=by
 intro P
 induction P using Nat.strongRecOn with
 | ind P ih =>
   intro hPl a k k' s m W h ha hd hk
   have hi:=h.sl.inv
   have hc:=h.sl.chk
   have htr:=h.sl.tree
   have hfew:=h.sl.few
   have h':GI t sb X w0 xv gt ct gb pc pn f l yes k' s m W:=h.less (by omega)
   rcases hi.kind ha with rfl | rfl | ⟨h2,nd,hn,hkd⟩
   ·exact given_const h' hi.zero (by show (-1:Int) < 0;omega) (fun x=>by unfold L.giv;rw [hi.sem0,hi.sem0])
   ·exact given_const h' hi.one (by show (-1:Int) < 0;omega) (fun x=>by unfold L.giv;rw [hi.sem1,hi.sem1])
   obtain ⟨Q,hpl,hQ,hu⟩:=hi.at_und h2 hn (Q:=P) (by rw [htr];exact hd)
   obtain ⟨Q',hpl',_,hdQ⟩:=hi.place h2 hn
   have:Q' = Q:=by omega
   subst this
   rw [htr] at hQ hu hdQ
   have hQP:=hu.le hc
   have hnv:=hu.nv_le hc
   by_cases hbel:L.Bel t Q' (l.natAbs:Int)
   ·cases hm:asc m a with
    | some r=>exact given_hit h' hn hpl hQ hv hbel hm
    | none =>
      rcases hkd with hl | hkd
      ·obtain ⟨u,y,l1,l2,l3,l4⟩:=hl.leaf
       have:u = Q':=by omega
       subst this
       rw [htr] at l2
       have hvar:(l.natAbs:Int) = (nd.lit.natAbs:Int):=by rw [←l4];exact (L.Bel.leaf hc l2 l3 _).1 hbel
       have hsem:L.sem s.nodes a = fun x=>x (l.natAbs:Int) == decide (0 < nd.lit):=funext fun x=>by rw [hi.semLit hn hl,hvar]
       have hgiv:∀ x,L.giv (L.sem s.nodes a) (l.natAbs:Int) (decide (0 < l)) x = (decide (0 < l) == decide (0 < nd.lit)):=fun x=>by
        rw [hsem];unfold L.giv L.upd;simp
       refine given_lit h' hn hpl hQ hv hbel hm hl.el rfl ?_
       by_cases hay:a = yes
       ·rw [if_pos hay]
        refine ⟨by have:=hi.len;omega,fun x=>?_⟩
        rw [hi.sem1,hgiv]
        have h1:=h.yes.sem (fun _=>true)
        rw [←hay,hsem] at h1
        unfold litφ at h1
        revert h1
        cases decide (0 < nd.lit) <;> cases decide (0 < l) <;> simp
       ·rw [if_neg hay]
        refine ⟨by have:=hi.len;omega,fun x=>?_⟩
        rw [hi.sem0,hgiv]
        by_cases hs:decide (0 < l) = decide (0 < nd.lit)
        ·refine absurd (hi.canon ha h.yes.lt (funext fun x=>?_)) hay
         rw [hsem,h.yes.sem]
         unfold litφ
         rw [hs]
        ·revert hs
         cases decide (0 < nd.lit) <;> cases decide (0 < l) <;> simp
      ·obtain ⟨P2,y,lf,rt,g1,g2,g3,g4,g5,g6,g7,g8,g9,g10⟩:=hi.facts hn hkd
       have:P2 = Q':=by omega
       subst this
       rw [htr] at g2 g6
       obtain ⟨l',r',e1,e2,b1,b2,_⟩:=L.inner_ok hc g2 g3
       have el:l' = lf:=by omega
       have er:r' = rt:=by omega
       subst el;subst er
       have hkids:=fun x=>L.Bel.kids hc g2 g3 g4 g5 x
       have hnl:=L.nv_pos hc l' (by omega)
       have hnr:=L.nv_pos hc r' (by omega)
       have hni:=L.nv_inner hc g2 g3 g4 g5
       have hn6:=L.nv_le hc hQ
       have hcost:=L.cg_cost hnl hnr (by omega) (g6.len_l hc (by omega)) (g6.len_r hc (by omega) g7)
       rw [←hni] at hcost
       have hcm:=cg_mono hnv
       refine given_dec h hX hn hpl hQ hv hbel hm (c1:=L.cg (L.nv t l')) (c2:=L.cg (L.nv t r')) (D1:=L.Bel t l') (D2:=L.Bel t r') (fun v hv'=>(hkids v).2 (.inl hv')) (fun v hv'=>(hkids v).2 (.inr hv'))
        (fun p hp=>?_) (fun e=>by have:=g6.two;rw [e] at this;simp at this) (by omega) ?_ (fun b k1 k2 s1 m1 V hG hb hdb hk12=>ih l' (by omega) (by omega) b k1 k2 s1 m1 V hG hb hdb hk12) (fun b k1 k2 s1 m1 V hG hb hdb hk12=>ih r' (by omega) (by omega) b k1 k2 s1 m1 V hG hb hdb hk12)
       ·obtain ⟨k1,k2⟩:=hkd.kids p hp
        exact ⟨⟨by omega,g6.pdep p hp⟩,by omega,g6.sdep p hp⟩
       ·funext x
        unfold L.giv elG
        rw [hi.semDec hn hkd]
        rfl
   ·exact given_off h' hn hpl hQ hv hbel (fun x=>L.giv_none hdQ hbel x)
end
end Go.Proofs.YtmnjakejhbpkoaaGreatDoor
end
section
set_option linter.unusedSimpArgs false
set_option linter.unusedVariables false
namespace Go.Proofs.YtmnjakejhbpkoaaGreatDoor
open Go Go.RowKit Go.Shelf
theorem cg_le (n:Nat):L.cg n≤3920:=by unfold L.cg;split <;> (try split) <;> omega
set_option maxRecDepth 100000 in
set_option maxHeartbeats 4000000 in
theorem Given_any {t:List VN} {sb k k':Nat} {X:List Nat} {s:St} {w0 w:World} (h:SL t sb k X s w0 w) {a:Nat} {φ:L.Asg→Bool} (ha:Val s a φ) {l:Int} (hl:VarOf t (l.natAbs:Int)) (hk:k'+3920≤k) :
  Calls Tryz.prog 34 #[.pointer (some ⟨sb,0,none⟩),.int .i64 (a:Nat),.int .i64 l] w (RetL t sb k' [] s w0 w (L.giv φ (l.natAbs:Int) (decide (0 < l)))):=by
 have hc:=h.chk
 have h00:=(check_ok hc).1
 have hr:=hl.range
 have hdr:L.Dep (L.Bel t (t.length - 1)) (L.sem s.nodes a):=by have:=dep_root h.inv ha.lt;rw [h.tree] at this;exact this
 have hφ:L.sem s.nodes a = φ:=funext ha.sem
 have hcg:=cg_le (L.nv t (t.length - 1))
 have q1:=look_any h ha.lt
 have hgl:gPow < w.heap.size∧gTz < w.heap.size:=by obtain ⟨B,_,hR,_⟩:=h.on;exact ⟨hR.pow.lt,hR.tz.lt'⟩
 have mx:max l (wrap64 (-l)) = ((l.natAbs:Nat):Int):=by unfold wrap64;omega
 replace hl:=Lib.hid hl
 replace hr:=Lib.hid hr
 go_enter Tryz.func34,Tryz.ntmps34
 go_wp2_with fail
 refine q1.mono ?_
 rintro e w2 ⟨xv,gt,ct,gb,pc,pn,f,rfl,hS2,hV2,_,hm2,⟨n1,n2,n3⟩,hy,hb2⟩
 have q2:=hS2.lit hl.out
 have hwz:=hS2.bel.size
 replace hS2:=Lib.hid hS2
 replace hV2:=Lib.hid hV2
 replace hm2:=Lib.hid hm2
 replace hy:=Lib.hid hy
 clear q1
 go_wp2_with fail
 refine q2.mono ?_
 rintro e w3 ⟨yes,s3,rfl,hS3,hs3,hv3,hx3,hst3⟩
 have hpn:=hy.out pn (by simp)
 have hGI:GI t sb (xv :: gt :: gb :: pc :: pn :: X) w0 xv gt ct gb pc pn f l yes k s3 [] w3 :=
  ⟨hS3,hV2.out.same (hx3 xv (by simp)) (hx3 gt (by simp)) (hx3 gb (by simp)),hm2.out.same (hx3 pn (by simp)),(fun i j hij=>by cases hij),hv3,⟨by simp,by have:=h.bel.size;omega,by omega,by omega⟩⟩
 have ha3:Val s3 a φ:=ha.step h.inv hs3
 have q3:=given_any (X:=xv :: gt :: gb :: pc :: pn :: X) ⟨by simp,by simp,by simp⟩ hr.out (t.length - 1) (by omega) a k k' s3 [] w3 hGI ha3.lt (by rw [show L.sem s3.nodes a = L.sem s.nodes a by rw [funext ha3.sem,hφ]];exact hdr) (by omega)
 rw [show L.sem s3.nodes a = φ from funext ha3.sem] at q3
 clear q2
 replace hS3:=Lib.hid hS3
 go_wp2_with fail
 refine q3.mono ?_
 rintro e w4 ⟨r,s4,m4,rfl,hG4,hs4,hv4,hst4⟩
 go_wp2_with fail
 go_ret2
 exact ⟨r,s4,rfl,hG4.sl.fewer (by simp),hs3.trans hs4,hv4,(fun x hx=>by cases hx),((Stays.of_below hb2).trans hst3).trans hst4⟩
end Go.Proofs.YtmnjakejhbpkoaaGreatDoor
end
section
set_option linter.unusedSimpArgs false
set_option linter.unusedVariables false
namespace Go.Proofs.YtmnjakejhbpkoaaGreatDoor
open Go Go.RowKit Go.Shelf
set_option maxRecDepth 100000 in
set_option maxHeartbeats 2000000 in
theorem joined_any {fm sb r0 cap:Nat} {ba:Option Addr} {l:List Nat} {w:World} (I:Nat→Nat→World→Prop) (hl:l.length≤1048576)
  (hKf:∀ (c:Array Value) (w:World),(callFunc fm c).run Tryz.prog w = .ok (.enter fm c) w) (h0:I 0 r0 w)
  (hrow:∀ j r W,I j r W→∀ (hj:j < l.length),∃ b o,ba = some ⟨b,o,none⟩∧W.cell? ⟨b,o+j,none⟩ = some (.int .i64 (l[j]:Nat)))
  (hstep:∀ j r W (hj:j < l.length),I j r W→Calls Tryz.prog fm #[.pointer (some ⟨sb,0,none⟩),.int .i64 (r:Nat),.int .i64 (l[j]:Nat)] W fun e W'=>∃ r':Nat,e = .returned (.tuple #[.int .i64 (r':Nat),.int .i64 0])∧I (j+1) r' W') :
  Calls Tryz.prog 152 #[.slice ba l.length cap,.func (.func fm) #[.pointer (some ⟨sb,0,none⟩)] #[],.int .i64 (r0:Nat)] w fun e W'=>∃ r:Nat,e = .returned (.tuple #[.int .i64 (r:Nat),.int .i64 0])∧I l.length r W':=by
 replace hrow:=Lib.hid hrow
 replace hstep:=Lib.hid hstep
 replace h0:=Lib.hid h0
 go_enter Tryz.func152,Tryz.ntmps152
 go_wp2_with fail
 go_loopw [2,13] (fun x i wr=>∃ (k r:Nat),k≤l.length∧x = .int .i64 r∧i = .int .i64 k∧I k r wr) (fun x i _=>l.length - (intOf i).toNat)
 case atStart=>exact ⟨0,r0,Nat.zero_le _,rfl,rfl,h0.out⟩
 case round =>
  obtain ⟨k,r,hk,rfl,rfl,hI⟩:=hrel
  by_cases hlt:k < l.length
  ·obtain ⟨b,o,rfl,f1⟩:=hrow.out k r wr hI hlt
   have q:=hstep.out k r wr hlt hI
   generalize l[k] = x at *
   replace hI:=Lib.hid hI
   go_wp2_with fail
   refine q.mono ?_
   rintro e w2 ⟨r2,rfl,hI2⟩
   replace hI2:=Lib.hid hI2
   clear q
   go_wp2_with fail
   go_roundw
   case rel=>exact ⟨k+1,r2,by omega,rfl,by go_num,hI2.out⟩
   case measure=>simp [intOf];omega
  ·obtain rfl:k = l.length:=by omega
   replace hI:=Lib.hid hI
   go_wp2_with fail
   go_ret2
   exact ⟨r,rfl,hI.out⟩
theorem SL.grown {t:List VN} {sb k:Nat} {X:List Nat} {s:St} {w0 w w':World} (h:SL t sb k X s w0 w) {base n:Nat} {v:Value} {xs:List Value} (ho:w.ownsRow base 3 1 v n xs) (hb:w0.heap.size≤base) (hg:w.grownBy w' v.ownBlock) (hz:gPow < w0.heap.size∧gTz < w0.heap.size):SL t sb k X s w0 w':=by
 obtain ⟨_,⟨rfl,_⟩ | ⟨g,cap,cur,rfl,hgb,hgh,_⟩⟩:=ho
 ·exact h.below ⟨hg.os,hg.tape,hg.output,hg.size,fun j hj=>hg.block j hj (by simp [Value.ownBlock])⟩
 ·obtain ⟨B,h1,hR,h2,h3⟩:=h.on
  have hgk:∀ k,k < w.heap.size→k≠g→w'.heap[k]? = w.heap[k]?:=fun k hk hne=>hg.block k hk (fun e=>by simp [Value.ownBlock] at e;exact hne e)
  refine ⟨⟨B,h1,hR.grownT hgh (by decide) (by decide) (by decide) (by decide) ⟨by omega,by omega⟩ (fun k o h1 h2=>by rw [hgk k (Array.getElem?_eq_some_iff.1 h2).1 h1,h2]),h2,fun x hx=>⟨(h3 x hx).1,Nat.lt_of_lt_of_le (h3 x hx).2 hg.size⟩⟩,h.room,h.tree,?_⟩
  exact ⟨hg.os.trans h.bel.os,hg.tape.trans h.bel.tape,hg.output.trans h.bel.output,Nat.le_trans h.bel.size hg.size,fun j hj=>(hgk j (Nat.lt_of_lt_of_le hj h.bel.size) (by omega)).trans (h.bel.block j hj)⟩
theorem own_stays {w w':World} {base n:Nat} {v:Value} {xs:List Value} (h:w.ownsRow base 3 1 v n xs) (hS:Stays w w'):w'.ownsRow base 3 1 v n xs:=by
 obtain ⟨a,h | ⟨g,cap,cur,rfl,hgb,hgh,hr⟩⟩:=h
 ·exact ⟨a,.inl h⟩
 ·exact ⟨a,.inr ⟨g,cap,cur,rfl,hgb,hS.get hgh (by decide) (by decide),hr⟩⟩
theorem own_row {w:World} {base:Nat} {v:Value} {l:List Nat} (h:w.ownsRow base 3 1 v l.length (l.map encNat)):∃ ba cap,v = .slice ba l.length cap∧∀ W,Stays w W→∀ j (hj:j < l.length),∃ b o,ba = some ⟨b,o,none⟩∧W.cell? ⟨b,o+j,none⟩ = some (.int .i64 (l[j]:Nat)):=by
 obtain ⟨_,⟨rfl,e⟩ | ⟨g,cap,cur,rfl,hgb,hgh,hn,hm,hcs,ht⟩⟩:=h
 ·have:l = []:=List.length_eq_zero_iff.1 e
  subst this
  exact ⟨none,0,rfl,fun W _ j hj=>by simp at hj⟩
 ·refine ⟨_,cap,rfl,fun W hS j hj=>⟨g,0,rfl,?_⟩⟩
  have h1:(l.map encNat)[j]? = some (encNat l[j]):=by rw [List.getElem?_map,List.getElem?_eq_getElem hj];rfl
  rw [←ht,List.getElem?_take] at h1
  split at h1
  ·have h2:cur[j]? = some (encNat l[j]):=by simpa using h1
   simp [World.cell?,hS.get hgh (by decide) (by decide),h2,encNat]
  ·simp at h1
theorem stays_grown {w w' wb:World} {base n:Nat} {v:Value} {xs:List Value} (h:Stays wb w) (ho:w.ownsRow base 3 1 v n xs) (hb:wb.heap.size≤base) (hg:w.grownBy w' v.ownBlock):Stays wb w' :=
 ⟨Nat.le_trans h.1 hg.size,fun k c ty f hk h1 h2=>by
   have h3:=h.2 k c ty f hk h1 h2
   have hkl:=(Array.getElem?_eq_some_iff.1 hk).1
   exact (hg.block k (Array.getElem?_eq_some_iff.1 h3).1 (fun e=>by have:=own_ge ho e.symm;omega)).trans h3⟩
def ClI (t:List VN) (sb k:Nat) (s:St) (w0 w:World) (c:List Int) (j:Nat) (v:Value) (W:World):Prop :=
 ∃ (s':St) (xs:List Nat),SL t sb k [] s' w0 W∧L.Step s s'∧Stays w W∧W.ownsRow w.heap.size 3 1 v j (xs.map encNat)∧xs.length = j∧∀ i (h1:i < xs.length) (h2:i < c.length),Val s' xs[i] (litφ c[i])
set_option maxRecDepth 100000 in
set_option maxHeartbeats 4000000 in
theorem clause_any {t:List VN} {sb k k':Nat} {s:St} {w0 w:World} (h:SL t sb k [] s w0 w) (hz:gPow < w0.heap.size∧gTz < w0.heap.size) (h01:Val s 0 fun _=>false) {v:Value} {c:List Int} (hv:SlI w0 v c) (hl:∀ l∈c,VarOf t (l.natAbs:Int)) (hlen:c.length≤128) (hk:k'+71 * c.length≤k) :
  Calls Tryz.prog 81 #[.pointer (some ⟨sb,0,none⟩),v] w (RetL t sb k' [] s w0 w (L.clφ c)):=by
 have hv1:=hv.ext h.bel
 obtain ⟨bb,cc,rfl,f2⟩:=hv
 have f3:∀ j (hj:j < c.length),∃ b o,bb = some ⟨b,o,none⟩∧w0.cell? ⟨b,o+j,none⟩ = some (.int .i64 c[j]):=fun j hj=>by
  rcases f2 with ⟨_,rfl,_⟩ | ⟨b,o,h1,h2⟩
  ·simp at hj
  ·exact ⟨b,o,h1,h2 j hj⟩
 have hI0:Hid (ClI t sb k s w0 w c 0 (.slice none 0 0) w):=Lib.hid ⟨s,[],h,L.Step.refl h.inv,Stays.refl _,⟨rfl,.inl ⟨rfl,rfl⟩⟩,rfl,fun i h1=>by simp at h1⟩
 have hmf:∀ (fn:Fn) (first cap:Array Value) (w:World),(Instr.makeFunc fn first cap).run Tryz.prog w = .ok (.func fn first cap) w:=fun _ _ _ _=>rfl
 have hK1:∀ (c:Array Value) (w:World),(callFunc 41 c).run Tryz.prog w = .ok (.enter 41 c) w:=fun c w=>by simp [go_sem,Tryz.func41]
 obtain ⟨i0,hi0,hz0,hz1,hz2⟩:=info_parts int_info
 replace f3:=Lib.hid f3
 replace hl:=Lib.hid hl
 replace h:=Lib.hid h
 clear f2 hv1
 go_enter Tryz.func81,Tryz.ntmps81
 go_wp2_with fail
 go_loopw [6,13] (fun x i wr=>∃ j:Nat,j≤c.length∧i = .int .i64 j∧Hid (ClI t sb k s w0 w c j x wr)) (fun x i _=>c.length - (intOf i).toNat)
 case atStart=>exact ⟨0,Nat.zero_le _,rfl,hI0⟩
 case round =>
  obtain ⟨j,hj,rfl,hI⟩:=hrel
  clear hI0
  obtain ⟨s',xs,hS,hs,hst,ho,hxl,hvs⟩:=hI.out
  obtain ⟨ba,cap,hvx,hrow⟩:=own_row (l:=xs) (by rw [hxl];exact ho)
  rw [hxl] at hvx
  by_cases hlt:j < c.length
  ·obtain ⟨b,o,rfl,f1⟩:=f3.out j hlt
   have f1:=(hS.bel.cell (World.block_lt_of_cell? w0 _ f1)).trans f1
   have q:=hS.lit (hl.out _ (List.getElem_mem hlt))
   have hvs':∀ i (h1:i < xs.length) (h2:i < c.length),Val s' xs[i] (litφ c[i]):=hvs
   obtain ⟨x,hx⟩:∃ x,x = c[j]:=⟨_,rfl⟩
   rw [←hx] at f1 q
   subst hvx
   replace hx:=Lib.hid hx
   replace hxl:=Lib.hid hxl
   replace hrow:=Lib.hid hrow
   replace hvs:=Lib.hid hvs
   replace hvs':=Lib.hid hvs'
   replace hS:=Lib.hid hS
   replace hI:=Lib.hid hI
   replace ho:=Lib.hid ho
   replace hst:=Lib.hid hst
   go_wp2_with fail
   refine q.mono ?_
   rintro e w2 ⟨r,s2,rfl,hS2,hs2,hv2,_,hst2⟩
   have ho2:=own_stays ho.out hst2
   clear q
   replace hS2:=Lib.hid hS2
   go_wp2_with (at_builtin;refine wpList_append_own _ rfl _ _ 45 rfl w.heap.size 3 i0 (.int .i64 0) 1 8 Tryz.underlying45 hi0 hz0 hz1 hz2 rfl (by decide) _ _ _ rfl (ho2.alloc _) ⟨w2.heap.size,0,none⟩ 1 1 [.int .i64 (r:Nat)] rfl rfl (cell_one_at _ _ _ _ rfl) (by simp [Value.oneCell']) (by unfold maxLen;omega) (by omega) (by have h1:=hst.out.1;have h2:=hst2.1;simp;omega) ?_;intro v3 w3 ho3 hg3 _)
   have hg3':(w2.alloc (.cells #[.int .i64 (r:Nat)] 3)).grownBy w3 (Value.slice ba j cap).ownBlock:=hg3
   have hba:Below w2.heap.size w2 (w2.alloc (.cells #[.int .i64 (r:Nat)] 3)):=(Below.refl _ _).alloc (Nat.le_refl _) _
   have hnew:Hid (ClI t sb k s w0 w c (j+1) v3 w3):=Lib.hid ⟨s2,xs++[r],(hS2.out.below hba).grown (ho2.alloc _) h.out.bel.size hg3' hz,hs.trans hs2,stays_grown ((hst.out.trans hst2).trans (Stays.of_below hba)) (ho2.alloc _) (Nat.le_refl _) hg3',
    own_cast ho3 rfl (by simp [encNat]),by simp [hxl.out],fun i h1 h2=>by
     by_cases hij:i < xs.length
     ·rw [List.getElem_append_left hij];exact (hvs'.out i hij h2).step hS.out.inv hs2
     ·have e:i = j:=by have:=hxl.out;simp at h1;omega
      subst e
      rw [List.getElem_append_right (by omega)]
      simp only [List.getElem_singleton]
      rw [←hx.out];exact hv2⟩
   exact ⟨⟨j+1,by omega,rfl,hnew⟩,by simp [intOf];omega⟩
  ·obtain rfl:j = c.length:=by omega
   rw [←hxl] at hvx
   subst hvx
   have q:=joined_any (fm:=41) (sb:=sb) (r0:=0) (cap:=cap) (ba:=ba) (l:=xs) (w:=wr) (fun j r W=>∃ s2,SL t sb (k'+71 * (c.length - j)) [] s2 w0 W∧L.Step s' s2∧Val s2 r (L.clφ (c.take j))∧Stays wr W) (by omega) hK1
    ⟨s',hS.less (by omega),L.Step.refl hS.inv,(h01.step h.out.inv hs).congr fun x=>rfl,Stays.refl _⟩
    (fun j r W ⟨s2,_,_,_,h4⟩ hj=>hrow W h4 j hj)
    (fun j r W hj ⟨s2,g1,g2,g3,g4⟩=>by
      have hjc:j < c.length:=by omega
      refine (g1.orl (k':=k'+71 * (c.length - (j+1))) (hl.out _ (List.getElem_mem hjc)) (by omega) g3 ((hvs j hj hjc).step hS.inv g2)).mono fun e w' hh=>?_
      obtain ⟨r',s3,e1,e2,e3,e4,_,e5⟩:=hh
      refine ⟨r',e1,s3,e2,g2.trans e3,e4.congr fun x=>?_,g4.trans e5⟩
      rw [List.take_succ_eq_append_getElem hjc,L.clφ_snoc]
      rfl)
   rw [show (((0:Nat):Nat):Int) = 0 from rfl] at q
   replace hxl:=Lib.hid hxl
   replace hS:=Lib.hid hS
   replace hI:=Lib.hid hI
   replace ho:=Lib.hid ho
   replace hst:=Lib.hid hst
   replace hrow:=Lib.hid hrow
   replace hvs:=Lib.hid hvs
   go_wp2_with fail
   refine q.mono ?_
   rintro e w4 ⟨r,rfl,s4,hS4,hs4,hv4,hst4⟩
   replace hS4:=Lib.hid hS4
   clear q
   go_wp2_with fail
   go_ret2
   rw [hxl.out,List.take_length] at hv4
   exact ⟨r,s4,rfl,hS4.out.less (by omega),hs.trans hs4,hv4,(fun x hx=>by cases hx),hst.out.trans hst4⟩
end Go.Proofs.YtmnjakejhbpkoaaGreatDoor
end
