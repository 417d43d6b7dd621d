import Derived.Test.YtmnjakejhbpkoaaGreatDoorWView9
set_option linter.unusedSimpArgs false
set_option linter.unusedVariables false
namespace Go.Proofs.YtmnjakejhbpkoaaGreatDoor
open Go Go.RowKit Go.Shelf
def elG (s:St) (v:Int) (b:Bool) (el:List (Nat × Nat)):L.Asg→Bool:=fun x=>el.any fun p=>L.giv (L.sem s.nodes p.1) v b x && L.giv (L.sem s.nodes p.2) v b x
theorem elG_snoc (s:St) (v:Int) (b:Bool) (el:List (Nat × Nat)) (p:Nat × Nat) (x:L.Asg):(elG s v b el x || (L.giv (L.sem s.nodes p.1) v b x && L.giv (L.sem s.nodes p.2) v b x)) = elG s v b (el++[p]) x:=by
 unfold elG;rw [List.any_append];simp
theorem elG_dep {s:St} {v:Int} {b:Bool} {S:Int→Prop} {el:List (Nat × Nat)} (h:∀ p∈el,L.Dep S (L.sem s.nodes p.1)∧L.Dep S (L.sem s.nodes p.2)):L.Dep S (elG s v b el):=fun x y hxy=>by
 have hp:∀ p∈el,(L.giv (L.sem s.nodes p.1) v b x && L.giv (L.sem s.nodes p.2) v b x) = (L.giv (L.sem s.nodes p.1) v b y && L.giv (L.sem s.nodes p.2) v b y):=fun p hp=>by
  rw [L.giv_dep (h p hp).1 x y hxy,L.giv_dep (h p hp).2 x y hxy]
 unfold elG
 rw [Bool.eq_iff_iff,List.any_eq_true,List.any_eq_true]
 exact ⟨fun ⟨p,h1,h2⟩=>⟨p,h1,by rw [←hp p h1];exact h2⟩,fun ⟨p,h1,h2⟩=>⟨p,h1,by rw [hp p h1];exact h2⟩⟩
section
variable {t:List VN} {sb k k':Nat} {X:List Nat} {s:St} {w0:World} {xv gt ct gb pc pn yes:Nat} {f:Nat→VSet} {l:Int} {W:World} {m:List (Nat × Nat)}
def LpG (t:List VN) (sb:Nat) (X:List Nat) (w0:World) (xv gt ct gb pc pn:Nat) (f:Nat→VSet) (l:Int) (yes k:Nat) (s:St) (W:World) (el:List (Nat × Nat)) (ge:Nat) (cs:Array Value) (out:Nat) (wr:World):Prop :=
 ∃ (so:St) (mo:List (Nat × Nat)),GI t sb X w0 xv gt ct gb pc pn f l yes k so mo wr∧L.Step s so∧Val so out (elG s (l.natAbs:Int) (decide (0 < l)) el)∧Stays W wr∧wr.heap[ge]? = some (.cells cs tPair (0,0))
set_option maxRecDepth 100000 in
set_option maxHeartbeats 16000000 in
theorem given_dec (h:GI t sb X w0 xv gt ct gb pc pn f l yes k s m W) (hX:xv∈X∧gt∈X∧gb∈X) {a:Nat} {nd:SNode} (hn:s.nodes[a]? = some nd) {P:Nat} (hp:nd.pl = (P:Nat)) (hP:P < t.length) (hv:1≤(l.natAbs:Int)∧(l.natAbs:Int)≤128) (hbel:L.Bel t P (l.natAbs:Int)) (hm:asc m a = none)
  {c1 c2:Nat} {D1 D2:Int→Prop} (hD1:∀ v,D1 v→L.Bel t P v) (hD2:∀ v,D2 v→L.Bel t P v) (hd:∀ p∈nd.el,(p.1 < s.nodes.length∧L.Dep D1 (L.sem s.nodes p.1))∧p.2 < s.nodes.length∧L.Dep D2 (L.sem s.nodes p.2)) (hne:nd.el≠[])
  (hk:k'+nd.el.length * (c1+c2+(L.ca (L.nv t P)+L.co (L.nv t P)))≤k) (he:L.giv (L.sem s.nodes a) (l.natAbs:Int) (decide (0 < l)) = elG s (l.natAbs:Int) (decide (0 < l)) nd.el)
  (ih1:∀ (b k1 k2:Nat) (s1:St) (m1:List (Nat × Nat)) (V:World),GI t sb X w0 xv gt ct gb pc pn f l yes k1 s1 m1 V→b < s1.nodes.length→L.Dep D1 (L.sem s1.nodes b)→k2+c1≤k1 →
    Calls Tryz.prog 102 #[.pointer (some ⟨xv,0,none⟩),.int .i64 (b:Nat),.int .i64 (yes:Nat),.int .i64 (l.natAbs:Nat)] V (RetG t sb X w0 xv gt ct gb pc pn f l yes k2 s1 V (L.giv (L.sem s1.nodes b) (l.natAbs:Int) (decide (0 < l)))))
  (ih2:∀ (b k1 k2:Nat) (s1:St) (m1:List (Nat × Nat)) (V:World),GI t sb X w0 xv gt ct gb pc pn f l yes k1 s1 m1 V→b < s1.nodes.length→L.Dep D2 (L.sem s1.nodes b)→k2+c2≤k1 →
    Calls Tryz.prog 102 #[.pointer (some ⟨xv,0,none⟩),.int .i64 (b:Nat),.int .i64 (yes:Nat),.int .i64 (l.natAbs:Nat)] V (RetG t sb X w0 xv gt ct gb pc pn f l yes k2 s1 V (L.giv (L.sem s1.nodes b) (l.natAbs:Int) (decide (0 < l))))) :
  Calls Tryz.prog 102 #[.pointer (some ⟨xv,0,none⟩),.int .i64 (a:Nat),.int .i64 (yes:Nat),.int .i64 (l.natAbs:Nat)] W (RetG t sb X w0 xv gt ct gb pc pn f l yes k' s W (L.giv (L.sem s.nodes a) (l.natAbs:Int) (decide (0 < l)))):=by
 have hi:=h.sl.inv
 have hlen:nd.el.length≤1048576:=by
  obtain ⟨B,_,hR,_⟩:=h.sl.on
  exact (hR.small.2 nd (List.mem_of_getElem? hn)).2.2.2.2.1
 have hl0:0 < nd.el.length:=List.length_pos_iff.2 hne
 have dl:((nd.el.length:Int) == 0) = false:=by rw [beq_eq_false_iff_ne];omega
 obtain ⟨ce,hce⟩:∃ ce,ce = c1+c2+(L.ca (L.nv t P)+L.co (L.nv t P)):=⟨_,rfl⟩
 rw [←hce] at hk
 obtain ⟨vv,hvv⟩:∃ vv,vv = (l.natAbs:Int):=⟨_,rfl⟩
 replace ih1:=Lib.hid ih1
 replace ih2:=Lib.hid ih2
 replace hd:=Lib.hid hd
 replace he:=Lib.hid he
 have ha:=(List.getElem?_eq_some_iff.1 hn).1
 have q1:=h.sl.at hn
 rw [hp] at q1
 have c0:W.cell? ⟨xv,0,none⟩ = some (.pointer (some ⟨sb,0,none⟩)):=by simp [World.cell?,h.vw.box]
 have d0:decide ((P:Int) < 0) = false:=decide_eq_false (by omega)
 have g0:(0:Int)≤P:=by omega
 have g1:(P:Int) < t.length:=by omega
 have hh:hasS (f P) (l.natAbs:Int) = true:=(isBel_has (h.vw.bel P hP) hv).2 hbel
 have qh:=fun V=>has_any (f P) (l.natAbs:Int) V (by omega) (by omega)
 rw [hh] at qh
 replace qh:=Lib.hid qh
 replace hh:=Lib.hid hh
 go_enter Tryz.func102,Tryz.ntmps102
 go_wp2_with fail
 refine q1.mono ?_
 rintro e w2 ⟨rfl,hb2⟩
 have h2:=h.below hb2
 have c2:w2.cell? ⟨xv,2,none⟩ = some (.slice (some ⟨gb,0,none⟩) t.length t.length):=by simp [World.cell?,h2.vw.box]
 obtain ⟨⟨s1,s2⟩,_⟩:=h2.vw.sets.cell hP
 have qh':=qh.out w2
 replace h:=Lib.hid h
 replace h2:=Lib.hid h2
 clear q1 c0
 go_wp2_with fail
 refine qh'.mono ?_
 rintro e w3 ⟨rfl,hx3⟩
 have h3:=h2.out.below hx3.below
 have hst3:=Stays.of_below (hb2.trans (hx3.below.mono hb2.size))
 have c4:w3.cell? ⟨xv,4,none⟩ = some (.map (some pn)):=by simp [World.cell?,h3.vw.box]
 have lk:=h3.look a
 clear qh' s1 s2 c2 h2 qh
 rw [hm,show ((none:Option Nat).map encNat).getD (.int .i64 0) = .int .i64 0 from rfl,show (none:Option Nat).isSome = false from rfl] at lk
 have q4:=h3.sl.elements hn
 have k0:w3.cell? ⟨xv,0,none⟩ = some (.pointer (some ⟨sb,0,none⟩)):=by simp [World.cell?,h3.vw.box]
 replace h3:=Lib.hid h3
 go_wp2_with fail
 refine q4.mono ?_
 rintro e w4 ⟨ba,cap,rfl,hNP,hb4⟩
 obtain ⟨ge,cs,rfl,hge,he4,hcs⟩:=hNP.cells hne
 have h4:=h3.out.below hb4
 have hst4:=hst3.trans (Stays.of_below hb4)
 have hloop:Hid (LpG t sb X w0 xv gt ct gb pc pn f l yes (k'+(nd.el.length - 0) * ce) s W (nd.el.take 0) ge cs 0 w4):=Lib.hid ⟨s,m,h4.less (by rw [Nat.sub_zero];exact hk),L.Step.refl hi,⟨by have:=hi.len;omega,fun x=>by rw [hi.sem0];rfl⟩,hst4,he4⟩
 replace hcs:=Lib.hid hcs
 replace hce:=Lib.hid hce
 clear q4 h3 c4 lk k0 hNP h4 hst4 hst3 he4
 go_wp2_with fail
 go_loopw [15,84] (fun ov iv wr=>∃ j out:Nat,j≤nd.el.length∧ov = .int .i64 (out:Nat)∧iv = .int .i64 (j:Nat)∧Hid (LpG t sb X w0 xv gt ct gb pc pn f l yes (k'+(nd.el.length - j) * ce) s W (nd.el.take j) ge cs out wr)) (fun _ iv _=>nd.el.length - (intOf iv).toNat)
 case atStart=>exact ⟨0,0,Nat.zero_le _,rfl,rfl,hloop⟩
 case round =>
  clear hloop
  obtain ⟨j,out,hj,rfl,rfl,hI⟩:=hrel
  obtain ⟨so,mo,hG,hSo,hVo,hSt,hgo⟩:=hI.out
  clear hI
  by_cases hlt:j < nd.el.length
  ·have dlt:decide ((j:Int) < (nd.el.length:Int)) = true:=decide_eq_true (by omega)
   have q0:(0:Int)≤j:=by omega
   have q1:(j:Int) < nd.el.length:=by omega
   obtain ⟨e1,e2⟩:=hcs.out j hlt
   have x1:wr.cell? ⟨ge,j * 2,none⟩ = some (.int .i64 (nd.el[j].1:Nat)):=by simp [World.cell?,hgo,e1]
   have x2:wr.cell? ⟨ge,j * 2+1,none⟩ = some (.int .i64 (nd.el[j].2:Nat)):=by simp [World.cell?,hgo,e2]
   have hmem:nd.el[j]∈nd.el:=List.getElem_mem hlt
   have htk:=Lib.hid (List.take_succ_eq_append_getElem hlt)
   have hdp:=Lib.hid (hd.out nd.el[j] hmem)
   have hsub:(nd.el.length - j) * ce = (nd.el.length - (j+1)) * ce+ce:=by rw [show nd.el.length - j = (nd.el.length - (j+1))+1 by omega,Nat.succ_mul]
   generalize nd.el[j] = p at *
   obtain ⟨p1,p2⟩:=p
   simp only at x1 x2
   obtain ⟨kr,hkr⟩:∃ kr,kr = k'+(nd.el.length - (j+1)) * ce:=⟨_,rfl⟩
   have hG0:GI t sb X w0 xv gt ct gb pc pn f l yes (kr+ce) so mo wr:=hG.less (by rw [hkr,hsub];omega)
   replace hkr:=Lib.hid hkr
   clear hG hsub
   have hb5:Below wr.heap.size wr (wr.alloc (.cells #[.int .i64 (p1:Nat),.int .i64 (p2:Nat)] 165)):=(Below.refl _ _).alloc (Nat.le_refl _) _
   have hG5:=hG0.below hb5
   have h5:=heap_alloc_new wr (.cells #[.int .i64 (p1:Nat),.int .i64 (p2:Nat)] 165)
   have he5:=(hb5.block _ (Array.getElem?_eq_some_iff.1 hgo).1).trans hgo
   have hst5:=hSt.trans (Stays.of_below hb5)
   obtain ⟨⟨l1,d1⟩,l2,d2⟩:=hdp.out
   have hio:=hG0.sl.inv
   have hs1:L.sem so.nodes p1 = L.sem s.nodes p1:=hSo.sem hi l1
   have hs2:L.sem so.nodes p2 = L.sem s.nodes p2:=hSo.sem hi l2
   have qg1:=ih1.out p1 (kr+ce) (kr+c2+(L.ca (L.nv t P)+L.co (L.nv t P))) so mo _ hG5 (Nat.lt_of_lt_of_le l1 hSo.len) (by rw [hs1];exact d1) (by rw [hce.out];omega)
   rw [hs1] at qg1
   replace hs1:=Lib.hid hs1
   replace hs2:=Lib.hid hs2
   clear e1 e2 hgo hG0 hSt
   go_wp2_with fail
   generalize hqb:wr.heap.size = q at *
   generalize wr.alloc (.cells #[.int .i64 (p1:Nat),.int .i64 (p2:Nat)] 165) = w5 at *
   replace hqb:=Lib.hid hqb
   clear x1 x2 hb5
   refine qg1.mono ?_
   rintro e w6 ⟨r1,s1,m1,rfl,hG6,hS6,hV6,hst6⟩
   have h6:=hst6.get h5 (by decide) (by decide)
   have k2:w6.cell? ⟨q,1,none⟩ = some (.int .i64 (p2:Nat)):=by simp [World.cell?,h6]
   have he6:=hst6.get he5 (by decide) (by decide)
   have hSo6:=hSo.trans hS6
   have hs2':L.sem s1.nodes p2 = L.sem s.nodes p2:=hSo6.sem hi l2
   have qg2:=ih2.out p2 _ (kr+(L.ca (L.nv t P)+L.co (L.nv t P))) s1 m1 _ hG6 (Nat.lt_of_lt_of_le l2 hSo6.len) (by rw [hs2'];exact d2) (by omega)
   rw [hs2'] at qg2
   replace hs2':=Lib.hid hs2'
   have hVo6:=hVo.step hio hS6
   have hst6':=hst5.trans hst6
   have hi6:=hG6.sl.inv
   clear qg1 h5 he5 hG5 hst6 hst5
   replace hG6:=Lib.hid hG6
   go_wp2_with fail
   refine qg2.mono ?_
   rintro e w7 ⟨r2,s2,m2,rfl,hG7,hS7,hV7,hst7⟩
   have he7:=hst7.get he6 (by decide) (by decide)
   have hSo7:=hSo6.trans hS7
   have hV6':=hV6.step hi6 hS7
   have hVo7:=hVo6.step hi6 hS7
   have hst7':=hst6'.trans hst7
   have hi7:=hG7.sl.inv
   have k3:w7.cell? ⟨xv,0,none⟩ = some (.pointer (some ⟨sb,0,none⟩)):=by simp [World.cell?,hG7.vw.box]
   have qa:=(hG7.sl.less (m:=kr+L.co (L.nv t P)+L.ca (L.nv t P)) (by omega)).andP hP (Nat.le_refl _) hV6' hV7 (L.giv_dep (d1.mono hD1)) (L.giv_dep (d2.mono hD2))
   replace hG7:=Lib.hid hG7
   clear qg2 k2 h6 he6 hG6 hst7 hst6' hV6 hVo6
   go_wp2_with fail
   refine qa.mono ?_
   rintro e w8 ⟨r3,s3,rfl,hL8,hS8,hV8,hx8,hst8⟩
   have hG8:=(hG7.out).op hX hL8 hS8 hx8
   have he8:=hst8.get he7 (by decide) (by decide)
   have hSo8:=hSo7.trans hS8
   have hVo8:=hVo7.step hi7 hS8
   have hst8':=hst7'.trans hst8
   have hi8:=hL8.inv
   have k4:w8.cell? ⟨xv,0,none⟩ = some (.pointer (some ⟨sb,0,none⟩)):=by simp [World.cell?,hG8.vw.box]
   have hdo:L.Dep (L.Bel t P) (elG s (l.natAbs:Int) (decide (0 < l)) (nd.el.take j)):=elG_dep fun p hp=>by
    obtain ⟨⟨_,a1⟩,_,a2⟩:=hd.out p (List.mem_of_mem_take hp)
    exact ⟨a1.mono hD1,a2.mono hD2⟩
   have hdb:L.Dep (L.Bel t P) (fun x=>L.giv (L.sem s.nodes p1) (l.natAbs:Int) (decide (0 < l)) x && L.giv (L.sem s.nodes p2) (l.natAbs:Int) (decide (0 < l)) x):=fun x y hxy=>by
    show (_ && _) = (_ && _)
    rw [L.giv_dep (d1.mono hD1) x y hxy,L.giv_dep (d2.mono hD2) x y hxy]
   have qo:=(hL8.less (m:=kr+L.co (L.nv t P)) (Nat.le_refl _)).orP hP (Nat.le_refl _) hVo8 hV8 hdo hdb
   replace hG8:=Lib.hid hG8
   clear qa k3 he7 hG7 hst8 hst7' hV6' hV7 hVo7 hL8 hdo hdb
   go_wp2_with fail
   refine qo.mono ?_
   rintro e w9 ⟨r4,s4,rfl,hL9,hS9,hV9,hx9,hst9⟩
   have hnext:Hid (LpG t sb X w0 xv gt ct gb pc pn f l yes (k'+(nd.el.length - (j+1)) * ce) s W (nd.el.take (j+1)) ge cs r4 w9):=Lib.hid (by
    rw [←hkr.out,htk.out]
    exact ⟨s4,m2,hG8.out.op hX hL9 hS9 hx9,hSo8.trans hS9,hV9.congr fun x=>elG_snoc s (l.natAbs:Int) (decide (0 < l)) (nd.el.take j) (p1,p2) x,hst8'.trans hst9,hst9.get he8 (by decide) (by decide)⟩)
   clear qo k4 he8 hG8 hst9 hst8' hV8 hVo8 hL9 hV9 hx9 hS9
   go_wp2_with fail
   exact ⟨⟨j+1,r4,by omega,rfl,rfl,hnext⟩,by simp [intOf];omega⟩
  ·have dlt:decide ((j:Int) < (nd.el.length:Int)) = false:=decide_eq_false (by omega)
   obtain rfl:j = nd.el.length:=by omega
   rw [List.take_length] at hVo
   have hGk:=hG.less (k':=k') (by omega)
   have hio:=hG.sl.inv
   have haS:L.sem so.nodes a = L.sem s.nodes a:=hSo.sem hi ha
   have k4:wr.cell? ⟨xv,4,none⟩ = some (.map (some pn)):=by simp [World.cell?,hG.vw.box]
   obtain ⟨hput,hG9,hst9⟩:=hGk.put a out (Nat.lt_of_lt_of_le ha hSo.len) (by rw [haS,he.out];exact hVo)
   have hst':=hSt.trans hst9
   have hVf:Val so out (L.giv (L.sem s.nodes a) (l.natAbs:Int) (decide (0 < l))):=by rw [he.out];exact hVo
   replace haS:=Lib.hid haS
   replace hG9:=Lib.hid hG9
   replace hVf:=Lib.hid hVf
   replace hst':=Lib.hid hst'
   clear hG hGk hVo hSt hst9 hgo
   go_wp2_with fail
   go_ret2
   exact ⟨out,so,_,rfl,hG9.out,hSo,hVf.out,hst'.out⟩
end
end Go.Proofs.YtmnjakejhbpkoaaGreatDoor
