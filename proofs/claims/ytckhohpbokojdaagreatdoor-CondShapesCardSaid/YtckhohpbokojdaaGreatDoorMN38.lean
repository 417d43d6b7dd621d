import Derived.Test.YtckhohpbokojdaaGreatDoorMN36
section
set_option linter.unusedSimpArgs false
set_option linter.unusedVariables false
namespace Go.Proofs.YtckhohpbokojdaaGreatDoor
open Go Go.RowKit Go.Shelf
set_option maxRecDepth 100000 in
set_option maxHeartbeats 1000000 in
theorem leaf_any (l:Int) (w:World):Calls Tryz.prog 33 #[.int .i64 l] w fun e w'=>e = .returned (.agg #[.int .i64 2,.int .i64 l,.slice none 0 0])∧Ext w w':=by
 have e0:=heap_alloc_new w (.cells #[.int .i64 2,.int .i64 l,.slice none 0 0] 40)
 have y0:(w.alloc (.cells #[.int .i64 2,.int .i64 l,.slice none 0 0] 40)).cell? ⟨w.heap.size,0,none⟩ = some (.int .i64 2):=by rw [World.cell?,e0];rfl
 have y1:(w.alloc (.cells #[.int .i64 2,.int .i64 l,.slice none 0 0] 40)).cell? ⟨w.heap.size,1,none⟩ = some (.int .i64 l):=by rw [World.cell?,e0];rfl
 have y2:(w.alloc (.cells #[.int .i64 2,.int .i64 l,.slice none 0 0] 40)).cell? ⟨w.heap.size,2,none⟩ = some (.slice none 0 0):=by rw [World.cell?,e0];rfl
 have hx:Ext w (w.alloc (.cells #[.int .i64 2,.int .i64 l,.slice none 0 0] 40)):=(Ext.refl w).alloc _
 replace e0:=Lib.hid e0
 replace hx:=Lib.hid hx
 go_enter Tryz.func33,Tryz.ntmps33
 go_wp2_with fail
 exact bodyPost_ret (v:=.agg #[.int .i64 2,.int .i64 l,.slice none 0 0]) (by simp [results,Tryz.results33,go_sem,y0,y1,y2]) rfl ⟨rfl,hx.out⟩
set_option maxRecDepth 100000 in
set_option maxHeartbeats 1000000 in
theorem ofn_any (kd:Int) (b:Option Addr) (m c:Nat) (w:World):Calls Tryz.prog 34 #[.int .i64 kd,.slice b m c] w fun e w'=>e = .returned (.agg #[.int .i64 kd,.int .i64 0,.slice b m c])∧Ext w w':=by
 have e0:=heap_alloc_new w (.cells #[.int .i64 kd,.int .i64 0,.slice b m c] 40)
 have y0:(w.alloc (.cells #[.int .i64 kd,.int .i64 0,.slice b m c] 40)).cell? ⟨w.heap.size,0,none⟩ = some (.int .i64 kd):=by rw [World.cell?,e0];rfl
 have y1:(w.alloc (.cells #[.int .i64 kd,.int .i64 0,.slice b m c] 40)).cell? ⟨w.heap.size,1,none⟩ = some (.int .i64 0):=by rw [World.cell?,e0];rfl
 have y2:(w.alloc (.cells #[.int .i64 kd,.int .i64 0,.slice b m c] 40)).cell? ⟨w.heap.size,2,none⟩ = some (.slice b m c):=by rw [World.cell?,e0];rfl
 have hx:Ext w (w.alloc (.cells #[.int .i64 kd,.int .i64 0,.slice b m c] 40)):=(Ext.refl w).alloc _
 replace e0:=Lib.hid e0
 replace hx:=Lib.hid hx
 go_enter Tryz.func34,Tryz.ntmps34
 go_wp2_with fail
 exact bodyPost_ret (v:=.agg #[.int .i64 kd,.int .i64 0,.slice b m c]) (by simp [results,Tryz.results34,go_sem,y0,y1,y2]) rfl ⟨rfl,hx.out⟩
set_option maxRecDepth 100000 in
set_option maxHeartbeats 1000000 in
theorem netn_any (n:Int) (b:Option Addr) (m c:Nat) (w:World):Calls Tryz.prog 32 #[.int .i64 n,.slice b m c] w fun e w'=>e = .returned (.agg #[.int .i64 n,.slice b m c])∧Ext w w':=by
 have e0:=heap_alloc_new w (.cells #[.int .i64 n,.slice b m c] 24)
 have y0:(w.alloc (.cells #[.int .i64 n,.slice b m c] 24)).cell? ⟨w.heap.size,0,none⟩ = some (.int .i64 n):=by rw [World.cell?,e0];rfl
 have y1:(w.alloc (.cells #[.int .i64 n,.slice b m c] 24)).cell? ⟨w.heap.size,1,none⟩ = some (.slice b m c):=by rw [World.cell?,e0];rfl
 have hx:Ext w (w.alloc (.cells #[.int .i64 n,.slice b m c] 24)):=(Ext.refl w).alloc _
 replace e0:=Lib.hid e0
 replace hx:=Lib.hid hx
 go_enter Tryz.func32,Tryz.ntmps32
 go_wp2_with fail
 exact bodyPost_ret (v:=.agg #[.int .i64 n,.slice b m c]) (by simp [results,Tryz.results32,go_sem,y0,y1]) rfl ⟨rfl,hx.out⟩
end Go.Proofs.YtckhohpbokojdaaGreatDoor
end
section
set_option linter.unusedSimpArgs false
set_option linter.unusedVariables false
namespace Go.Proofs.YtckhohpbokojdaaGreatDoor
open Go Go.RowKit Go.Shelf
def chL:List L.ND:=[⟨2,1,[]⟩,⟨2,2,[]⟩,⟨2,3,[]⟩,⟨4,0,[1,2]⟩,⟨3,0,[0,3]⟩]
def ex3 (l1 l2 kd:Int):List L.ND:=[⟨2,l1,[]⟩,⟨2,l2,[]⟩,⟨kd,0,[0,1]⟩]
set_option maxRecDepth 100000 in
theorem ch_chk:L.netChk 3 (chL.map L.ofND) = 0:=by kernel_rfl
set_option maxRecDepth 100000 in
theorem ch_giv:L.reduceL (chL.map (L.givND [-2])) = ex3 1 3 3:=by kernel_rfl
set_option maxRecDepth 100000 in
theorem ch_for:L.reduceL (chL.map (L.forND 1)) = ex3 2 3 4:=by kernel_rfl
set_option maxRecDepth 100000 in
theorem ch_dec:decF chL = true:=by kernel_rfl
theorem ch_term:L.TermL 3 [-2]:=fun z hz=>by
 rw [List.mem_singleton.1 hz]
 exact ⟨by decide,by decide⟩
theorem slI_of2 {W:World} {x a b:Nat} (h:W.heap[x]? = some (.cells #[.int .i64 (a:Nat),.int .i64 (b:Nat)] 3 (0,0))):SlI W (.slice (some ⟨x,0,none⟩) 2 2) (castL [a,b]):=⟨_,_,rfl,.inr ⟨x,0,rfl,fun j hj=>by
 match j,hj with
 | 0,_=>rw [World.cell?,h];rfl
 | 1,_=>rw [World.cell?,h];rfl⟩⟩
theorem slI_nil (w:World):SlI w (.slice none 0 0) (castL []):=⟨none,0,rfl,.inl ⟨rfl,rfl,rfl⟩⟩
theorem slC_ex3 {W:World} {y x:Nat} {l1 l2 kd:Int} (h:W.heap[y]? = some (.cells #[.int .i64 2,.int .i64 l1,.slice none 0 0,.int .i64 2,.int .i64 l2,.slice none 0 0,.int .i64 kd,.int .i64 0,.slice (some ⟨x,0,none⟩) 2 2] 40 (0,0))) (hs:SlI W (.slice (some ⟨x,0,none⟩) 2 2) (castL [0,1])):SlC W (.slice (some ⟨y,0,none⟩) 3 3) ((ex3 l1 l2 kd).map L.ofND):=by
 refine ⟨_,3,rfl,.inr ⟨y,0,rfl,fun j hj=>?_⟩⟩
 match j,hj with
 | 0,_=>exact ⟨by rw [World.cell?,h];rfl,by rw [World.cell?,h];rfl,_,by rw [World.cell?,h];rfl,slI_nil W⟩
 | 1,_=>exact ⟨by rw [World.cell?,h];rfl,by rw [World.cell?,h];rfl,_,by rw [World.cell?,h];rfl,slI_nil W⟩
 | 2,_=>exact ⟨by rw [World.cell?,h];rfl,by rw [World.cell?,h];rfl,_,by rw [World.cell?,h];rfl,hs⟩
theorem slC_ch {W:World} {y x1 x2:Nat} (h:W.heap[y]? = some (.cells #[.int .i64 2,.int .i64 1,.slice none 0 0,.int .i64 2,.int .i64 2,.slice none 0 0,.int .i64 2,.int .i64 3,.slice none 0 0,.int .i64 4,.int .i64 0,.slice (some ⟨x1,0,none⟩) 2 2,.int .i64 3,.int .i64 0,.slice (some ⟨x2,0,none⟩) 2 2] 40 (0,0))) (hs1:SlI W (.slice (some ⟨x1,0,none⟩) 2 2) (castL [1,2])) (hs2:SlI W (.slice (some ⟨x2,0,none⟩) 2 2) (castL [0,3])):SlC W (.slice (some ⟨y,0,none⟩) 5 5) (chL.map L.ofND):=by
 refine ⟨_,5,rfl,.inr ⟨y,0,rfl,fun j hj=>?_⟩⟩
 match j,hj with
 | 0,_=>exact ⟨by rw [World.cell?,h];rfl,by rw [World.cell?,h];rfl,_,by rw [World.cell?,h];rfl,slI_nil W⟩
 | 1,_=>exact ⟨by rw [World.cell?,h];rfl,by rw [World.cell?,h];rfl,_,by rw [World.cell?,h];rfl,slI_nil W⟩
 | 2,_=>exact ⟨by rw [World.cell?,h];rfl,by rw [World.cell?,h];rfl,_,by rw [World.cell?,h];rfl,slI_nil W⟩
 | 3,_=>exact ⟨by rw [World.cell?,h];rfl,by rw [World.cell?,h];rfl,_,by rw [World.cell?,h];rfl,hs1⟩
 | 4,_=>exact ⟨by rw [World.cell?,h];rfl,by rw [World.cell?,h];rfl,_,by rw [World.cell?,h];rfl,hs2⟩
set_option maxRecDepth 100000 in
set_option maxHeartbeats 4000000 in
theorem chapter35_any (w:World):Calls Tryz.prog 31 #[] w fun e w'=>∃ y,e = .returned (.agg #[.int .i64 3,.slice (some ⟨y,0,none⟩) 5 5])∧SlC w' (.slice (some ⟨y,0,none⟩) 5 5) (chL.map L.ofND)∧Below w.heap.size w w':=by
 go_enter Tryz.func31,Tryz.ntmps31
 go_wp2_with fail
 have hx0:Ext w (w.alloc (.cells #[.int .i64 0,.slice none 0 0] 24)):=(Ext.refl w).alloc _
 have e0:=heap_alloc_new w (.cells #[.int .i64 0,.slice none 0 0] 24)
 refine (leaf_any 1 _).mono ?_
 rintro e w1 ⟨rfl,hx1⟩
 replace e0:=(hx1.below.block _ (Array.getElem?_eq_some_iff.1 e0).1).trans e0
 replace hx1:=Lib.hid (hx0.trans hx1)
 replace e0:=Lib.hid e0
 clear hx0
 go_wp2_with fail
 refine (leaf_any 2 _).mono ?_
 rintro e w2 ⟨rfl,hx2⟩
 replace e0:=Lib.hid ((hx2.below.block _ (Array.getElem?_eq_some_iff.1 e0.out).1).trans e0.out)
 replace hx2:=Lib.hid (hx1.out.trans hx2)
 clear hx1
 go_wp2_with fail
 refine (leaf_any 3 _).mono ?_
 rintro e w3 ⟨rfl,hx3⟩
 replace e0:=Lib.hid ((hx3.below.block _ (Array.getElem?_eq_some_iff.1 e0.out).1).trans e0.out)
 replace hx3:=Lib.hid (hx2.out.trans hx3)
 clear hx2
 have hs1:=heap_alloc_new w3 (.cells #[.int .i64 1,.int .i64 2] 3)
 have hxa:=(Ext.refl w3).alloc (.cells #[.int .i64 1,.int .i64 2] 3)
 replace hs1:=Lib.hid hs1
 replace hxa:=Lib.hid hxa
 go_wp2_with fail
 refine (ofn_any 4 _ _ _ _).mono ?_
 rintro e w4 ⟨rfl,hx4⟩
 replace e0:=Lib.hid (((hxa.out.trans hx4).below.block _ (Array.getElem?_eq_some_iff.1 e0.out).1).trans e0.out)
 replace hs1:=Lib.hid ((hx4.below.block _ (Array.getElem?_eq_some_iff.1 hs1.out).1).trans hs1.out)
 replace hx4:=Lib.hid (hx3.out.trans (hxa.out.trans hx4))
 clear hx3 hxa
 have hs2:=Lib.hid (heap_alloc_new w4 (.cells #[.int .i64 0,.int .i64 3] 3))
 have hxa:=Lib.hid ((Ext.refl w4).alloc (.cells #[.int .i64 0,.int .i64 3] 3))
 generalize w3.heap.size = x1 at *
 go_wp2_with fail
 refine (ofn_any 3 _ _ _ _).mono ?_
 rintro e w5 ⟨rfl,hx5⟩
 replace e0:=Lib.hid (((hxa.out.trans hx5).below.block _ (Array.getElem?_eq_some_iff.1 e0.out).1).trans e0.out)
 replace hs1:=Lib.hid (((hxa.out.trans hx5).below.block _ (Array.getElem?_eq_some_iff.1 hs1.out).1).trans hs1.out)
 replace hs2:=Lib.hid ((hx5.below.block _ (Array.getElem?_eq_some_iff.1 hs2.out).1).trans hs2.out)
 replace hx5:=Lib.hid (hx4.out.trans (hxa.out.trans hx5))
 clear hx4 hxa
 generalize w4.heap.size = x2 at *
 have hn5:=heap_alloc_new w5 (.cells #[.int .i64 2,.int .i64 1,.slice none 0 0,.int .i64 2,.int .i64 2,.slice none 0 0,.int .i64 2,.int .i64 3,.slice none 0 0,.int .i64 4,.int .i64 0,.slice (some ⟨x1,0,none⟩) 2 2,.int .i64 3,.int .i64 0,.slice (some ⟨x2,0,none⟩) 2 2] 40)
 have hxa:=(Ext.refl w5).alloc (.cells #[.int .i64 2,.int .i64 1,.slice none 0 0,.int .i64 2,.int .i64 2,.slice none 0 0,.int .i64 2,.int .i64 3,.slice none 0 0,.int .i64 4,.int .i64 0,.slice (some ⟨x1,0,none⟩) 2 2,.int .i64 3,.int .i64 0,.slice (some ⟨x2,0,none⟩) 2 2] 40)
 replace hs1:=Lib.hid ((hxa.below.block _ (Array.getElem?_eq_some_iff.1 hs1.out).1).trans hs1.out)
 replace hs2:=Lib.hid ((hxa.below.block _ (Array.getElem?_eq_some_iff.1 hs2.out).1).trans hs2.out)
 replace hn5:=Lib.hid hn5
 replace hxa:=Lib.hid hxa
 go_wp2_with fail
 refine (netn_any 3 _ _ _ _).mono ?_
 rintro e w6 ⟨rfl,hx6⟩
 have hz:=((hxa.out.trans hx6).below.block _ (Array.getElem?_eq_some_iff.1 e0.out).1).trans e0.out
 replace hs1:=Lib.hid ((hx6.below.block _ (Array.getElem?_eq_some_iff.1 hs1.out).1).trans hs1.out)
 replace hs2:=Lib.hid ((hx6.below.block _ (Array.getElem?_eq_some_iff.1 hs2.out).1).trans hs2.out)
 replace hn5:=Lib.hid ((hx6.below.block _ (Array.getElem?_eq_some_iff.1 hn5.out).1).trans hn5.out)
 replace hx6:=Lib.hid (hx5.out.trans (hxa.out.trans hx6))
 generalize w5.heap.size = y at *
 have z0:w6.cell? ⟨w.heap.size,0,none⟩ = some (.int .i64 0):=by rw [World.cell?,hz];rfl
 have z1:w6.cell? ⟨w.heap.size,1,none⟩ = some (.slice none 0 0):=by rw [World.cell?,hz];rfl
 have y0:w6.frozen? ⟨w.heap.size,0,none⟩ = false:=by simp [World.frozen?,hz]
 have y1:w6.frozen? ⟨w.heap.size,1,none⟩ = false:=by simp [World.frozen?,hz]
 obtain ⟨t0,t1⟩:=box2_set hz (.int .i64 3) (.slice (some ⟨y,0,none⟩) 5 5)
 have hk:∀ (v0 v1:Value),SlC ((w6.setCell ⟨w.heap.size,0,none⟩ v0).setCell ⟨w.heap.size,1,none⟩ v1) (.slice (some ⟨y,0,none⟩) 5 5) (chL.map L.ofND):=fun v0 v1=>by
  have kk:∀ {g:Nat} {c:Array Value} {t:TypeId},w6.heap[g]? = some (.cells c t (0,0))→t≠24→((w6.setCell ⟨w.heap.size,0,none⟩ v0).setCell ⟨w.heap.size,1,none⟩ v1).heap[g]? = some (.cells c t (0,0)):=fun {g c t} e ht=>(Below.heap_setCell _ _ _ _ (ne_type e hz ht)).trans ((Below.heap_setCell _ _ _ _ (ne_type e hz ht)).trans e)
  exact slC_ch (kk hn5.out (by decide)) (slI_of2 (kk hs1.out (by decide))) (slI_of2 (kk hs2.out (by decide)))
 have hB:=Lib.hid ((hx6.out.below.setCell (Nat.le_refl _) (.int .i64 3) (p:=⟨w.heap.size,0,none⟩)).setCell (Nat.le_refl _) (.slice (some ⟨y,0,none⟩) 5 5) (p:=⟨w.heap.size,1,none⟩))
 replace t0:=Lib.hid t0
 replace t1:=Lib.hid t1
 replace hk:=Lib.hid hk
 clear hz hx5 e0 hxa
 go_wp2_with fail
 exact bodyPost_ret (v:=.agg #[.int .i64 3,.slice (some ⟨y,0,none⟩) 5 5]) (by simp [results,Tryz.results31,go_sem,t0.out,t1.out]) rfl ⟨y,rfl,hk.out _ _,hB.out⟩
end Go.Proofs.YtckhohpbokojdaaGreatDoor
end
