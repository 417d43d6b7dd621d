import Derived.Test.YtemnmcfmabamcaaGreatDoorXVpost2
set_option linter.unusedSimpArgs false
set_option linter.unusedVariables false
namespace Go.Proofs.YtemnmcfmabamcaaGreatDoor
open Go Go.RowKit Go.Shelf
def kidL (t:List VN) (i:Int):Int:=(t.getD i.toNat ⟨0,0,0⟩).left
def kidR (t:List VN) (i:Int):Int:=(t.getD i.toNat ⟨0,0,0⟩).right
def canM (kd:Nat) (t:List VN) (i:Int):Bool:=innerB t i && (if kd = 1 then innerB t (kidL t i) else if kd = 2 then innerB t (kidR t i) else true)
def RetMove (kd:Nat) (t:List VN) (i:Int) (w:World) (e:Ending) (w':World):Prop :=
 Below w.heap.size w w'∧((canM kd t i = false∧e = .returned (.tuple #[.slice none 0 0,.int .i64 1])) ∨
  (canM kd t i = true∧∃ (n:Nat) (T U:L.Tr) (g cap:Nat),i = n∧n < t.length∧L.IsT L.idc t (t.length - 1) T∧L.Mv t kd n (t.length - 1) T U ∧
    e = .returned (.tuple #[.slice (some ⟨g,0,none⟩) (U.post 0).length cap,.int .i64 0])∧TreeAt w' g 0 (U.post 0)∧w.heap.size≤g))
theorem kidL_get {t:List VN} {n:Nat} {y:VN} (h:t[n]? = some y):kidL t n = y.left:=by
 unfold kidL;rw [Int.toNat_natCast,List.getD_eq_getElem?_getD,h];rfl
theorem kidR_get {t:List VN} {n:Nat} {y:VN} (h:t[n]? = some y):kidR t n = y.right:=by
 unfold kidR;rw [Int.toNat_natCast,List.getD_eq_getElem?_getD,h];rfl
theorem post_move {w:World} {t:List VN} {b o cap fc n kd:Nat} {caps:Array Value} {chg:Nat→VN→VN} (ht:TreeAt w b o t) (hc:checkF t = 0) (hch:ChgLaw w t fc caps chg) (hk:L.ChOK t kd n chg) (hn:n < t.length) :
  Calls Tryz.prog 123 #[.slice (some ⟨b,o,none⟩) t.length cap,.func (.func fc) #[] caps] w fun e w'=>∃ T U g cp,e = .returned (.slice (some ⟨g,0,none⟩) (U.post 0).length cp)∧L.IsT L.idc t (t.length - 1) T∧L.Mv t kd n (t.length - 1) T U∧TreeAt w' g 0 (U.post 0)∧w.heap.size≤g∧Below w.heap.size w w':=by
 obtain ⟨T,U,hT,hU,hM⟩:=L.moved hc hk hn
 have htl:=(check_ok hc).2.1
 have hsz:=hT.size_le hc
 refine (postorder_any ht hch hU (by rw [hM.size];omega) htl).mono ?_
 rintro e w' ⟨v,rfl,g,cp,rfl,h1,h2,h3⟩
 exact ⟨T,U,g,cp,rfl,hT,hM,h1,h2,h3⟩
set_option maxRecDepth 100000 in
set_option maxHeartbeats 2000000 in
theorem vswap_any {w:World} {t:List VN} {b o cap:Nat} {i:Int} (ht:TreeAt w b o t) (hc:checkF t = 0):Calls Tryz.prog 97 #[.slice (some ⟨b,o,none⟩) t.length cap,.int .i64 i] w (RetMove 3 t i w):=by
 have hmf:∀ (fn:Fn) (first cap:Array Value) (w:World),(Instr.makeFunc fn first cap).run Tryz.prog w = .ok (.func fn first cap) w:=fun _ _ _ _=>rfl
 have hb1:=(Below.refl w.heap.size w).alloc (Nat.le_refl _) (.cells #[.int .i64 i] 3)
 have hbx:=heap_alloc_new w (.cells #[.int .i64 i] 3)
 have h0:(w.alloc (.cells #[.int .i64 i] 3)).cell? ⟨w.heap.size,0,none⟩ = some (.int .i64 i):=by rw [World.cell?,hbx];rfl
 have q1:=check_any (w.alloc (.cells #[.int .i64 i] 3)) (some ⟨b,o,none⟩) cap (.inr ⟨b,o,rfl,ht.below hb1⟩)
 rw [hc] at q1
 replace hb1:=Lib.hid hb1
 clear hbx
 have hcan:canM 3 t i = innerB t i:=by simp [canM]
 go_enter Tryz.func97,Tryz.ntmps97
 go_wp2_with fail
 generalize hW1:w.alloc (.cells #[.int .i64 i] 3) = w1 at *
 clear hW1
 refine q1.mono ?_
 rintro e w2 ⟨rfl,hx2⟩
 have hb2:=hb1.out.trans (hx2.below.mono hb1.out.size)
 have c2:=hx2.cell h0
 have q2:=inner_any w2 b o cap (ht.below hb2) i
 clear q1
 replace hb2:=Lib.hid hb2
 cases hin:innerB t i
 ·rw [hin] at q2
  go_wp2_with fail
  refine q2.mono ?_
  rintro e w3 ⟨rfl,hx3⟩
  clear q2
  go_wp2_with fail
  go_ret2
  exact ⟨hb2.out.trans (hx3.below.mono hb2.out.size),.inl ⟨by rw [hcan,hin],rfl⟩⟩
 ·rw [hin] at q2
  obtain ⟨n,y,rfl,hy,hyl⟩:=innerB_get hin
  go_wp2_with fail
  refine q2.mono ?_
  rintro e w3 ⟨rfl,hx3⟩
  have hb3:=hb2.out.trans (hx3.below.mono hb2.out.size)
  have q3:=post_move (cap:=cap) (ht.below hb3) hc (swap_chg (t:=t) (hx3.cell c2)) (L.swap_ok hc hy hyl) (List.getElem?_eq_some_iff.1 hy).1
  replace hb3:=Lib.hid hb3
  clear q2
  go_wp2_with fail
  refine q3.mono ?_
  rintro e w4 ⟨T,U,g,cp,rfl,hT,hM,h1,h2,h3⟩
  clear q3
  replace h1:=Lib.hid h1
  replace h3:=Lib.hid h3
  go_wp2_with fail
  go_ret2
  exact ⟨hb3.out.trans (h3.out.mono hb3.out.size),.inr ⟨by rw [hcan,hin],n,T,U,g,cp,rfl,(List.getElem?_eq_some_iff.1 hy).1,hT,hM,rfl,h1.out,Nat.le_trans hb3.out.size h2⟩⟩
set_option maxRecDepth 100000 in
set_option maxHeartbeats 4000000 in
theorem vright_any {w:World} {t:List VN} {b o cap:Nat} {i:Int} (ht:TreeAt w b o t) (hc:checkF t = 0):Calls Tryz.prog 94 #[.slice (some ⟨b,o,none⟩) t.length cap,.int .i64 i] w (RetMove 1 t i w):=by
 have hmf:∀ (fn:Fn) (first cap:Array Value) (w:World),(Instr.makeFunc fn first cap).run Tryz.prog w = .ok (.func fn first cap) w:=fun _ _ _ _=>rfl
 obtain ⟨hb1,hx0,hx1⟩:=two_boxes w #[.slice (some ⟨b,o,none⟩) t.length cap] #[.int .i64 i] 23 3
 obtain ⟨w1,hW1⟩:∃ w1,w1 = (w.alloc (.cells #[.slice (some ⟨b,o,none⟩) t.length cap] 23)).alloc (.cells #[.int .i64 i] 3):=⟨_,rfl⟩
 rw [←hW1] at hb1 hx0 hx1
 generalize hx:w.heap.size = x at *
 have h0:w1.cell? ⟨x,0,none⟩ = some (.slice (some ⟨b,o,none⟩) t.length cap):=by rw [World.cell?,hx0];rfl
 have h1:w1.cell? ⟨x+1,0,none⟩ = some (.int .i64 i):=by rw [World.cell?,hx1];rfl
 have hb1':Below w.heap.size w w1:=by rw [hx];exact hb1
 have ht1:=ht.below hb1'
 have hchk:=Lib.hid fun (W:World) (hW:Ext w1 W)=>check_any W (some ⟨b,o,none⟩) cap (.inr ⟨b,o,rfl,ht1.ext hW⟩)
 rw [hc] at hchk
 have hinn:=Lib.hid fun (z:Int) (W:World) (hW:Ext w1 W)=>inner_any W b o cap (ht1.ext hW) z
 have hcan:canM 1 t i = (innerB t i && innerB t (kidL t i)):=by simp [canM]
 replace hW1:=Lib.hid hW1
 replace hb1:=Lib.hid hb1'
 replace hcan:=Lib.hid hcan
 clear hb1' hx0 hx1
 replace hx:=Lib.hid hx
 cases hin:innerB t i
 ·have F1:=Lib.hid fun (W:World) (hW:Ext w1 W)=>And.intro (hW.cell h0) (hW.cell h1)
  go_enter Tryz.func94,Tryz.ntmps94
  go_wp2_with fail
  simp only [hx.out]
  rw [←hW1.out]
  (refine wp_region_below (by kernel_rfl) (by kernel_rfl) ?_
   repeat (refine wpQuiet_step (fun K hK=>?_)
           go_simp
           first
            | (refine hK _ ?_;clear hK K)
            | (replace hK:=Lib.hid hK
               apply Exists.intro
               refine ⟨fun wq hq=>?_,hK.out _ ?_⟩
               ·(obtain ⟨f1,f2⟩:=F1.out wq hq)
                go_simp
                first
                 | done
                 | rfl
                 | exact ⟨rfl,rfl⟩
                 | first | (refine (hchk.out wq hq).mono ?_;rintro e w' ⟨rfl,hx'⟩;exact ⟨rfl,hq.trans hx'⟩) | (refine (hinn.out _ wq hq).mono ?_;rintro e w' ⟨rfl,hx'⟩;exact ⟨rfl,hq.trans hx'⟩)
               clear hK K))
   refine wpQuiet_nil ?_)
  intro w2 hw2
  go_wp2_with fail
  go_ret2
  exact ⟨hb1.out.trans (hw2.below.mono hb1.out.size),.inl ⟨by rw [hcan.out,hin];rfl,rfl⟩⟩
 ·obtain ⟨n,y,rfl,hy,hyl⟩:=innerB_get hin
  have hnl:=(List.getElem?_eq_some_iff.1 hy).1
  obtain ⟨m0,m1,m2⟩:=ht1.node hnl
  rw [(List.getElem?_eq_some_iff.1 hy).2] at m0 m1 m2
  have hkid:=kidL_get hy
  rw [hkid] at hcan
  have g0:(0:Int)≤n:=by omega
  have g1:(n:Int) < t.length:=by omega
  have F1:=Lib.hid fun (W:World) (hW:Ext w1 W)=>And.intro (hW.cell h0) (And.intro (hW.cell h1) (hW.cell m0))
  cases hin2:innerB t y.left
  ·go_enter Tryz.func94,Tryz.ntmps94
   go_wp2_with fail
   simp only [hx.out]
   rw [←hW1.out]
   (refine wp_region_below (by kernel_rfl) (by kernel_rfl) ?_
    repeat (refine wpQuiet_step (fun K hK=>?_)
            go_simp
            first
             | (refine hK _ ?_;clear hK K)
             | (replace hK:=Lib.hid hK
                apply Exists.intro
                refine ⟨fun wq hq=>?_,hK.out _ ?_⟩
                ·(obtain ⟨f1,f2,f3⟩:=F1.out wq hq)
                 go_simp
                 first
                  | done
                  | rfl
                  | exact ⟨rfl,rfl⟩
                  | first | (refine (hchk.out wq hq).mono ?_;rintro e w' ⟨rfl,hx'⟩;exact ⟨rfl,hq.trans hx'⟩) | (refine (hinn.out _ wq hq).mono ?_;rintro e w' ⟨rfl,hx'⟩;exact ⟨rfl,hq.trans hx'⟩)
                clear hK K))
    refine wpQuiet_nil ?_)
   intro w2 hw2
   go_wp2_with fail
   go_ret2
   exact ⟨hb1.out.trans (hw2.below.mono hb1.out.size),.inl ⟨by rw [hcan.out,hin,hin2];rfl,rfl⟩⟩
  ·obtain ⟨low,z,hlow,hz,hzl⟩:=innerB_get hin2
   obtain ⟨a,bb,z1,z2,_⟩:=L.inner_ok hc hz hzl
   obtain ⟨l',c,y1,y2,_⟩:=L.inner_ok hc hy hyl
   obtain rfl:l' = low:=by omega
   rw [y1] at hin2
   go_enter Tryz.func94,Tryz.ntmps94
   go_wp2_with fail
   simp only [hx.out]
   rw [←hW1.out]
   (refine wp_region_below (by kernel_rfl) (by kernel_rfl) ?_
    repeat (refine wpQuiet_step (fun K hK=>?_)
            go_simp
            first
             | (refine hK _ ?_;clear hK K)
             | (replace hK:=Lib.hid hK
                apply Exists.intro
                refine ⟨fun wq hq=>?_,hK.out _ ?_⟩
                ·(obtain ⟨f1,f2,f3⟩:=F1.out wq hq)
                 go_simp
                 first
                  | done
                  | rfl
                  | exact ⟨rfl,rfl⟩
                  | first | (refine (hchk.out wq hq).mono ?_;rintro e w' ⟨rfl,hx'⟩;exact ⟨rfl,hq.trans hx'⟩) | (refine (hinn.out _ wq hq).mono ?_;rintro e w' ⟨rfl,hx'⟩;exact ⟨rfl,hq.trans hx'⟩)
                clear hK K))
    refine wpQuiet_nil ?_)
   intro w2 hw2
   obtain ⟨f1,f2,f3⟩:=F1.out w2 hw2
   have f4:=hw2.cell m1
   have f5:=hw2.cell m2
   rw [y1] at f3
   rw [y2] at f4
   obtain ⟨hb3,hx3,hx4⟩:=two_boxes w2 #[.int .i64 (l':Nat)] #[.int .i64 (l':Nat),.int .i64 (c:Nat),.int .i64 y.var] 3 78
   have hxt:=((Ext.refl w2).alloc (.cells #[.int .i64 (l':Nat)] 3)).alloc (.cells #[.int .i64 (l':Nat),.int .i64 (c:Nat),.int .i64 y.var] 78)
   have k0:=hxt.cell f1
   have k1:=hxt.cell f2
   obtain ⟨w5,hW5⟩:∃ w5,w5 = (w2.alloc (.cells #[.int .i64 (l':Nat)] 3)).alloc (.cells #[.int .i64 (l':Nat),.int .i64 (c:Nat),.int .i64 y.var] 78):=⟨_,rfl⟩
   rw [←hW5] at hb3 hx3 hx4 k0 k1
   have k2:w5.cell? ⟨w2.heap.size,0,none⟩ = some (.int .i64 (l':Nat)):=by rw [World.cell?,hx3];rfl
   have k3:w5.cell? ⟨w2.heap.size+1,1,none⟩ = some (.int .i64 (c:Nat)):=by rw [World.cell?,hx4];rfl
   have hb5:=hb1.out.trans ((hw2.below.trans (hb3.mono hw2.size)).mono hb1.out.size)
   have q3:=post_move (cap:=cap) (ht.below hb5) hc (right_chg (cap:=cap) (ht.below hb5) k1 k0 k2 k3 hz z1 z2) (L.right_ok hc hy hyl y1 y2 hz hzl z1 z2) hnl
   replace hb5:=Lib.hid hb5
   have f1a:=((Ext.refl w2).alloc (.cells #[.int .i64 (l':Nat)] 3)).cell f1
   have f2a:=((Ext.refl w2).alloc (.cells #[.int .i64 (l':Nat)] 3)).cell f2
   have f3a:=((Ext.refl w2).alloc (.cells #[.int .i64 (l':Nat)] 3)).cell f3
   have f4a:=((Ext.refl w2).alloc (.cells #[.int .i64 (l':Nat)] 3)).cell f4
   have f5a:=((Ext.refl w2).alloc (.cells #[.int .i64 (l':Nat)] 3)).cell f5
   have f1b:=hxt.cell f1
   clear k0 k1 k2 k3 hx3 hx4 hb3
   go_wp2_with fail
   rw [←hW5]
   refine q3.mono ?_
   rintro e w6 ⟨T,U,g,cp,rfl,hT,hM,h1',h2',h3'⟩
   clear q3
   replace h1':=Lib.hid h1'
   replace h3':=Lib.hid h3'
   go_wp2_with fail
   go_ret2
   exact ⟨hb5.out.trans (h3'.out.mono hb5.out.size),.inr ⟨by rw [hcan.out,hin,y1,hin2];rfl,n,T,U,g,cp,rfl,hnl,hT,hM,rfl,h1'.out,Nat.le_trans hb5.out.size h2'⟩⟩
set_option maxRecDepth 100000 in
set_option maxHeartbeats 4000000 in
theorem vleft_any {w:World} {t:List VN} {b o cap:Nat} {i:Int} (ht:TreeAt w b o t) (hc:checkF t = 0):Calls Tryz.prog 96 #[.slice (some ⟨b,o,none⟩) t.length cap,.int .i64 i] w (RetMove 2 t i w):=by
 have hmf:∀ (fn:Fn) (first cap:Array Value) (w:World),(Instr.makeFunc fn first cap).run Tryz.prog w = .ok (.func fn first cap) w:=fun _ _ _ _=>rfl
 obtain ⟨hb1,hx0,hx1⟩:=two_boxes w #[.slice (some ⟨b,o,none⟩) t.length cap] #[.int .i64 i] 23 3
 obtain ⟨w1,hW1⟩:∃ w1,w1 = (w.alloc (.cells #[.slice (some ⟨b,o,none⟩) t.length cap] 23)).alloc (.cells #[.int .i64 i] 3):=⟨_,rfl⟩
 rw [←hW1] at hb1 hx0 hx1
 generalize hx:w.heap.size = x at *
 have h0:w1.cell? ⟨x,0,none⟩ = some (.slice (some ⟨b,o,none⟩) t.length cap):=by rw [World.cell?,hx0];rfl
 have h1:w1.cell? ⟨x+1,0,none⟩ = some (.int .i64 i):=by rw [World.cell?,hx1];rfl
 have hb1':Below w.heap.size w w1:=by rw [hx];exact hb1
 have ht1:=ht.below hb1'
 have hchk:=Lib.hid fun (W:World) (hW:Ext w1 W)=>check_any W (some ⟨b,o,none⟩) cap (.inr ⟨b,o,rfl,ht1.ext hW⟩)
 rw [hc] at hchk
 have hinn:=Lib.hid fun (z:Int) (W:World) (hW:Ext w1 W)=>inner_any W b o cap (ht1.ext hW) z
 have hcan:canM 2 t i = (innerB t i && innerB t (kidR t i)):=by simp [canM]
 replace hW1:=Lib.hid hW1
 replace hb1:=Lib.hid hb1'
 replace hcan:=Lib.hid hcan
 clear hb1' hx0 hx1
 replace hx:=Lib.hid hx
 cases hin:innerB t i
 ·have F1:=Lib.hid fun (W:World) (hW:Ext w1 W)=>And.intro (hW.cell h0) (hW.cell h1)
  go_enter Tryz.func96,Tryz.ntmps96
  go_wp2_with fail
  simp only [hx.out]
  rw [←hW1.out]
  (refine wp_region_below (by kernel_rfl) (by kernel_rfl) ?_
   repeat (refine wpQuiet_step (fun K hK=>?_)
           go_simp
           first
            | (refine hK _ ?_;clear hK K)
            | (replace hK:=Lib.hid hK
               apply Exists.intro
               refine ⟨fun wq hq=>?_,hK.out _ ?_⟩
               ·(obtain ⟨f1,f2⟩:=F1.out wq hq)
                go_simp
                first
                 | done
                 | rfl
                 | exact ⟨rfl,rfl⟩
                 | first | (refine (hchk.out wq hq).mono ?_;rintro e w' ⟨rfl,hx'⟩;exact ⟨rfl,hq.trans hx'⟩) | (refine (hinn.out _ wq hq).mono ?_;rintro e w' ⟨rfl,hx'⟩;exact ⟨rfl,hq.trans hx'⟩)
               clear hK K))
   refine wpQuiet_nil ?_)
  intro w2 hw2
  go_wp2_with fail
  go_ret2
  exact ⟨hb1.out.trans (hw2.below.mono hb1.out.size),.inl ⟨by rw [hcan.out,hin];rfl,rfl⟩⟩
 ·obtain ⟨n,y,rfl,hy,hyl⟩:=innerB_get hin
  have hnl:=(List.getElem?_eq_some_iff.1 hy).1
  obtain ⟨m0,m1,m2⟩:=ht1.node hnl
  rw [(List.getElem?_eq_some_iff.1 hy).2] at m0 m1 m2
  have hkid:=kidR_get hy
  rw [hkid] at hcan
  have g0:(0:Int)≤n:=by omega
  have g1:(n:Int) < t.length:=by omega
  have F1:=Lib.hid fun (W:World) (hW:Ext w1 W)=>And.intro (hW.cell h0) (And.intro (hW.cell h1) (hW.cell m1))
  cases hin2:innerB t y.right
  ·go_enter Tryz.func96,Tryz.ntmps96
   go_wp2_with fail
   simp only [hx.out]
   rw [←hW1.out]
   (refine wp_region_below (by kernel_rfl) (by kernel_rfl) ?_
    repeat (refine wpQuiet_step (fun K hK=>?_)
            go_simp
            first
             | (refine hK _ ?_;clear hK K)
             | (replace hK:=Lib.hid hK
                apply Exists.intro
                refine ⟨fun wq hq=>?_,hK.out _ ?_⟩
                ·(obtain ⟨f1,f2,f3⟩:=F1.out wq hq)
                 go_simp
                 first
                  | done
                  | rfl
                  | exact ⟨rfl,rfl⟩
                  | first | (refine (hchk.out wq hq).mono ?_;rintro e w' ⟨rfl,hx'⟩;exact ⟨rfl,hq.trans hx'⟩) | (refine (hinn.out _ wq hq).mono ?_;rintro e w' ⟨rfl,hx'⟩;exact ⟨rfl,hq.trans hx'⟩)
                clear hK K))
    refine wpQuiet_nil ?_)
   intro w2 hw2
   go_wp2_with fail
   go_ret2
   exact ⟨hb1.out.trans (hw2.below.mono hb1.out.size),.inl ⟨by rw [hcan.out,hin,hin2];rfl,rfl⟩⟩
  ·obtain ⟨low,z,hlow,hz,hzl⟩:=innerB_get hin2
   obtain ⟨bb,c,z1,z2,_⟩:=L.inner_ok hc hz hzl
   obtain ⟨a,l',y1,y2,_⟩:=L.inner_ok hc hy hyl
   obtain rfl:l' = low:=by omega
   rw [y2] at hin2
   go_enter Tryz.func96,Tryz.ntmps96
   go_wp2_with fail
   simp only [hx.out]
   rw [←hW1.out]
   (refine wp_region_below (by kernel_rfl) (by kernel_rfl) ?_
    repeat (refine wpQuiet_step (fun K hK=>?_)
            go_simp
            first
             | (refine hK _ ?_;clear hK K)
             | (replace hK:=Lib.hid hK
                apply Exists.intro
                refine ⟨fun wq hq=>?_,hK.out _ ?_⟩
                ·(obtain ⟨f1,f2,f3⟩:=F1.out wq hq)
                 go_simp
                 first
                  | done
                  | rfl
                  | exact ⟨rfl,rfl⟩
                  | first | (refine (hchk.out wq hq).mono ?_;rintro e w' ⟨rfl,hx'⟩;exact ⟨rfl,hq.trans hx'⟩) | (refine (hinn.out _ wq hq).mono ?_;rintro e w' ⟨rfl,hx'⟩;exact ⟨rfl,hq.trans hx'⟩)
                clear hK K))
    refine wpQuiet_nil ?_)
   intro w2 hw2
   obtain ⟨f1,f2,f3⟩:=F1.out w2 hw2
   have f4:=hw2.cell m0
   have f5:=hw2.cell m2
   rw [y2] at f3
   rw [y1] at f4
   obtain ⟨hb3,hx3,hx4⟩:=two_boxes w2 #[.int .i64 (l':Nat)] #[.int .i64 (a:Nat),.int .i64 (l':Nat),.int .i64 y.var] 3 78
   have hxt:=((Ext.refl w2).alloc (.cells #[.int .i64 (l':Nat)] 3)).alloc (.cells #[.int .i64 (a:Nat),.int .i64 (l':Nat),.int .i64 y.var] 78)
   have k0:=hxt.cell f1
   have k1:=hxt.cell f2
   obtain ⟨w5,hW5⟩:∃ w5,w5 = (w2.alloc (.cells #[.int .i64 (l':Nat)] 3)).alloc (.cells #[.int .i64 (a:Nat),.int .i64 (l':Nat),.int .i64 y.var] 78):=⟨_,rfl⟩
   rw [←hW5] at hb3 hx3 hx4 k0 k1
   have k2:w5.cell? ⟨w2.heap.size,0,none⟩ = some (.int .i64 (l':Nat)):=by rw [World.cell?,hx3];rfl
   have k3:w5.cell? ⟨w2.heap.size+1,0,none⟩ = some (.int .i64 (a:Nat)):=by rw [World.cell?,hx4];rfl
   have hb5:=hb1.out.trans ((hw2.below.trans (hb3.mono hw2.size)).mono hb1.out.size)
   have q3:=post_move (cap:=cap) (ht.below hb5) hc (left_chg (cap:=cap) (ht.below hb5) k1 k0 k2 k3 hz z1 z2) (L.left_ok hc hy hyl y1 y2 hz hzl z1 z2) hnl
   replace hb5:=Lib.hid hb5
   have f1a:=((Ext.refl w2).alloc (.cells #[.int .i64 (l':Nat)] 3)).cell f1
   have f2a:=((Ext.refl w2).alloc (.cells #[.int .i64 (l':Nat)] 3)).cell f2
   have f3a:=((Ext.refl w2).alloc (.cells #[.int .i64 (l':Nat)] 3)).cell f3
   have f4a:=((Ext.refl w2).alloc (.cells #[.int .i64 (l':Nat)] 3)).cell f4
   have f5a:=((Ext.refl w2).alloc (.cells #[.int .i64 (l':Nat)] 3)).cell f5
   have f1b:=hxt.cell f1
   clear k0 k1 k2 k3 hx3 hx4 hb3
   go_wp2_with fail
   rw [←hW5]
   refine q3.mono ?_
   rintro e w6 ⟨T,U,g,cp,rfl,hT,hM,h1',h2',h3'⟩
   clear q3
   replace h1':=Lib.hid h1'
   replace h3':=Lib.hid h3'
   go_wp2_with fail
   go_ret2
   exact ⟨hb5.out.trans (h3'.out.mono hb5.out.size),.inr ⟨by rw [hcan.out,hin,y2,hin2];rfl,n,T,U,g,cp,rfl,hnl,hT,hM,rfl,h1'.out,Nat.le_trans hb5.out.size h2'⟩⟩
end Go.Proofs.YtemnmcfmabamcaaGreatDoor
