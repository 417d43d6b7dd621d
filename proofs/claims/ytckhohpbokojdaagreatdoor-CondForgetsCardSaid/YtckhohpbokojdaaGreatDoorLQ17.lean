import Derived.Test.YtckhohpbokojdaaGreatDoorLQ11
import Derived.Test.YtckhohpbokojdaaGreatDoorLN35
section
set_option linter.unusedSimpArgs false
set_option linter.unusedVariables false
namespace Go.Proofs.YtckhohpbokojdaaGreatDoor
open Go Go.RowKit Go.Shelf
def OutL (w3:World) (ob b0:Nat) (n:Int) (o:List L.ND) (vO:Value) (us:List Value) (V:World):Prop :=
 Below w3.heap.size w3 V∧V.heap[ob]? = some (.cells #[.int .i64 n,vO] 24 (0,0))∧V.ownsRow b0 40 3 vO o.length (gCells (o.map L.ofND) us)∧(us.length = o.length∧∀ i (hi:i < o.length),∃ u,us[i]? = some u∧SlI w3 u (castL o[i].inp))∧(w3.heap.size≤ob∧w3.heap.size≤b0∧b0≤V.heap.size)
section
variable {w3 V V':World} {ob b0:Nat} {n:Int} {o:List L.ND} {vO:Value} {us:List Value}
theorem OutL.next (h:OutL w3 ob b0 n o vO us V) (hb:Below V.heap.size V V'):OutL w3 ob b0 n o vO us V':=by
 obtain ⟨h1,h2,h3,h4,h5⟩:=h
 exact ⟨h1.trans (hb.mono h1.size),(hb.block _ (Array.getElem?_eq_some_iff.1 h2).1).trans h2,ownsRow_keep h3 (fun g c h=>hb.block g (Array.getElem?_eq_some_iff.1 h).1),h4,h5.1,h5.2.1,Nat.le_trans h5.2.2 hb.size⟩
theorem OutL.cells (h:OutL w3 ob b0 n o vO us V):V.cell? ⟨ob,0,none⟩ = some (.int .i64 n)∧V.cell? ⟨ob,1,none⟩ = some vO∧∃ bO cO,vO = .slice bO o.length cO:=by
 refine ⟨by rw [World.cell?,h.2.1];rfl,by rw [World.cell?,h.2.1];rfl,own_shp h.2.2.1⟩
theorem OutL.slC (h:OutL w3 ob b0 n o vO us V):SlC V vO (o.map L.ofND):=by
 obtain ⟨hB,-,ho,⟨hlen',hu⟩,-⟩:=h
 have hlen:us.length = (o.map L.ofND).length:=by rw [List.length_map];exact hlen'
 have hnl:(o.map L.ofND).length = o.length:=List.length_map ..
 obtain ⟨_,⟨rfl,e⟩ | ⟨g,cap,cur,rfl,hgb,hgh,hn,hm,hcs,ht⟩⟩:=ho
 ·have:o = []:=List.length_eq_zero_iff.1 e
  subst this
  exact ⟨none,0,rfl,.inl rfl⟩
 ·refine ⟨_,cap,by rw [hnl],.inr ⟨g,0,rfl,fun j hj=>?_⟩⟩
  obtain ⟨h1,h2,h3⟩:=gCells_get hlen j hj (by omega)
  have hget:∀ i x,(gCells (o.map L.ofND) us)[i]? = some x→V.cell? ⟨g,0+i,none⟩ = some x:=fun i x hx=>by
   have hil:=(List.getElem?_eq_some_iff.1 hx).1
   rw [gCells_len hlen] at hil
   rw [←ht,List.getElem?_take_of_lt (by omega)] at hx
   rw [World.cell?,hgh]
   show cur[0+i]? = some x
   rw [Nat.zero_add,←Array.getElem?_toList]
   exact hx
  obtain ⟨u,hu1,hu2⟩:=hu j (by omega)
  have hus:us[j] = u:=by rw [List.getElem?_eq_getElem (by omega)] at hu1;exact Option.some.inj hu1
  refine ⟨hget _ _ h1,?_,us[j],?_,?_⟩
  ·have:=hget _ _ h2;rwa [←Nat.add_assoc] at this
  ·have:=hget _ _ h3;rwa [←Nat.add_assoc] at this
  ·rw [List.getElem_map,hus];exact hu2.ext hB
theorem OutL.push {y:L.ND} {u v6:Value} {w6:World} (h:OutL w3 ob b0 n o vO us V) (hu:SlI w3 u (castL y.inp)) (ho:w6.ownsRow b0 40 3 v6 (o.length+1) (gCells (o.map L.ofND) us++[.int .i64 y.kind,.int .i64 y.lit,u])) (hg:V.grownBy w6 vO.ownBlock) :
  (∃ g c,v6 = .slice (some ⟨g,0,none⟩) (o.length+1) c)∧w6.cell? ⟨ob,1,none⟩ = some vO∧w6.frozen? ⟨ob,1,none⟩ = false∧OutL w3 ob b0 n (o++[y]) v6 (us++[u]) (w6.setCell ⟨ob,1,none⟩ v6):=by
 obtain ⟨h1,h2,h3,h4,h5⟩:=h
 have k:∀ {g:Nat} {c:Array Value} {t:TypeId},V.heap[g]? = some (.cells c t (0,0))→t≠40→w6.heap[g]? = some (.cells c t (0,0)):=fun {g c t} e ht=>(grown_other h3 hg e ht).trans e
 have b6:=k h2 (by decide)
 have kk:∀ {g:Nat} {c:Array Value} {t:TypeId},w6.heap[g]? = some (.cells c t (0,0))→t≠24→(w6.setCell ⟨ob,1,none⟩ v6).heap[g]? = some (.cells c t (0,0)):=fun {g c t} e ht=>(Below.heap_setCell _ _ _ _ (ne_type e b6 ht)).trans e
 have hul:us.length = (o.map L.ofND).length:=by rw [List.length_map];exact h4.1
 have hgc:gCells (o.map L.ofND) us++[.int .i64 y.kind,.int .i64 y.lit,u] = gCells ((o++[y]).map L.ofND) (us++[u]):=by
  rw [List.map_append,List.map_cons,List.map_nil,gCells_snoc hul];rfl
 rw [hgc] at ho
 have hB6:Below w3.heap.size w3 w6:=Below.grown h1 hg h1.size (fun k e=>by have:=own_ge h3 e;omega)
 refine ⟨?_,by rw [World.cell?,b6];rfl,by simp [World.frozen?,b6],hB6.setCell (p:=⟨ob,1,none⟩) h5.1 _,heap_set b6 1 _,?_,⟨by rw [List.length_append,List.length_append,h4.1];rfl,fun i hi=>?_⟩,h5.1,h5.2.1,?_⟩
 ·obtain ⟨_,⟨_,e⟩ | ⟨g,cap,cur,h,_⟩⟩:=ho
  ·omega
  ·exact ⟨g,cap,h⟩
 ·rw [List.length_append]
  exact ownsRow_keep ho fun g c e=>(kk e (by decide)).trans e.symm
 ·rw [List.length_append,List.length_singleton] at hi
  by_cases e:i < o.length
  ·obtain ⟨u',e1,e2⟩:=h4.2 i e
   refine ⟨u',by rw [List.getElem?_append_left (by omega)];exact e1,?_⟩
   rw [List.getElem_append_left e];exact e2
  ·have e':i = o.length:=by omega
   subst e'
   refine ⟨u,by rw [List.getElem?_append_right (by omega),h4.1];simp,?_⟩
   rw [List.getElem_append_right (by omega)]
   simpa using hu
 ·have:=hg.size
  have:w6.heap.size≤(w6.setCell ⟨ob,1,none⟩ v6).heap.size:=by simp [World.setCell]
  omega
end
end Go.Proofs.YtckhohpbokojdaaGreatDoor
end
section
set_option linter.unusedSimpArgs false
set_option linter.unusedVariables false
namespace Go.Proofs.YtckhohpbokojdaaGreatDoor
open Go Go.RowKit Go.Shelf
theorem wrap_add_bv (x y:BitVec 64):IntKind.u64.wrap ((x.toNat:Int)+(y.toNat:Int)) = ((x+y).toNat:Int):=by
 rw [BitVec.toNat_add,IntKind.wrap_u64]
 omega
theorem add_bit (x:BitVec 64) (n:Nat) (hn:n < 64) (h:x.getLsbD n = false):x+BitVec.twoPow 64 n = x ||| BitVec.twoPow 64 n:=by
 apply BitVec.add_eq_or_of_and_eq_zero
 rw [BitVec.and_twoPow,h]
 rfl
theorem addw_lo (a:VSet) (k:Nat) (h1:1≤k) (h2:k≤64) (h:hasS a k = false):IntKind.u64.wrap (lo a+bitOf k) = lo (withS a k):=by
 rw [←(with_lo a k (by omega) (by omega)).1,bitOf_eq (k:Int) (by omega)]
 unfold lo
 rw [bits_or_bv,wrap_add_bv,add_bit]
 ·omega
 ·have hb:=h
  unfold hasS at hb
  rw [decide_eq_true (show (1:Int)≤k by omega),decide_eq_true (show (k:Int)≤128 by omega)] at hb
  rw [BitVec.getLsbD_setWidth,show (((k:Int) - 1) % 64).toNat = ((k:Int) - 1).toNat by omega]
  simp only [Bool.true_and] at hb
  rw [hb];simp
theorem addw_hi (a:VSet) (k:Nat) (h1:65≤k) (h2:k≤128) (h:hasS a k = false):IntKind.u64.wrap (hi a+bitOf k) = hi (withS a k):=by
 rw [←(with_hi a k (by omega) (by omega)).1,bitOf_eq (k:Int) (by omega)]
 unfold hi
 rw [bits_or_bv,wrap_add_bv,add_bit]
 ·omega
 ·have hb:=h
  unfold hasS at hb
  rw [decide_eq_true (show (1:Int)≤k by omega),decide_eq_true (show (k:Int)≤128 by omega)] at hb
  rw [BitVec.getLsbD_setWidth,BitVec.getLsbD_ushiftRight,show 64+(((k:Int) - 1) % 64).toNat = ((k:Int) - 1).toNat by omega]
  simp only [Bool.true_and] at hb
  rw [hb];simp
theorem hasS_bit (s:VSet) (i:Nat) (h:i < 128):hasS s ((i+1:Nat):Int) = s.getLsbD i:=by
 unfold hasS
 rw [decide_eq_true (show (1:Int)≤((i+1:Nat):Int) by omega),decide_eq_true (show ((i+1:Nat):Int)≤128 by omega),show (((i+1:Nat):Int) - 1).toNat = i by omega]
 rfl
theorem withS_bit (s:VSet) (k i:Nat) (h1:1≤k) (h2:k≤128):(withS s (k:Int)).getLsbD i = (s.getLsbD i || decide (i = k - 1)):=by
 unfold withS
 rw [if_pos ⟨by omega,by omega⟩,BitVec.getLsbD_or,BitVec.getLsbD_twoPow,show ((k:Int) - 1).toNat = k - 1 by omega]
 congr 1
 rw [decide_eq_true (show k - 1 < 128 by omega),Bool.true_and]
 exact decide_eq_decide.2 ⟨fun e=>e.symm,fun e=>e.symm⟩
theorem withS_has {s:VSet} {k:Nat} (h1:1≤k) (h2:k≤128) (h:hasS s k = true):withS s (k:Int) = s:=by
 apply BitVec.eq_of_getLsbD_eq
 intro i hi
 rw [withS_bit s k i h1 h2]
 by_cases e:i = k - 1
 ·have:=hasS_bit s i (by omega)
  rw [show i+1 = k by omega,h] at this
  rw [←this];simp
 ·simp [e]
def uniTo (a b:VSet):Nat→VSet
 | 0=>a
 | k+1=>if hasS b ((k+1:Nat):Int) = true then withS (uniTo a b k) ((k+1:Nat):Int) else uniTo a b k
theorem uniTo_bit (a b:VSet) (i:Nat) (hi:i < 128):∀ k,k≤128→(uniTo a b k).getLsbD i = (a.getLsbD i || (decide (i < k) && b.getLsbD i))
 | 0,_=>by simp [uniTo]
 | k+1,h=>by
   rw [uniTo]
   have ih:=uniTo_bit a b i hi k (by omega)
   rw [hasS_bit b k (by omega)]
   by_cases hb:b.getLsbD k = true
   ·rw [if_pos hb,withS_bit _ _ _ (by omega) h,ih]
    by_cases e:i = k
    ·subst e;simp [hb]
    ·have e1:¬ i = k+1 - 1:=by omega
     by_cases e2:i < k
     ·simp [e,e2,show i < k+1 by omega]
     ·simp [e,e2,show ¬ i < k+1 by omega]
   ·rw [if_neg hb,ih]
    by_cases e:i = k
    ·subst e;simp [hb]
    ·by_cases e2:i < k
     ·simp [e2,show i < k+1 by omega]
     ·simp [e2,show ¬ i < k+1 by omega]
theorem uniTo_all (a b:VSet):uniTo a b 128 = a ||| b:=by
 apply BitVec.eq_of_getLsbD_eq
 intro i hi
 rw [uniTo_bit a b i hi 128 (Nat.le_refl _),BitVec.getLsbD_or,decide_eq_true hi,Bool.true_and]
theorem and_zer21 {a b:VSet} (h:∀ k:Nat,1≤k→k≤128→¬ (hasS a k = true∧hasS b k = true)):a &&& b = 0:=by
 apply BitVec.eq_of_getLsbD_eq
 intro i hi
 have:=h (i+1) (by omega) (by omega)
 rw [hasS_bit a i hi,hasS_bit b i hi] at this
 rw [BitVec.getLsbD_and]
 simp only [BitVec.ofNat_eq_ofNat,BitVec.getLsbD_zero]
 cases ha:a.getLsbD i <;> cases hb:b.getLsbD i <;> simp_all
theorem and_ne {a b:VSet} {k:Nat} (h1:1≤k) (h2:k≤128) (ha:hasS a k = true) (hb:hasS b k = true):a &&& b≠0:=fun e=>by
 have h:(a &&& b).getLsbD (k - 1) = false:=by rw [e];simp
 have e1:=hasS_bit a (k - 1) (by omega)
 have e2:=hasS_bit b (k - 1) (by omega)
 rw [show k - 1+1 = k by omega] at e1 e2
 rw [BitVec.getLsbD_and,←e1,←e2,ha,hb] at h
 cases h
set_option maxRecDepth 100000 in
set_option maxHeartbeats 2000000 in
theorem with21_any (s:VSet) (k:Nat) (h1:1≤k) (h2:k≤128) (w:World):Calls Tryz.prog 93 #[encS s,.int .i64 (k:Nat)] w fun e w'=>e = .returned (encS (withS s k))∧Below w.heap.size w w':=by
 have hx2:Ext w ((w.alloc (.cells #[.int .u64 (lo s),.int .u64 (hi s)] 37)).alloc (.cells #[.int .u64 0,.int .u64 0] 37)):=((Ext.refl w).alloc _).alloc _
 obtain ⟨e0,e1⟩:=alloc2h w (.cells #[.int .u64 (lo s),.int .u64 (hi s)] 37) (.cells #[.int .u64 0,.int .u64 0] 37)
 have q:=refHas5_any s k ((w.alloc (.cells #[.int .u64 (lo s),.int .u64 (hi s)] 37)).alloc (.cells #[.int .u64 0,.int .u64 0] 37))
 have hfin:∀ (V:World) (x y:Int),Below w.heap.size w V→V.heap[w.heap.size+1]? = some (.cells #[.int .u64 0,.int .u64 0] 37 (0,0))→Below w.heap.size w ((V.setCell ⟨w.heap.size+1,0,none⟩ (.int .u64 x)).setCell ⟨w.heap.size+1,1,none⟩ (.int .u64 y)):=fun V x y hV _=>(hV.setCell (p:=⟨w.heap.size+1,0,none⟩) (Nat.le_succ _) _).setCell (p:=⟨w.heap.size+1,1,none⟩) (Nat.le_succ _) _
 unfold encS at q ⊢
 cases hh:hasS s k with
 | true =>
   rw [withS_has h1 h2 hh]
   rw [hh] at q
   replace hh:=Lib.hid hh
   have p0:((w.alloc (.cells #[.int .u64 (lo s),.int .u64 (hi s)] 37)).alloc (.cells #[.int .u64 0,.int .u64 0] 37)).cell? ⟨w.heap.size,0,none⟩ = some (.int .u64 (lo s)):=by rw [World.cell?,e0];rfl
   have p1:((w.alloc (.cells #[.int .u64 (lo s),.int .u64 (hi s)] 37)).alloc (.cells #[.int .u64 0,.int .u64 0] 37)).cell? ⟨w.heap.size,1,none⟩ = some (.int .u64 (hi s)):=by rw [World.cell?,e0];rfl
   replace e0:=Lib.hid e0
   replace e1:=Lib.hid e1
   go_enter Tryz.func93,Tryz.ntmps93
   go_wp2_with fail
   refine q.mono ?_
   rintro e w3 ⟨rfl,hx3⟩
   clear p0 p1 q
   have b0:=(hx3.below.block _ (Array.getElem?_eq_some_iff.1 e0.out).1).trans e0.out
   have b1:=(hx3.below.block _ (Array.getElem?_eq_some_iff.1 e1.out).1).trans e1.out
   obtain ⟨c0,c1⟩:=pbox_cells b0
   obtain ⟨z0,z1⟩:=pbox_cells b1
   have y0:w3.frozen? ⟨w.heap.size+1,0,none⟩ = false:=by simp [World.frozen?,b1]
   have y1:w3.frozen? ⟨w.heap.size+1,1,none⟩ = false:=by simp [World.frozen?,b1]
   obtain ⟨r0,r1⟩:=box2_set b1 (.int .u64 (lo s)) (.int .u64 (hi s))
   have hf:=Lib.hid (hfin w3 (lo s) (hi s) (hx2.trans hx3).below b1)
   replace r0:=Lib.hid r0
   replace r1:=Lib.hid r1
   clear b0 b1 hfin
   go_wp2_with fail
   exact bodyPost_ret (v:=.agg #[.int .u64 (lo s),.int .u64 (hi s)]) (by simp [results,Tryz.results93,go_sem,r0.out,r1.out]) rfl ⟨rfl,hf.out⟩
 | false =>
   rw [hh] at q
   have p0:((w.alloc (.cells #[.int .u64 (lo s),.int .u64 (hi s)] 37)).alloc (.cells #[.int .u64 0,.int .u64 0] 37)).cell? ⟨w.heap.size,0,none⟩ = some (.int .u64 (lo s)):=by rw [World.cell?,e0];rfl
   have p1:((w.alloc (.cells #[.int .u64 (lo s),.int .u64 (hi s)] 37)).alloc (.cells #[.int .u64 0,.int .u64 0] 37)).cell? ⟨w.heap.size,1,none⟩ = some (.int .u64 (hi s)):=by rw [World.cell?,e0];rfl
   by_cases h64:k≤64
   ·have d1:((k:Int) - 1) / 64 = 0:=by omega
    have d2:((k:Int) - 1) % 64 = k - 1:=by omega
    have hX:=addw_lo s k h1 h64 hh
    have hY:=(with_lo s k (by omega) (by omega)).2
    have e3:bitOf (k:Int) = IntKind.u64.wrap (2 ^ (k - 1)):=by
     unfold bitOf;rw [d2];congr 2;omega
    rw [e3] at hX
    replace hh:=Lib.hid hh
    replace e0:=Lib.hid e0
    replace e1:=Lib.hid e1
    replace hY:=Lib.hid hY
    replace e3:=Lib.hid e3
    go_enter Tryz.func93,Tryz.ntmps93
    go_wp2_with fail
    refine q.mono ?_
    rintro e w3 ⟨rfl,hx3⟩
    clear p0 p1 q
    have b0:=(hx3.below.block _ (Array.getElem?_eq_some_iff.1 e0.out).1).trans e0.out
    have b1:=(hx3.below.block _ (Array.getElem?_eq_some_iff.1 e1.out).1).trans e1.out
    obtain ⟨c0,c1⟩:=pbox_cells b0
    have f0:w3.frozen? ⟨w.heap.size,0,none⟩ = false:=by simp [World.frozen?,b0]
    have b0':=heap_set b0 0 (.int .u64 (lo (withS s k)))
    have b1':(w3.setCell ⟨w.heap.size,0,none⟩ (.int .u64 (lo (withS s k)))).heap[w.heap.size+1]? = _:=(Below.heap_setCell _ _ _ _ (show w.heap.size+1≠w.heap.size by omega)).trans b1
    obtain ⟨t0,t1⟩:=pbox_cells b0'
    obtain ⟨z0,z1⟩:=pbox_cells b1'
    have y0:(w3.setCell ⟨w.heap.size,0,none⟩ (.int .u64 (lo (withS s k)))).frozen? ⟨w.heap.size+1,0,none⟩ = false:=by simp [World.frozen?,b1']
    have y1:(w3.setCell ⟨w.heap.size,0,none⟩ (.int .u64 (lo (withS s k)))).frozen? ⟨w.heap.size+1,1,none⟩ = false:=by simp [World.frozen?,b1']
    obtain ⟨r0,r1⟩:=box2_set b1' (.int .u64 (lo (withS s k))) (.int .u64 (hi s))
    have hf:=Lib.hid (hfin _ (lo (withS s k)) (hi s) ((hx2.trans hx3).below.setCell (p:=⟨w.heap.size,0,none⟩) (Nat.le_refl _) (.int .u64 (lo (withS s k)))) b1')
    replace r0:=Lib.hid r0
    replace r1:=Lib.hid r1
    clear b0 b1 b0' b1' hfin
    go_wp2_with fail
    exact bodyPost_ret (v:=.agg #[.int .u64 (lo (withS s k)),.int .u64 (hi s)]) (by simp [results,Tryz.results93,go_sem,r0.out,r1.out]) rfl ⟨by rw [hY.out],hf.out⟩
   ·have d1:((k:Int) - 1) / 64 = 1:=by omega
    have d2:((k:Int) - 1) % 64 = k - 65:=by omega
    have hX:=addw_hi s k (by omega) h2 hh
    have hY:=(with_hi s k (by omega) (by omega)).2
    have e3:bitOf (k:Int) = IntKind.u64.wrap (2 ^ (k - 65)):=by
     unfold bitOf;rw [d2];congr 2;omega
    rw [e3] at hX
    replace hh:=Lib.hid hh
    replace e0:=Lib.hid e0
    replace e1:=Lib.hid e1
    replace hY:=Lib.hid hY
    replace e3:=Lib.hid e3
    go_enter Tryz.func93,Tryz.ntmps93
    go_wp2_with fail
    refine q.mono ?_
    rintro e w3 ⟨rfl,hx3⟩
    clear p0 p1 q
    have b0:=(hx3.below.block _ (Array.getElem?_eq_some_iff.1 e0.out).1).trans e0.out
    have b1:=(hx3.below.block _ (Array.getElem?_eq_some_iff.1 e1.out).1).trans e1.out
    obtain ⟨c0,c1⟩:=pbox_cells b0
    have f0:w3.frozen? ⟨w.heap.size,1,none⟩ = false:=by simp [World.frozen?,b0]
    have b0':=heap_set b0 1 (.int .u64 (hi (withS s k)))
    have b1':(w3.setCell ⟨w.heap.size,1,none⟩ (.int .u64 (hi (withS s k)))).heap[w.heap.size+1]? = _:=(Below.heap_setCell _ _ _ _ (show w.heap.size+1≠w.heap.size by omega)).trans b1
    obtain ⟨t0,t1⟩:=pbox_cells b0'
    obtain ⟨z0,z1⟩:=pbox_cells b1'
    have y0:(w3.setCell ⟨w.heap.size,1,none⟩ (.int .u64 (hi (withS s k)))).frozen? ⟨w.heap.size+1,0,none⟩ = false:=by simp [World.frozen?,b1']
    have y1:(w3.setCell ⟨w.heap.size,1,none⟩ (.int .u64 (hi (withS s k)))).frozen? ⟨w.heap.size+1,1,none⟩ = false:=by simp [World.frozen?,b1']
    obtain ⟨r0,r1⟩:=box2_set b1' (.int .u64 (lo s)) (.int .u64 (hi (withS s k)))
    have hf:=Lib.hid (hfin _ (lo s) (hi (withS s k)) ((hx2.trans hx3).below.setCell (p:=⟨w.heap.size,1,none⟩) (Nat.le_refl _) (.int .u64 (hi (withS s k)))) b1')
    replace r0:=Lib.hid r0
    replace r1:=Lib.hid r1
    clear b0 b1 b0' b1' hfin
    go_wp2_with fail
    exact bodyPost_ret (v:=.agg #[.int .u64 (lo s),.int .u64 (hi (withS s k))]) (by simp [results,Tryz.results93,go_sem,r0.out,r1.out]) rfl ⟨by rw [hY.out],hf.out⟩
end Go.Proofs.YtckhohpbokojdaaGreatDoor
end
