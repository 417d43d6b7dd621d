import Derived.Test.YtckhohpbokojdaaGreatDoorMN23
import Derived.Test.YtckhohpbokojdaaGreatDoorMLaw17
section
set_option linter.unusedSimpArgs false
set_option linter.unusedVariables false
namespace Go.Proofs.YtckhohpbokojdaaGreatDoor
open Go Go.RowKit Go.Shelf
def lightN (C:List L.Gt):Bool:=(C.all fun g=>decide (g.inp.length≤20)) && decide (C.length≤80)
set_option maxRecDepth 100000 in
set_option maxHeartbeats 4000000 in
theorem light35_any {n:Int} {C:List L.Gt} {v:Value} {w:World} (hv:SlC w v C) (h1:C.length≤9223372036854775807) :
  Calls Tryz.prog 10 #[.agg #[.int .i64 n,v]] w fun e w'=>e = .returned (.bool (lightN C))∧Ext w w':=by
 obtain ⟨ba,cp,rfl,hcs⟩:=hv.shape
 have hx1:Ext w (w.alloc (.cells #[.int .i64 n,.slice ba C.length cp] 24)):=(Ext.refl w).alloc _
 have hn1:=heap_alloc_new w (.cells #[.int .i64 n,.slice ba C.length cp] 24)
 have c1:(w.alloc (.cells #[.int .i64 n,.slice ba C.length cp] 24)).cell? ⟨w.heap.size,1,none⟩ = some (.slice ba C.length cp):=by rw [World.cell?,hn1];rfl
 have hbad:∀ j (hj:j < C.length),¬ C[j].inp.length≤20→lightN C = false:=fun j hj h=>by
  unfold lightN
  rw [Bool.and_eq_false_iff]
  left
  rw [List.all_eq_false]
  exact ⟨C[j],List.getElem_mem hj,by simpa using h⟩
 have hgood:(∀ j (hj:j < C.length),C[j].inp.length≤20)→lightN C = decide (C.length≤80):=fun h=>by
  unfold lightN
  have:(C.all fun g=>decide (g.inp.length≤20)) = true:=List.all_eq_true.2 fun g hg=>by
   obtain ⟨j,hj,rfl⟩:=List.getElem_of_mem hg
   exact decide_eq_true (h j hj)
  rw [this,Bool.true_and]
 replace hx1:=Lib.hid hx1
 replace hcs:=Lib.hid hcs
 replace hbad:=Lib.hid hbad
 replace hgood:=Lib.hid hgood
 clear hv hn1
 go_enter Tryz.func10,Tryz.ntmps10
 go_wp2_with fail
 generalize (w.alloc (.cells #[.int .i64 n,.slice ba C.length cp] 24)) = w1 at *
 go_loopw [8] (fun i wr=>∃ k:Nat,k≤C.length∧i = .int .i64 k∧Hid (∀ j (hj:j < k) (hj2:j < C.length),C[j].inp.length≤20)∧Hid (Ext w1 wr)) (fun i _=>C.length - (intOf i).toNat)
 case atStart=>exact ⟨0,Nat.zero_le _,rfl,Lib.hid (fun j hj=>by omega),Lib.hid (Ext.refl _)⟩
 case round =>
  obtain ⟨k,hk,rfl,hgd,hxr⟩:=hrel
  by_cases hlt:k < C.length
  ·have g0:(0:Int)≤(k:Int):=by omega
   have g1:(k:Int) < (C.length:Int):=by omega
   have hb1:=hbad.out k hlt
   obtain ⟨b,o,bb,cc,rfl,f0,f1,f2,fin⟩:=hcs.out k hlt
   have hxw:=hx1.out.trans hxr.out
   have r0:=(hxw.below.cell (World.block_lt_of_cell? w _ f0)).trans f0
   have r1:=(hxw.below.cell (World.block_lt_of_cell? w _ f1)).trans f1
   have r2:=(hxw.below.cell (World.block_lt_of_cell? w _ f2)).trans f2
   have hg2:C[k].inp.length≤20→∀ j (hj:j < k+1) (hj2:j < C.length),C[j].inp.length≤20:=fun hok j hj hj2=>by
    by_cases e:j = k
    ·subst e;exact hok
    ·exact hgd.out j (by omega) hj2
   generalize C[k] = x at *
   obtain ⟨kd,lt,ip⟩:=x
   dsimp only at *
   have hxa:Ext wr (wr.alloc (.cells #[.int .i64 kd,.int .i64 lt,.slice bb ip.length cc] 40)):=(Ext.refl wr).alloc _
   have hna:=heap_alloc_new wr (.cells #[.int .i64 kd,.int .i64 lt,.slice bb ip.length cc] 40)
   have x2:(wr.alloc (.cells #[.int .i64 kd,.int .i64 lt,.slice bb ip.length cc] 40)).cell? ⟨wr.heap.size,2,none⟩ = some (.slice bb ip.length cc):=by rw [World.cell?,hna];rfl
   have hx14:=Lib.hid (hxr.out.trans hxa)
   clear f0 f1 f2 fin hna hxw hxa
   by_cases hok:ip.length≤20
   ·have hd:decide ((ip.length:Int) > 20) = false:=decide_eq_false (by omega)
    have hg3:=Lib.hid (hg2 hok)
    have hq:¬ (20 < (ip.length:Int)):=by omega
    have hq2:¬ (20 < ip.length):=by omega
    clear hg2 hb1
    go_wp2_with fail
    go_roundw
    case rel=>exact ⟨k+1,by omega,by go_num,hg3,hx14⟩
    case measure=>simp [intOf];omega
   ·have hd:decide ((ip.length:Int) > 20) = true:=decide_eq_true (by omega)
    have hr:=Lib.hid (hb1 hok)
    have hq:20 < (ip.length:Int):=by omega
    have hq2:20 < ip.length:=by omega
    clear hg2 hb1
    go_wp2_with fail
    go_ret
    exact ⟨by rw [hr.out] <;> rfl,hx1.out.trans hx14.out⟩
  ·obtain rfl:k = C.length:=by omega
   have hr:=Lib.hid (hgood.out fun j hj=>hgd.out j hj hj)
   have b1:=hxr.out.cell c1
   have hde:decide ((C.length:Int)≤80) = decide (C.length≤80):=decide_eq_decide.2 (by omega)
   go_wp2_with fail
   go_ret
   exact ⟨by rw [hr.out,←hde] <;> rfl,hx1.out.trans hxr.out⟩
end Go.Proofs.YtckhohpbokojdaaGreatDoor
end
section
set_option linter.unusedSimpArgs false
set_option linter.unusedVariables false
namespace Go.Proofs.YtckhohpbokojdaaGreatDoor
open Go Go.RowKit Go.Shelf
theorem own_cellset {W:World} {base n:Nat} {e:TypeId} {g cap:Nat} {xs:List Value} (h:W.ownsRow base e 1 (.slice (some ⟨g,0,none⟩) n cap) n xs) (k:Nat) (x:Value):(W.setCell ⟨g,k,none⟩ x).ownsRow base e 1 (.slice (some ⟨g,0,none⟩) n cap) n (xs.set k x):=by
 obtain ⟨he,⟨h1,_⟩ | ⟨g',cap',cur,e1,hgb,hgh,hn,hm,hcs,ht⟩⟩:=h
 ·cases h1
 ·cases e1
  refine ⟨by simpa using he,.inr ⟨g,cap,cur.setIfInBounds k x,rfl,hgb,heap_set hgh k x,hn,hm,by simpa using hcs,?_⟩⟩
  rw [Array.toList_setIfInBounds,List.take_set,ht]
theorem own_thaw {W:World} {base n:Nat} {e:TypeId} {g cap:Nat} {xs:List Value} (h:W.ownsRow base e 1 (.slice (some ⟨g,0,none⟩) n cap) n xs) (k:Nat):W.frozen? ⟨g,k,none⟩ = false∧base≤g∧∃ cur,W.heap[g]? = some (.cells cur e (0,0)):=by
 obtain ⟨he,⟨h1,_⟩ | ⟨g',cap',cur,e1,hgb,hgh,hn,hm,hcs,ht⟩⟩:=h
 ·cases h1
 ·cases e1
  exact ⟨by simp [World.frozen?,hgh],hgb,cur,hgh⟩
def mvL (f:Nat→Nat) (l:List Nat) (j:Nat):List Nat:=(l.take j).map f++l.drop j
theorem mvL_len (f:Nat→Nat) (l:List Nat) (j:Nat):(mvL f l j).length = l.length:=by
 unfold mvL
 rw [List.length_append,List.length_map,List.length_take,List.length_drop]
 omega
theorem mvL_zero (f:Nat→Nat) (l:List Nat):mvL f l 0 = l:=by simp [mvL]
theorem mvL_all (f:Nat→Nat) (l:List Nat):mvL f l l.length = l.map f:=by simp [mvL]
theorem mvL_get (f:Nat→Nat) (l:List Nat) {j:Nat} (hj:j < l.length):(mvL f l j)[j]? = some l[j]:=by
 unfold mvL
 rw [List.getElem?_append_right (by simp;omega),List.length_map,List.length_take,List.getElem?_drop]
 rw [show j+(j - min j l.length) = j by omega,List.getElem?_eq_getElem hj]
theorem mvL_set (f:Nat→Nat) (l:List Nat) {j:Nat} (hj:j < l.length):(mvL f l j).set j (f l[j]) = mvL f l (j+1):=by
 unfold mvL
 rw [List.set_append,if_neg (by simp;omega),List.length_map,List.length_take,List.take_succ_eq_append_getElem hj,List.map_append,List.map_cons,List.map_nil,List.append_assoc]
 congr 1
 rw [show j - min j l.length = 0 by omega,List.drop_eq_getElem_cons hj]
 rfl
theorem castL_set (l:List Nat) (j x:Nat):((castL l).map encZ).set j (.int .i64 (x:Nat)) = (castL (l.set j x)).map encZ:=by
 unfold castL
 rw [List.map_map,List.map_map,List.map_set];rfl
theorem castL_get (l:List Nat) {j x:Nat} (h:l[j]? = some x):((castL l).map encZ)[j]? = some (.int .i64 (x:Nat)):=by
 unfold castL
 rw [List.map_map,List.getElem?_map,h];rfl
theorem netF_high (bl:List L.ND) (u:Nat→Bool):∀ (n k:Nat),n≤k→(L.netF bl u n).2 k = 0
 | 0,_,_=>rfl
 | n+1,k,h=>by
   rw [L.netF]
   split
   ·show (if k = n then _ else _) = 0
    rw [if_neg (by omega)];exact netF_high bl u n k (by omega)
   ·exact netF_high bl u n k (by omega)
theorem netF_len (bl:List L.ND) (u:Nat→Bool):∀ (n:Nat),(L.netF bl u n).1.length≤n
 | 0=>Nat.le_refl _
 | n+1=>by
   have:=netF_len bl u n
   rw [L.netF]
   split
   ·show (_++[_]).length≤_
    rw [List.length_append];simp;omega
   ·omega
theorem netF_yes {bl:List L.ND} {u:Nat→Bool} {n:Nat} (h:u n = true):(L.netF bl u (n+1)).1 = (L.netF bl u n).1++[⟨(L.ndAt bl n).kind,(L.ndAt bl n).lit,(L.ndAt bl n).inp.map (L.netF bl u n).2⟩]∧∀ k,(L.netF bl u (n+1)).2 k = if k = n then (L.netF bl u n).1.length else (L.netF bl u n).2 k:=by
 rw [L.netF]
 rw [if_pos h]
 exact ⟨rfl,fun k=>rfl⟩
theorem netF_no {bl:List L.ND} {u:Nat→Bool} {n:Nat} (h:u n = false):L.netF bl u (n+1) = L.netF bl u n:=by
 rw [L.netF]
 rw [if_neg (by rw [h];decide)]
def atV (u:Nat→Bool) (f:Nat→Nat) (i:Nat):Nat→Value:=fun k=>.int .i64 (if k < i then (f k:Int) else if u k then 1 else 0)
theorem atV_no {bl:List L.ND} {u:Nat→Bool} {n:Nat} (h:u n = false) (k:Nat):atV u (L.netF bl u n).2 n k = atV u (L.netF bl u (n+1)).2 (n+1) k:=by
 unfold atV
 rw [netF_no h]
 by_cases h1:k < n
 ·have h3:k < n+1:=by omega
  simp [h1,h3]
 ·by_cases h2:k = n
  ·subst h2
   simp [h,netF_high _ _ _ _ (Nat.le_refl _)]
  ·have h3:¬ k < n+1:=by omega
   simp [h1,h3]
theorem atV_yes {bl:List L.ND} {u:Nat→Bool} {n:Nat} (h:u n = true) (k:Nat):putF (atV u (L.netF bl u n).2 n) n (.int .i64 ((L.netF bl u n).1.length:Nat)) k = atV u (L.netF bl u (n+1)).2 (n+1) k:=by
 unfold putF atV
 rw [(netF_yes h).2]
 by_cases h2:k = n
 ·subst h2
  simp
 ·by_cases h1:k < n
  ·have h3:k < n+1:=by omega
   simp [h1,h2,h3]
  ·have h3:¬ k < n+1:=by omega
   simp [h1,h2,h3]
def mkV (u:Nat→Bool):Nat→Value:=fun k=>.int .i64 (if u k then 1 else 0)
def mkU (u:Nat→Bool) (n:Nat) (ip:List Nat) (j:Nat):Nat→Bool:=fun k=>u k || (u n && decide (k∈ip.take j))
theorem mkU_zero (u:Nat→Bool) (n:Nat) (ip:List Nat):mkU u n ip 0 = u:=by funext k;simp [mkU]
theorem mkU_all (bl:List L.ND) (u:Nat→Bool) (n:Nat):L.marksF bl (n+1) u = L.marksF bl n (mkU u n (L.ndAt bl n).inp (L.ndAt bl n).inp.length):=by
 rw [L.marksF]
 congr 1
 funext k
 unfold mkU
 rw [List.take_length]
 by_cases h:u n = true
 ·rw [if_pos h,h];simp
 ·rw [if_neg h]
  have:u n = false:=by simpa using h
  rw [this];simp
theorem mkU_self {u:Nat→Bool} {n:Nat} {ip:List Nat} (hk:∀ k∈ip,k < n) (j:Nat):mkU u n ip j n = u n:=by
 unfold mkU
 have:n∉ip.take j:=fun h=>by
  have:=hk n (List.mem_of_mem_take h)
  omega
 simp [this]
theorem mkU_succ {u:Nat→Bool} {n j:Nat} {ip:List Nat} (hj:j < ip.length) (k:Nat):mkU u n ip (j+1) k = if k = ip[j] then (mkU u n ip j k || u n) else mkU u n ip j k:=by
 have hm:k∈ip.take (j+1)↔(k∈ip.take j∨k = ip[j]):=by rw [List.take_succ_eq_append_getElem hj,List.mem_append,List.mem_singleton]
 unfold mkU
 by_cases h:k = ip[j]
 ·rw [if_pos h,decide_eq_true (hm.2 (.inr h))]
  cases u k <;> cases u n <;> simp
 ·rw [if_neg h,decide_eq_decide.2 (hm.trans ⟨fun e=>e.resolve_right h,.inl⟩)]
theorem mkV_set {u:Nat→Bool} {n j:Nat} {ip:List Nat} (hk:∀ k∈ip,k < n) (hj:j < ip.length) (k:Nat):putF (mkV (mkU u n ip j)) ip[j] (.int .i64 (if (mkU u n ip j ip[j] || mkU u n ip j n) then 1 else 0)) k = mkV (mkU u n ip (j+1)) k:=by
 unfold putF mkV
 rw [mkU_succ hj,mkU_self hk]
 by_cases h:k = ip[j]
 ·rw [if_pos h,if_pos h,h]
 ·rw [if_neg h,if_neg h]
theorem mkV_at (u:Nat→Bool) (f:Nat→Nat):atV u f 0 = mkV u:=by
 funext k
 unfold atV mkV
 rw [if_neg (Nat.not_lt_zero _)]
theorem slI_cell {w:World} {bb:Option Addr} {n cc:Nat} {l:List Int} (h:SlI w (.slice bb n cc) l) {k:Nat} (hk:k < l.length):∃ b o,bb = some ⟨b,o,none⟩∧w.cell? ⟨b,o+k,none⟩ = some (.int .i64 l[k]):=by
 obtain ⟨ba,cp,e,h⟩:=h
 cases e
 rcases h with ⟨_,e,_⟩ | ⟨b,o,h1,h2⟩
 ·rw [e] at hk;simp at hk
 ·exact ⟨b,o,h1,h2 k hk⟩
theorem castL_at (l:List Nat) {k:Nat} (hk:k < l.length) (hk2:k < (castL l).length):(castL l)[k] = ((l[k]:Nat):Int):=by
 show (List.map (fun k:Nat=>(k:Int)) l)[k]'(by simpa using hk) = _
 rw [List.getElem_map]
end Go.Proofs.YtckhohpbokojdaaGreatDoor
end
