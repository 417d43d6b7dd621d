import Derived.Test.YtckhohpbokojdaaGreatDoorMCj8
import Derived.Test.YtckhohpbokojdaaGreatDoorMAdd
import Derived.Test.YtckhohpbokojdaaGreatDoorMRegz
set_option linter.unusedSimpArgs false
set_option linter.unusedVariables false
namespace Go.Proofs.YtckhohpbokojdaaGreatDoor
open Go Go.RowKit Go.Shelf
def castL (l:List Nat):List Int:=l.map fun k:Nat=>(k:Int)
theorem castL_len (l:List Nat):(castL l).length = l.length:=by unfold castL;rw [List.length_map]
def NM (bl:List L.ND):L.ND→Option Nat:=fun x=>bl.findIdx? fun y=>decide (y = x)
def encNK (x:L.ND):Value:=.string ⟨(nkB x).toArray⟩
theorem keyLawN:KeyLaw Tryz.prog 9 encNK:=strLaw Tryz.underlying9 nkB nkB_inj
theorem nd_info:(Tryz.prog.info? 40).map (fun i=>(i.zero,i.size,i.bytes)) = some (some (.agg #[.int .i64 0,.int .i64 0,.slice none 0 0]),3,40):=by kernel_rfl
def NBat (lo base bx pm:Nat) (n:Int) (bl:List L.ND) (vL:Value) (us:List Value) (W:World):Prop :=
 W.heap[bx]? = some (.cells #[.int .i64 n,vL,.map (some pm)] 112 (0,0))∧W.ownsRow base 40 3 vL bl.length (gCells (bl.map L.ofND) us)∧RowsOf W base us (bl.map fun y=>castL y.inp)∧MapAt encNK encNat W pm (NM bl)∧(lo≤bx∧lo≤pm∧lo≤base)
def NB (lo base bx:Nat) (n:Int) (bl:List L.ND) (W:World):Prop:=∃ pm vL us,NBat lo base bx pm n bl vL us W
section
variable {lo base bx pm:Nat} {n:Int} {bl:List L.ND} {vL:Value} {us:List Value} {W W':World}
theorem NBat.next (h:NBat lo base bx pm n bl vL us W) (hb:Below W.heap.size W W'):NBat lo base bx pm n bl vL us W':=by
 obtain ⟨h1,h2,h3,h4,h5⟩:=h
 refine ⟨(hb.block _ (Array.getElem?_eq_some_iff.1 h1).1).trans h1,ownsRow_keep h2 (fun g c h=>hb.block g (Array.getElem?_eq_some_iff.1 h).1),h3.keep (fun g c h=>hb.block g (Array.getElem?_eq_some_iff.1 h).1),h4.same ?_,h5⟩
 obtain ⟨_,_,hm,_⟩:=h4
 exact hb.block _ (Array.getElem?_eq_some_iff.1 hm).1
theorem NB.next (h:NB lo base bx n bl W) (hb:Below W.heap.size W W'):NB lo base bx n bl W':=by
 obtain ⟨pm,vL,us,h⟩:=h
 exact ⟨pm,vL,us,h.next hb⟩
theorem NBat.cells (h:NBat lo base bx pm n bl vL us W):W.cell? ⟨bx,0,none⟩ = some (.int .i64 n)∧W.cell? ⟨bx,1,none⟩ = some vL∧W.cell? ⟨bx,2,none⟩ = some (.map (some pm)):=by
 refine ⟨?_,?_,?_⟩ <;> (rw [World.cell?,h.1];rfl)
theorem NBat.shape (h:NBat lo base bx pm n bl vL us W):∃ ba cp,vL = .slice ba bl.length cp:=by
 obtain ⟨_,⟨rfl,e⟩ | ⟨g,cap,cur,rfl,_⟩⟩:=h.2.1
 ·rw [e];exact ⟨_,_,rfl⟩
 ·exact ⟨_,_,rfl⟩
end
def IntKeep (W W':World):Prop:=∀ (g:Nat) (c:Array Value),W.heap[g]? = some (.cells c 3 (0,0))→W'.heap[g]? = some (.cells c 3 (0,0))
theorem IntKeep.trans {a b c:World} (h:IntKeep a b) (k:IntKeep b c):IntKeep a c:=fun g x hx=>k g x (h g x hx)
theorem IntKeep.of {a b:World} (h:Below a.heap.size a b):IntKeep a b:=fun g x hx=>(h.block _ (Array.getElem?_eq_some_iff.1 hx).1).trans hx
def BI (base:Nat) (W W':World):Prop:=Below base W W'∧IntKeep W W'
theorem BI.trans {base:Nat} {a b c:World} (h:BI base a b) (k:BI base b c):BI base a c:=⟨h.1.trans k.1,h.2.trans k.2⟩
theorem BI.of {base:Nat} {a b:World} (h:Below a.heap.size a b) (hb:base≤a.heap.size):BI base a b:=⟨h.mono hb,IntKeep.of h⟩
theorem own_blk {w:World} {base n size:Nat} {e:TypeId} {v:Value} {xs:List Value} (h:w.ownsRow base e size v n xs) {g:Nat} (hg:v.ownBlock = some g):∃ cur,w.heap[g]? = some (.cells cur e (0,0)):=by
 obtain ⟨_,⟨rfl,_⟩ | ⟨g',cap,cur,rfl,_,hgh,_⟩⟩:=h
 ·simp [Value.ownBlock] at hg
 ·simp [Value.ownBlock] at hg
  subst hg
  exact ⟨cur,hgh⟩
theorem putMap_below {base:Nat} (K:TypeId) (w:World) (b:Nat) (k v:Value) (hb:base≤b):Below base w (putMap K Tryz.prog w b k v):=by
 obtain ⟨h1,h2,h3,_⟩:=putMap_rest (P:=Tryz.prog) K w b k v
 exact ⟨h1,h2,h3,Nat.le_of_eq (putMap_size (P:=Tryz.prog) K w b k v).symm,fun j hj=>putMap_other (P:=Tryz.prog) K w b k v j (by omega)⟩
theorem NM_snoc {bl:List L.ND} {x:L.ND} (h:NM bl x = none):NM (bl++[x]) = upd (NM bl) x bl.length:=by
 funext y
 unfold NM upd
 rw [List.findIdx?_append]
 by_cases e:y = x
 ·subst e
  rw [if_pos rfl]
  unfold NM at h
  rw [h]
  simp [List.findIdx?_cons]
 ·rw [if_neg e]
  cases hf:bl.findIdx? (fun z=>decide (z = y)) with
  | some i=>show _ = List.findIdx? (fun z=>decide (z = y)) bl;rw [hf];rfl
  | none=>show _ = List.findIdx? (fun z=>decide (z = y)) bl;rw [hf];simp [List.findIdx?_cons,Ne.symm e]
theorem putND_eq (bl:List L.ND) (x:L.ND):L.putND bl x = match NM bl x with | some i=>(i,bl) | none=>(bl.length,bl++[x]):=rfl
set_option maxRecDepth 100000 in
set_option maxHeartbeats 8000000 in
theorem nput_any {lo base bx:Nat} {n:Int} {bl:List L.ND} {W:World} (h:NB lo base bx n bl W) (hb:base≤W.heap.size) (hP:PowTab W) (hfull:bl.length < 60000) {kd lt:Int} {ip:List Nat} {bb:Option Addr} {cc:Nat} (hkd:-9223372036854775808≤kd∧kd≤9223372036854775807) (hlt:-9223372036854775808≤lt∧lt≤9223372036854775807) (hip:∀ k∈ip,k≤65536) (hin:W.ownsRow base 3 1 (.slice bb ip.length cc) ip.length ((castL ip).map encZ)) (hl:ip.length≤2000) (hgP:gPow < base) :
  Calls Tryz.prog 98 #[.pointer (some ⟨bx,0,none⟩),.agg #[.int .i64 kd,.int .i64 lt,.slice bb ip.length cc]] W fun e W'=>e = .returned (.tuple #[.int .i64 ((L.putND bl ⟨kd,lt,ip⟩).1:Nat),.int .i64 0])∧NB lo base bx n (L.putND bl ⟨kd,lt,ip⟩).2 W'∧BI lo W W':=by
 obtain ⟨pm,vL,us,h⟩:=h
 have hlo:lo≤base:=h.2.2.2.2.2.2
 have hlw:lo≤W.heap.size:=Nat.le_trans hlo hb
 have e0:=heap_alloc_new W (.cells #[.int .i64 kd,.int .i64 lt,.slice bb ip.length cc] 40)
 have hx1:Ext W (W.alloc (.cells #[.int .i64 kd,.int .i64 lt,.slice bb ip.length cc] 40)):=(Ext.refl W).alloc _
 have r0:(W.alloc (.cells #[.int .i64 kd,.int .i64 lt,.slice bb ip.length cc] 40)).cell? ⟨W.heap.size,0,none⟩ = some (.int .i64 kd):=by rw [World.cell?,e0];rfl
 obtain ⟨w1,hw1⟩:∃ w1,w1 = W.alloc (.cells #[.int .i64 kd,.int .i64 lt,.slice bb ip.length cc] 40):=⟨_,rfl⟩
 rw [←hw1] at e0 hx1
 have hsl:SlI w1 (.slice bb ip.length cc) (ip.map fun k:Nat=>(k:Int)):=(owns_slI (l:=castL ip) (by rw [castL_len];exact hin)).ext hx1.below
 have q:=nkey_any (bb:=bb) (cc:=cc) hkd hlt hip hsl hl (hP.below hx1.below)
 have h1:=h.next hx1.below
 have hin1:=ownsRow_keep hin (fun g c h=>hx1.below.block g (Array.getElem?_eq_some_iff.1 h).1)
 have hz:=fun w=>zeroInt w
 have hlook:=fun (V:World) (hV:NBat lo base bx pm n bl vL us V)=>hV.2.2.2.1.look keyLawN (T:=110) Tryz.underlying110 _ zeroInt ⟨kd,lt,ip⟩
 have hput:=putND_eq bl ⟨kd,lt,ip⟩
 obtain ⟨ba,cp,rfl⟩:=h.shape
 replace hsl:=Lib.hid hsl
 replace hin:=Lib.hid hin
 replace hin1:=Lib.hid hin1
 replace hx1:=Lib.hid hx1
 replace e0:=Lib.hid e0
 replace h:=Lib.hid h
 replace h1:=Lib.hid h1
 replace hip:=Lib.hid hip
 replace hw1:=Lib.hid hw1
 clear r0
 cases hm:NM bl ⟨kd,lt,ip⟩ with
 | some i =>
   rw [hm] at hput
   rw [hput]
   dsimp only
   simp only [hm] at hlook
   replace hlook:=Lib.hid hlook
   replace hm:=Lib.hid hm
   replace hput:=Lib.hid hput
   go_enter Tryz.func98,Tryz.ntmps98
   go_wp2_with fail
   rw [←hw1.out]
   try go_wp2_with fail
   refine q.mono ?_
   rintro e w2 ⟨rfl,hb2⟩
   have h2:=h1.out.next hb2
   have hlk:=hlook.out _ h2
   have hlk2:(Instr.lookup 110 (.map (some pm)) (.string ⟨(nkB ⟨kd,lt,ip⟩).toArray⟩) true).run Tryz.prog w2 = .ok (.tuple #[.int .i64 (i:Nat),.bool true]) w2:=hlk
   obtain ⟨c0,c1,c2⟩:=h2.cells
   have hbe:=Lib.hid (hx1.out.below.trans (hb2.mono hx1.out.size))
   replace h2:=Lib.hid h2
   clear q hlk hb2
   generalize (⟨(nkB ⟨kd,lt,ip⟩).toArray⟩:ByteArray) = K at *
   go_wp2_with fail
   go_ret2
   exact ⟨rfl,⟨pm,_,us,h2.out⟩,BI.of hbe.out hlw⟩
 | none =>
   rw [hm] at hput
   rw [hput]
   dsimp only
   simp only [hm] at hlook
   obtain ⟨iv,hiv,hzv,hsv,hbv⟩:=info_parts nd_info
   have hdl:decide ((bl.length:Int)≥65536) = false:=decide_eq_false (by omega)
   replace hlook:=Lib.hid hlook
   replace hput:=Lib.hid hput
   replace hm:=Lib.hid hm
   go_enter Tryz.func98,Tryz.ntmps98
   go_wp2_with fail
   rw [←hw1.out]
   try go_wp2_with fail
   refine q.mono ?_
   rintro e w2 ⟨rfl,hb2⟩
   have h2:=h1.out.next hb2
   have hlk:=hlook.out _ h2
   have hlk2:(Instr.lookup 110 (.map (some pm)) (.string ⟨(nkB ⟨kd,lt,ip⟩).toArray⟩) true).run Tryz.prog w2 = .ok (.tuple #[.int .i64 0,.bool false]) w2:=hlk
   obtain ⟨c0,c1,c2⟩:=h2.cells
   have hbe:=Lib.hid (hx1.out.below.trans (hb2.mono hx1.out.size))
   have e2:=(hb2.block _ (Array.getElem?_eq_some_iff.1 e0.out).1).trans e0.out
   have hin2:=ownsRow_keep hin1.out (fun g c h=>hb2.block g (Array.getElem?_eq_some_iff.1 h).1)
   obtain ⟨xb,hxb⟩:∃ x,x = W.heap.size:=⟨_,rfl⟩
   rw [←hxb] at e2
   have hS:∀ V,Below w2.heap.size w2 V→V.cell? ⟨bx,1,none⟩ = some (.slice ba bl.length cp)∧V.cell? ⟨xb,0,none⟩ = some (.int .i64 kd)∧V.cell? ⟨xb,1,none⟩ = some (.int .i64 lt)∧V.cell? ⟨xb,2,none⟩ = some (.slice bb ip.length cc):=fun V hV=>by
    have f0:=(hV.block _ (Array.getElem?_eq_some_iff.1 h2.1).1).trans h2.1
    have f1:=(hV.block _ (Array.getElem?_eq_some_iff.1 e2).1).trans e2
    exact ⟨by rw [World.cell?,f0];rfl,by rw [World.cell?,f1];rfl,by rw [World.cell?,f1];rfl,by rw [World.cell?,f1];rfl⟩
   replace hS:=Lib.hid hS
   replace h2:=Lib.hid h2
   replace e2:=Lib.hid e2
   replace hin2:=Lib.hid hin2
   clear q hlk
   go_wp2_with fail
   try rw [←hxb]
   replace hxb:=Lib.hid hxb
   clear hlk2 hdl c0 c1 c2
   obtain ⟨c1,g0,g1,g2⟩:=hS.out w2 (Below.refl _ _)
   have hT:True:=trivial
   (refine wp_region_held_drew (S:=(fun _=>True)) (by kernel_rfl) ?_ (fun hHeld=>?_))
   ·trivial
   (refine takeL (i:=0) (v:=?_) rfl (by kernel_rfl) (by kernel_rfl) (by kernel_rfl) (fun _ _ _ h=>h) (Or.inl ⟨by rfl,?_⟩) (by assumption) ?_)
   rotate_left
   ·(intro w hSw;(try dsimp only at hSw);go_simp;first | done | with_reducible rfl)
   (try simp only [Act.put,List.setIfInBounds_toArray,List.set_cons_zero,List.set_cons_succ])
   (refine takeL (i:=1) (v:=?_) rfl (by kernel_rfl) (by kernel_rfl) (by kernel_rfl) (fun _ _ _ h=>h) (Or.inl ⟨by rfl,?_⟩) (by assumption) ?_)
   rotate_left
   ·(intro w hSw;(try dsimp only at hSw);go_simp;first | done | with_reducible rfl)
   (try simp only [Act.put,List.setIfInBounds_toArray,List.set_cons_zero,List.set_cons_succ])
   (refine takeL (i:=2) (v:=?_) rfl (by kernel_rfl) (by kernel_rfl) (by kernel_rfl) (fun _ _ _ h=>h) (Or.inl ⟨by rfl,?_⟩) (by assumption) ?_)
   rotate_left
   ·(intro w hSw;(try dsimp only at hSw);go_simp;first | done | with_reducible rfl)
   (try simp only [Act.put,List.setIfInBounds_toArray,List.set_cons_zero,List.set_cons_succ])
   (refine takeL (i:=3) (v:=?_) rfl (by kernel_rfl) (by kernel_rfl) (by kernel_rfl) (fun _ _ _ h=>h) (Or.inl ⟨by rfl,?_⟩) (by assumption) ?_)
   rotate_left
   ·(intro w hSw;(try dsimp only at hSw);go_simp;first | done | with_reducible rfl)
   (try simp only [Act.put,List.setIfInBounds_toArray,List.set_cons_zero,List.set_cons_succ])
   obtain ⟨c1a,-,-,-⟩:=hS.out _ ((Below.refl _ w2).alloc (Nat.le_refl _) (.cells #[.int .i64 kd,.int .i64 lt,.slice bb ip.length cc] 40)).drew
   obtain ⟨c1b,-,-,-⟩:=hS.out _ ((Below.refl _ w2).alloc (Nat.le_refl _) (.cells #[.int .i64 kd,.int .i64 lt,.slice bb ip.length cc] 40))
   (refine wpAnyH_ready (rs:=[4,5]) (by kernel_rfl) (by simp) ?_)
   (refine consL2 rfl rfl (fun K hK=>?_) (fun K hK=>?_))
   (rw [if_pos (by rfl)])
   go_simp
   (refine hK.out _ _ trivial (fun hT=>?_))
   (clear hT hK K)
   (try simp only [Act.put,List.setIfInBounds_toArray,List.set_cons_zero,List.set_cons_succ])
   (refine wpAnyH_ready (rs:=[5]) (by kernel_rfl) (by simp) ?_)
   (refine consL rfl (fun K hK=>?_))
   (rw [if_pos (by rfl)])
   go_simp
   (refine hK.out _ _ trivial (fun hT=>?_))
   (clear hT hK K)
   (try simp only [Act.put,List.setIfInBounds_toArray,List.set_cons_zero,List.set_cons_succ])
   (refine wpAnyH_ready (rs:=[6]) (by kernel_rfl) (by simp) ?_)
   (refine consL rfl (fun K hK=>?_))
   (rw [if_pos (by rfl)])
   go_simp
   (refine hK.out _ _ trivial (fun hT=>?_))
   (clear hT hK K)
   (try simp only [Act.put,List.setIfInBounds_toArray,List.set_cons_zero,List.set_cons_succ])
   refine ?hRest1
   rotate_left
   (rw [if_pos (by rfl)])
   go_simp
   (refine hK.out _ _ trivial (fun hT=>?_))
   (clear hT hK K)
   (try simp only [Act.put,List.setIfInBounds_toArray,List.set_cons_zero,List.set_cons_succ])
   (refine wpAnyH_ready (rs:=[4,6]) (by kernel_rfl) (by simp) ?_)
   (refine consL2 rfl rfl (fun K hK=>?_) (fun K hK=>?_))
   (rw [if_pos (by rfl)])
   go_simp
   (refine hK.out _ _ trivial (fun hT=>?_))
   (clear hT hK K)
   (try simp only [Act.put,List.setIfInBounds_toArray,List.set_cons_zero,List.set_cons_succ])
   (refine wpAnyH_ready (rs:=[6]) (by kernel_rfl) (by simp) ?_)
   (refine consL rfl (fun K hK=>?_))
   (rw [if_pos (by rfl)])
   go_simp
   (refine hK.out _ _ trivial (fun hT=>?_))
   (clear hT hK K)
   (try simp only [Act.put,List.setIfInBounds_toArray,List.set_cons_zero,List.set_cons_succ])
   exact ?hRest1
   (rw [if_pos (by rfl)])
   go_simp
   (refine hK.out _ _ trivial (fun hT=>?_))
   (clear hT hK K)
   (try simp only [Act.put,List.setIfInBounds_toArray,List.set_cons_zero,List.set_cons_succ])
   (refine wpAnyH_ready (rs:=[4]) (by kernel_rfl) (by simp) ?_)
   (refine consL rfl (fun K hK=>?_))
   (rw [if_pos (by rfl)])
   go_simp
   (refine hK.out _ _ trivial (fun hT=>?_))
   (clear hT hK K)
   (try simp only [Act.put,List.setIfInBounds_toArray,List.set_cons_zero,List.set_cons_succ])
   exact ?hRest1
   clear c1 g0 g1 g2 c1a c1b
   have ha:Below w2.heap.size w2 ((w2.alloc (.cells #[.int .i64 kd,.int .i64 lt,.slice bb ip.length cc] 40)).drew):=((Below.refl _ w2).alloc (Nat.le_refl _) _).drew
   have hna:((w2.alloc (.cells #[.int .i64 kd,.int .i64 lt,.slice bb ip.length cc] 40)).drew).heap[w2.heap.size]? = some (.cells #[.int .i64 kd,.int .i64 lt,.slice bb ip.length cc] 40):=heap_alloc_new w2 _
   generalize hwd:(w2.alloc (.cells #[.int .i64 kd,.int .i64 lt,.slice bb ip.length cc] 40)).drew = wd at *
   replace hwd:=Lib.hid hwd
   (try simp only [Act.put,List.setIfInBounds_toArray,List.set_cons_zero,List.set_cons_succ])
   have hd:=h2.out.next ha
   have hind:=ownsRow_keep hin2.out (fun g c h=>ha.block g (Array.getElem?_eq_some_iff.1 h).1)
   have hxd:=(ha.block _ (Array.getElem?_eq_some_iff.1 e2.out).1).trans e2.out
   have hbd:=Lib.hid (hbe.out.trans (ha.mono hbe.out.size))
   have hsd:base≤wd.heap.size:=Nat.le_trans hb hbd.out.size
   have hca:=World.news_of_block (cs:=#[.int .i64 kd,.int .i64 lt,.slice bb ip.length cc]) (t:=40) (fr:=(0,0)) hna
   (refine wpAnyH_ready (rs:=[7]) (by kernel_rfl) (by simp) ?_)
   (refine consL rfl (fun K hK=>?_))
   (rw [if_pos (by rfl)])
   refine wp_append_own wd _ _ 22 rfl base 40 iv _ 3 40 Tryz.underlying22 hiv hzv hsv hbv rfl (by decide) (.slice ba bl.length cp) bl.length (gCells (bl.map L.ofND) us) rfl hd.2.1 ⟨w2.heap.size,0,none⟩ 1 1 [.int .i64 kd,.int .i64 lt,.slice bb ip.length cc] rfl rfl hca (by simp [Value.oneCell']) (by unfold maxLen;omega) (by omega) hsd (fun v6 w6 ho6 hg6 _=>?_)
   have hb6:=(grown_other hd.2.1 hg6 hd.1 (by decide)).trans hd.1
   have hR6:RowsOf w6 base us (bl.map fun y=>castL y.inp):=hd.2.2.1.keep (fun g c h=>grown_other hd.2.1 hg6 h (by decide))
   have hin6:=ownsRow_keep hind (fun g c h=>grown_other hd.2.1 hg6 h (by decide))
   have hx6:w6.heap[xb]? = some (.cells #[.int .i64 kd,.int .i64 lt,.slice bb ip.length cc] 40 (0,0)):=by
    refine Eq.trans (hg6.block xb (Array.getElem?_eq_some_iff.1 hxd).1 fun e=>?_) hxd
    obtain ⟨cur,hgh'⟩:=own_blk h.out.2.1 e.symm
    have:=(Array.getElem?_eq_some_iff.1 hgh').1
    have:=hxb.out
    omega
   have hm6:w6.heap[pm]? = wd.heap[pm]?:=by
    obtain ⟨_,_,hmm,_⟩:=hd.2.2.2.1
    refine hg6.block pm (Array.getElem?_eq_some_iff.1 hmm).1 fun e=>?_
    obtain ⟨cur,hgh'⟩:=own_blk hd.2.1 e.symm
    rw [hgh'] at hmm
    simp at hmm
   have hM6:=hd.2.2.2.1.same hm6
   have hB6:Below lo W w6:=Below.grown (hbd.out.mono hlw) hg6 (Nat.le_trans hlo hsd) (fun k e=>Nat.le_trans hlo (own_ge hd.2.1 e))
   have hI6:Hid (IntKeep W w6):=Lib.hid ((IntKeep.of (hbd.out)).trans fun g c h=>(grown_other hd.2.1 hg6 h (by decide)).trans h)
   have hbxpm:bx≠pm:=by
    intro e
    obtain ⟨_,_,hmm,_⟩:=hd.2.2.2.1
    have:=hd.1
    rw [e,hmm] at this
    simp at this
   have hbxb:=h.out.2.2.2.2
   obtain ⟨g6,c6,rfl⟩:∃ g c,v6 = .slice (some ⟨g,0,none⟩) (bl.length+1) c:=by
    obtain ⟨_,⟨_,e⟩ | ⟨g,cap,cur,h,_⟩⟩:=ho6
    ·omega
    ·exact ⟨g,cap,h⟩
   have hus:us.length = (bl.map L.ofND).length:=by have:=hd.2.2.1.1;simpa using this
   have hgc:gCells (bl.map L.ofND) us++[.int .i64 kd,.int .i64 lt,.slice bb ip.length cc] = gCells ((bl++[(⟨kd,lt,ip⟩:L.ND)]).map L.ofND) (us++[.slice bb ip.length cc]):=by
    rw [List.map_append,List.map_cons,List.map_nil,gCells_snoc hus];rfl
   have hne:∀ (g:Nat) (cs:Array Value) (ty:TypeId),w6.heap[g]? = some (.cells cs ty (0,0))→ty≠112→(w6.setCell ⟨bx,1,none⟩ (.slice (some ⟨g6,0,none⟩) (bl.length+1) c6)).heap[g]? = w6.heap[g]?:=fun g cs ty h1 h2=>by
    refine Below.heap_setCell _ _ _ _ fun e=>?_
    rw [e,hb6] at h1
    simp only [Option.some.injEq,Obj.cells.injEq] at h1
    exact h2 h1.2.1.symm
   have hRx:RowsOf w6 base (us++[.slice bb ip.length cc]) ((bl++[(⟨kd,lt,ip⟩:L.ND)]).map fun y=>castL y.inp):=by
    rw [List.map_append]
    exact hR6.snoc (c:=castL ip) (by rw [castL_len];exact hin6)
   rw [hgc] at ho6
   obtain ⟨v6,hv6⟩:∃ v,v = Value.slice (some ⟨g6,0,none⟩) (bl.length+1) c6:=⟨_,rfl⟩
   have hh7:=heap_set hb6 1 v6
   have hNM:MapAt encNK encNat (w6.setCell ⟨bx,1,none⟩ v6) pm (NM bl):=hM6.same (Below.heap_setCell _ _ _ _ (Ne.symm hbxpm))
   have h7row:(w6.setCell ⟨bx,1,none⟩ v6).ownsRow base 40 3 v6 (bl.length+1) (gCells ((bl++[(⟨kd,lt,ip⟩:L.ND)]).map L.ofND) (us++[.slice bb ip.length cc])):=by
    rw [hv6];exact ownsRow_keep ho6 (fun g c h=>hne g c _ h (by decide))
   have h7rows:RowsOf (w6.setCell ⟨bx,1,none⟩ v6) base (us++[.slice bb ip.length cc]) ((bl++[(⟨kd,lt,ip⟩:L.ND)]).map fun y=>castL y.inp):=by
    rw [hv6];exact hRx.keep (fun g c h=>hne g c _ h (by decide))
   have hB7:BI lo W (w6.setCell ⟨bx,1,none⟩ v6):=⟨hB6.setCell (p:=⟨bx,1,none⟩) hbxb.1 _,fun g c h=>by rw [hv6];exact (hne g c _ (hI6.out g c h) (by decide)).trans (hI6.out g c h)⟩
   have y2:w6.frozen? ⟨bx,1,none⟩ = false:=by simp [World.frozen?,hb6]
   refine hK.out _ _ trivial (fun hHeld=>?_)
   clear hK K ho6 hRx hne hgc hR6 hin6 hx6 hm6 hM6 hB6 hind hxd hca hsd hg6 hna ha hd
   (try simp only [Act.put,List.setIfInBounds_toArray,List.set_cons_zero,List.set_cons_succ])
   have x6:w6.cell? ⟨bx,1,none⟩ = some (.slice ba bl.length cp):=by rw [World.cell?,hb6];rfl
   replace hb6:=Lib.hid hb6
   clear hHeld
   (refine takeL (i:=8) (v:=?_) rfl (by kernel_rfl) (by kernel_rfl) (by kernel_rfl) (fun _ _ _ h=>h) (Or.inl ⟨by rfl,?_⟩) (by assumption) ?_)
   rotate_left
   ·(intro w hSw;(try dsimp only at hSw);go_simp;first | done | with_reducible rfl)
   (try simp only [Act.put,List.setIfInBounds_toArray,List.set_cons_zero,List.set_cons_succ])
   (refine takeL (i:=9) (v:=?_) rfl (by kernel_rfl) (by kernel_rfl) (by kernel_rfl) (fun _ _ _ h=>h) (Or.inl ⟨by rfl,?_⟩) (by assumption) ?_)
   rotate_left
   ·(intro w hSw;(try dsimp only at hSw);go_simp;first | done | with_reducible rfl)
   (try simp only [Act.put,List.setIfInBounds_toArray,List.set_cons_zero,List.set_cons_succ])
   (refine wpAnyH_ready (rs:=[10]) (by kernel_rfl) (by simp) ?_)
   (refine consL rfl (fun K hK=>?_))
   ((rw [if_pos (by rfl)]);go_simp;refine hK.out _ _ trivial (fun hHeld=>?_))
   (clear hK K)
   (try simp only [Act.put,List.setIfInBounds_toArray,List.set_cons_zero,List.set_cons_succ])
   (refine wpAnyH_done (by kernel_rfl) ?_ _)
   rw [←hv6]
   obtain ⟨w7,hw7⟩:∃ W,W = w6.setCell ⟨bx,1,none⟩ v6:=⟨_,rfl⟩
   rw [←hw7] at hh7 hNM h7row h7rows hB7 ⊢
   replace hw7:=Lib.hid hw7
   clear hb6 x6 y2 hHeld hT
   have hM7:MapAt encNK encNat w7.drew pm (NM bl):=hNM.same rfl
   obtain ⟨hpt,hM8⟩:=hM7.put keyLawN (T:=110) Tryz.underlying110 ⟨kd,lt,ip⟩ bl.length
   rw [←NM_snoc hm.out] at hM8
   have hpt2:(Instr.mapUpdate 110 (.map (some pm)) (.string ⟨(nkB ⟨kd,lt,ip⟩).toArray⟩) (.int .i64 (bl.length:Nat))).run Tryz.prog w7.drew = .ok () (putMap 9 Tryz.prog w7.drew pm (encNK ⟨kd,lt,ip⟩) (encNat bl.length)):=hpt
   have hoth:=fun k hk=>putMap_other (P:=Tryz.prog) 9 w7.drew pm (encNK ⟨kd,lt,ip⟩) (encNat bl.length) k hk
   have hbel:=putMap_below (base:=lo) 9 w7.drew pm (encNK ⟨kd,lt,ip⟩) (encNat bl.length) hbxb.2.1
   have hne8:∀ (g:Nat) (cs:Array Value) (ty:TypeId),w7.heap[g]? = some (.cells cs ty (0,0))→(putMap 9 Tryz.prog w7.drew pm (encNK ⟨kd,lt,ip⟩) (encNat bl.length)).heap[g]? = w7.heap[g]?:=fun g cs ty h1=>by
    refine hoth g fun e=>?_
    obtain ⟨_,_,hmm,_⟩:=hNM
    rw [e,hmm] at h1
    simp at h1
   have h8box:=(hne8 bx _ _ hh7).trans hh7
   have hN8:NBat lo base bx pm n (bl++[(⟨kd,lt,ip⟩:L.ND)]) v6 (us++[.slice bb ip.length cc]) (putMap 9 Tryz.prog w7.drew pm (encNK ⟨kd,lt,ip⟩) (encNat bl.length)) :=
    ⟨h8box,by rw [List.length_append];exact ownsRow_keep h7row (fun g c h=>hne8 g c _ h),h7rows.keep (fun g c h=>hne8 g c _ h),hM8,hbxb⟩
   have hB8:BI lo W (putMap 9 Tryz.prog w7.drew pm (encNK ⟨kd,lt,ip⟩) (encNat bl.length)):=⟨hB7.1.drew.trans hbel,fun g c h=>(hne8 g c _ (hB7.2 g c h)).trans (hB7.2 g c h)⟩
   have f2:w7.drew.cell? ⟨bx,2,none⟩ = some (.map (some pm)):=by rw [World.cell?,show w7.drew.heap = w7.heap from rfl,hh7];rfl
   have f1:w7.drew.cell? ⟨bx,1,none⟩ = some v6:=by rw [World.cell?,show w7.drew.heap = w7.heap from rfl,hh7];rfl
   have f18:(putMap 9 Tryz.prog w7.drew pm (encNK ⟨kd,lt,ip⟩) (encNat bl.length)).cell? ⟨bx,1,none⟩ = some v6:=hN8.cells.2.1
   have hwr:IntKind.i64.wrap (bl.length:Int) = (bl.length:Int):=IntWalk.i64_in _ (by omega)
   have hwr2:IntKind.i64.wrap ((bl.length:Int)+1 - 1) = (bl.length:Int):=IntWalk.i64_in _ (by omega) |>.trans (by omega)
   generalize putMap 9 Tryz.prog w7.drew pm (encNK ⟨kd,lt,ip⟩) (encNat bl.length) = w8 at *
   replace hN8:=Lib.hid hN8
   replace hB8:=Lib.hid hB8
   clear hM7 hNM hM8 hpt hoth hbel hne8 h8box hh7 h7row h7rows hB7 hw7 hlook
   subst hv6
   go_wp2_with fail
   go_region_law (fail)
   all_goals
    go_wp2_with fail
    go_ret2
    exact ⟨rfl,⟨pm,_,_,hN8.out⟩,hB8.out⟩
end Go.Proofs.YtckhohpbokojdaaGreatDoor
