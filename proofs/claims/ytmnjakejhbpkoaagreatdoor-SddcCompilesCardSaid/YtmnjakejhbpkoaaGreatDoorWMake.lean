import Derived.Test.YtmnjakejhbpkoaaGreatDoorWVt
set_option linter.unusedSimpArgs false
set_option linter.unusedVariables false
namespace Go.Proofs.YtmnjakejhbpkoaaGreatDoor
open Go Go.RowKit Go.Shelf
def encI (n:Nat):Value:=.int .i64 (n:Int)
def MkLoop (of:St→Nat→Nat→Option (Nat × St)) (B:Blks) (w:World) (vb vo:Nat) (l:List (Nat × Nat)) (fin:St × List (Nat × Nat) × List Nat) (k:Nat) (v:Value) (wr:World):Prop :=
 ∃ (B':Blks) (sk:St) (m:List (Nat × Nat)) (u:List Nat),Rep B' sk wr∧Stp [] B w B' wr∧MapAt encNat encNat wr w.heap.size (asc m)∧w.heap.size∉B'.mut ∧
   wr.ownsRow w.heap.size 3 1 v u.length (u.map encI)∧RowAt wr vb vo 165 (flatP l)∧u.length≤k∧mkStep of (l.drop k) sk m u = some fin
theorem mapNew {α β:Type} [DecidableEq α] (enc:α→Value) (encV:β→Value) (w:World):MapAt enc encV (w.alloc (.map #[] 0)) w.heap.size (fun _=>none) :=
 ⟨[],0,heap_alloc_new w _,fun a=>rfl,⟨fun e he=>absurd he (by simp),List.nodup_nil⟩⟩
theorem MapAt.putI {w:World} {pm:Nat} {m:List (Nat × Nat)} (h:MapAt encNat encNat w pm (asc m)) (a v:Nat) :
  (Instr.mapUpdate 142 (.map (some pm)) (.int .i64 a) (.int .i64 v)).run Tryz.prog w = .ok () (putMap 3 Tryz.prog w pm (encNat a) (encNat v))∧MapAt encNat encNat (putMap 3 Tryz.prog w pm (encNat a) (encNat v)) pm (asc ((a,v) :: m)):=by
 rw [asc_cons]
 exact h.put natLaw (T:=142) Tryz.underlying142 a v
theorem MapAt.lookI {w:World} {pm:Nat} {m:List (Nat × Nat)} (h:MapAt encNat encNat w pm (asc m)) (a:Nat) :
  (Instr.lookup 142 (.map (some pm)) (.int .i64 a) true).run Tryz.prog w = .ok (.tuple #[((asc m a).map encNat).getD (.int .i64 0),.bool (asc m a).isSome]) w :=
 h.look natLaw (T:=142) Tryz.underlying142 _ zeroInt a
theorem MapAt.look1 {P:Program} {α β:Type} [DecidableEq α] {K E T:TypeId} {enc:α→Value} {encV:β→Value} {w:World} {b:Nat} {m:α→Option β} (h:MapAt enc encV w b m) (law:KeyLaw P K enc)
  (hT:P.underlying T = some (.map K E)) (z:Value) (hz:∀ w,(zeroValue E).run P w = .ok z w) (a:α) :
  (Instr.lookup T (.map (some b)) (enc a) false).run P w = .ok (((m a).map encV).getD z) w:=by
 obtain ⟨L,clock,hb,hm,_⟩:=h
 have hf:=hm a
 have h2:=law.find a L w
 cases hl:findL a L 0 with
 | none =>
   rw [hl] at hf h2
   have hma:m a = none:=by simpa using hf.symm
   simp [Instr.lookup,run_underlying hT,Sem.run_bind,getObj,Sem.run,hb,Result.andThen,law.check,h2,hz,hma]
 | some p =>
   rw [hl] at hf h2
   obtain ⟨v,hv,hpv⟩:∃ v,m a = some v∧encV v = p.2:=by
    cases hma:m a with
    | none=>rw [hma] at hf;simp at hf
    | some v=>rw [hma] at hf;exact ⟨v,rfl,by simpa using hf.symm⟩
   simp [Instr.lookup,run_underlying hT,Sem.run_bind,getObj,Sem.run,hb,Result.andThen,law.check,h2,hv,hpv]
theorem MapAt.lookD {w:World} {pm:Nat} {m:List (Nat × Nat)} (h:MapAt encNat encNat w pm (asc m)) (a:Nat) :
  (Instr.lookup 142 (.map (some pm)) (.int .i64 a) false).run Tryz.prog w = .ok (.int .i64 (ascD m a:Nat)) w:=by
 have h1:=h.look1 natLaw (T:=142) Tryz.underlying142 _ zeroInt a
 have h2:((asc m a).map encNat).getD (.int .i64 0) = .int .i64 (ascD m a:Nat):=by
  unfold ascD
  cases asc m a <;> rfl
 rw [h2] at h1
 exact h1
theorem put_off {B:Blks} {s:St} {w:World} {pm:Nat} {m:List (Nat × Nat)} (h:Rep B s w) (hm:MapAt encNat encNat w pm (asc m)) (hne:pm∉B.mut) (hg:pm≠gPow∧pm≠gTz) (k v:Value) :
  Rep B s (putMap 3 Tryz.prog w pm k v)∧Stp [pm] B w B (putMap 3 Tryz.prog w pm k v):=by
 obtain ⟨L,cl,hb,_⟩:=hm
 refine ⟨h.offMap hb hne hg (fun j hj=>putMap_other _ _ _ _ _ j hj),Stp.of_but ?_ (by rw [putMap_size];exact Nat.le_refl _) (fun j _ hj=>putMap_other _ _ _ _ _ j (by simpa using hj))⟩
 obtain ⟨a1,a2,a3,_⟩:=putMap_rest (P:=Tryz.prog) 3 w pm k v
 exact ⟨a1,a2,a3⟩
theorem grown_step {B:Blks} {s:St} {w w':World} {base n:Nat} {v:Value} {xs:List Value} (h:Rep B s w) (hO:w.ownsRow base 3 1 v n xs) (hb:gPow < base∧gTz < base) (hg:w.grownBy w' v.ownBlock) :
  Rep B s w'∧Stp v.ownBlock.toList B w B w'∧∀ (k:Nat) (o:Obj),w.heap[k]? = some o→(∀ (c:Array Value) (f:Nat × Nat),o≠Obj.cells c 3 f)→w'.heap[k]? = some o:=by
 have hkind:∀ (k:Nat) (o:Obj),w.heap[k]? = some o→(∀ (c:Array Value) (f:Nat × Nat),o≠Obj.cells c 3 f)→w'.heap[k]? = some o:=by
  intro k o hk ho
  refine (hg.block k (Array.getElem?_eq_some_iff.1 hk).1 ?_).trans hk
  obtain ⟨_,⟨rfl,_⟩ | ⟨g,cap,cur,rfl,_,hh,_⟩⟩:=hO
  ·simp [Value.ownBlock]
  ·simp only [Value.ownBlock]
   intro e
   cases e
   rw [hh] at hk
   cases hk
   exact ho _ _ rfl
 have hgl:∀ k,k < base→k < w.heap.size→w'.heap[k]? = w.heap[k]?:=by
  intro k hk hl
  refine hg.block k hl ?_
  intro e
  have:=own_ge hO e.symm
  omega
 refine ⟨?_,Stp.of_but ⟨hg.os,hg.tape,hg.output⟩ hg.size (fun k hk hX=>hg.block k hk (fun e=>hX (by rw [←e];simp))),hkind⟩
 obtain ⟨a1,a2,a3,⟨nv,vs,hst,hns,he⟩,⟨tcs,tfz,a5,a5'⟩,⟨L6,c6,a6,b6⟩,⟨L7,c7,a7,b7⟩,⟨L8,c8,a8,b8⟩,⟨L9,c9,a9,b9⟩,a10,a11⟩:=h
 obtain ⟨cn,hcn⟩:=hns.nbk
 refine ⟨a1.same (hgl _ hb.2 a1.lt'),a2.same (hgl _ hb.1 a2.lt),a3,⟨nv,vs,hkind _ _ hst (by simp [tStore]),⟨hns.len,ownsRow_same hns.own ?_,hns.blk,fun i hi hv=>(hns.els i hi hv).same fun b c fz hb2=>(hkind _ _ hb2 (by simp [tPair])).trans hb2.symm⟩,he⟩,
  ⟨tcs,tfz,hkind _ _ a5 (by simp),a5'⟩,⟨L6,c6,hkind _ _ a6 (by simp),b6⟩,⟨L7,c7,hkind _ _ a7 (by simp),b7⟩,⟨L8,c8,hkind _ _ a8 (by simp),b8⟩,⟨L9,c9,hkind _ _ a9 (by simp),b9⟩,a10,a11⟩
 intro k hk
 rw [hns.blk] at hk
 cases hk
 exact (hkind _ _ hcn (by simp [tNode])).trans hcn.symm
def FillAt (w:World) (b:Nat) (f:Nat→Nat × Nat) (U:List Nat) (k:Nat) (w':World):Prop :=
 ∃ cs:Array Value,w'.heap[b]? = some (.cells cs tPair (0,0))∧cs.size = U.length * 2∧(∀ (j:Nat) (u:Value),(flatP ((U.take k).map f))[j]? = some u→cs[j]? = some u)∧Ext w w'
theorem FillAt.free {w w':World} {b:Nat} {f:Nat→Nat × Nat} {U:List Nat} {k:Nat} (h:FillAt w b f U k w') (hk:k < U.length) :
  (∃ u,w'.cell? ⟨b,k * 2,none⟩ = some u∧w'.frozen? ⟨b,k * 2,none⟩ = false)∧(∃ u,w'.cell? ⟨b,k * 2+1,none⟩ = some u∧w'.frozen? ⟨b,k * 2+1,none⟩ = false)∧Ext w w':=by
 obtain ⟨cs,h1,h2,h3,h4⟩:=h
 refine ⟨⟨cs[k * 2]'(by omega),?_,?_⟩,⟨cs[k * 2+1]'(by omega),?_,?_⟩,h4⟩
 ·simp [World.cell?,h1]
 ·simp [World.frozen?,h1]
 ·simp [World.cell?,h1]
 ·simp [World.frozen?,h1]
theorem FillAt.next {w w1:World} {b:Nat} {f:Nat→Nat × Nat} {U:List Nat} {k:Nat} (h:FillAt w b f U k w1) (hb:w.heap.size≤b) (hk:k < U.length) (w':World)
  (e:w' = (w1.setCell ⟨b,k * 2,none⟩ (.int .i64 ((f U[k]).1:Nat))).setCell ⟨b,k * 2+1,none⟩ (.int .i64 ((f U[k]).2:Nat))):FillAt w b f U (k+1) w':=by
 obtain ⟨cs,h1,h2,h3,h4⟩:=h
 subst e
 refine ⟨_,heap_set (heap_set h1 _ _) _ _,by simpa using h2,fun j u hj=>?_,(h4.setCell hb _).setCell hb _⟩
 rw [List.take_succ_eq_append_getElem hk,List.map_append] at hj
 simp only [flatP,List.flatMap_append,List.map_cons,List.map_nil,List.flatMap_cons,List.flatMap_nil,List.append_nil] at hj
 have hl:(((U.take k).map f).flatMap fun p=>[Value.int .i64 (p.1:Int),Value.int .i64 (p.2:Int)]).length = 2 * k:=by
  have:=flatP_len ((U.take k).map f)
  simpa [flatP,Nat.min_eq_left (Nat.le_of_lt hk)] using this
 rw [Array.getElem?_setIfInBounds,Array.getElem?_setIfInBounds]
 by_cases hj2:j < 2 * k
 ·rw [List.getElem?_append_left (by omega)] at hj
  rw [if_neg (by omega),if_neg (by omega)]
  exact h3 j u hj
 ·rw [List.getElem?_append_right (by omega),hl] at hj
  obtain ⟨i,rfl⟩:∃ i,j = 2 * k+i:=⟨j - 2 * k,by omega⟩
  rw [show 2 * k+i - 2 * k = i from by omega] at hj
  match i,hj with
  | 0,hj =>
    rw [if_neg (by omega),if_pos (by omega)]
    simp at hj
    rw [if_pos (by omega),←hj]
  | 1,hj =>
    rw [if_pos (by omega)]
    simp at hj
    rw [if_pos (by simp;omega),←hj]
  | i+2,hj=>simp at hj
theorem mkStep_some {of:St→Nat→Nat→Option (Nat × St)} {p:Nat × Nat} {r:List (Nat × Nat)} {s:St} {m:List (Nat × Nat)} {u:List Nat} {fin:St × List (Nat × Nat) × List Nat} (h:mkStep of (p :: r) s m u = some fin) :
  (∃ q z s1,asc m p.2 = some q∧of s q p.1 = some (z,s1)∧mkStep of r s1 ((p.2,z) :: m) u = some fin)∨(asc m p.2 = none∧mkStep of r s ((p.2,p.1) :: m) (u++[p.2]) = some fin):=by
 unfold mkStep at h
 split at h
 ·rename_i q hq
  split at h
  ·cases h
  ·rename_i z s1 hz
   exact .inl ⟨q,z,s1,hq,hz,h⟩
 ·rename_i hq
  exact .inr ⟨hq,h⟩
set_option maxRecDepth 100000 in
set_option maxHeartbeats 8000000 in
theorem make_any {of:St→Nat→Nat→Option (Nat × St)} (ih:OrLaw of) {B:Blks} {s s':St} {w:World} {l:List (Nat × Nat)} {v:Value} {pl r:Nat} (h:Rep B s w) (hv:ElAt w v l) (he:makeF of s pl l = some (r,s')) :
  Calls Tryz.prog 197 #[.pointer (some ⟨B.sb,0,none⟩),.int .i64 pl,v] w (RetStp [] (.int .i64 r) B s' w):=by
 obtain ⟨ba,cp,rfl,hv2⟩:=hv
 unfold makeF at he
 split at he
 ·cases he
 rename_i s1 m1 u1 hmk
 split at hmk
 rotate_left
 ·cases hmk
 rename_i hlen
 have hnil:l≠[]:=by
  rintro rfl
  simp only [mkStep,Option.some.injEq,Prod.mk.injEq] at hmk
  obtain ⟨_,_,rfl⟩:=hmk
  simp [decideF] at he
 obtain ⟨vb,vo,rfl,hrow⟩:∃ vb vo,ba = some ⟨vb,vo,none⟩∧RowAt w vb vo 165 (flatP l):=by
  rcases hv2 with ⟨_,e,_⟩ | ⟨vb,vo,e,hr⟩
  ·exact absurd e hnil
  ·exact ⟨vb,vo,e,hr⟩
 clear hv2
 obtain ⟨i0,hi0,hz0,hz1,hz2⟩:=info_parts info_int
 have hx0:Ext w (w.alloc (.map #[] 0)):=(Ext.refl w).alloc _
 have hw0:w.heap.size < (w.alloc (.map #[] 0)).heap.size:=by simp
 have hbase:gPow < w.heap.size∧gTz < w.heap.size:=⟨h.pow.lt,h.tz.lt'⟩
 have hg:w.heap.size≠gPow∧w.heap.size≠gTz:=by omega
 replace hbase:=Lib.hid hbase
 have hloop0:Hid (MkLoop of B w vb vo l (s1,m1,u1) 0 (.slice none 0 0) (w.alloc (.map #[] 0))):=Lib.hid
  ⟨B,s,[],[],h.below hx0.below,Stp.of_below hx0.below,mapNew _ _ w,(fun hc=>Nat.lt_irrefl _ (h.mut_old _ hc)),World.ownsRow_nil _ _ _ _,hrow.same (hx0.below.block _ hrow.lt),Nat.le_refl _,hmk⟩
 replace he:=Lib.hid he
 replace hnil:=Lib.hid hnil
 clear hmk hrow h hx0
 have hmm:∀ w,(Instr.makeMap 142 none).run Tryz.prog w = .ok (.map (some w.heap.size)) (w.alloc (.map #[] 0)):=fun w=>rfl
 go_enter Tryz.func197,Tryz.ntmps197
 go_wp2_with fail
 generalize w.alloc (.map #[] 0) = w1 at *
 go_loopw [8,19] (fun v i wr=>∃ k:Nat,k≤l.length∧i = .int .i64 k∧Hid (MkLoop of B w vb vo l (s1,m1,u1) k v wr))
  (fun _ i _=>l.length - (intOf i).toNat)
 case atStart=>exact ⟨0,Nat.zero_le _,rfl,hloop0⟩
 case round =>
  clear hloop0
  obtain ⟨k,hk,rfl,hI⟩:=hrel
  obtain ⟨B',sk,m,u,hRk,hSk,hM,hpm,hO,hrow,hul,hms⟩:=hI.out
  clear hI
  have hsb:B'.sb = B.sb:=hSk.sb
  by_cases hlt:k < l.length
  ·obtain ⟨e0,e1⟩:=hrow.off0 k hlt
   rw [List.drop_eq_getElem_cons hlt] at hms
   generalize l[k] = p at *
   obtain ⟨p1,p2⟩:=p
   simp only at e0 e1
   have hpn:=heap_alloc_new wr (.cells #[.int .i64 p1,.int .i64 p2] 165)
   have hx1:Ext wr (wr.alloc (.cells #[.int .i64 p1,.int .i64 p2] 165)):=(Ext.refl wr).alloc _
   have hM1:=hM.same (hx1.below.block _ hM.lt)
   have hlk:=hM1.lookI p2
   have hsz:=hSk.fr.size
   have hms':=mkStep_some hms
   clear hms
   rcases hms' with ⟨q,z,s2,hq,hof,hms⟩ | ⟨hq,hms⟩
   ·rw [hq] at hlk
    have hlk2:(Instr.lookup 142 (.map (some w.heap.size)) (.int .i64 p2) true).run Tryz.prog (wr.alloc (.cells #[.int .i64 p1,.int .i64 p2] 165)) = .ok (.tuple #[.int .i64 q,.bool true]) (wr.alloc (.cells #[.int .i64 p1,.int .i64 p2] 165)):=hlk
    have hpmw:=hM.lt
    have hR1:=hRk.below hx1.below
    have hS1:Stp [] B w B' (wr.alloc (.cells #[.int .i64 p1,.int .i64 p2] 165)):=hSk.then (Stp.of_below hx1.below)
    have hO1:=ownsRow_same (w':=wr.alloc (.cells #[.int .i64 p1,.int .i64 p2] 165)) hO (fun g hg=>hx1.below.block g (by
     obtain ⟨_,⟨e,_⟩ | ⟨g',cap,cur,e,_,hh,_⟩⟩:=hO
     ·rw [e] at hg;simp [Value.ownBlock] at hg
     ·rw [e] at hg;simp [Value.ownBlock] at hg;subst hg;exact (Array.getElem?_eq_some_iff.1 hh).1))
    have hrow1:=hrow.same (hx1.below.block _ hrow.lt)
    clear hlk hO hrow hRk hM
    obtain ⟨b0,b1⟩:=pbox_cells hpn
    replace hpn:=Lib.hid hpn
    replace hO1:=Lib.hid hO1
    replace hM1:=Lib.hid hM1
    replace hR1:=Lib.hid hR1
    replace hrow1:=Lib.hid hrow1
    replace hms:=Lib.hid hms
    replace hq:=Lib.hid hq
    replace hof:=Lib.hid hof
    go_wp2_with fail
    generalize wr.alloc (.cells #[.int .i64 p1,.int .i64 p2] 165) = w2 at *
    have hcall:=ih B' sk s2 w2.drew q p1 z (hR1.out.below ((Below.refl _ w2).drew)) hof.out
    rw [hsb] at hcall
    have hd:w2.drew.heap = w2.heap:=rfl
    have dbn:w2.drew.heap[wr.heap.size]? = some (.cells #[.int .i64 p1,.int .i64 p2] tPair (0,0)):=hpn.out
    have hnm:wr.heap.size∉B'.mut:=hR1.out.not_mut hpn.out (by decide) (by decide)
    replace dbn:=Lib.hid dbn
    clear hd
    go_region_with (go_at_call 109;refine hcall.mono ?_;rintro e w5 ⟨rfl,B5,hR5,hS5⟩;have hb5:=hS5.keep dbn.out hnm (by simp);obtain ⟨c0,c1⟩:=pbox_cells hb5;have hM5:=hM1.out.same (w':=w5) (hS5.fr.block _ hM1.out.lt (by simpa using hpm));obtain ⟨hpt,hM6⟩:=hM5.putI p2 z;have hM6:=Lib.hid hM6;have hM5:=Lib.hid hM5;have hR5:=Lib.hid hR5;have hS5:=Lib.hid hS5;clear hb5)
    all_goals
     have hpm5:w.heap.size∉B5.mut:=fun hc=>by
      rcases hS5.out.new _ hc with h1 | h1
      ·exact hpm h1
      ·have:=hM1.out.lt
       have e:w2.drew.heap.size = w2.heap.size:=rfl
       omega
     obtain ⟨hR6,hS6⟩:=put_off hR5.out hM5.out hpm5 hg (encNat p2) (encNat z)
     have hK:∀ (j:Nat) (c:Array Value) (t:TypeId) (f:Nat × Nat),w2.heap[j]? = some (Obj.cells c t f)→t≠tNode→t≠tStore→(putMap 3 Tryz.prog w5 w.heap.size (encNat p2) (encNat z)).heap[j]? = w2.heap[j]?:=fun j c t f hj h1 h2=>by
      have hne:j≠w.heap.size:=fun e=>by
       obtain ⟨L,cl,hb2,_⟩:=hM1.out
       rw [e,hb2] at hj;simp at hj
      rw [putMap_other _ _ _ _ _ j hne,hj]
      exact hS5.out.keep (w:=w2.drew) hj (hR1.out.not_mut hj h1 h2) (by simp)
     have hO6:=ownsRow_same (w':=putMap 3 Tryz.prog w5 w.heap.size (encNat p2) (encNat z)) hO1.out (fun g hgk=>by
      obtain ⟨_,⟨e2,_⟩ | ⟨g',cap,cur,e2,_,hh,_⟩⟩:=hO1.out
      ·rw [e2] at hgk;simp [Value.ownBlock] at hgk
      ·rw [e2] at hgk;simp [Value.ownBlock] at hgk;subst hgk
       exact hK _ _ _ _ hh (by decide) (by decide))
     have hrow6:RowAt (putMap 3 Tryz.prog w5 w.heap.size (encNat p2) (encNat z)) vb vo 165 (flatP l):=by
      obtain ⟨c,fz,hb,hh⟩:=hrow1.out
      exact ⟨c,fz,(hK _ _ _ _ hb (by decide) (by decide)).trans hb,hh⟩
     have hnext:Hid (MkLoop of B w vb vo l (s1,m1,u1) (k+1) u8 (putMap 3 Tryz.prog w5 w.heap.size (encNat p2) (encNat z))):=Lib.hid
      ⟨B5,s2,(p2,z) :: m,u,hR6,((hS1.then ((Stp.of_below (X:=[]) ((Below.refl _ w2).drew)).then hS5.out)).trans hS6).weak (fun x hx=>by simp at hx;subst hx;exact .inr (Nat.le_refl _)),hM6.out,hpm5,hO6,hrow6,by omega,hms.out⟩
     clear hO6 hrow6 hK hR6 hS6 hpt
     generalize putMap 3 Tryz.prog w5 w.heap.size (encNat p2) (encNat z) = w6 at *
     go_wp2_with fail
     go_roundw
     case rel=>exact ⟨k+1,by omega,by go_num,hnext⟩
     case measure=>simp [intOf];omega
   ·rw [hq] at hlk
    have hlk2:(Instr.lookup 142 (.map (some w.heap.size)) (.int .i64 p2) true).run Tryz.prog (wr.alloc (.cells #[.int .i64 p1,.int .i64 p2] 165)) = .ok (.tuple #[.int .i64 0,.bool false]) (wr.alloc (.cells #[.int .i64 p1,.int .i64 p2] 165)):=hlk
    have hpmw:=hM.lt
    have hO1:=ownsRow_same (w':=wr.alloc (.cells #[.int .i64 p1,.int .i64 p2] 165)) hO (fun g hg=>hx1.below.block g (by
     obtain ⟨_,⟨e,_⟩ | ⟨g',cap,cur,e,_,hh,_⟩⟩:=hO
     ·rw [e] at hg;simp [Value.ownBlock] at hg
     ·rw [e] at hg;simp [Value.ownBlock] at hg;subst hg;exact (Array.getElem?_eq_some_iff.1 hh).1))
    have hR1:=hRk.below hx1.below
    have hrow1:=hrow.same (hx1.below.block _ hrow.lt)
    clear hlk hO hrow hRk hM
    obtain ⟨b0,b1⟩:=pbox_cells hpn
    obtain ⟨hpt,hM2⟩:=hM1.putI p2 p1
    obtain ⟨hR2,hS2⟩:=put_off hR1 hM1 hpm hg (encNat p2) (encNat p1)
    have hoth:∀ j,j≠w.heap.size→(putMap 3 Tryz.prog (wr.alloc (.cells #[.int .i64 p1,.int .i64 p2] 165)) w.heap.size (encNat p2) (encNat p1)).heap[j]? = (wr.alloc (.cells #[.int .i64 p1,.int .i64 p2] 165)).heap[j]?:=fun j hj=>putMap_other _ _ _ _ _ j hj
    have hS1:Stp [] B w B' (wr.alloc (.cells #[.int .i64 p1,.int .i64 p2] 165)):=hSk.then (Stp.of_below hx1.below)
    generalize hW2:putMap 3 Tryz.prog (wr.alloc (.cells #[.int .i64 p1,.int .i64 p2] 165)) w.heap.size (encNat p2) (encNat p1) = w2 at *
    have hbx2:=(hoth wr.heap.size (by omega)).trans hpn
    have hrow2:=hrow1.same (hoth vb (by
     intro e
     obtain ⟨c,fz,hb,_⟩:=hrow1
     obtain ⟨L,cl,hb2,_⟩:=hM1
     rw [e,hb2] at hb;simp at hb))
    have hO2:=ownsRow_same (w':=w2) hO1 (fun g hgk=>hoth g (by
     intro e
     obtain ⟨_,⟨e2,_⟩ | ⟨g',cap,cur,e2,_,hh,_⟩⟩:=hO1
     ·rw [e2] at hgk;simp [Value.ownBlock] at hgk
     ·rw [e2] at hgk;simp [Value.ownBlock] at hgk;subst hgk
      obtain ⟨L,cl,hb2,_⟩:=hM1
      rw [e,hb2] at hh;simp at hh))
    have hsz2:w2.heap.size = wr.heap.size+1:=by rw [←hW2,putMap_size];simp
    obtain ⟨d0,d1⟩:=pbox_cells hbx2
    replace hpn:=Lib.hid hpn
    replace hbx2:=Lib.hid hbx2
    replace hO1:=Lib.hid hO1
    replace hM1:=Lib.hid hM1
    replace hM2:=Lib.hid hM2
    replace hR1:=Lib.hid hR1
    replace hR2:=Lib.hid hR2
    replace hrow1:=Lib.hid hrow1
    replace hms:=Lib.hid hms
    replace hW2:=Lib.hid hW2
    replace hq:=Lib.hid hq
    clear hoth
    go_wp2_with (at_builtin;refine wpList_append_own _ rfl _ _ 45 rfl w.heap.size 3 i0 (.int .i64 0) 1 8 Tryz.underlying45 hi0 hz0 hz1 hz2 rfl (by decide) _ _ _ rfl (hO2.alloc _) ⟨wr.heap.size+1,0,none⟩ 1 1 [.int .i64 p2] rfl rfl (cell_one_at _ _ _ _ hsz2.symm) (by simp [Value.oneCell']) (by unfold maxLen;omega) (by omega) (by simp;omega) ?_;intro v3 w3 ho3 hg3 _)
    have hxa:Ext w2 (w2.alloc (.cells #[.int .i64 p2] 3)):=(Ext.refl w2).alloc _
    obtain ⟨hR3,hS3,hK3⟩:=grown_step (hR2.out.below hxa.below) (hO2.alloc _) hbase.out hg3
    go_roundw
    case rel =>
     refine ⟨k+1,by omega,by go_num,Lib.hid ⟨B',sk,(p2,p1) :: m,u++[p2],hR3,?_,?_,hpm,?_,?_,by simp;omega,hms.out⟩⟩
     ·refine (((hS1.trans hS2).trans (Stp.of_below (X:=[]) hxa.below)).trans hS3).weak (fun x hx=>?_)
      simp only [List.nil_append,List.append_nil,List.mem_append,List.mem_singleton] at hx
      rcases hx with rfl | hx
      ·exact .inr (Nat.le_refl _)
      ·refine .inr (own_ge hO2 (k:=x) (by simpa using hx))
     ·obtain ⟨L,cl,hb,hh⟩:=hM2.out
      exact ⟨L,cl,hK3 _ _ ((hxa.below.block _ (Array.getElem?_eq_some_iff.1 hb).1).trans hb) (by simp),hh⟩
     ·exact own_cast ho3 (by simp) (by simp [encI])
     ·obtain ⟨c,fz,hb,hh⟩:=hrow2
      exact ⟨c,fz,hK3 _ _ ((hxa.below.block _ (Array.getElem?_eq_some_iff.1 hb).1).trans hb) (by simp),hh⟩
    case measure=>simp [intOf];omega
  ·obtain rfl:k = l.length:=by omega
   simp only [List.drop_length,mkStep,Option.some.injEq,Prod.mk.injEq] at hms
   obtain ⟨rfl,rfl,rfl⟩:=hms
   obtain ⟨x,rest,hu⟩:∃ x rest,u = x :: rest:=by
    cases u with
    | nil=>have:=he.out;simp [decideF] at this
    | cons x rest=>exact ⟨x,rest,rfl⟩
   subst hu
   obtain ⟨_,⟨_,e⟩ | ⟨g,cap,cur,rfl,hgb,hgh,hn,hm,hcs,ht⟩⟩:=hO
   ·simp at e
   have hcell:∀ j (hj:j < (x :: rest).length),wr.cell? ⟨g,j,none⟩ = some (.int .i64 ((x :: rest)[j]:Nat)):=fun j hj=>by
    have h1:((x :: rest).map encI)[j]? = some (encI (x :: rest)[j]):=by rw [List.getElem?_map,List.getElem?_eq_getElem hj];rfl
    rw [←ht,List.getElem?_take] at h1
    split at h1
    ·have h2:cur[j]? = some (encI (x :: rest)[j]):=by simpa using h1
     simp [World.cell?,hgh,h2,encI]
    ·simp at h1
   have hlook:=fun a=>hM.lookD a
   clear ht hcs hm hn
   cases rest with
   | nil =>
     have he':=he.out
     simp only [Option.some.injEq,Prod.mk.injEq] at he'
     obtain ⟨rfl,rfl⟩:=he'
     have c0:=hcell 0 (by simp)
     simp only [List.getElem_cons_zero] at c0
     clear hcell hlook
     replace hM:=Lib.hid hM
     replace hrow:=Lib.hid hrow
     replace hRk:=Lib.hid hRk
     simp only [List.length_cons,List.length_nil,Nat.zero_add]
     go_wp2_with fail
     go_ret
     exact ⟨rfl,B',hRk.out,hSk⟩
   | cons y rest =>
     have c0:=hcell 0 (by simp)
     have c1:=hcell 1 (by simp)
     simp only [List.getElem_cons_zero,List.getElem_cons_succ] at c0 c1
     by_cases hr:rest = []∧x < 2∧y < 2
     ·obtain ⟨rfl,hx2,hy2⟩:=hr
      have he':=he.out
      simp only [hx2,hy2,and_self,if_true,Option.some.injEq,Prod.mk.injEq] at he'
      obtain ⟨rfl,rfl⟩:=he'
      have hl1:(Instr.lookup 142 (.map (some w.heap.size)) (.int .i64 1) false).run Tryz.prog wr = .ok (.int .i64 (ascD m 1:Nat)) wr:=hlook 1
      have hd1:decide ((x:Int) < 2) = true:=decide_eq_true (by omega)
      have hd2:decide ((y:Int) < 2) = true:=decide_eq_true (by omega)
      clear hcell hlook
      replace hM:=Lib.hid hM
      replace hrow:=Lib.hid hrow
      replace hRk:=Lib.hid hRk
      simp only [List.length_cons,List.length_nil,Nat.zero_add]
      go_wp2_with fail
      go_ret
      exact ⟨rfl,B',hRk.out,hSk⟩
     ·obtain ⟨U,hU⟩:∃ U,x :: y :: rest = U:=⟨_,rfl⟩
      have hdec:Hid (decideF sk pl (U.map fun x=>(ascD m x,x)) = some (r,s')):=Lib.hid (by
       have he':=he.out
       rw [←hU]
       cases rest with
       | nil =>
         have hxy:¬ (x < 2∧y < 2):=fun e=>hr ⟨rfl,e⟩
         simpa [hxy] using he'
       | cons z rest=>exact he')
      have hU2:2≤U.length:=by rw [←hU];simp
      obtain ⟨ip,hip,hpz,hps,hpb⟩:=info_parts info_pair
      have hUl:U.length≤1048576:=by rw [hU] at hul;omega
      have hmk2:∀ w:World,(Instr.makeSlice 156 (.int .i64 U.length) (.int .i64 U.length)).run Tryz.prog w = .ok (.slice (some ⟨w.heap.size,0,none⟩) U.length U.length) (w.alloc (.cells (madeCells #[.int .i64 0,.int .i64 0] (U.length * 2)) 165)):=fun w=>by
       have h1:=run_make (P:=Tryz.prog) w 156 165 ip _ Tryz.underlying156 hip hpz .i64 .i64 U.length U.length (by omega) (Int.le_refl _) (by rw [hpb];omega) (by omega)
       simp only [Int.toNat_natCast,hps] at h1
       exact h1
      have hcU:∀ j (hj:j < U.length),wr.cell? ⟨g,j,none⟩ = some (.int .i64 (U[j]:Nat)):=by rw [←hU];exact hcell
      have h21:((U.length:Int) == 1) = false:=by simp;omega
      have hXY:(((U.length:Int) == 2) = false)∨(((U.length:Int) == 2) = true∧decide ((x:Int) < 2) = false)∨(((U.length:Int) == 2) = true∧decide ((x:Int) < 2) = true∧decide ((y:Int) < 2) = false):=by
       cases rest with
       | nil =>
         have hl2:U.length = 2:=by rw [←hU];rfl
         rw [hl2]
         by_cases hx2:x < 2
         ·have hy2:¬ y < 2:=fun e=>hr ⟨rfl,hx2,e⟩
          exact .inr (.inr ⟨rfl,decide_eq_true (by omega),decide_eq_false (by omega)⟩)
         ·exact .inr (.inl ⟨rfl,decide_eq_false (by omega)⟩)
       | cons z rest =>
         have hl2:U.length = rest.length+3:=by rw [←hU];simp
         exact .inl (by rw [hl2];simp;omega)
      have gl1:(0:Int) < U.length:=by omega
      have gl2:(1:Int) < U.length:=by omega
      rw [hU]
      clear hcell
      replace hcU:=Lib.hid hcU
      replace hlook:=Lib.hid hlook
      replace hM:=Lib.hid hM
      replace hrow:=Lib.hid hrow
      replace hRk:=Lib.hid hRk
      replace hgh:=Lib.hid hgh
      replace hU:=Lib.hid hU
      have hsz0:=Lib.hid hSk.fr.size
      rcases hXY with q1 | ⟨q1,q2⟩ | ⟨q1,q2,q3⟩
      ·skip
       go_wp2_with fail
       have hfill0:Hid (FillAt wr wr.heap.size (fun x=>(ascD m x,x)) U 0 (wr.alloc (.cells (madeCells #[.int .i64 0,.int .i64 0] (U.length * 2)) 165))):=Lib.hid ⟨_,heap_alloc_new wr _,by simp [madeCells],fun j u hj=>by simp [flatP] at hj,(Ext.refl wr).alloc _⟩
       generalize wr.alloc (.cells (madeCells #[.int .i64 0,.int .i64 0] (U.length * 2)) 165) = wm at *
       go_loopw [78] (fun i wi=>∃ k:Nat,k≤U.length∧i = .int .i64 k∧Hid (FillAt wr wr.heap.size (fun x=>(ascD m x,x)) U k wi))
        (fun i _=>U.length - (intOf i).toNat)
       case atStart=>exact ⟨0,Nat.zero_le _,rfl,hfill0⟩
       case round =>
        clear hfill0
        obtain ⟨k,hk,rfl,hI⟩:=hrel
        by_cases hlt:k < U.length
        ·obtain ⟨⟨u0,f0,z0⟩,⟨u1,f1,z1⟩,hX⟩:=hI.out.free hlt
         have hc:=hX.cell (hcU.out k hlt)
         have hlk:=(hM.out.same (hX.below.block _ hM.out.lt)).lookD U[k]
         have hnext:=fun w' h=>hI.out.next (Nat.le_refl _) hlt w' h
         generalize hxk:U[k] = xk at *
         replace hxk:=Lib.hid hxk
         replace hnext:=Lib.hid hnext
         go_wp2_with fail
         go_roundw
         case rel=>exact ⟨k+1,by omega,by go_num,Lib.hid (hnext.out _ rfl)⟩
         case measure=>simp [intOf];omega
        ·obtain rfl:k = U.length:=by omega
         obtain ⟨cs,hgo,hcs,hcc,hX⟩:=hI.out
         have hRw:=hRk.out.tight.below hX.below
         have hdq:=decide_any (cap:=U.length) (off:=0) (l:=U.map fun x=>(ascD m x,x)) hRw hgo (fun j u hj=>by rw [Nat.zero_add];exact hcc j u (by rw [List.take_length];exact hj)) (fun hc=>by have:=(List.mem_filter.1 hc).2;simp at this) (by have:=hbase.out;have:=hsz0.out;omega) (by simpa using hUl) hdec.out
         have hdq:=hdq.mono (RetStp.loose (B:=B') (fun k hk=>(List.mem_filter.1 hk).1))
         try dsimp only at hdq
         rw [hsb,List.length_map] at hdq
         replace hcc:=Lib.hid hcc
         replace hgo:=Lib.hid hgo
         replace hcs:=Lib.hid hcs
         clear hRw hI
         go_wp2_with fail
         refine hdq.mono ?_
         rintro e w9 ⟨rfl,B9,hR9,hS9⟩
         replace hR9:=Lib.hid hR9
         go_wp2_with fail
         go_ret
         exact ⟨rfl,B9,hR9.out,((hSk.then (Stp.of_below (X:=[]) hX.below)).trans hS9).weak (fun x hx=>.inr (by have:=hsz0.out;simp at hx;omega))⟩
      ·skip
       go_wp2_with fail
       have hfill0:Hid (FillAt wr wr.heap.size (fun x=>(ascD m x,x)) U 0 (wr.alloc (.cells (madeCells #[.int .i64 0,.int .i64 0] (U.length * 2)) 165))):=Lib.hid ⟨_,heap_alloc_new wr _,by simp [madeCells],fun j u hj=>by simp [flatP] at hj,(Ext.refl wr).alloc _⟩
       generalize wr.alloc (.cells (madeCells #[.int .i64 0,.int .i64 0] (U.length * 2)) 165) = wm at *
       go_loopw [78] (fun i wi=>∃ k:Nat,k≤U.length∧i = .int .i64 k∧Hid (FillAt wr wr.heap.size (fun x=>(ascD m x,x)) U k wi))
        (fun i _=>U.length - (intOf i).toNat)
       case atStart=>exact ⟨0,Nat.zero_le _,rfl,hfill0⟩
       case round =>
        clear hfill0
        obtain ⟨k,hk,rfl,hI⟩:=hrel
        by_cases hlt:k < U.length
        ·obtain ⟨⟨u0,f0,z0⟩,⟨u1,f1,z1⟩,hX⟩:=hI.out.free hlt
         have hc:=hX.cell (hcU.out k hlt)
         have hlk:=(hM.out.same (hX.below.block _ hM.out.lt)).lookD U[k]
         have hnext:=fun w' h=>hI.out.next (Nat.le_refl _) hlt w' h
         generalize hxk:U[k] = xk at *
         replace hxk:=Lib.hid hxk
         replace hnext:=Lib.hid hnext
         go_wp2_with fail
         go_roundw
         case rel=>exact ⟨k+1,by omega,by go_num,Lib.hid (hnext.out _ rfl)⟩
         case measure=>simp [intOf];omega
        ·obtain rfl:k = U.length:=by omega
         obtain ⟨cs,hgo,hcs,hcc,hX⟩:=hI.out
         have hRw:=hRk.out.tight.below hX.below
         have hdq:=decide_any (cap:=U.length) (off:=0) (l:=U.map fun x=>(ascD m x,x)) hRw hgo (fun j u hj=>by rw [Nat.zero_add];exact hcc j u (by rw [List.take_length];exact hj)) (fun hc=>by have:=(List.mem_filter.1 hc).2;simp at this) (by have:=hbase.out;have:=hsz0.out;omega) (by simpa using hUl) hdec.out
         have hdq:=hdq.mono (RetStp.loose (B:=B') (fun k hk=>(List.mem_filter.1 hk).1))
         try dsimp only at hdq
         rw [hsb,List.length_map] at hdq
         replace hcc:=Lib.hid hcc
         replace hgo:=Lib.hid hgo
         replace hcs:=Lib.hid hcs
         clear hRw hI
         go_wp2_with fail
         refine hdq.mono ?_
         rintro e w9 ⟨rfl,B9,hR9,hS9⟩
         replace hR9:=Lib.hid hR9
         go_wp2_with fail
         go_ret
         exact ⟨rfl,B9,hR9.out,((hSk.then (Stp.of_below (X:=[]) hX.below)).trans hS9).weak (fun x hx=>.inr (by have:=hsz0.out;simp at hx;omega))⟩
      ·skip
       go_wp2_with fail
       have hfill0:Hid (FillAt wr wr.heap.size (fun x=>(ascD m x,x)) U 0 (wr.alloc (.cells (madeCells #[.int .i64 0,.int .i64 0] (U.length * 2)) 165))):=Lib.hid ⟨_,heap_alloc_new wr _,by simp [madeCells],fun j u hj=>by simp [flatP] at hj,(Ext.refl wr).alloc _⟩
       generalize wr.alloc (.cells (madeCells #[.int .i64 0,.int .i64 0] (U.length * 2)) 165) = wm at *
       go_loopw [78] (fun i wi=>∃ k:Nat,k≤U.length∧i = .int .i64 k∧Hid (FillAt wr wr.heap.size (fun x=>(ascD m x,x)) U k wi))
        (fun i _=>U.length - (intOf i).toNat)
       case atStart=>exact ⟨0,Nat.zero_le _,rfl,hfill0⟩
       case round =>
        clear hfill0
        obtain ⟨k,hk,rfl,hI⟩:=hrel
        by_cases hlt:k < U.length
        ·obtain ⟨⟨u0,f0,z0⟩,⟨u1,f1,z1⟩,hX⟩:=hI.out.free hlt
         have hc:=hX.cell (hcU.out k hlt)
         have hlk:=(hM.out.same (hX.below.block _ hM.out.lt)).lookD U[k]
         have hnext:=fun w' h=>hI.out.next (Nat.le_refl _) hlt w' h
         generalize hxk:U[k] = xk at *
         replace hxk:=Lib.hid hxk
         replace hnext:=Lib.hid hnext
         go_wp2_with fail
         go_roundw
         case rel=>exact ⟨k+1,by omega,by go_num,Lib.hid (hnext.out _ rfl)⟩
         case measure=>simp [intOf];omega
        ·obtain rfl:k = U.length:=by omega
         obtain ⟨cs,hgo,hcs,hcc,hX⟩:=hI.out
         have hRw:=hRk.out.tight.below hX.below
         have hdq:=decide_any (cap:=U.length) (off:=0) (l:=U.map fun x=>(ascD m x,x)) hRw hgo (fun j u hj=>by rw [Nat.zero_add];exact hcc j u (by rw [List.take_length];exact hj)) (fun hc=>by have:=(List.mem_filter.1 hc).2;simp at this) (by have:=hbase.out;have:=hsz0.out;omega) (by simpa using hUl) hdec.out
         have hdq:=hdq.mono (RetStp.loose (B:=B') (fun k hk=>(List.mem_filter.1 hk).1))
         try dsimp only at hdq
         rw [hsb,List.length_map] at hdq
         replace hcc:=Lib.hid hcc
         replace hgo:=Lib.hid hgo
         replace hcs:=Lib.hid hcs
         clear hRw hI
         go_wp2_with fail
         refine hdq.mono ?_
         rintro e w9 ⟨rfl,B9,hR9,hS9⟩
         replace hR9:=Lib.hid hR9
         go_wp2_with fail
         go_ret
         exact ⟨rfl,B9,hR9.out,((hSk.then (Stp.of_below (X:=[]) hX.below)).trans hS9).weak (fun x hx=>.inr (by have:=hsz0.out;simp at hx;omega))⟩
end Go.Proofs.YtmnjakejhbpkoaaGreatDoor
