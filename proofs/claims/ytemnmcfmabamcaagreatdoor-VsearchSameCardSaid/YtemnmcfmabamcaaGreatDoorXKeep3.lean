import Derived.Test.YtemnmcfmabamcaaGreatDoorXNew
import Derived.Test.YtemnmcfmabamcaaGreatDoorXLaw5
import Derived.Test.YtemnmcfmabamcaaGreatDoorXReg
import Derived.Sort.OwnSortedInts
import Derived.Test.YtemnmcfmabamcaaGreatDoorXTab2
import Derived.Laws.AppendOwnNone
section
set_option linter.unusedSimpArgs false
set_option linter.unusedVariables false
namespace Go.Proofs.YtemnmcfmabamcaaGreatDoor
open Go Go.RowKit Go.Shelf
def RebuiltG (w:World) (sb:Nat) (tv lm nv:Value) (ns:List SNode) (e:Ending) (w':World):Prop :=
 e = .returned (.tuple #[])∧w'.heap[sb]? = some (.cells #[tv,lm,nv,.map (some w.heap.size),.map (some (w.heap.size+1)),.map (some (w.heap.size+1+1))] tStore (0,0)) ∧
   MapAt encKey encNat w' w.heap.size (asc (L.uniqRun ns 0 []))∧w'.heap[w.heap.size+1]? = some (.map #[] 0)∧w'.heap[w.heap.size+1+1]? = some (.map #[] 0)∧Fr [sb] w w'
def RbLoop (w4:World) (ub:Nat) (ns:List SNode) (k:Nat) (wr:World):Prop :=
 ∃ u,MapAt encKey encNat wr ub (asc u)∧L.uniqRun (ns.drop k) k u = L.uniqRun ns 0 []∧Fr [ub] w4 wr
theorem Fr.trans {M:List Nat} {a b c:World} (h:Fr M a b) (k:Fr M b c):Fr M a c :=
 ⟨k.os.trans h.os,k.tape.trans h.tape,k.output.trans h.output,Nat.le_trans h.size k.size,fun i hi hM=>(k.block i (Nat.lt_of_lt_of_le hi h.size) hM).trans (h.block i hi hM)⟩
theorem putMap_fr (K:TypeId) (w:World) (b:Nat) (k v:Value):Fr [b] w (putMap K Tryz.prog w b k v):=by
 obtain ⟨h1,h2,h3,_⟩:=putMap_rest (P:=Tryz.prog) K w b k v
 exact ⟨h1,h2,h3,by rw [putMap_size];exact Nat.le_refl _,fun j _ hM=>putMap_other K w b k v j (by simpa using hM)⟩
theorem ElAt.stay {w w':World} {v:Value} {l:List (Nat × Nat)} (h:ElAt w v l) (hs:∀ b,b < w.heap.size→(∃ c fz,w.heap[b]? = some (.cells c tPair fz))→w'.heap[b]? = w.heap[b]?):ElAt w' v l :=
 h.same fun b c fz hb=>hs b (Array.getElem?_eq_some_iff.1 hb).1 ⟨c,fz,hb⟩
set_option maxRecDepth 100000 in
set_option maxHeartbeats 2000000 in
theorem rebuild_any {w:World} {sb nb:Nat} {tv lm u0 a0 m0 nv:Value} {ns:List SNode} {vs:List Value} (hP:PowTab w) (hs:w.heap[sb]? = some (.cells #[tv,lm,nv,u0,a0,m0] tStore (0,0))) (hn:NodesAt w nv nb ns vs) (hsm:ns.length≤1048576∧∀ n∈ns,smallN n) (hgp:sb≠gPow) :
  Calls Tryz.prog 65 #[.pointer (some ⟨sb,0,none⟩)] w (RebuiltG w sb tv lm nv ns):=by
 have hmm:∀ w,(Instr.makeMap 62 none).run Tryz.prog w = .ok (.map (some w.heap.size)) (w.alloc (.map #[] 0)):=fun w=>rfl
 have hmm2:∀ w,(Instr.makeMap 64 none).run Tryz.prog w = .ok (.map (some w.heap.size)) (w.alloc (.map #[] 0)):=fun w=>rfl
 have hmm3:∀ w,(Instr.makeMap 65 none).run Tryz.prog w = .ok (.map (some w.heap.size)) (w.alloc (.map #[] 0)):=fun w=>rfl
 obtain ⟨cap,rfl⟩:=hn.form
 obtain ⟨cn,hnc⟩:=hn.nbk
 have hx3:Ext w (((w.alloc (.map #[] 0)).alloc (.map #[] 0)).alloc (.map #[] 0)):=(((Ext.refl w).alloc _).alloc _).alloc _
 obtain ⟨g0,g1,g2⟩:=three_all w (.map #[] 0) (.map #[] 0) (.map #[] 0)
 have hs3:=(hx3.below.block sb (Array.getElem?_eq_some_iff.1 hs).1).trans hs
 have c2:(((w.alloc (.map #[] 0)).alloc (.map #[] 0)).alloc (.map #[] 0)).cell? ⟨sb,2,none⟩ = some (.slice (some ⟨nb,0,none⟩) ns.length cap):=by simp [World.cell?,hs3]
 have c3:(((w.alloc (.map #[] 0)).alloc (.map #[] 0)).alloc (.map #[] 0)).cell? ⟨sb,3,none⟩ = some u0:=by simp [World.cell?,hs3]
 have c4:(((w.alloc (.map #[] 0)).alloc (.map #[] 0)).alloc (.map #[] 0)).cell? ⟨sb,4,none⟩ = some a0:=by simp [World.cell?,hs3]
 have c5:(((w.alloc (.map #[] 0)).alloc (.map #[] 0)).alloc (.map #[] 0)).cell? ⟨sb,5,none⟩ = some m0:=by simp [World.cell?,hs3]
 have f3:∀ j,(((w.alloc (.map #[] 0)).alloc (.map #[] 0)).alloc (.map #[] 0)).frozen? ⟨sb,j,none⟩ = false:=fun j=>by simp [World.frozen?,hs3]
 have f33:=f3 3
 have f34:=f3 4
 have f35:=f3 5
 replace hs3:=Lib.hid hs3
 have hnsb:nb≠sb:=by
  intro e
  rw [e,hs] at hnc
  simp [tStore,tNode] at hnc
 have hsl:=(Array.getElem?_eq_some_iff.1 hs).1
 have hs4:((((((w.alloc (.map #[] 0)).alloc (.map #[] 0)).alloc (.map #[] 0)).setCell ⟨sb,3,none⟩ (.map (some w.heap.size))).setCell ⟨sb,4,none⟩ (.map (some (w.heap.size+1)))).setCell ⟨sb,5,none⟩ (.map (some (w.heap.size+1+1)))).heap[sb]? = some (.cells #[tv,lm,.slice (some ⟨nb,0,none⟩) ns.length cap,.map (some w.heap.size),.map (some (w.heap.size+1)),.map (some (w.heap.size+1+1))] tStore (0,0)):=heap_set (heap_set (heap_set hs3.out 3 _) 4 _) 5 _
 have ho4:∀ k,k≠sb→((((((w.alloc (.map #[] 0)).alloc (.map #[] 0)).alloc (.map #[] 0)).setCell ⟨sb,3,none⟩ (.map (some w.heap.size))).setCell ⟨sb,4,none⟩ (.map (some (w.heap.size+1)))).setCell ⟨sb,5,none⟩ (.map (some (w.heap.size+1+1)))).heap[k]? = (((w.alloc (.map #[] 0)).alloc (.map #[] 0)).alloc (.map #[] 0)).heap[k]?:=fun k hk =>
  (Below.heap_setCell _ _ _ _ hk).trans ((Below.heap_setCell _ _ _ _ hk).trans (Below.heap_setCell _ _ _ _ hk))
 have hfr:Fr [sb] w ((((((w.alloc (.map #[] 0)).alloc (.map #[] 0)).alloc (.map #[] 0)).setCell ⟨sb,3,none⟩ (.map (some w.heap.size))).setCell ⟨sb,4,none⟩ (.map (some (w.heap.size+1)))).setCell ⟨sb,5,none⟩ (.map (some (w.heap.size+1+1)))) :=
  ⟨rfl,rfl,rfl,by simp [World.setCell];omega,fun k hk hM=>(ho4 k (by simpa using hM)).trans (hx3.below.block k hk)⟩
 have k0:=(ho4 _ (by omega)).trans g0
 have k1:=(ho4 _ (by omega)).trans g1
 have k2:=(ho4 _ (by omega)).trans g2
 clear f3 ho4 g0 g1 g2 hx3
 replace hs4:=Lib.hid hs4
 replace hfr:=Lib.hid hfr
 replace k0:=Lib.hid k0
 replace k1:=Lib.hid k1
 replace k2:=Lib.hid k2
 replace hnc:=Lib.hid hnc
 replace hn:=Lib.hid hn
 replace hs:=Lib.hid hs
 replace hsm:=Lib.hid hsm
 have hnl:ns.length≤1048576:=hsm.out.1
 go_enter Tryz.func65,Tryz.ntmps65
 go_wp2_with fail
 generalize (((((w.alloc (.map #[] 0)).alloc (.map #[] 0)).alloc (.map #[] 0)).setCell ⟨sb,3,none⟩ (.map (some w.heap.size))).setCell ⟨sb,4,none⟩ (.map (some (w.heap.size+1)))).setCell ⟨sb,5,none⟩ (.map (some (w.heap.size+1+1))) = w4 at *
 have hsz4:w.heap.size+1+1 < w4.heap.size:=(Array.getElem?_eq_some_iff.1 k2.out).1
 generalize hub:w.heap.size = ub at *
 have hpow:∀ wr,Fr [ub] w4 wr→PowTab wr:=fun wr hf=>hP.same ((hf.block _ (by have:=hP.lt;omega) (by have:=hP.lt;simp;omega)).trans (hfr.out.block _ (by have:=hP.lt;omega) (by simp;omega)))
 have hold:∀ wr,Fr [ub] w4 wr→∀ b,b < ub→b≠sb→wr.heap[b]? = w.heap[b]?:=fun wr hf b hb hne=>(hf.block b (by omega) (by simp;omega)).trans (hfr.out.block b (by omega) (by simpa using hne))
 have hnode:Hid (∀ wr,Fr [ub] w4 wr→∀ k (hk:k < ns.length) (hv:k < vs.length),wr.cell? ⟨nb,k * 5,none⟩ = some (.int .i64 ns[k].pl)∧wr.cell? ⟨nb,k * 5+1,none⟩ = some (.int .i64 ns[k].lit)∧wr.cell? ⟨nb,k * 5+2,none⟩ = some vs[k] ∧
   wr.cell? ⟨nb,k * 5+3,none⟩ = some (.int .u64 (lo ns[k].le))∧wr.cell? ⟨nb,k * 5+4,none⟩ = some (.int .u64 (hi ns[k].le))∧ElAt wr vs[k] ns[k].el):=Lib.hid fun wr hf k hk hv=>by
  have hb:wr.heap[nb]? = w.heap[nb]?:=hold wr hf nb (by have:=(Array.getElem?_eq_some_iff.1 hnc.out).1;omega) hnsb
  obtain ⟨n0,n1,n2,n3,n4⟩:=hn.out.cells k hk hv
  have tr:∀ o,wr.cell? ⟨nb,o,none⟩ = w.cell? ⟨nb,o,none⟩:=fun o=>World.cell?_of_block (a:=⟨nb,o,none⟩) hb
  refine ⟨(tr _).trans n0,(tr _).trans n1,(tr _).trans n2,(tr _).trans n3,(tr _).trans n4,(hn.out.els k hk hv).stay fun b hb hc=>hold wr hf b (by omega) fun e=>?_⟩
  obtain ⟨c,fz,hc⟩:=hc
  rw [e,hs.out] at hc
  simp [tStore,tPair] at hc
 have hsc:Hid (∀ wr,Fr [ub] w4 wr→wr.heap[sb]? = w4.heap[sb]?):=Lib.hid fun wr hf=>hf.block sb (by omega) (by simp;omega)
 have hvl:vs.length = ns.length:=hn.out.len
 replace hold:=Lib.hid hold
 replace hpow:=Lib.hid hpow
 have hloop:Hid (RbLoop w4 ub ns 0 w4):=Lib.hid ⟨[],mapEmpty _ _ k0.out,rfl,Fr.refl _ _⟩
 clear c2 c3 c4 c5 f33 f34 f35
 replace hub:=Lib.hid hub
 go_loopw [21] (fun i wr=>∃ k:Nat,k≤ns.length∧i = .int .i64 k∧Hid (RbLoop w4 ub ns k wr)) (fun i _=>ns.length - (intOf i).toNat)
 case atStart=>exact ⟨0,Nat.zero_le _,rfl,hloop⟩
 case round =>
  clear hloop
  obtain ⟨k,hk,rfl,hI⟩:=hrel
  obtain ⟨u,hu,hur,hf⟩:=hI.out
  clear hI
  by_cases hlt:k < ns.length
  ·obtain ⟨n0,n1,n2,n3,n4,hel⟩:=hnode.out wr hf k hlt (by omega)
   rw [List.drop_eq_getElem_cons hlt,L.uniqRun] at hur
   have hsn:=hsm.out.2 _ (List.getElem_mem hlt)
   generalize ns[k] = n at *
   generalize vs[k]'(by omega) = v at *
   obtain ⟨bv,cv,rfl,hrow⟩:=id hel
   clear hrow
   have hfb:Fr [ub] w4 (wr.alloc (.cells #[.int .i64 n.pl,.int .i64 n.lit,.slice bv n.el.length cv,.int .u64 (lo n.le),.int .u64 (hi n.le)] 101)):=hf.trans (Fr.of_below ((Below.refl _ _).alloc (Nat.le_refl _) _))
   have hbox:=heap_alloc_new wr (.cells #[.int .i64 n.pl,.int .i64 n.lit,.slice bv n.el.length cv,.int .u64 (lo n.le),.int .u64 (hi n.le)] 101)
   have hel2:ElAt (wr.alloc (.cells #[.int .i64 n.pl,.int .i64 n.lit,.slice bv n.el.length cv,.int .u64 (lo n.le),.int .u64 (hi n.le)] 101)) (.slice bv n.el.length cv) n.el:=hel.stay fun b hb _=>Below.heap_alloc _ _ _ hb
   have hu2:=hu.same (w':=wr.alloc (.cells #[.int .i64 n.pl,.int .i64 n.lit,.slice bv n.el.length cv,.int .u64 (lo n.le),.int .u64 (hi n.le)] 101)) (Below.heap_alloc _ _ _ hu.lt)
   have hxs:wr.heap.size < (wr.alloc (.cells #[.int .i64 n.pl,.int .i64 n.lit,.slice bv n.el.length cv,.int .u64 (lo n.le),.int .u64 (hi n.le)] 101)).heap.size:=by simp
   have hubx:=hu.lt
   have hwx:=hf.size
   replace hel2:=Lib.hid hel2
   replace hu2:=Lib.hid hu2
   replace hfb:=Lib.hid hfb
   replace hbox:=Lib.hid hbox
   replace hu:=Lib.hid hu
   replace hur:=Lib.hid hur
   replace hf:=Lib.hid hf
   clear hel
   by_cases hp:0≤n.pl
   ·have dp:decide (n.pl≥0) = true:=decide_eq_true hp
    go_wp2_with fail
    generalize hwb:wr.alloc (.cells #[.int .i64 n.pl,.int .i64 n.lit,.slice bv n.el.length cv,.int .u64 (lo n.le),.int .u64 (hi n.le)] 101) = wb at *
    generalize wr.heap.size = x at *
    have hF:Hid (∀ W:World,W.heap[sb]? = wb.heap[sb]?→W.heap[x]? = wb.heap[x]?→W.cell? ⟨sb,3,none⟩ = some (.map (some ub))∧W.cell? ⟨x,0,none⟩ = some (.int .i64 n.pl)∧W.cell? ⟨x,1,none⟩ = some (.int .i64 n.lit)∧W.cell? ⟨x,2,none⟩ = some (.slice bv n.el.length cv)∧W.cell? ⟨x,3,none⟩ = some (.int .u64 (lo n.le))∧W.cell? ⟨x,4,none⟩ = some (.int .u64 (hi n.le))):=Lib.hid fun W h1 h2=>by
     rw [hsc.out wb hfb.out,hs4.out] at h1
     rw [hbox.out] at h2
     exact ⟨by simp [World.cell?,h1],by simp [World.cell?,h2],by simp [World.cell?,h2],by simp [World.cell?,h2],by simp [World.cell?,h2],by simp [World.cell?,h2]⟩
    have hxl:x < wb.heap.size:=(Array.getElem?_eq_some_iff.1 hbox.out).1
    obtain ⟨s1,s2,s3,s4,s5,s6⟩:=hsn
    have hkey:=key_any n.pl n.lit n.el (.slice bv n.el.length cv) (lo n.le) (hi n.le) wb.drew (hpow.out wb hfb.out) (hel2.out.stay (fun b _ _=>rfl)).slp ⟨s5,s6⟩ s1 s2 s3 s4
    have hsbl:sb < wb.heap.size:=by have:=hfb.out.size;omega
    have hubl:ub < wb.heap.size:=by have:=hfb.out.size;omega
    replace hwb:=Lib.hid hwb
    (refine wp_region_held_drew (S:=(fun W=>W.cell? ⟨sb,3,none⟩ = some (.map (some ub))∧W.cell? ⟨x,0,none⟩ = some (.int .i64 n.pl)∧W.cell? ⟨x,1,none⟩ = some (.int .i64 n.lit)∧W.cell? ⟨x,2,none⟩ = some (.slice bv n.el.length cv)∧W.cell? ⟨x,3,none⟩ = some (.int .u64 (lo n.le))∧W.cell? ⟨x,4,none⟩ = some (.int .u64 (hi n.le)))) (by kernel_rfl) ?_ (fun hHeld=>?_))
    ·exact hF.out _ rfl rfl
    (refine takeL (i:=0) (v:=?_) rfl (by kernel_rfl) (by kernel_rfl) (by kernel_rfl) (fun _ _ _ h=>h) (Or.inl ⟨by rfl,?_⟩) (by assumption) ?_)
    rotate_left
    ·(intro w hSw;(try dsimp only at hSw);go_simp;first | done | with_reducible rfl)
    (try simp only [Act.put,List.setIfInBounds_toArray,List.set_cons_zero,List.set_cons_succ])
    (refine takeL (i:=1) (v:=?_) rfl (by kernel_rfl) (by kernel_rfl) (by kernel_rfl) (fun _ _ _ h=>h) (Or.inl ⟨by rfl,?_⟩) (by assumption) ?_)
    rotate_left
    ·(intro w hSw;(try dsimp only at hSw);go_simp;first | done | with_reducible rfl)
    (try simp only [Act.put,List.setIfInBounds_toArray,List.set_cons_zero,List.set_cons_succ])
    (refine takeL (i:=2) (v:=?_) rfl (by kernel_rfl) (by kernel_rfl) (by kernel_rfl) (fun _ _ _ h=>h) (Or.inl ⟨by rfl,?_⟩) (by assumption) ?_)
    rotate_left
    ·(intro w hSw;(try dsimp only at hSw);go_simp;first | done | with_reducible rfl)
    (try simp only [Act.put,List.setIfInBounds_toArray,List.set_cons_zero,List.set_cons_succ])
    (refine takeL (i:=3) (v:=?_) rfl (by kernel_rfl) (by kernel_rfl) (by kernel_rfl) (fun _ _ _ h=>h) (Or.inl ⟨by rfl,?_⟩) (by assumption) ?_)
    rotate_left
    ·(intro w hSw;(try dsimp only at hSw);go_simp;first | done | with_reducible rfl)
    (try simp only [Act.put,List.setIfInBounds_toArray,List.set_cons_zero,List.set_cons_succ])
    (refine takeL (i:=4) (v:=?_) rfl (by kernel_rfl) (by kernel_rfl) (by kernel_rfl) (fun _ _ _ h=>h) (Or.inl ⟨by rfl,?_⟩) (by assumption) ?_)
    rotate_left
    ·(intro w hSw;(try dsimp only at hSw);go_simp;first | done | with_reducible rfl)
    (try simp only [Act.put,List.setIfInBounds_toArray,List.set_cons_zero,List.set_cons_succ])
    (refine takeL (i:=6) (v:=?_) rfl (by kernel_rfl) (by kernel_rfl) (by kernel_rfl) (fun _ _ _ h=>h) (Or.inl ⟨by rfl,?_⟩) (by assumption) ?_)
    rotate_left
    ·(intro w hSw;(try dsimp only at hSw);go_simp;first | done | with_reducible rfl)
    (try simp only [Act.put,List.setIfInBounds_toArray,List.set_cons_zero,List.set_cons_succ])
    (refine wpAnyH_ready (rs:=[5]) (by kernel_rfl) (by simp) ?_)
    (refine consL rfl (fun K hK=>?_))
    ((rw [if_pos (by rfl)]);go_simp;(go_at_call 98);refine hkey.mono ?_;rintro e wa ⟨rfl,hba⟩;have g1:wa.heap[sb]? = wb.heap[sb]?:=hba.block sb hsbl;have g2:wa.heap[x]? = wb.heap[x]?:=hba.block x hxl;have hua:=Lib.hid (hu2.out.same (w':=wa) (hba.block ub hubl));have hfa:=Lib.hid (hfb.out.trans ((Fr.of_below (M:=[ub]) (Below.refl wb.heap.size wb).drew).trans (Fr.of_below hba)));refine hK.out _ _ (hF.out _ g1 g2) (fun hHeld=>?_))
    (clear hK K)
    (try simp only [Act.put,List.setIfInBounds_toArray,List.set_cons_zero,List.set_cons_succ])
    obtain ⟨hpt,hM⟩:=hua.out.put keyLawS (T:=64) Tryz.underlying64 (n.pl,n.lit,n.el) k
    have hpt2:(Instr.mapUpdate 64 (.map (some ub)) (.string ⟨(keyB n.pl n.lit n.el).toArray⟩) (.int .i64 (k:Nat))).run Tryz.prog wa = .ok () (putMap 9 Tryz.prog wa ub (encKey (n.pl,n.lit,n.el)) (encNat k)):=hpt
    have hnext:Hid (RbLoop w4 ub ns (k+1) (putMap 9 Tryz.prog wa ub (encKey (n.pl,n.lit,n.el)) (encNat k))):=Lib.hid
     ⟨((n.pl,n.lit,n.el),k) :: u,by rw [asc_cons];exact hM,by have:=hur.out;rwa [if_pos hp] at this,hfa.out.trans (putMap_fr _ _ _ _ _)⟩
    have g3:=(putMap_other (P:=Tryz.prog) 9 wa ub (encKey (n.pl,n.lit,n.el)) (encNat k) sb (by omega)).trans g1
    have g4:=(putMap_other (P:=Tryz.prog) 9 wa ub (encKey (n.pl,n.lit,n.el)) (encNat k) x (by omega)).trans g2
    clear hpt hM hua
    generalize putMap 9 Tryz.prog wa ub (encKey (n.pl,n.lit,n.el)) (encNat k) = wz at *
    (refine wpAnyH_ready (rs:=[7]) (by kernel_rfl) (by simp) ?_)
    (refine consL rfl (fun K hK=>?_))
    ((rw [if_pos (by rfl)]);go_simp;refine hK.out _ _ (hF.out _ g3 g4) (fun hHeld=>?_))
    (clear hK K)
    (try simp only [Act.put,List.setIfInBounds_toArray,List.set_cons_zero,List.set_cons_succ])
    (refine wpAnyH_done (by kernel_rfl) ?_ _)
    clear g1 g2 g3 g4 hpt2
    go_wp2_with fail
    go_roundw
    case rel=>exact ⟨k+1,by omega,by go_num,hnext⟩
    case measure=>simp [intOf];omega
   ·have dp:decide (n.pl≥0) = false:=decide_eq_false hp
    have hnext:Hid (RbLoop w4 ub ns (k+1) (wr.alloc (.cells #[.int .i64 n.pl,.int .i64 n.lit,.slice bv n.el.length cv,.int .u64 (lo n.le),.int .u64 (hi n.le)] 101))):=Lib.hid ⟨u,hu2.out,by have:=hur.out;rwa [if_neg hp] at this,hfb.out⟩
    go_wp2_with fail
    go_roundw
    case rel=>exact ⟨k+1,by omega,by go_num,hnext⟩
    case measure=>simp [intOf];omega
  ·obtain rfl:k = ns.length:=by omega
   rw [List.drop_length] at hur
   have hfin:Hid (RebuiltG w sb tv lm (.slice (some ⟨nb,0,none⟩) ns.length cap) ns (.returned (.tuple #[])) wr):=Lib.hid (by
    have hw:=hub.out
    unfold RebuiltG
    rw [hw]
    exact ⟨rfl,(hsc.out wr hf).trans hs4.out,by rw [←hur];exact hu,(hf.block _ (by omega) (by simp)).trans k1.out,(hf.block _ (by omega) (by simp;omega)).trans k2.out,
     hf.os.trans hfr.out.os,hf.tape.trans hfr.out.tape,hf.output.trans hfr.out.output,Nat.le_trans hfr.out.size hf.size,fun b hb hM=>hold.out wr hf b (by omega) (by simpa using hM)⟩)
   clear hu hur hf
   go_wp2_with fail
   go_end0
   exact hfin.out
end Go.Proofs.YtemnmcfmabamcaaGreatDoor
end
section
set_option linter.unusedSimpArgs false
set_option linter.unusedVariables false
namespace Go.Proofs.YtemnmcfmabamcaaGreatDoor
open Go Go.RowKit Go.Shelf
theorem Fr.seq {M N:List Nat} {w0 w w':World} (h:Fr N w0 w) (k:Fr M w w') (hM:∀ x∈M,x∈N∨w0.heap.size≤x):Fr N w0 w' :=
 ⟨k.os.trans h.os,k.tape.trans h.tape,k.output.trans h.output,Nat.le_trans h.size k.size,fun i hi hn=>(k.block i (Nat.lt_of_lt_of_le hi h.size) (fun hc=>(hM i hc).elim hn (fun h=>by omega))).trans (h.block i hi hn)⟩
theorem Fr.setCell {w:World} (b o:Nat) (v:Value):Fr [b] w (w.setCell ⟨b,o,none⟩ v) :=
 ⟨rfl,rfl,rfl,by simp [World.setCell],fun k _ hk=>Below.heap_setCell _ _ _ _ (by simpa using hk)⟩
theorem Fr.get {M:List Nat} {w w':World} (h:Fr M w w') {k:Nat} {o:Obj} (hk:w.heap[k]? = some o) (hM:k∉M):w'.heap[k]? = some o:=(h.block k (Array.getElem?_eq_some_iff.1 hk).1 hM).trans hk
theorem wpList_append_slI {w:World} {ops:Array Oper} {rest:List Oper} {o:Oper} {a:Act} {Q:Exit→Act→World→Prop} (hgd:o.guard = none) (s x:Operand)
  (ho:o.op = .call { callee:=.builtin .append,args:=#[s,x],argTypes:=#[76,76] }) (base:Nat) (i:TypeInfo) (hi:Tryz.prog.info? 3 = some i) (hz:i.zero = some (.int .i64 0)) (hsize:i.size = 1) (hby:i.bytes = 8)
  (v:Value) (n:Nat) (xs:List Value) (hs:a.eval s = v) (hown:w.ownsRow base 3 1 v n xs) (ba:Option Addr) (c:Nat) (l:List Int) (hx:a.eval x = .slice ba l.length c)
  (hsl:(ba = none∧l = []∧c = 0)∨∃ b o,ba = some ⟨b,o,none⟩∧∀ j (hj:j < l.length),w.cell? ⟨b,o+j,none⟩ = some (.int .i64 l[j])) (hn:n+l.length≤1100000) (hbase:base≤w.heap.size)
  (h:∀ v' w',w'.ownsRow base 3 1 v' (n+l.length) (xs++l.map encZ)→w.grownBy w' v.ownBlock→wpList Tryz.prog ops Q rest (a.put o.dst v') w'):wpList Tryz.prog ops Q (o :: rest) a w:=by
 rcases hsl with ⟨rfl,rfl,rfl⟩ | ⟨b,of,rfl,hc⟩
 ·exact wpList_append_own_none hgd s x 76 ho base 3 i 1 Tryz.underlying76 hi v n xs hs hown hx (h v w (by simpa using hown) ⟨rfl,rfl,rfl,Nat.le_refl _,fun _ _ _=>rfl⟩)
 ·refine wpList_append_own (w:=w) hgd s x 76 ho base 3 i _ 1 8 Tryz.underlying76 hi hz hsize hby rfl (by decide) v n xs hs hown ⟨b,of,none⟩ l.length c (l.map encZ) hx (by simp) (fun j u hj=>?_) (fun u hu=>?_) (by unfold maxLen;omega) (by omega) hbase (fun v' w' h1 h2 _=>h v' w' h1 h2)
  ·obtain ⟨z,hz1,rfl⟩:=List.getElem?_map .. ▸ hj |> Option.map_eq_some_iff.1
   obtain ⟨hjl,rfl⟩:=List.getElem?_eq_some_iff.1 hz1
   rw [Addr.add_lit]
   exact hc j hjl
  ·obtain ⟨z,_,rfl⟩:=List.mem_map.1 hu
   rfl
theorem clone_el {w:World} {v:Value} {l:List (Nat × Nat)} (h:ElAt w v l) (hl:l.length≤1048576):Calls Tryz.prog 118 #[v] w fun e w'=>∃ ba cap,e = .returned (.slice ba l.length cap)∧((l = []∧ba = none∧cap = 0)∨∃ (g:Nat) (cs:Array Value),ba = some ⟨g,0,none⟩∧w.heap.size≤g∧w'.heap[g]? = some (.cells cs tPair (0,0))∧∀ (j:Nat) (u:Value),(flatP l)[j]? = some u→cs[j]? = some u)∧Below w.heap.size w w':=by
 obtain ⟨ba,c,rfl,⟨rfl,rfl,rfl⟩ | ⟨b,o,rfl,hr⟩⟩:=h
 ·refine (clone_pairs_nil w).mono ?_
  rintro e w' ⟨rfl,rfl⟩
  exact ⟨none,0,rfl,.inl ⟨rfl,rfl,rfl⟩,Below.refl _ _⟩
 ·refine (clone_pairs w b o c l hr hl).mono ?_
  rintro e w' ⟨g,cap,cs,rfl,h1,h2,h3,h4⟩
  exact ⟨_,cap,rfl,.inr ⟨g,cs,rfl,h1,h2,fun j u hj=>by have:=h3 j u hj;rwa [Nat.zero_add] at this⟩,h4⟩
theorem sort_own {w:World} {base:Nat} {v:Value} {l:List Nat} (ho:w.ownsRow base 3 1 v l.length (l.map encI)) (hne:l≠[]) (hl:l.length≤1048576) :
  Calls Tryz.prog 121 #[v] w fun e w'=>e = .returned (.tuple #[])∧∃ b:List Nat,b.Perm l∧b.Pairwise (·≤·)∧w'.ownsRow base 3 1 v b.length (b.map encI)∧w.grownBy w' v.ownBlock:=by
 rcases ho.2 with ⟨rfl,e⟩ | ⟨g,cap,cur,rfl,hbase,hb,h1,h2,h3,h4⟩
 ·exact absurd (List.length_eq_zero_iff.1 e) hne
 ·have em:l.map encI = (l.map fun n:Nat=>(n:Int)).map (Value.int .i64):=by rw [List.map_map];rfl
  rw [em,show l.length = (l.map fun n:Nat=>(n:Int)).length by simp] at h4
  have hcall:=AnyM.slices_Sort_int Tryz.sortInt g 0 cap (l.map fun n:Nat=>(n:Int)) w (holds_of_blockI hb (by simpa using h4)) (Array.getElem?_eq_some_iff.1 hb).1 (by simp;omega)
  have hperm:=List.mergeSort_perm (l.map fun n:Nat=>(n:Int)) (fun x y=>decide (x≤y))
  have hpw:=List.pairwise_mergeSort (le:=fun x y:Int=>decide (x≤y)) (by intro a b c h1 h2;simp only [decide_eq_true_eq] at *;omega) (by intro a b;simp only [Bool.or_eq_true,decide_eq_true_eq];omega) (l.map fun n:Nat=>(n:Int))
  generalize hz:(l.map fun n:Nat=>(n:Int)).mergeSort (fun x y=>decide (x≤y)) = zs at *
  obtain ⟨b,hbz⟩:∃ b:List Nat,zs = b.map fun n:Nat=>(n:Int):=by
   refine ⟨zs.map Int.toNat,?_⟩
   rw [List.map_map]
   have:∀ z∈zs,((fun n:Nat=>(n:Int)) ∘ Int.toNat) z = z:=fun z hz'=>by
    obtain ⟨n,_,rfl⟩:=List.mem_map.1 (hperm.mem_iff.1 hz')
    simp
   exact (List.map_congr_left this).trans (List.map_id zs) |>.symm
  subst hbz
  have hinj:∀ {a c:List Nat},(a.map fun n:Nat=>(n:Int)).Perm (c.map fun n:Nat=>(n:Int))→a.Perm c:=fun {a c} h=>by
   have:=h.map Int.toNat
   simpa [List.map_map,Function.comp_def] using this
  rw [List.length_map] at hcall
  refine hcall.mono ?_
  rintro e w' ⟨rfl,n,os,rfl⟩
  have hbl:b.length = l.length:=(hinj hperm).length_eq
  refine ⟨rfl,b,hinj hperm,?_,?_,grownBy_sortedI _⟩
  ·rw [List.pairwise_map] at hpw
   exact hpw.imp fun h=>by simpa using h
  ·have:=ownsRow_sortedI (n:=n) (os:=os) (ss:=l.map fun n:Nat=>(n:Int)) (ts:=b.map fun n:Nat=>(n:Int)) (by simp [hbl]) hbase hb (by simpa using h1) h2 h3
   have e2:b.map encI = (b.map fun n:Nat=>(n:Int)).map (Value.int .i64):=by rw [List.map_map];rfl
   rw [e2,hbl]
   simpa using this
end Go.Proofs.YtemnmcfmabamcaaGreatDoor
end
section
set_option linter.unusedSimpArgs false
set_option linter.unusedVariables false
namespace Go.Proofs.YtemnmcfmabamcaaGreatDoor
open Go Go.RowKit Go.Shelf
structure KeepL (ns:List SNode) (b:List Nat) (w8:World) (pm g i:Nat) (wr:World):Prop where
 nums:∃ m,MapAt encNat encNat wr pm (asc m)∧∀ j (hj:j < b.length),j < i→asc m b[j] = some j
 row:∃ (cs:Array Value) (vs:List Value),wr.heap[g]? = some (.cells cs tNode (0,0))∧cs.size = b.length * 5∧vs.length = i∧(∀ (j:Nat) (u:Value),(flatN ((L.keepNodes ns b).take i) vs)[j]? = some u→cs[j]? = some u)∧(∀ j (hj:j < vs.length) (hk:j < (L.keepNodes ns b).length),ElAt wr vs[j] (L.keepNodes ns b)[j].el)∧∀ v∈vs,∀ x,v.ownBlock = some x→w8.heap.size≤x
 fr:Fr [pm,g] w8 wr
def ElL (el:List (Nat × Nat)) (f:Nat × Nat→Nat × Nat) (w12:World) (bc:Option Addr) (lo k:Nat) (wr:World):Prop :=
 Below lo w12 wr∧((el = []∧bc = none)∨∃ (h:Nat) (cs:Array Value),bc = some ⟨h,0,none⟩∧lo≤h∧wr.heap[h]? = some (.cells cs tPair (0,0))∧∀ (j:Nat) (u:Value),(flatP ((el.take k).map f++el.drop k))[j]? = some u→cs[j]? = some u)
theorem flatP_get_lt {l:List (Nat × Nat)} {j:Nat} {u:Value} (h:(flatP l)[j]? = some u):j < l.length * 2:=by
 have:=(List.getElem?_eq_some_iff.1 h).1
 rw [flatP_len] at this
 omega
theorem flatP_put {l m:List (Nat × Nat)} {k:Nat} {q:Nat × Nat} (hk:k < l.length) (hm:m = l.set k q) {cs:Array Value} (hc:∀ (j:Nat) (u:Value),(flatP l)[j]? = some u→cs[j]? = some u) :
  ∀ (j:Nat) (u:Value),(flatP m)[j]? = some u→((cs.setIfInBounds (k * 2) (.int .i64 (q.1:Nat))).setIfInBounds (k * 2+1) (.int .i64 (q.2:Nat)))[j]? = some u:=by
 subst hm
 intro j u hj
 have hjl:=flatP_get_lt hj
 rw [List.length_set] at hjl
 have hsz:l.length * 2≤cs.size:=by
  have h1:=(flatP_get l (l.length - 1) (by omega)).2
  have:=(Array.getElem?_eq_some_iff.1 (hc _ _ h1)).1
  omega
 rw [Array.getElem?_setIfInBounds,Array.getElem?_setIfInBounds]
 obtain ⟨t,ht⟩:∃ t,j = t * 2∨j = t * 2+1:=⟨j / 2,by omega⟩
 have htl:t < l.length:=by omega
 have htl2:t < (l.set k q).length:=by rw [List.length_set];exact htl
 obtain ⟨g1,g2⟩:=flatP_get (l.set k q) t htl2
 obtain ⟨o1,o2⟩:=flatP_get l t htl
 rw [List.getElem_set] at g1 g2
 rcases ht with rfl | rfl
 ·rw [if_neg (by omega)]
  rw [g1] at hj
  by_cases e:k = t
  ·subst e
   rw [if_pos rfl,if_pos (by omega)]
   rw [if_pos rfl] at hj
   exact hj
  ·rw [if_neg (by omega)]
   rw [if_neg e] at hj
   rw [←hj]
   exact hc _ _ o1
 ·rw [g2] at hj
  by_cases e:k = t
  ·subst e
   rw [if_pos rfl,if_pos (by simp;omega)]
   rw [if_pos rfl] at hj
   exact hj
  ·rw [if_neg (by omega),if_neg (by omega)]
   rw [if_neg e] at hj
   rw [←hj]
   exact hc _ _ o2
theorem mix_set (el:List (Nat × Nat)) (f:Nat × Nat→Nat × Nat) (k:Nat) (hk:k < el.length):(el.take (k+1)).map f++el.drop (k+1) = ((el.take k).map f++el.drop k).set k (f el[k]):=by
 apply List.ext_getElem?
 intro j
 rw [List.getElem?_set]
 have hl:((el.take k).map f).length = k:=by simp;omega
 have hl1:((el.take (k+1)).map f).length = k+1:=by simp;omega
 rcases Nat.lt_trichotomy j k with h | h | h
 ·rw [if_neg (by omega),List.getElem?_append_left (by omega),List.getElem?_append_left (by omega),List.getElem?_map,List.getElem?_map,List.getElem?_take_of_lt h,List.getElem?_take_of_lt (by omega)]
 ·subst h
  rw [if_pos rfl,List.getElem?_append_left (by omega),List.getElem?_map,List.getElem?_take_of_lt (by omega),List.getElem?_eq_getElem hk]
  rw [if_pos (by simp;omega)];rfl
 ·rw [if_neg (by omega),List.getElem?_append_right (by omega),List.getElem?_append_right (by omega),hl,hl1,List.getElem?_drop,List.getElem?_drop]
  congr 1
  omega
theorem mix_get (el:List (Nat × Nat)) (f:Nat × Nat→Nat × Nat) (k:Nat) (hk:k < el.length):∃ h:k < ((el.take k).map f++el.drop k).length,((el.take k).map f++el.drop k)[k] = el[k]:=by
 have hl:((el.take k).map f).length = k:=by simp;omega
 refine ⟨by simp;omega,?_⟩
 rw [List.getElem_append_right (by omega)]
 simp only [List.getElem_drop]
 congr 1
 omega
theorem flatN_set {ns:List SNode} {vs:List Value} {n:SNode} {v:Value} {i:Nat} (hl:vs.length = ns.length) (hin:ns.length = i) {cs:Array Value} {N:Nat} (hs:cs.size = N * 5) (hN:i < N) (hc:∀ (j:Nat) (u:Value),(flatN ns vs)[j]? = some u→cs[j]? = some u) :
  ∀ (j:Nat) (u:Value),(flatN (ns++[n]) (vs++[v]))[j]? = some u→(((((cs.setIfInBounds (i * 5) (.int .i64 n.pl)).setIfInBounds (i * 5+1) (.int .i64 n.lit)).setIfInBounds (i * 5+2) v).setIfInBounds (i * 5+3) (.int .u64 (lo n.le))).setIfInBounds (i * 5+4) (.int .u64 (hi n.le)))[j]? = some u:=by
 intro j u hj
 rw [flatN_snoc _ _ _ _ hl] at hj
 have hfl:=flatN_len ns vs hl
 by_cases hlt:j < ns.length * 5
 ·rw [List.getElem?_append_left (by omega)] at hj
  simp only [Array.getElem?_setIfInBounds]
  rw [if_neg (by omega),if_neg (by omega),if_neg (by omega),if_neg (by omega),if_neg (by omega)]
  exact hc j u hj
 ·rw [List.getElem?_append_right (by omega),hfl] at hj
  obtain ⟨t,rfl⟩:∃ t,j = i * 5+t:=⟨j - i * 5,by omega⟩
  have e:i * 5+t - ns.length * 5 = t:=by omega
  rw [e] at hj
  have ht:t < 5:=by
   have:=(List.getElem?_eq_some_iff.1 hj).1
   simpa [nodeCells] using this
  simp only [Array.getElem?_setIfInBounds,Array.size_setIfInBounds]
  match t,ht with
  | 0,_=>rw [if_neg (by omega),if_neg (by omega),if_neg (by omega),if_neg (by omega),if_pos (by omega),if_pos (by omega)];simpa [nodeCells] using hj
  | 1,_=>rw [if_neg (by omega),if_neg (by omega),if_neg (by omega),if_pos (by omega),if_pos (by omega)];simpa [nodeCells] using hj
  | 2,_=>rw [if_neg (by omega),if_neg (by omega),if_pos (by omega),if_pos (by omega)];simpa [nodeCells] using hj
  | 3,_=>rw [if_neg (by omega),if_pos (by omega),if_pos (by omega)];simpa [nodeCells] using hj
  | 4,_=>rw [if_pos (by omega),if_pos (by omega)];simpa [nodeCells] using hj
end Go.Proofs.YtemnmcfmabamcaaGreatDoor
end
