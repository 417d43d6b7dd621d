import Derived.Test.YtemnmcfmabamcaaGreatDoorWNew
import Derived.Test.YtemnmcfmabamcaaGreatDoorWLaw5
import Derived.Test.YtemnmcfmabamcaaGreatDoorWReg
import Derived.Sort.OwnSortedInts
set_option linter.unusedSimpArgs false
set_option linter.unusedVariables false
namespace Go.Proofs.YtemnmcfmabamcaaGreatDoor
open Go Go.RowKit Go.Shelf
def RebuiltG (w:World) (sb:Nat) (tv lm nv:Value) (ns:List SNode) (e:Ending) (w':World):Prop :=
 e = .returned (.tuple #[])∧w'.heap[sb]? = some (.cells #[tv,lm,nv,.map (some w.heap.size),.map (some (w.heap.size+1)),.map (some (w.heap.size+1+1))] tStore (0,0)) ∧
   MapAt encKey encNat w' w.heap.size (asc (L.uniqRun ns 0 []))∧w'.heap[w.heap.size+1]? = some (.map #[] 0)∧w'.heap[w.heap.size+1+1]? = some (.map #[] 0)∧Fr [sb] w w'
def RbLoop (w4:World) (ub:Nat) (ns:List SNode) (k:Nat) (wr:World):Prop :=
 ∃ u,MapAt encKey encNat wr ub (asc u)∧L.uniqRun (ns.drop k) k u = L.uniqRun ns 0 []∧Fr [ub] w4 wr
theorem Fr.trans {M:List Nat} {a b c:World} (h:Fr M a b) (k:Fr M b c):Fr M a c :=
 ⟨k.os.trans h.os,k.tape.trans h.tape,k.output.trans h.output,Nat.le_trans h.size k.size,fun i hi hM=>(k.block i (Nat.lt_of_lt_of_le hi h.size) hM).trans (h.block i hi hM)⟩
theorem putMap_fr (K:TypeId) (w:World) (b:Nat) (k v:Value):Fr [b] w (putMap K Tryz.prog w b k v):=by
 obtain ⟨h1,h2,h3,_⟩:=putMap_rest (P:=Tryz.prog) K w b k v
 exact ⟨h1,h2,h3,by rw [putMap_size];exact Nat.le_refl _,fun j _ hM=>putMap_other K w b k v j (by simpa using hM)⟩
theorem ElAt.stay {w w':World} {v:Value} {l:List (Nat × Nat)} (h:ElAt w v l) (hs:∀ b,b < w.heap.size→(∃ c fz,w.heap[b]? = some (.cells c tPair fz))→w'.heap[b]? = w.heap[b]?):ElAt w' v l :=
 h.same fun b c fz hb=>hs b (Array.getElem?_eq_some_iff.1 hb).1 ⟨c,fz,hb⟩
set_option maxRecDepth 100000 in
set_option maxHeartbeats 2000000 in
theorem rebuild_any {w:World} {sb nb:Nat} {tv lm u0 a0 m0 nv:Value} {ns:List SNode} {vs:List Value} (hP:PowTab w) (hs:w.heap[sb]? = some (.cells #[tv,lm,nv,u0,a0,m0] tStore (0,0))) (hn:NodesAt w nv nb ns vs) (hsm:ns.length≤1048576∧∀ n∈ns,smallN n) (hgp:sb≠gPow) :
  Calls Tryz.prog 65 #[.pointer (some ⟨sb,0,none⟩)] w (RebuiltG w sb tv lm nv ns):=by
 have hmm:∀ w,(Instr.makeMap 62 none).run Tryz.prog w = .ok (.map (some w.heap.size)) (w.alloc (.map #[] 0)):=fun w=>rfl
 have hmm2:∀ w,(Instr.makeMap 64 none).run Tryz.prog w = .ok (.map (some w.heap.size)) (w.alloc (.map #[] 0)):=fun w=>rfl
 have hmm3:∀ w,(Instr.makeMap 65 none).run Tryz.prog w = .ok (.map (some w.heap.size)) (w.alloc (.map #[] 0)):=fun w=>rfl
 obtain ⟨cap,rfl⟩:=hn.form
 obtain ⟨cn,hnc⟩:=hn.nbk
 have hx3:Ext w (((w.alloc (.map #[] 0)).alloc (.map #[] 0)).alloc (.map #[] 0)):=(((Ext.refl w).alloc _).alloc _).alloc _
 obtain ⟨g0,g1,g2⟩:=three_all w (.map #[] 0) (.map #[] 0) (.map #[] 0)
 have hs3:=(hx3.below.block sb (Array.getElem?_eq_some_iff.1 hs).1).trans hs
 have c2:(((w.alloc (.map #[] 0)).alloc (.map #[] 0)).alloc (.map #[] 0)).cell? ⟨sb,2,none⟩ = some (.slice (some ⟨nb,0,none⟩) ns.length cap):=by simp [World.cell?,hs3]
 have c3:(((w.alloc (.map #[] 0)).alloc (.map #[] 0)).alloc (.map #[] 0)).cell? ⟨sb,3,none⟩ = some u0:=by simp [World.cell?,hs3]
 have c4:(((w.alloc (.map #[] 0)).alloc (.map #[] 0)).alloc (.map #[] 0)).cell? ⟨sb,4,none⟩ = some a0:=by simp [World.cell?,hs3]
 have c5:(((w.alloc (.map #[] 0)).alloc (.map #[] 0)).alloc (.map #[] 0)).cell? ⟨sb,5,none⟩ = some m0:=by simp [World.cell?,hs3]
 have f3:∀ j,(((w.alloc (.map #[] 0)).alloc (.map #[] 0)).alloc (.map #[] 0)).frozen? ⟨sb,j,none⟩ = false:=fun j=>by simp [World.frozen?,hs3]
 have f33:=f3 3
 have f34:=f3 4
 have f35:=f3 5
 replace hs3:=Lib.hid hs3
 have hnsb:nb≠sb:=by
  intro e
  rw [e,hs] at hnc
  simp [tStore,tNode] at hnc
 have hsl:=(Array.getElem?_eq_some_iff.1 hs).1
 have hs4:((((((w.alloc (.map #[] 0)).alloc (.map #[] 0)).alloc (.map #[] 0)).setCell ⟨sb,3,none⟩ (.map (some w.heap.size))).setCell ⟨sb,4,none⟩ (.map (some (w.heap.size+1)))).setCell ⟨sb,5,none⟩ (.map (some (w.heap.size+1+1)))).heap[sb]? = some (.cells #[tv,lm,.slice (some ⟨nb,0,none⟩) ns.length cap,.map (some w.heap.size),.map (some (w.heap.size+1)),.map (some (w.heap.size+1+1))] tStore (0,0)):=heap_set (heap_set (heap_set hs3.out 3 _) 4 _) 5 _
 have ho4:∀ k,k≠sb→((((((w.alloc (.map #[] 0)).alloc (.map #[] 0)).alloc (.map #[] 0)).setCell ⟨sb,3,none⟩ (.map (some w.heap.size))).setCell ⟨sb,4,none⟩ (.map (some (w.heap.size+1)))).setCell ⟨sb,5,none⟩ (.map (some (w.heap.size+1+1)))).heap[k]? = (((w.alloc (.map #[] 0)).alloc (.map #[] 0)).alloc (.map #[] 0)).heap[k]?:=fun k hk =>
  (Below.heap_setCell _ _ _ _ hk).trans ((Below.heap_setCell _ _ _ _ hk).trans (Below.heap_setCell _ _ _ _ hk))
 have hfr:Fr [sb] w ((((((w.alloc (.map #[] 0)).alloc (.map #[] 0)).alloc (.map #[] 0)).setCell ⟨sb,3,none⟩ (.map (some w.heap.size))).setCell ⟨sb,4,none⟩ (.map (some (w.heap.size+1)))).setCell ⟨sb,5,none⟩ (.map (some (w.heap.size+1+1)))) :=
  ⟨rfl,rfl,rfl,by simp [World.setCell];omega,fun k hk hM=>(ho4 k (by simpa using hM)).trans (hx3.below.block k hk)⟩
 have k0:=(ho4 _ (by omega)).trans g0
 have k1:=(ho4 _ (by omega)).trans g1
 have k2:=(ho4 _ (by omega)).trans g2
 clear f3 ho4 g0 g1 g2 hx3
 replace hs4:=Lib.hid hs4
 replace hfr:=Lib.hid hfr
 replace k0:=Lib.hid k0
 replace k1:=Lib.hid k1
 replace k2:=Lib.hid k2
 replace hnc:=Lib.hid hnc
 replace hn:=Lib.hid hn
 replace hs:=Lib.hid hs
 replace hsm:=Lib.hid hsm
 have hnl:ns.length≤1048576:=hsm.out.1
 go_enter Tryz.func65,Tryz.ntmps65
 go_wp2_with fail
 generalize (((((w.alloc (.map #[] 0)).alloc (.map #[] 0)).alloc (.map #[] 0)).setCell ⟨sb,3,none⟩ (.map (some w.heap.size))).setCell ⟨sb,4,none⟩ (.map (some (w.heap.size+1)))).setCell ⟨sb,5,none⟩ (.map (some (w.heap.size+1+1))) = w4 at *
 have hsz4:w.heap.size+1+1 < w4.heap.size:=(Array.getElem?_eq_some_iff.1 k2.out).1
 generalize hub:w.heap.size = ub at *
 have hpow:∀ wr,Fr [ub] w4 wr→PowTab wr:=fun wr hf=>hP.same ((hf.block _ (by have:=hP.lt;omega) (by have:=hP.lt;simp;omega)).trans (hfr.out.block _ (by have:=hP.lt;omega) (by simp;omega)))
 have hold:∀ wr,Fr [ub] w4 wr→∀ b,b < ub→b≠sb→wr.heap[b]? = w.heap[b]?:=fun wr hf b hb hne=>(hf.block b (by omega) (by simp;omega)).trans (hfr.out.block b (by omega) (by simpa using hne))
 have hnode:Hid (∀ wr,Fr [ub] w4 wr→∀ k (hk:k < ns.length) (hv:k < vs.length),wr.cell? ⟨nb,k * 5,none⟩ = some (.int .i64 ns[k].pl)∧wr.cell? ⟨nb,k * 5+1,none⟩ = some (.int .i64 ns[k].lit)∧wr.cell? ⟨nb,k * 5+2,none⟩ = some vs[k] ∧
   wr.cell? ⟨nb,k * 5+3,none⟩ = some (.int .u64 (lo ns[k].le))∧wr.cell? ⟨nb,k * 5+4,none⟩ = some (.int .u64 (hi ns[k].le))∧ElAt wr vs[k] ns[k].el):=Lib.hid fun wr hf k hk hv=>by
  have hb:wr.heap[nb]? = w.heap[nb]?:=hold wr hf nb (by have:=(Array.getElem?_eq_some_iff.1 hnc.out).1;omega) hnsb
  obtain ⟨n0,n1,n2,n3,n4⟩:=hn.out.cells k hk hv
  have tr:∀ o,wr.cell? ⟨nb,o,none⟩ = w.cell? ⟨nb,o,none⟩:=fun o=>World.cell?_of_block (a:=⟨nb,o,none⟩) hb
  refine ⟨(tr _).trans n0,(tr _).trans n1,(tr _).trans n2,(tr _).trans n3,(tr _).trans n4,(hn.out.els k hk hv).stay fun b hb hc=>hold wr hf b (by omega) fun e=>?_⟩
  obtain ⟨c,fz,hc⟩:=hc
  rw [e,hs.out] at hc
  simp [tStore,tPair] at hc
 have hsc:Hid (∀ wr,Fr [ub] w4 wr→wr.heap[sb]? = w4.heap[sb]?):=Lib.hid fun wr hf=>hf.block sb (by omega) (by simp;omega)
 have hvl:vs.length = ns.length:=hn.out.len
 replace hold:=Lib.hid hold
 replace hpow:=Lib.hid hpow
 have hloop:Hid (RbLoop w4 ub ns 0 w4):=Lib.hid ⟨[],mapEmpty _ _ k0.out,rfl,Fr.refl _ _⟩
 clear c2 c3 c4 c5 f33 f34 f35
 replace hub:=Lib.hid hub
 go_loopw [21] (fun i wr=>∃ k:Nat,k≤ns.length∧i = .int .i64 k∧Hid (RbLoop w4 ub ns k wr)) (fun i _=>ns.length - (intOf i).toNat)
 case atStart=>exact ⟨0,Nat.zero_le _,rfl,hloop⟩
 case round =>
  clear hloop
  obtain ⟨k,hk,rfl,hI⟩:=hrel
  obtain ⟨u,hu,hur,hf⟩:=hI.out
  clear hI
  by_cases hlt:k < ns.length
  ·obtain ⟨n0,n1,n2,n3,n4,hel⟩:=hnode.out wr hf k hlt (by omega)
   rw [List.drop_eq_getElem_cons hlt,L.uniqRun] at hur
   have hsn:=hsm.out.2 _ (List.getElem_mem hlt)
   generalize ns[k] = n at *
   generalize vs[k]'(by omega) = v at *
   obtain ⟨bv,cv,rfl,hrow⟩:=id hel
   clear hrow
   have hfb:Fr [ub] w4 (wr.alloc (.cells #[.int .i64 n.pl,.int .i64 n.lit,.slice bv n.el.length cv,.int .u64 (lo n.le),.int .u64 (hi n.le)] 101)):=hf.trans (Fr.of_below ((Below.refl _ _).alloc (Nat.le_refl _) _))
   have hbox:=heap_alloc_new wr (.cells #[.int .i64 n.pl,.int .i64 n.lit,.slice bv n.el.length cv,.int .u64 (lo n.le),.int .u64 (hi n.le)] 101)
   have hel2:ElAt (wr.alloc (.cells #[.int .i64 n.pl,.int .i64 n.lit,.slice bv n.el.length cv,.int .u64 (lo n.le),.int .u64 (hi n.le)] 101)) (.slice bv n.el.length cv) n.el:=hel.stay fun b hb _=>Below.heap_alloc _ _ _ hb
   have hu2:=hu.same (w':=wr.alloc (.cells #[.int .i64 n.pl,.int .i64 n.lit,.slice bv n.el.length cv,.int .u64 (lo n.le),.int .u64 (hi n.le)] 101)) (Below.heap_alloc _ _ _ hu.lt)
   have hxs:wr.heap.size < (wr.alloc (.cells #[.int .i64 n.pl,.int .i64 n.lit,.slice bv n.el.length cv,.int .u64 (lo n.le),.int .u64 (hi n.le)] 101)).heap.size:=by simp
   have hubx:=hu.lt
   have hwx:=hf.size
   replace hel2:=Lib.hid hel2
   replace hu2:=Lib.hid hu2
   replace hfb:=Lib.hid hfb
   replace hbox:=Lib.hid hbox
   replace hu:=Lib.hid hu
   replace hur:=Lib.hid hur
   replace hf:=Lib.hid hf
   clear hel
   by_cases hp:0≤n.pl
   ·have dp:decide (n.pl≥0) = true:=decide_eq_true hp
    go_wp2_with fail
    generalize hwb:wr.alloc (.cells #[.int .i64 n.pl,.int .i64 n.lit,.slice bv n.el.length cv,.int .u64 (lo n.le),.int .u64 (hi n.le)] 101) = wb at *
    generalize wr.heap.size = x at *
    have hF:Hid (∀ W:World,W.heap[sb]? = wb.heap[sb]?→W.heap[x]? = wb.heap[x]?→W.cell? ⟨sb,3,none⟩ = some (.map (some ub))∧W.cell? ⟨x,0,none⟩ = some (.int .i64 n.pl)∧W.cell? ⟨x,1,none⟩ = some (.int .i64 n.lit)∧W.cell? ⟨x,2,none⟩ = some (.slice bv n.el.length cv)∧W.cell? ⟨x,3,none⟩ = some (.int .u64 (lo n.le))∧W.cell? ⟨x,4,none⟩ = some (.int .u64 (hi n.le))):=Lib.hid fun W h1 h2=>by
     rw [hsc.out wb hfb.out,hs4.out] at h1
     rw [hbox.out] at h2
     exact ⟨by simp [World.cell?,h1],by simp [World.cell?,h2],by simp [World.cell?,h2],by simp [World.cell?,h2],by simp [World.cell?,h2],by simp [World.cell?,h2]⟩
    have hxl:x < wb.heap.size:=(Array.getElem?_eq_some_iff.1 hbox.out).1
    obtain ⟨s1,s2,s3,s4,s5,s6⟩:=hsn
    have hkey:=key_any n.pl n.lit n.el (.slice bv n.el.length cv) (lo n.le) (hi n.le) wb.drew (hpow.out wb hfb.out) (hel2.out.stay (fun b _ _=>rfl)).slp ⟨s5,s6⟩ s1 s2 s3 s4
    have hsbl:sb < wb.heap.size:=by have:=hfb.out.size;omega
    have hubl:ub < wb.heap.size:=by have:=hfb.out.size;omega
    replace hwb:=Lib.hid hwb
    (refine wp_region_held_drew (S:=(fun W=>W.cell? ⟨sb,3,none⟩ = some (.map (some ub))∧W.cell? ⟨x,0,none⟩ = some (.int .i64 n.pl)∧W.cell? ⟨x,1,none⟩ = some (.int .i64 n.lit)∧W.cell? ⟨x,2,none⟩ = some (.slice bv n.el.length cv)∧W.cell? ⟨x,3,none⟩ = some (.int .u64 (lo n.le))∧W.cell? ⟨x,4,none⟩ = some (.int .u64 (hi n.le)))) (by kernel_rfl) ?_ (fun hHeld=>?_))
    ·exact hF.out _ rfl rfl
    (refine takeL (i:=0) (v:=?_) rfl (by kernel_rfl) (by kernel_rfl) (by kernel_rfl) (fun _ _ _ h=>h) (Or.inl ⟨by rfl,?_⟩) (by assumption) ?_)
    rotate_left
    ·(intro w hSw;(try dsimp only at hSw);go_simp;first | done | with_reducible rfl)
    (try simp only [Act.put,List.setIfInBounds_toArray,List.set_cons_zero,List.set_cons_succ])
    (refine takeL (i:=1) (v:=?_) rfl (by kernel_rfl) (by kernel_rfl) (by kernel_rfl) (fun _ _ _ h=>h) (Or.inl ⟨by rfl,?_⟩) (by assumption) ?_)
    rotate_left
    ·(intro w hSw;(try dsimp only at hSw);go_simp;first | done | with_reducible rfl)
    (try simp only [Act.put,List.setIfInBounds_toArray,List.set_cons_zero,List.set_cons_succ])
    (refine takeL (i:=2) (v:=?_) rfl (by kernel_rfl) (by kernel_rfl) (by kernel_rfl) (fun _ _ _ h=>h) (Or.inl ⟨by rfl,?_⟩) (by assumption) ?_)
    rotate_left
    ·(intro w hSw;(try dsimp only at hSw);go_simp;first | done | with_reducible rfl)
    (try simp only [Act.put,List.setIfInBounds_toArray,List.set_cons_zero,List.set_cons_succ])
    (refine takeL (i:=3) (v:=?_) rfl (by kernel_rfl) (by kernel_rfl) (by kernel_rfl) (fun _ _ _ h=>h) (Or.inl ⟨by rfl,?_⟩) (by assumption) ?_)
    rotate_left
    ·(intro w hSw;(try dsimp only at hSw);go_simp;first | done | with_reducible rfl)
    (try simp only [Act.put,List.setIfInBounds_toArray,List.set_cons_zero,List.set_cons_succ])
    (refine takeL (i:=4) (v:=?_) rfl (by kernel_rfl) (by kernel_rfl) (by kernel_rfl) (fun _ _ _ h=>h) (Or.inl ⟨by rfl,?_⟩) (by assumption) ?_)
    rotate_left
    ·(intro w hSw;(try dsimp only at hSw);go_simp;first | done | with_reducible rfl)
    (try simp only [Act.put,List.setIfInBounds_toArray,List.set_cons_zero,List.set_cons_succ])
    (refine takeL (i:=6) (v:=?_) rfl (by kernel_rfl) (by kernel_rfl) (by kernel_rfl) (fun _ _ _ h=>h) (Or.inl ⟨by rfl,?_⟩) (by assumption) ?_)
    rotate_left
    ·(intro w hSw;(try dsimp only at hSw);go_simp;first | done | with_reducible rfl)
    (try simp only [Act.put,List.setIfInBounds_toArray,List.set_cons_zero,List.set_cons_succ])
    (refine wpAnyH_ready (rs:=[5]) (by kernel_rfl) (by simp) ?_)
    (refine consL rfl (fun K hK=>?_))
    ((rw [if_pos (by rfl)]);go_simp;(go_at_call 98);refine hkey.mono ?_;rintro e wa ⟨rfl,hba⟩;have g1:wa.heap[sb]? = wb.heap[sb]?:=hba.block sb hsbl;have g2:wa.heap[x]? = wb.heap[x]?:=hba.block x hxl;have hua:=Lib.hid (hu2.out.same (w':=wa) (hba.block ub hubl));have hfa:=Lib.hid (hfb.out.trans ((Fr.of_below (M:=[ub]) (Below.refl wb.heap.size wb).drew).trans (Fr.of_below hba)));refine hK.out _ _ (hF.out _ g1 g2) (fun hHeld=>?_))
    (clear hK K)
    (try simp only [Act.put,List.setIfInBounds_toArray,List.set_cons_zero,List.set_cons_succ])
    obtain ⟨hpt,hM⟩:=hua.out.put keyLawS (T:=64) Tryz.underlying64 (n.pl,n.lit,n.el) k
    have hpt2:(Instr.mapUpdate 64 (.map (some ub)) (.string ⟨(keyB n.pl n.lit n.el).toArray⟩) (.int .i64 (k:Nat))).run Tryz.prog wa = .ok () (putMap 9 Tryz.prog wa ub (encKey (n.pl,n.lit,n.el)) (encNat k)):=hpt
    have hnext:Hid (RbLoop w4 ub ns (k+1) (putMap 9 Tryz.prog wa ub (encKey (n.pl,n.lit,n.el)) (encNat k))):=Lib.hid
     ⟨((n.pl,n.lit,n.el),k) :: u,by rw [asc_cons];exact hM,by have:=hur.out;rwa [if_pos hp] at this,hfa.out.trans (putMap_fr _ _ _ _ _)⟩
    have g3:=(putMap_other (P:=Tryz.prog) 9 wa ub (encKey (n.pl,n.lit,n.el)) (encNat k) sb (by omega)).trans g1
    have g4:=(putMap_other (P:=Tryz.prog) 9 wa ub (encKey (n.pl,n.lit,n.el)) (encNat k) x (by omega)).trans g2
    clear hpt hM hua
    generalize putMap 9 Tryz.prog wa ub (encKey (n.pl,n.lit,n.el)) (encNat k) = wz at *
    (refine wpAnyH_ready (rs:=[7]) (by kernel_rfl) (by simp) ?_)
    (refine consL rfl (fun K hK=>?_))
    ((rw [if_pos (by rfl)]);go_simp;refine hK.out _ _ (hF.out _ g3 g4) (fun hHeld=>?_))
    (clear hK K)
    (try simp only [Act.put,List.setIfInBounds_toArray,List.set_cons_zero,List.set_cons_succ])
    (refine wpAnyH_done (by kernel_rfl) ?_ _)
    clear g1 g2 g3 g4 hpt2
    go_wp2_with fail
    go_roundw
    case rel=>exact ⟨k+1,by omega,by go_num,hnext⟩
    case measure=>simp [intOf];omega
   ·have dp:decide (n.pl≥0) = false:=decide_eq_false hp
    have hnext:Hid (RbLoop w4 ub ns (k+1) (wr.alloc (.cells #[.int .i64 n.pl,.int .i64 n.lit,.slice bv n.el.length cv,.int .u64 (lo n.le),.int .u64 (hi n.le)] 101))):=Lib.hid ⟨u,hu2.out,by have:=hur.out;rwa [if_neg hp] at this,hfb.out⟩
    go_wp2_with fail
    go_roundw
    case rel=>exact ⟨k+1,by omega,by go_num,hnext⟩
    case measure=>simp [intOf];omega
  ·obtain rfl:k = ns.length:=by omega
   rw [List.drop_length] at hur
   have hfin:Hid (RebuiltG w sb tv lm (.slice (some ⟨nb,0,none⟩) ns.length cap) ns (.returned (.tuple #[])) wr):=Lib.hid (by
    have hw:=hub.out
    unfold RebuiltG
    rw [hw]
    exact ⟨rfl,(hsc.out wr hf).trans hs4.out,by rw [←hur];exact hu,(hf.block _ (by omega) (by simp)).trans k1.out,(hf.block _ (by omega) (by simp;omega)).trans k2.out,
     hf.os.trans hfr.out.os,hf.tape.trans hfr.out.tape,hf.output.trans hfr.out.output,Nat.le_trans hfr.out.size hf.size,fun b hb hM=>hold.out wr hf b (by omega) (by simpa using hM)⟩)
   clear hu hur hf
   go_wp2_with fail
   go_end0
   exact hfin.out
end Go.Proofs.YtemnmcfmabamcaaGreatDoor
