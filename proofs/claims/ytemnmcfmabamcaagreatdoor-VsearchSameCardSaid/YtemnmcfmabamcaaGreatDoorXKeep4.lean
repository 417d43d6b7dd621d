import Derived.Test.YtemnmcfmabamcaaGreatDoorXKeep3
set_option linter.unusedSimpArgs false
set_option linter.unusedVariables false
namespace Go.Proofs.YtemnmcfmabamcaaGreatDoor
open Go Go.RowKit Go.Shelf
def RetKeep (B:Blks) (s:St) (l:List Nat) (w:World) (e:Ending) (w':World):Prop :=
 ∃ (b:List Nat) (v:Value) (B':Blks),e = .returned (.tuple #[v,.int .i64 0])∧L.Closed s.nodes b∧(∀ a∈l,a∈b)∧(∀ x∈b,∃ a∈0 :: 1 :: l,x≤a)∧w'.ownsRow w.heap.size 3 1 v l.length ((l.map (L.rankN b)).map encI)∧Rep B' (L.keepS s b) w'∧Stp [] B w B' w'
theorem not_store {w:World} {sb o:Nat} {x0:Option Addr} {n0 c0:Nat} {m1 m3 m4 m5:Option Nat} {k:IntKind} {z:Int} {nv:Value} (hnv:∀ k z,nv≠.int k z) (h:w.heap[sb]? = some (.cells #[.slice x0 n0 c0,.map m1,nv,.map m3,.map m4,.map m5] tStore (0,0))) (hc:w.cell? ⟨sb,o,none⟩ = some (.int k z)):False:=by
 simp only [World.cell?,h] at hc
 match o with
 | 0=>simp at hc
 | 1=>simp at hc
 | 2=>simp at hc;exact hnv _ _ hc
 | 3=>simp at hc
 | 4=>simp at hc
 | 5=>simp at hc
 | o+6=>simp at hc
def OutL (b l:List Nat) (w7:World) (k:Nat) (wr:World):Prop :=
 Below w7.heap.size w7 wr∧∃ cs:Array Value,wr.heap[w7.heap.size]? = some (.cells cs 3 (0,0))∧cs.size = l.length∧∀ j (hj:j < l.length),j < k→cs[j]? = some (.int .i64 (L.rankN b l[j]:Nat))
set_option maxRecDepth 100000 in
set_option maxHeartbeats 8000000 in
theorem keep_any {B:Blks} {s:St} {w:World} {v:Value} {l:List Nat} (h:Rep B s w) (ht:s.tree≠[]) (hinv:L.Inv s) (hv:SlI w v (l.map fun n:Nat=>(n:Int))) (hl:l.length≤1000000) (hla:∀ a∈l,a < s.nodes.length) :
  Calls Tryz.prog 93 #[.pointer (some ⟨B.sb,0,none⟩),v] w (RetKeep B s l w):=by
 obtain ⟨i0,hi0,hz0,hz1,hz2⟩:=info_parts int_info
 obtain ⟨iN,hiN,hzN,hsN,hbN⟩:=info_parts info_node
 have hns:=h.small.1
 have htl:=(check_ok hinv.tree).1
 obtain ⟨o,hvis,ho1,ho2,ho3,_,ho5,ho6'⟩:=L.visAll_spec hinv hns (f:=s.tree.length+1) (Nat.le_refl _) (fun a ha=>⟨s.tree.length - 1,by omega,dep_root hinv ha⟩) (0 :: 1 :: l) [] (fun a ha=>by
  have:=hinv.len
  rcases List.mem_cons.1 ha with rfl | ha
  ·omega
  ·rcases List.mem_cons.1 ha with rfl | ha
   ·omega
   ·exact hla a ha) List.nodup_nil (fun _ h=>by cases h) (fun _ h=>by cases h)
 have hol:o.length≤1048576:=Nat.le_trans (L.nodup_lt o _ ho1 ho2) hns
 have h0o:0∈o:=ho5 0 (by simp)
 have h1o:1∈o:=ho5 1 (by simp)
 have hchk:chkF s.nodes.length (l.map fun n:Nat=>(n:Int)) = 0:=by
  unfold chkF
  rw [if_pos]
  rw [List.all_eq_true]
  intro z hz
  obtain ⟨n,hn,rfl⟩:=List.mem_map.1 hz
  have:=hla n hn
  simp only [Bool.and_eq_true,decide_eq_true_eq]
  omega
 have q1:=sck_any h ht hv (by rw [List.length_map];omega)
 rw [hchk] at q1
 obtain ⟨ba,c,rfl,hv2⟩:=hv
 have hB1:Below w.heap.size w (w.alloc (.cells #[.int .i64 0,.int .i64 1] 3)):=(Below.refl _ _).alloc (Nat.le_refl _) _
 have hv3:(ba = none∧(l.map fun n:Nat=>(n:Int)) = []∧c = 0)∨∃ b o,ba = some ⟨b,o,none⟩∧∀ j (hj:j < (l.map fun n:Nat=>(n:Int)).length),(w.alloc (.cells #[.int .i64 0,.int .i64 1] 3)).cell? ⟨b,o+j,none⟩ = some (.int .i64 (l.map fun n:Nat=>(n:Int))[j]) :=
  hv2.imp id (fun ⟨b,o,e,hc⟩=>⟨b,o,e,fun j hj=>(hB1.cell (World.block_lt_of_cell? w _ (hc j hj))).trans (hc j hj)⟩)
 have hrow:(w.alloc (.cells #[.int .i64 0,.int .i64 1] 3)).ownsRow w.heap.size 3 1 (.slice (some ⟨w.heap.size,0,none⟩) 2 2) 2 [.int .i64 0,.int .i64 1]:=World.ownsRow_lit w #[.int .i64 0,.int .i64 1] 2 (Nat.le_refl _) (by unfold maxLen;omega) rfl
 rw [List.length_map] at q1 ⊢
 have hlm:(l.map fun n:Nat=>(n:Int)).length = l.length:=List.length_map ..
 have hmm:∀ (n:Nat) (w:World),(Instr.makeMap 62 (some (.int .i64 (n:Int)))).run Tryz.prog w = .ok (.map (some w.heap.size)) (w.alloc (.map #[] 0)):=fun n w=>rfl
 have hmk:∀ (n:Nat),n≤1048576→∀ w:World,(Instr.makeSlice 63 (.int .i64 (n:Int)) (.int .i64 (n:Int))).run Tryz.prog w = .ok (.slice (some ⟨w.heap.size,0,none⟩) n n) (w.alloc (.cells (madeCells #[.int .i64 0,.int .i64 0,.slice none 0 0,.int .u64 0,.int .u64 0] (n * 5)) 101)):=fun n hn w=>by
  have h1:=run_make (P:=Tryz.prog) w 63 101 iN _ Tryz.underlying63 hiN hzN .i64 .i64 n n (by omega) (Int.le_refl _) (by rw [hbN];omega) (by omega)
  simp only [Int.toNat_natCast,hsN] at h1
  exact h1
 replace h:=Lib.hid h
 replace hinv:=Lib.hid hinv
 replace hchk:=Lib.hid hchk
 replace hvis:=Lib.hid hvis
 replace hla:=Lib.hid hla
 replace hmk:=Lib.hid hmk
 replace hv2:=Lib.hid hv2
 go_enter Tryz.func93,Tryz.ntmps93
 go_wp2_with fail
 refine q1.mono ?_
 rintro e w1 ⟨rfl,rfl⟩
 clear q1
 go_wp2_with (at_builtin;refine wpList_append_slI rfl _ _ rfl w.heap.size i0 hi0 hz0 hz1 hz2 _ 2 _ rfl hrow ba c (l.map fun n:Nat=>(n:Int)) (by rw [hlm];rfl) hv3 (by omega) hB1.size ?_;intro v4 w4 ho4 hg4)
 have hB4:Below w.heap.size w w4:=Below.grown hB1 hg4 hB1.size (fun k e=>(own_ge hrow e))
 have hsl4:SlI w4 v4 ((0 :: 1 :: l).map fun n:Nat=>(n:Int)):=owns_slI (own_cast ho4 (by simp;omega) (by simp [encZ]))
 have hq4:=below_any (h.out.below hB4) hsl4 (by simp;omega) hvis.out
 clear ho4 hg4 hv3 hrow hsl4
 refine hq4.mono ?_
 rintro e w5 ⟨v5,rfl,ho5',hb5⟩
 have hB5:=hB4.trans (hb5.mono hB4.size)
 have hq5:=sort_own ho5' (by intro e;rw [e] at h0o;cases h0o) hol
 clear hq4
 go_wp2_with fail
 refine hq5.mono ?_
 rintro e w6 ⟨rfl,b,hbp,hbs,ho6,hg6⟩
 have hB6:Below w.heap.size w w6:=Below.grown hB5 hg6 hB5.size (fun k e=>Nat.le_trans hB4.size (by have:=own_ge ho5' e;omega))
 have hcl:=L.closed_of ho1 ho2 ho3 h0o h1o hbp hbs
 have hlb:∀ a∈l,a∈b:=fun a ha=>hbp.mem_iff.2 (ho5 a (by simp [ha]))
 have hbl:b.length≤1048576:=by rw [hbp.length_eq];exact hol
 have hmx:Hid (∀ x∈b,∃ a∈0 :: 1 :: l,x≤a):=Lib.hid fun x hx=>(ho6' x (hbp.mem_iff.1 hx)).resolve_left (fun h=>by cases h)
 clear ho6'
 have hR6:=h.out.below hB6
 have hmk6:=hmk.out b.length hbl
 obtain ⟨gb,cb,hvb,hcb⟩:∃ gb cb,v5 = .slice (some ⟨gb,0,none⟩) b.length cb∧w.heap.size≤gb∧∃ cs fz,w6.heap[gb]? = some (.cells cs 3 fz)∧∀ j (hj:j < b.length),cs[j]? = some (.int .i64 (b[j]:Nat)):=by
  rcases ho6.2 with ⟨_,e⟩ | ⟨gb,cb,cur,e1,e2,e3,e4,e5,e6,e7⟩
  ·have:b.length = o.length:=hbp.length_eq
   have h2:0 < o.length:=List.length_pos_iff.2 (by intro e;rw [e] at h0o;cases h0o)
   omega
  ·refine ⟨gb,cb,e1,Nat.le_trans hB4.size (by omega),cur,_,e3,fun j hj=>?_⟩
   have:(b.map encI)[j]? = some (encI b[j]):=by rw [List.getElem?_map,List.getElem?_eq_getElem hj];rfl
   rw [←e7,List.getElem?_take] at this
   split at this
   ·simpa [encI] using this
   ·cases this
 subst hvb
 clear hq5 ho5' ho6 hg6
 have z0:((w6.alloc (.map #[] 0)).alloc (.cells (madeCells #[.int .i64 0,.int .i64 0,.slice none 0 0,.int .u64 0,.int .u64 0] (b.length * 5)) 101)).heap[w6.heap.size]? = some (.map #[] 0):=(Below.heap_alloc _ _ _ (by simp)).trans (heap_alloc_new _ _)
 have z1:((w6.alloc (.map #[] 0)).alloc (.cells (madeCells #[.int .i64 0,.int .i64 0,.slice none 0 0,.int .u64 0,.int .u64 0] (b.length * 5)) 101)).heap[w6.heap.size+1]? = some (.cells (madeCells #[.int .i64 0,.int .i64 0,.slice none 0 0,.int .u64 0,.int .u64 0] (b.length * 5)) 101 (0,0)):=heap_new_at _ _ _ (by simp)
 have hx8:Ext w6 ((w6.alloc (.map #[] 0)).alloc (.cells (madeCells #[.int .i64 0,.int .i64 0,.slice none 0 0,.int .u64 0,.int .u64 0] (b.length * 5)) 101)):=((Ext.refl w6).alloc _).alloc _
 have hs8:((w6.alloc (.map #[] 0)).alloc (.cells (madeCells #[.int .i64 0,.int .i64 0,.slice none 0 0,.int .u64 0,.int .u64 0] (b.length * 5)) 101)).heap.size = w6.heap.size+2:=by simp
 go_wp2_with fail
 generalize (w6.alloc (.map #[] 0)).alloc (.cells (madeCells #[.int .i64 0,.int .i64 0,.slice none 0 0,.int .u64 0,.int .u64 0] (b.length * 5)) 101) = w8 at *
 have hloop:Hid (KeepL s.nodes b w8 w6.heap.size (w6.heap.size+1) 0 w8):=Lib.hid ⟨⟨[],mapEmpty _ _ z0,fun j hj h=>by omega⟩,⟨_,[],z1,by simp [madeCells],rfl,fun j u hj=>by simp [flatN] at hj,fun j hj=>by simp at hj,fun v hv=>by cases hv⟩,Fr.refl _ _⟩
 have hb68:=hx8.below
 generalize hpm:w6.heap.size = pm at *
 have hkeep:Hid (∀ wr,Fr [pm,pm+1] w8 wr→Below pm w6 wr):=Lib.hid fun wr hf=>⟨hf.os.trans hb68.os,hf.tape.trans hb68.tape,hf.output.trans hb68.output,by rw [hpm];exact Nat.le_trans (by omega) hf.size,fun k hk=>(hf.block k (by omega) (by simp;omega)).trans (hb68.block k hk)⟩
 obtain ⟨hgb,csb,fzb,hcsb,hcell⟩:=hcb
 have hgbl:gb < pm:=by rw [←hpm];exact (Array.getElem?_eq_some_iff.1 hcsb).1
 have hrow:Hid (∀ wr,Fr [pm,pm+1] w8 wr→∀ j (hj:j < b.length),wr.cell? ⟨gb,j,none⟩ = some (.int .i64 (b[j]:Nat))):=Lib.hid fun wr hf j hj=>by
  have:=((hkeep.out wr hf).block gb hgbl).trans hcsb
  have hc:=hcell j hj
  simp [World.cell?,this,hc]
 have hwp:w.heap.size≤pm:=by rw [←hpm];exact hB6.size
 replace hR6:=Lib.hid hR6
 replace hcell:=Lib.hid hcell
 replace hpm:=Lib.hid hpm
 replace hcsb:=Lib.hid hcsb
 replace hB6:=Lib.hid hB6
 replace hcl:=Lib.hid hcl
 replace hlb:=Lib.hid hlb
 replace hs8:=Lib.hid hs8
 clear z0 z1 hx8 hb68 hmk6 hB5 hB4
 go_loopw [39] (fun iv wr=>∃ i:Nat,i≤b.length∧iv = .int .i64 i∧Hid (KeepL s.nodes b w8 pm (pm+1) i wr)) (fun iv _=>b.length - (intOf iv).toNat)
 case atStart=>exact ⟨0,Nat.zero_le _,rfl,hloop⟩
 case round =>
  clear hloop
  obtain ⟨i,hib,rfl,hI⟩:=hrel
  obtain ⟨⟨m,hm,hmn⟩,⟨cs,vs,hcs,hcsz,hvl,hfl,hel,heb⟩,hfr⟩:=hI.out
  clear hI
  by_cases hlt:i < b.length
  ·have hmem:b[i]∈b:=List.getElem_mem hlt
   obtain ⟨n,hn⟩:=hcl.out.node hmem
   have hkn:(L.keepNodes s.nodes b)[i]? = some (L.renN b n):=L.keep_get (List.getElem?_eq_getElem hlt) hn
   have hck:=hrow.out wr hfr i hlt
   obtain ⟨hput,hM1⟩:=hm.putI b[i] i
   have hkids:∀ p∈n.el,p.1∈b∧p.2∈b∧L.rankN b p.1 < i∧L.rankN b p.2 < i:=fun p hp=>by
    obtain ⟨s1,s2⟩:=hcl.out.shut _ hmem n hn p hp
    obtain ⟨k1,k2⟩:=hinv.out.kids _ n hn p hp
    have e:L.rankN b b[i] = i:=hcl.out.rank (List.getElem?_eq_getElem hlt)
    refine ⟨s1,s2,?_,?_⟩
    ·have:=(hcl.out.mono s1 hmem).1 k1;omega
    ·have:=(hcl.out.mono s2 hmem).1 k2;omega
   have hnums:∀ j (hj:j < b.length),j < i+1→asc ((b[i],i) :: m) b[j] = some j:=fun j hj hji=>by
    rw [asc_cons]
    unfold upd
    by_cases e:b[j] = b[i]
    ·rw [if_pos e]
     have e1:=hcl.out.rank (List.getElem?_eq_getElem hj)
     have e2:=hcl.out.rank (List.getElem?_eq_getElem hlt)
     rw [e] at e1
     congr 1;omega
    ·rw [if_neg e]
     exact hmn j hj (by
      rcases Nat.lt_or_ge j i with h1 | h1
      ·exact h1
      ·have:j = i:=by omega
       subst this;exact absurd rfl e)
   have hrank:∀ a∈b,L.rankN b a < i→ascD ((b[i],i) :: m) a = L.rankN b a:=fun a ha hr=>by
    have hg:=L.rank_at ha
    obtain ⟨l1,e1⟩:=List.getElem?_eq_some_iff.1 hg
    have:=hnums _ l1 (by omega)
    rw [e1] at this
    unfold ascD
    rw [this]
   have hbi:b[i] < s.nodes.length:=hcl.out.lt _ hmem
   generalize hab:b[i] = a at *
   have hf9:=hfr.seq (putMap_fr 3 wr pm (encNat a) (encNat i)) (fun x hx=>.inl (by simp at hx;simp [hx]))
   have hoth:∀ k,k≠pm→(putMap 3 Tryz.prog wr pm (encNat a) (encNat i)).heap[k]? = wr.heap[k]?:=fun k hk=>putMap_other _ _ _ _ _ k hk
   have hs9:(putMap 3 Tryz.prog wr pm (encNat a) (encNat i)).heap.size = wr.heap.size:=putMap_size _ _ _ _ _
   generalize putMap 3 Tryz.prog wr pm (encNat a) (encNat i) = w9 at *
   have hR9:=hR6.out.below (hpm.out ▸ hkeep.out w9 hf9)
   obtain ⟨v0,hv0,_,n0,n1,n2,n3,n4⟩:=hR9.node hn
   obtain ⟨cap9,_,_,c9,_⟩:=hR9.cells
   have hsn:=(hR9.small.2 n (List.mem_of_getElem? hn))
   have hel9:n.el.length≤1048576:=hsn.2.2.2.2.1
   obtain ⟨bv,cv,rfl,hv0'⟩:=id hv0
   clear hv0'
   have hbox:=heap_alloc_new w9 (.cells #[.int .i64 n.pl,.int .i64 n.lit,.slice bv n.el.length cv,.int .u64 (lo n.le),.int .u64 (hi n.le)] 101)
   have hv10:ElAt (w9.alloc (.cells #[.int .i64 n.pl,.int .i64 n.lit,.slice bv n.el.length cv,.int .u64 (lo n.le),.int .u64 (hi n.le)] 101)) (.slice bv n.el.length cv) n.el:=hv0.stay fun b hb _=>Below.heap_alloc _ _ _ hb
   have hcl10:=clone_el hv10 hel9
   have hb10:Below w9.heap.size w9 (w9.alloc (.cells #[.int .i64 n.pl,.int .i64 n.lit,.slice bv n.el.length cv,.int .u64 (lo n.le),.int .u64 (hi n.le)] 101)):=(Below.refl _ _).alloc (Nat.le_refl _) _
   have hs10:(w9.alloc (.cells #[.int .i64 n.pl,.int .i64 n.lit,.slice bv n.el.length cv,.int .u64 (lo n.le),.int .u64 (hi n.le)] 101)).heap.size = w9.heap.size+1:=by simp
   have d0:decide ((a:Int) < s.nodes.length) = true:=decide_eq_true (by omega)
   have d1:decide (0≤(a:Int)) = true:=decide_eq_true (by omega)
   have hs9':pm+2≤w9.heap.size:=by have:=hs8.out;have:=hpm.out;have:=hfr.size;omega
   replace hm:=Lib.hid hm
   replace hmn:=Lib.hid hmn
   replace hcs:=Lib.hid hcs
   replace hcsz:=Lib.hid hcsz
   replace hvl:=Lib.hid hvl
   replace hfl:=Lib.hid hfl
   replace hel:=Lib.hid hel
   replace heb:=Lib.hid heb
   replace hfr:=Lib.hid hfr
   replace hkn:=Lib.hid hkn
   replace hn:=Lib.hid hn
   replace hkids:=Lib.hid hkids
   replace hnums:=Lib.hid hnums
   replace hrank:=Lib.hid hrank
   replace hab:=Lib.hid hab
   replace hf9:=Lib.hid hf9
   replace hoth:=Lib.hid hoth
   replace hs9:=Lib.hid hs9
   replace hR9:=Lib.hid hR9
   replace hM1:=Lib.hid hM1
   replace hbox:=Lib.hid hbox
   replace hs10:=Lib.hid hs10
   replace hsn:=Lib.hid hsn
   clear hv0 hv10
   go_wp2_with fail
   generalize hw10:w9.alloc (.cells #[.int .i64 n.pl,.int .i64 n.lit,.slice bv n.el.length cv,.int .u64 (lo n.le),.int .u64 (hi n.le)] 101) = w10 at *
   replace hw10:=Lib.hid hw10
   refine hcl10.mono ?_
   rintro e w11 ⟨bc,cc,rfl,hbc,hb11⟩
   generalize hx:w9.heap.size = x at *
   have hs10':w10.heap.size = x+1:=hs10.out
   have hbox11:=(hb11.block x (by omega)).trans hbox.out
   obtain ⟨x0,x1,x2,x3,x4,xf⟩:=cells5 hbox11
   have xf2:=xf 2
   have hbox12:=heap_set hbox11 2 (.slice bc n.el.length cc)
   have hb12:Below (x+1) w10 w11:=hb11.mono (by omega)
   have hEl0:Hid (ElL n.el (fun p=>(L.rankN b p.1,L.rankN b p.2)) (w11.setCell ⟨x,2,none⟩ (.slice bc n.el.length cc)) bc (x+1) 0 (w11.setCell ⟨x,2,none⟩ (.slice bc n.el.length cc))):=Lib.hid
    ⟨Below.refl _ _,hbc.imp (fun h=>⟨h.1,h.2.1⟩) (fun ⟨g,cs,e1,e2,e3,e4⟩=>⟨g,cs,e1,by omega,(Below.heap_setCell _ _ _ _ (by show g≠x;omega)).trans e3,fun j u hj=>e4 j u (by simpa using hj)⟩)⟩
   have hcc:Hid ((n.el = []∧bc = none∧cc = 0)∨∃ g:Nat,bc = some ⟨g,0,none⟩):=Lib.hid (hbc.imp id (fun ⟨g,_,e1,_⟩=>⟨g,e1⟩))
   have hoth12:Hid (∀ k,k < x→(w11.setCell ⟨x,2,none⟩ (.slice bc n.el.length cc)).heap[k]? = w9.heap[k]?):=Lib.hid fun k hk=>(Below.heap_setCell _ _ _ _ (by show k≠x;omega)).trans ((hb11.block k (by omega)).trans (hb10.block k (by omega)))
   have hs12:x+1≤(w11.setCell ⟨x,2,none⟩ (.slice bc n.el.length cc)).heap.size:=by have:=hb11.size;simp [World.setCell];omega
   have hrest12:Hid ((w11.setCell ⟨x,2,none⟩ (.slice bc n.el.length cc)).os = w9.os∧(w11.setCell ⟨x,2,none⟩ (.slice bc n.el.length cc)).tape = w9.tape∧(w11.setCell ⟨x,2,none⟩ (.slice bc n.el.length cc)).output = w9.output):=Lib.hid ⟨hb11.os.trans hb10.os,hb11.tape.trans hb10.tape,hb11.output.trans hb10.output⟩
   replace hbox12:=Lib.hid hbox12
   clear hbc hcl10 hb12 xf hb10 n0 n1 n2 n3 n4 c9
   go_wp2_with fail
   clear x0 x1 x2 x3 x4 xf2 hbox11 hb11
   generalize w11.setCell ⟨x,2,none⟩ (.slice bc n.el.length cc) = w12 at *
   go_loopw [61] (fun kv wi=>∃ k:Nat,k≤n.el.length∧kv = .int .i64 k∧Hid (ElL n.el (fun p=>(L.rankN b p.1,L.rankN b p.2)) w12 bc (x+1) k wi)) (fun kv _=>n.el.length - (intOf kv).toNat)
   case atStart=>exact ⟨0,Nat.zero_le _,rfl,hEl0⟩
   case round =>
    clear hEl0
    obtain ⟨k,hke,rfl,hI⟩:=hrel
    obtain ⟨hbl,hEl⟩:=hI.out
    clear hI
    have hbx:=(hbl.block x (by omega)).trans hbox12.out
    have hMw:=hM1.out.same (w':=wr) ((hbl.block pm (by omega)).trans (hoth12.out pm (by omega)))
    by_cases hkl:k < n.el.length
    ·obtain ⟨h',cs',rfl,hlo,hh,hcont⟩:=hEl.resolve_left (fun e=>by have:=e.1;rw [this] at hkl;simp at hkl)
     have hke':=hkids.out _ (List.getElem_mem hkl)
     have hr1:=hrank.out _ hke'.1 hke'.2.2.1
     have hr2:=hrank.out _ hke'.2.1 hke'.2.2.2
     have hmx:=mix_set n.el (fun p=>(L.rankN b p.1,L.rankN b p.2)) k hkl
     obtain ⟨hml,hmg⟩:=mix_get n.el (fun p=>(L.rankN b p.1,L.rankN b p.2)) k hkl
     obtain ⟨f1,f2⟩:=flatP_get _ k hml
     rw [hmg] at f1 f2
     have e1:=hcont _ _ f1
     have e2:=hcont _ _ f2
     have hnx:=flatP_put hml hmx hcont
     have hhl:h' < wr.heap.size:=(Array.getElem?_eq_some_iff.1 hh).1
     have z1:wr.cell? ⟨h',k * 2,none⟩ = some (.int .i64 (n.el[k].1:Nat)):=by simp [World.cell?,hh,e1]
     have z2:wr.cell? ⟨h',k * 2+1,none⟩ = some (.int .i64 (n.el[k].2:Nat)):=by simp [World.cell?,hh,e2]
     have xc:wr.cell? ⟨x,2,none⟩ = some (.slice (some ⟨h',0,none⟩) n.el.length cc):=by simp [World.cell?,hbx]
     generalize hp1:n.el[k].1 = p1 at *
     generalize hp2:n.el[k].2 = p2 at *
     have hlk1:=(hMw.same (w':=wr.alloc (.cells #[.int .i64 (p1:Nat),.int .i64 (p2:Nat)] 130)) (Below.heap_alloc _ _ _ hMw.lt)).lookD p1
     have hlk2:=(hMw.same (w':=wr.alloc (.cells #[.int .i64 (p1:Nat),.int .i64 (p2:Nat)] 130)) (Below.heap_alloc _ _ _ hMw.lt)).lookD p2
     rw [hr1] at hlk1
     rw [hr2] at hlk2
     have hxl:x < wr.heap.size:=(Array.getElem?_eq_some_iff.1 hbx).1
     have y3:wr.frozen? ⟨h',k * 2,none⟩ = false:=by simp [World.frozen?,hh]
     have y4:wr.frozen? ⟨h',k * 2+1,none⟩ = false:=by simp [World.frozen?,hh]
     have hnext:Hid (ElL n.el (fun p=>(L.rankN b p.1,L.rankN b p.2)) w12 (some ⟨h',0,none⟩) (x+1) (k+1) (((wr.setCell ⟨h',k * 2,none⟩ (.int .i64 (L.rankN b p1:Nat))).setCell ⟨h',k * 2+1,none⟩ (.int .i64 (L.rankN b p2:Nat))).alloc (.cells #[.int .i64 (p1:Nat),.int .i64 (p2:Nat)] 130))):=Lib.hid
      ⟨((hbl.setCell hlo _).setCell hlo _).alloc (by simp [World.setCell];omega) _,.inr ⟨h',_,rfl,hlo,(Below.heap_alloc _ _ _ (by simp [World.setCell];omega)).trans (heap_set (heap_set hh _ _) _ _),by simp only [hp1,hp2] at hnx;exact hnx⟩⟩
     replace hbx:=Lib.hid hbx
     replace hh:=Lib.hid hh
     replace hMw:=Lib.hid hMw
     replace hp1:=Lib.hid hp1
     replace hp2:=Lib.hid hp2
     replace hbl:=Lib.hid hbl
     clear hcont hnx hmx f1 f2 e1 e2 hmg hEl hr1 hr2
     go_wp2_with fail
     go_roundw
     case rel=>exact ⟨k+1,by omega,by go_num,hnext⟩
     case measure=>simp [intOf];omega
    ·obtain rfl:k = n.el.length:=by omega
     have hbx5:wr.heap[x]? = some (.cells #[.int .i64 n.pl,.int .i64 n.lit,.slice bc n.el.length cc,.int .u64 (lo n.le),.int .u64 (hi n.le)] 101 (0,0)):=hbx
     obtain ⟨x0,x1,x2,x3,x4,_⟩:=cells5 hbx5
     have hf12:Fr [] w9 wr:=⟨hbl.os.trans hrest12.out.1,hbl.tape.trans hrest12.out.2.1,hbl.output.trans hrest12.out.2.2,by have:=hbl.size;omega,fun k hk _=>(hbl.block k (by omega)).trans (hoth12.out k (by omega))⟩
     have hgr:wr.heap[pm+1]? = some (.cells cs tNode (0,0)):=(hf12.block _ (by omega) (by simp)).trans ((hoth.out _ (by omega)).trans hcs.out)
     have hcsz':=hcsz.out
     have hget:∀ t,t < 5→∃ u,wr.cell? ⟨pm+1,i * 5+t,none⟩ = some u∧wr.frozen? ⟨pm+1,i * 5+t,none⟩ = false:=fun t ht=>⟨cs[i * 5+t]'(by omega),by simp [World.cell?,hgr],by simp [World.frozen?,hgr]⟩
     obtain ⟨u0,a0,b0⟩:=hget 0 (by omega)
     obtain ⟨u1,a1,b1⟩:=hget 1 (by omega)
     obtain ⟨u2,a2,b2⟩:=hget 2 (by omega)
     obtain ⟨u3,a3,b3⟩:=hget 3 (by omega)
     obtain ⟨u4,a4,b4⟩:=hget 4 (by omega)
     replace a0:wr.cell? ⟨pm+1,i * 5,none⟩ = some u0:=a0
     replace b0:wr.frozen? ⟨pm+1,i * 5,none⟩ = false:=b0
     have hfE:Fr [pm+1] wr (((((wr.setCell ⟨pm+1,i * 5,none⟩ (.int .i64 n.pl)).setCell ⟨pm+1,i * 5+1,none⟩ (.int .i64 n.lit)).setCell ⟨pm+1,i * 5+2,none⟩ (.slice bc n.el.length cc)).setCell ⟨pm+1,i * 5+3,none⟩ (.int .u64 (lo n.le))).setCell ⟨pm+1,i * 5+4,none⟩ (.int .u64 (hi n.le))) :=
      ((((Fr.setCell _ _ _).trans (Fr.setCell _ _ _)).trans (Fr.setCell _ _ _)).trans (Fr.setCell _ _ _)).trans (Fr.setCell _ _ _)
     have hgE:=heap_set (heap_set (heap_set (heap_set (heap_set hgr (i * 5) (.int .i64 n.pl)) (i * 5+1) (.int .i64 n.lit)) (i * 5+2) (.slice bc n.el.length cc)) (i * 5+3) (.int .u64 (lo n.le))) (i * 5+4) (.int .u64 (hi n.le))
     have hkl:(L.keepNodes s.nodes b).length = b.length:=L.keep_len _ _
     have htk:(L.keepNodes s.nodes b).take (i+1) = (L.keepNodes s.nodes b).take i++[L.renN b n]:=by
      rw [List.take_add_one,hkn.out];rfl
     have hnewEl:ElAt wr (.slice bc n.el.length cc) (L.renN b n).el:=by
      have hle:(L.renN b n).el.length = n.el.length:=List.length_map ..
      rcases hEl with ⟨e1,e2⟩ | ⟨h',cs',e1,e2,e3,e4⟩
      ·rcases hcc.out with ⟨_,_,e5⟩ | ⟨g,e5⟩
       ·exact ⟨bc,cc,by rw [hle],.inl ⟨e2,by show n.el.map _ = [];rw [e1];rfl,e5⟩⟩
       ·rw [e5] at e2;cases e2
      ·refine ⟨bc,cc,by rw [hle],.inr ⟨h',0,e1,cs',(0,0),e3,fun j u hj=>?_⟩⟩
       rw [Nat.zero_add]
       refine e4 j u ?_
       rw [List.take_length,List.drop_length,List.append_nil]
       exact hj
     have hnext:Hid (KeepL s.nodes b w8 pm (pm+1) (i+1) (((((wr.setCell ⟨pm+1,i * 5,none⟩ (.int .i64 n.pl)).setCell ⟨pm+1,i * 5+1,none⟩ (.int .i64 n.lit)).setCell ⟨pm+1,i * 5+2,none⟩ (.slice bc n.el.length cc)).setCell ⟨pm+1,i * 5+3,none⟩ (.int .u64 (lo n.le))).setCell ⟨pm+1,i * 5+4,none⟩ (.int .u64 (hi n.le)))):=Lib.hid (by
      refine ⟨⟨(a,i) :: m,hMw.same (hfE.block _ hMw.lt (by simp)),hnums.out⟩,⟨_,vs++[.slice bc n.el.length cc],hgE,by simpa using hcsz',by simp [hvl.out],?_,fun j hj hk=>?_,fun v hv y hy=>?_⟩,(hf9.out.seq hf12 (fun _ h=>by cases h)).seq hfE (fun y hy=>.inl (by simp at hy;simp [hy]))⟩
      ·rw [htk]
       exact flatN_set (n:=L.renN b n) (by rw [hvl.out,List.length_take];omega) (by rw [List.length_take];omega) hcsz' hlt hfl.out
      ·have hkeepEl:∀ v l,ElAt wr v l→ElAt _ v l:=fun v l hv=>hv.stay (fun y hy hc=>hfE.block y hy (by
        obtain ⟨c1,fz1,hc1⟩:=hc
        intro e
        have e:y = pm+1:=by simpa using e
        rw [e,hgr] at hc1
        simp [tNode,tPair] at hc1))
       by_cases hji:j < vs.length
       ·have e1:(vs++[.slice bc n.el.length cc])[j] = vs[j]:=List.getElem_append_left hji
        rw [e1]
        refine hkeepEl _ _ ((hel.out j hji hk).stay fun y hy hc=>?_)
        have hy9:y < x:=by have:=hs9.out;omega
        obtain ⟨c1,fz1,hc1⟩:=hc
        refine (hf12.block y (by omega) (by simp)).trans (hoth.out y (fun e=>?_))
        obtain ⟨L1,c2,hL,_⟩:=hm.out
        rw [e,hL] at hc1
        simp at hc1
       ·have hje:j = vs.length:=by simp at hj;omega
        subst hje
        have e1:(vs++[.slice bc n.el.length cc])[vs.length] = .slice bc n.el.length cc:=by simp
        have e2:(L.keepNodes s.nodes b)[vs.length] = L.renN b n:=by
         have:=hkn.out
         rw [←hvl.out,List.getElem?_eq_getElem hk] at this
         exact Option.some.inj this
        rw [e1,e2]
        exact hkeepEl _ _ hnewEl
      ·rcases List.mem_append.1 hv with hv | hv
       ·exact heb.out v hv y hy
       ·rw [List.mem_singleton] at hv
        subst hv
        have h8:=hs8.out
        have hpm':=hpm.out
        rcases hEl with ⟨_,e2⟩ | ⟨h',cs',e1,e2,_⟩
        ·rw [e2] at hy;simp [Value.ownBlock] at hy
        ·rw [e1] at hy
         simp [Value.ownBlock] at hy
         omega)
     replace hbx:=Lib.hid hbx
     replace hMw:=Lib.hid hMw
     replace hgr:=Lib.hid hgr
     replace hEl:=Lib.hid hEl
     clear hbx5 hf12 hget hfE hgE hkl htk hnewEl hbl hcsz'
     go_wp2_with fail
     go_roundw
     case rel=>exact ⟨i+1,by omega,by go_num,hnext⟩
     case measure=>simp [intOf];omega
  ·obtain rfl:i = b.length:=by omega
   obtain ⟨wo,rfl⟩:∃ wo:World,wo = wr:=⟨wr,rfl⟩
   have hRw:=hR6.out.below (hpm.out ▸ hkeep.out wo hfr)
   obtain ⟨nv0,vs0,hst,hns0,_⟩:=hRw.store
   have hnv0:∀ k z,nv0≠.int k z:=fun k z e=>by
    obtain ⟨cap,e2⟩:=hns0.form
    rw [e2] at e;cases e
   have hkl:(L.keepNodes s.nodes b).length = b.length:=L.keep_len _ _
   have hsbp:B.sb < pm:=by
    have:=hR6.out.mut_old B.sb (by simp [Blks.mut])
    have:=hpm.out
    omega
   have hglob:=hRw.glob
   have hmut:=h.out.mut_old
   have hsm:(L.keepNodes s.nodes b).length≤1048576∧∀ n∈L.keepNodes s.nodes b,smallN n:=⟨by omega,fun n hn=>by
    obtain ⟨j,hj,rfl⟩:=List.getElem_of_mem hn
    obtain ⟨a,n',ha,hma,hn',e⟩:=L.keep_from hcl.out (List.getElem?_eq_getElem hj)
    rw [e]
    obtain ⟨s1,s2,s3,s4,s5,s6⟩:=hRw.small.2 n' (List.mem_of_getElem? hn')
    refine ⟨s1,s2,s3,s4,by show (n'.el.map _).length≤_;rw [List.length_map];exact s5,fun p hp=>?_⟩
    obtain ⟨q,hq,rfl⟩:=List.mem_map.1 hp
    obtain ⟨m1,m2⟩:=hcl.out.shut a hma n' hn' q hq
    have:=L.rank_lt m1
    have:=L.rank_lt m2
    exact ⟨by show L.rankN b q.1≤_;omega,by show L.rankN b q.2≤_;omega⟩⟩
   have hgsb:pm+1≠B.sb:=by omega
   have c2:wo.cell? ⟨B.sb,2,none⟩ = some nv0:=by simp [World.cell?,hst]
   have f2:wo.frozen? ⟨B.sb,2,none⟩ = false:=by simp [World.frozen?,hst]
   have hst':(wo.setCell ⟨B.sb,2,none⟩ (.slice (some ⟨pm+1,0,none⟩) b.length b.length)).heap[B.sb]? = some (.cells #[.slice (some ⟨B.tb,0,none⟩) s.tree.length B.tc,.map (some B.lb),.slice (some ⟨pm+1,0,none⟩) b.length b.length,.map (some B.ub),.map (some B.ab),.map (some B.mb)] tStore (0,0)):=heap_set hst 2 _
   have hfs:Fr [B.sb] wo (wo.setCell ⟨B.sb,2,none⟩ (.slice (some ⟨pm+1,0,none⟩) b.length b.length)):=Fr.setCell _ _ _
   have hcs':=hfs.get hcs (by simpa using hgsb)
   have hnodes:NodesAt (wo.setCell ⟨B.sb,2,none⟩ (.slice (some ⟨pm+1,0,none⟩) b.length b.length)) (.slice (some ⟨pm+1,0,none⟩) b.length b.length) (pm+1) (L.keepNodes s.nodes b) vs:=by
    have hfl':cs.toList = flatN (L.keepNodes s.nodes b) vs:=by
     have hlen:=flatN_len (L.keepNodes s.nodes b) vs (by omega)
     apply List.ext_getElem?
     intro j
     by_cases hj:j < b.length * 5
     ·have h1:(flatN (L.keepNodes s.nodes b) vs)[j]? = some (flatN (L.keepNodes s.nodes b) vs)[j]:=List.getElem?_eq_getElem (by omega)
      have h2:=hfl j _ (by rw [List.take_of_length_le (by omega)];exact h1)
      rw [h1,Array.getElem?_toList];exact h2
     ·rw [List.getElem?_eq_none (by simp;omega),List.getElem?_eq_none (by omega)]
    refine ⟨by omega,⟨by rw [flatN_len _ _ (by omega)],.inr ⟨pm+1,b.length,cs,by rw [hkl],Nat.zero_le _,hcs',by omega,by unfold maxLen;omega,hcsz,?_⟩⟩,rfl,fun j hj hv=>(hel j hv hj).stay fun y hy hc=>hfs.block y hy (fun e=>?_)⟩
    ·rw [hkl,List.take_of_length_le (by simp;omega),hfl']
    ·obtain ⟨c1,fz1,hc1⟩:=hc
     have e:y = B.sb:=by simpa using e
     rw [e,hst] at hc1
     simp [tStore,tPair] at hc1
   have hqr:=rebuild_any (hRw.pow.same (hfs.block _ hRw.pow.lt (by have:=(hglob B.sb (by simp [Blks.mut])).1;simp;omega))) hst' hnodes hsm (hglob B.sb (by simp [Blks.mut])).1
   have hmk3:=fun w=>run_make_row' (P:=Tryz.prog) 76 3 (.int .i64 0) 8 Tryz.underlying76 int_info rfl .i64 .i64 l.length (by omega) (by omega) w
   replace hRw:=Lib.hid hRw
   replace hm:=Lib.hid hm
   replace hmn:=Lib.hid hmn
   replace hcs:=Lib.hid hcs
   replace hcsz:=Lib.hid hcsz
   replace hvl:=Lib.hid hvl
   replace hfl:=Lib.hid hfl
   replace hel:=Lib.hid hel
   replace heb:=Lib.hid heb
   replace hfr:=Lib.hid hfr
   replace hnodes:=Lib.hid hnodes
   replace hst':=Lib.hid hst'
   replace hfs:=Lib.hid hfs
   replace hcs':=Lib.hid hcs'
   replace hst:=Lib.hid hst
   replace hkl:=Lib.hid hkl
   replace hsm:=Lib.hid hsm
   replace hglob:=Lib.hid hglob
   replace hmut:=Lib.hid hmut
   clear hns0
   go_wp2_with fail
   generalize wo.setCell ⟨B.sb,2,none⟩ (.slice (some ⟨pm+1,0,none⟩) b.length b.length) = w' at *
   refine hqr.mono ?_
   rintro e w7 ⟨rfl,r1,r2,r3,r4,r5⟩
   replace r1:=Lib.hid r1
   replace r2:=Lib.hid r2
   replace r3:=Lib.hid r3
   replace r4:=Lib.hid r4
   replace r5:=Lib.hid r5
   clear hqr c2 f2
   have hq7:=heap_alloc_new w7 (.cells (madeCells #[.int .i64 0] l.length) 3)
   have hb7:Below w7.heap.size w7 (w7.alloc (.cells (madeCells #[.int .i64 0] l.length) 3)):=(Below.refl _ _).alloc (Nat.le_refl _) _
   have hout0:Hid (OutL b l w7 0 (w7.alloc (.cells (madeCells #[.int .i64 0] l.length) 3))):=Lib.hid ⟨hb7,_,hq7,by simp [madeCells],fun j hj h=>by omega⟩
   replace hq7:=Lib.hid hq7
   clear hb7
   go_wp2_with fail
   generalize w7.alloc (.cells (madeCells #[.int .i64 0] l.length) 3) = w70 at *
   have hhl:Hid (∀ y,y < w.heap.size→y≠B.sb→w7.heap[y]? = w.heap[y]?):=Lib.hid fun y hy hne=>(r5.out.block y (by have:=hfs.out.size;have:=hfr.out.size;have:=hs8.out;have:=hpm.out;omega) (by simpa using hne)).trans ((hfs.out.block y (by have:=hfr.out.size;have:=hs8.out;have:=hpm.out;omega) (by simpa using hne)).trans (((hkeep.out wo hfr.out).block y (by omega)).trans (hB6.out.block y hy)))
   have hbsw:B.sb < w.heap.size:=hmut.out B.sb (by simp [Blks.mut])
   have hstw:=((hB6.out.block _ hbsw).symm.trans ((hkeep.out wo hfr.out).block _ (by omega)).symm).trans hst.out
   have hlc:Hid (∀ j (hj:j < l.length),∃ bL oL,ba = some ⟨bL,oL,none⟩∧∀ wi,Below w7.heap.size w7 wi→wi.cell? ⟨bL,oL+j,none⟩ = some (.int .i64 (l[j]:Nat))):=Lib.hid fun j hj=>by
    rcases hv2.out with ⟨_,e,_⟩ | ⟨bL,oL,e,hc⟩
    ·have:=congrArg List.length e
     simp at this;subst this;simp at hj
    ·have hcj:=hc j (by rw [List.length_map];exact hj)
     rw [List.getElem_map] at hcj
     have hbl:=World.block_lt_of_cell? w _ hcj
     have hne:bL≠B.sb:=fun e=>by
      rw [e] at hcj
      exact not_store hnv0 hstw hcj
     have hw7:bL < w7.heap.size:=by
      have:=r5.out.size;have:=hfs.out.size;have:=hfr.out.size;have:=hs8.out;have:=hpm.out
      have:bL < w.heap.size:=hbl
      omega
     exact ⟨bL,oL,e,fun wi hwi=>(World.cell?_of_block (a:=⟨bL,oL+j,none⟩) ((hwi.block bL hw7).trans (hhl.out bL hbl hne))).trans hcj⟩
   have hpm7:pm < w7.heap.size:=by have:=r5.out.size;have:=hfs.out.size;have:=hfr.out.size;have:=hs8.out;have:=hpm.out;omega
   have hM7:MapAt encNat encNat w7 pm (asc m):=hm.out.same ((r5.out.block _ (by have:=hfs.out.size;have:=hfr.out.size;have:=hs8.out;have:=hpm.out;omega) (by simp;omega)).trans (hfs.out.block _ (by have:=hfr.out.size;have:=hs8.out;have:=hpm.out;omega) (by simp;omega)))
   have hrk:Hid (∀ a∈l,ascD m a = L.rankN b a):=Lib.hid fun a ha=>by
    have hg:=L.rank_at (hlb.out a ha)
    obtain ⟨l1,e1⟩:=List.getElem?_eq_some_iff.1 hg
    have:=hmn.out _ l1 l1
    rw [e1] at this
    unfold ascD
    rw [this]
   have hq7s:w7.heap.size < w70.heap.size:=(Array.getElem?_eq_some_iff.1 hq7.out).1
   replace hM7:=Lib.hid hM7
   replace hstw:=Lib.hid hstw
   go_loopw [96] (fun kv wi=>∃ k:Nat,k≤l.length∧kv = .int .i64 k∧Hid (OutL b l w7 k wi)) (fun kv _=>l.length - (intOf kv).toNat)
   case atStart=>exact ⟨0,Nat.zero_le _,rfl,hout0⟩
   case round =>
    clear hout0
    obtain ⟨k,hkl',rfl,hI⟩:=hrel
    obtain ⟨hbo,co,hco,hcoz,hcof⟩:=hI.out
    clear hI
    by_cases hlt:k < l.length
    ·obtain ⟨bL,oL,rfl,hcl'⟩:=hlc.out k hlt
     have z1:=hcl' wr hbo
     have hlk:=(hM7.out.same (hbo.block _ hpm7)).lookD l[k]
     rw [hrk.out _ (List.getElem_mem hlt)] at hlk
     have y1:wr.cell? ⟨w7.heap.size,k,none⟩ = some (co[k]'(by omega)):=by simp [World.cell?,hco]
     have y2:wr.frozen? ⟨w7.heap.size,k,none⟩ = false:=by simp [World.frozen?,hco]
     have hnext:Hid (OutL b l w7 (k+1) (wr.setCell ⟨w7.heap.size,k,none⟩ (.int .i64 (L.rankN b l[k]:Nat)))):=Lib.hid
      ⟨hbo.setCell (Nat.le_refl _) _,_,heap_set hco _ _,by simpa using hcoz,fun j hj hjk=>by
        rw [Array.getElem?_setIfInBounds]
        by_cases e:k = j
        ·subst e;rw [if_pos rfl,if_pos (by omega)]
        ·rw [if_neg e];exact hcof j hj (by omega)⟩
     generalize l[k] = a at *
     generalize co[k]'(by omega) = u at *
     replace hco:=Lib.hid hco
     replace hcof:=Lib.hid hcof
     clear hcl'
     go_wp2_with fail
     go_roundw
     case rel=>exact ⟨k+1,by omega,by go_num,hnext⟩
     case measure=>simp [intOf];omega
    ·obtain rfl:k = l.length:=by omega
     have hfin:Hid (RetKeep B s l w (.returned (.tuple #[.slice (some ⟨w7.heap.size,0,none⟩) l.length l.length,.int .i64 0])) wr):=Lib.hid (by
      have hs':pm+2≤w'.heap.size:=by have:=hfs.out.size;have:=hfr.out.size;have:=hs8.out;have:=hpm.out;omega
      have hs7:=r5.out.size
      have hR:=hRw.out
      have hlbm:B.lb < w.heap.size:=hmut.out B.lb (by simp [Blks.mut])
      have hpl:=h.out.pow.lt
      have htl':=h.out.tz.lt'
      have old:∀ y,y≠B.sb→y < wo.heap.size→w7.heap[y]? = wo.heap[y]?:=fun y hne hy=>(r5.out.block y (by have:=hfs.out.size;omega) (by simpa using hne)).trans (hfs.out.block y hy (by simpa using hne))
      have hstn:=hst.out
      refine ⟨b,_,{ B with nb:=pm+1,ub:=w'.heap.size,ab:=w'.heap.size+1,mb:=w'.heap.size+1+1,eb:=vs.filterMap Value.ownBlock },rfl,hcl.out,hlb.out,hmx.out,⟨by simp,.inr ⟨w7.heap.size,l.length,co,rfl,by omega,hco,Nat.le_refl _,by unfold maxLen;omega,by omega,?_⟩⟩,Rep.below ?_ hbo,?_⟩
      ·apply List.ext_getElem?
       intro j
       by_cases hj:j < l.length
       ·rw [List.getElem?_take_of_lt (by omega),Array.getElem?_toList,hcof j hj hj,List.getElem?_map,List.getElem?_map,List.getElem?_eq_getElem hj]
        rfl
       ·rw [List.getElem?_eq_none (by simp;omega),List.getElem?_eq_none (by simp;omega)]
      ·exact {
        tz:=hR.tz.same (old _ (by have:=(hglob.out B.sb (by simp [Blks.mut])).2;omega) hR.tz.lt')
        pow:=hR.pow.same (old _ (by have:=(hglob.out B.sb (by simp [Blks.mut])).1;omega) hR.pow.lt)
        glob:=fun k hk=>by
         simp [Blks.mut] at hk
         rcases hk with rfl | rfl | rfl | rfl | rfl | rfl
         ·exact hglob.out _ (by simp [Blks.mut])
         ·omega
         ·omega
         ·omega
         ·omega
         ·exact hglob.out _ (by simp [Blks.mut])
        store:=⟨_,vs,r1.out,⟨hnodes.out.len,ownsRow_same hnodes.out.own (fun k hk=>by
          simp [Value.ownBlock] at hk
          subst hk
          exact r5.out.block _ (by omega) (by simp;omega)),rfl,fun j hj hv=>(hnodes.out.els j hj hv).stay fun y hy hc=>r5.out.block y hy (fun e=>by
          obtain ⟨c1,fz1,hc1⟩:=hc
          have e:y = B.sb:=by simpa using e
          rw [e,hst'.out] at hc1
          simp [tStore,tPair] at hc1)⟩,fun v hv y hy=>List.mem_filterMap.2 ⟨v,hv,hy⟩⟩
        tree:=by
         obtain ⟨c1,fz1,hb1,hc1⟩:=hR.tree
         refine ⟨c1,fz1,(old _ (fun e=>?_) (Array.getElem?_eq_some_iff.1 hb1).1).trans hb1,hc1⟩
         rw [e,hstn] at hb1
         simp [tStore] at hb1
        leaf:=hR.leaf.same (old _ (fun e=>by
         obtain ⟨L1,c1,hb1,_⟩:=hR.leaf
         rw [e,hstn] at hb1
         simp at hb1) hR.leaf.lt)
        uniq:=r2.out
        ands:=mapEmpty encPr encNat r3.out
        nots:=mapEmpty encNat encNat r4.out
        apart:=by
         refine ⟨?_,?_,?_,?_,?_,?_⟩ <;> simp <;> omega
        small:=hsm.out }
      ·refine ⟨⟨hbo.os.trans (r5.out.os.trans (hfs.out.os.trans ((hkeep.out _ hfr.out).os.trans hB6.out.os))),hbo.tape.trans (r5.out.tape.trans (hfs.out.tape.trans ((hkeep.out _ hfr.out).tape.trans hB6.out.tape))),hbo.output.trans (r5.out.output.trans (hfs.out.output.trans ((hkeep.out _ hfr.out).output.trans hB6.out.output))),by have:=hbo.size;omega,fun y hy hM=>(hbo.block y (by omega)).trans (hhl.out y hy (fun e=>hM (by simp [Blks.mut,e])))⟩,rfl,fun k hk=>?_,fun k hk=>?_⟩
       ·simp [Blks.mut] at hk
        rcases hk with rfl | rfl | rfl | rfl | rfl | rfl
        ·exact .inl (by simp [Blks.mut])
        ·exact .inr (by omega)
        ·exact .inr (by omega)
        ·exact .inr (by omega)
        ·exact .inr (by omega)
        ·exact .inl (by simp [Blks.mut])
       ·obtain ⟨v,hv,hy⟩:=List.mem_filterMap.1 hk
        have:=heb.out v hv k hy
        exact .inr (.inl (by have:=hs8.out;have:=hpm.out;omega)))
     clear hco hcof
     go_wp2_with fail
     go_ret2
     exact hfin.out
end Go.Proofs.YtemnmcfmabamcaaGreatDoor
