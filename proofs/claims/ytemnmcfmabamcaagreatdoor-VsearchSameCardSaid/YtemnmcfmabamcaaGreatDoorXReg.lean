import Derived.Test.YtemnmcfmabamcaaGreatDoorXTab2
import Derived.Test.YtemnmcfmabamcaaGreatDoorXNot
import Derived.Test.YtemnmcfmabamcaaGreatDoorXLaw5
import Derived.Shelf.SlGeneric
import Derived.Shelf.SortM.Plain
import Derived.Test.YtemnmcfmabamcaaGreatDoorProg
import Derived.Test.YtemnmcfmabamcaaGreatDoorXBase
import Derived.Deep.RegionHeld3
section
set_option linter.unusedSimpArgs false
set_option linter.unusedVariables false
namespace Go.Proofs.YtemnmcfmabamcaaGreatDoor
open Go Go.RowKit Go.Shelf
theorem and_c {t:List VN} {B0:Blks} {w0 w:World} {k k' c a b:Nat} {s:St} {φ ψ:L.Asg→Bool} (h:SS t B0 w0 k s w) (hc:L.ca (L.nv t (t.length - 1))≤c) (hk:k'+c≤k) (ha:Val s a φ) (hb:Val s b ψ) :
  Calls Tryz.prog 37 #[.pointer (some ⟨B0.sb,0,none⟩),.int .i64 a,.int .i64 b] w (RetV t B0 w0 k' s fun x=>φ x && ψ x):=by
 obtain ⟨B,hR,hS⟩:=h.held
 obtain ⟨g1,g2,g3⟩:=root_cost h.chk h.few
 have hd:=L.and_spec h.chk h.few _ g1 14 (by have:=h.few;omega) s a b h.tree (h.room.less (by omega)) ha.lt hb.lt (by rw [←h.tree];exact dep_root h.inv ha.lt) (by rw [←h.tree];exact dep_root h.inv hb.lt)
 obtain ⟨r,s',e,hr⟩:=ret_did h hR hS (k':=k') (c:=c) hk (hd.mono hc) (fun _ _ _ _ _ h=>h)
 rw [←hS.sb]
 refine (and_top (andF_law 14) hR h.ne ha.lt hb.lt e).mono fun e w' hh=>?_
 obtain ⟨r,s',h1,h2,h3,h4⟩:=hr e w' hh
 exact ⟨r,s',h1,h2,h3,h4.congr fun x=>by rw [ha.sem,hb.sem]⟩
theorem or_c {t:List VN} {B0:Blks} {w0 w:World} {k k' c d a b:Nat} {s:St} {φ ψ:L.Asg→Bool} (h:SS t B0 w0 k s w) (hc:L.ca (L.nv t (t.length - 1))≤c) (hd':L.cn (L.nv t (t.length - 1))≤d) (hk:k'+(3 * d+c)≤k) (ha:Val s a φ) (hb:Val s b ψ) :
  Calls Tryz.prog 38 #[.pointer (some ⟨B0.sb,0,none⟩),.int .i64 a,.int .i64 b] w (RetV t B0 w0 k' s fun x=>φ x || ψ x):=by
 obtain ⟨B,hR,hS⟩:=h.held
 obtain ⟨g1,g2,g3⟩:=root_cost h.chk h.few
 have hd:=L.or_spec (L.not_spec h.chk h.few _ g1 14 (by have:=h.few;omega)) (L.and_spec h.chk h.few _ g1 14 (by have:=h.few;omega)) s a b h.tree (h.room.less (by omega)) ha.lt hb.lt (by rw [←h.tree];exact dep_root h.inv ha.lt) (by rw [←h.tree];exact dep_root h.inv hb.lt)
 obtain ⟨r,s',e,hr⟩:=ret_did h hR hS (k':=k') (c:=3 * d+c) hk (hd.mono (by omega)) (fun _ _ _ _ _ h=>h)
 rw [←hS.sb]
 refine (or_top (orF_law (notF_law 14) (andF_law 14)) hR h.ne ha.lt hb.lt e).mono fun e w' hh=>?_
 obtain ⟨r,s',h1,h2,h3,h4⟩:=hr e w' hh
 exact ⟨r,s',h1,h2,h3,h4.congr fun x=>by rw [ha.sem,hb.sem]⟩
theorem free_cost {t:List VN} (hc:checkF t = 0) (h7:t.length≤7):L.ca (L.nv t (t.length - 1))≤0∧L.cn (L.nv t (t.length - 1))≤0:=by
 have h0:=(check_ok hc).1
 have h1:=L.nv_le hc (v:=t.length - 1) (by omega)
 constructor
 ·unfold L.ca;rw [if_pos (by omega)];exact Nat.le_refl _
 ·unfold L.cn;rw [if_pos (by omega)];exact Nat.le_refl _
end Go.Proofs.YtemnmcfmabamcaaGreatDoor
end
section
set_option linter.unusedSimpArgs false
set_option linter.unusedVariables false
namespace Go.Proofs.YtemnmcfmabamcaaGreatDoor
open Go Go.RowKit Go.Shelf
def NewP (n:Nat) (w:World) (ba:Option Addr) (l:List (Nat × Nat)):Prop:=l = []∨∃ g cs,ba = some ⟨g,0,none⟩∧n≤g∧w.heap[g]? = some (.cells cs tPair (0,0))∧∀ j u,(flatP l)[j]? = some u→cs[0+j]? = some u
theorem clone_pairs_nil (w:World):Calls Tryz.prog 118 #[.slice none 0 0] w fun e w'=>e = .returned (.slice none 0 0)∧w = w':=by
 refine (AnyE.slices_Clone_nil Tryz.clonePair 0 0 w).mono ?_
 rintro e w' ⟨rfl,rfl⟩
 exact ⟨rfl,rfl⟩
end Go.Proofs.YtemnmcfmabamcaaGreatDoor
end
section
set_option linter.unusedSimpArgs false
set_option linter.unusedVariables false
namespace Go.Proofs.YtemnmcfmabamcaaGreatDoor
open Go Go.RowKit Go.Shelf
theorem elAt_clone {w:World} {v:Value} {l:List (Nat × Nat)} (h:ElAt w v l) (hl:l.length≤1048576):Calls Tryz.prog 118 #[v] w fun e w'=>∃ ba cap,e = .returned (.slice ba l.length cap)∧NewP w.heap.size w' ba l∧Below w.heap.size w w':=by
 obtain ⟨ba,c,rfl,⟨rfl,rfl,rfl⟩ | ⟨b,o,rfl,hr⟩⟩:=h
 ·refine (clone_pairs_nil w).mono ?_
  rintro e w' ⟨rfl,rfl⟩
  exact ⟨none,0,rfl,.inl rfl,Below.refl _ _⟩
 ·refine (clone_pairs w b o c l hr hl).mono ?_
  rintro e w' ⟨g,cap,cs,rfl,h1,h2,h3,h4⟩
  exact ⟨_,cap,rfl,.inr ⟨g,cs,rfl,h1,h2,h3⟩,h4⟩
set_option maxRecDepth 100000 in
set_option maxHeartbeats 1000000 in
theorem elements_any {B:Blks} {s:St} {w:World} {a:Nat} {n:SNode} (h:Rep B s w) (ht:s.tree≠[]) (hn:s.nodes[a]? = some n) :
  Calls Tryz.prog 91 #[.pointer (some ⟨B.sb,0,none⟩),.int .i64 a] w fun e w'=>∃ ba cap,e = .returned (.tuple #[.slice ba n.el.length cap,.int .i64 0])∧NewP w.heap.size w' ba n.el∧Below w.heap.size w w':=by
 have ha:a < s.nodes.length:=(List.getElem?_eq_some_iff.1 hn).1
 have hch:chkF s.nodes.length [(a:Int)] = 0:=by simp [chkF,ha]
 have hns:=h.small.1
 have hel:n.el.length≤1048576:=(h.small.2 n (List.mem_of_getElem? hn)).2.2.2.2.1
 replace hch:=Lib.hid hch
 have hx1:=(Ext.refl w).alloc (.cells #[.int .i64 a] 3)
 have hz1:=heap_alloc_new w (.cells #[.int .i64 a] 3)
 go_enter Tryz.func91,Tryz.ntmps91
 go_wp2_with fail
 generalize w.alloc (.cells #[.int .i64 a] 3) = w1 at *
 have hR1:=h.below hx1.below
 have hq:=sck_any hR1 ht (slI_one hz1) (by simp)
 rw [hch.out] at hq
 clear hz1
 obtain ⟨cap,_,_,cn,_⟩:=hR1.cells
 obtain ⟨v,hv,_,n0,n1,n2,_⟩:=hR1.node hn
 have hq2:=elAt_clone hv hel
 replace hR1:=Lib.hid hR1
 replace hv:=Lib.hid hv
 clear h
 refine hq.mono ?_
 rintro e w2 ⟨rfl,rfl⟩
 have d0:decide ((a:Int) < s.nodes.length) = true:=decide_eq_true (by omega)
 have d1:decide (0≤(a:Int)) = true:=decide_eq_true (by omega)
 clear hq
 go_wp2_with fail
 refine hq2.mono ?_
 rintro e w3 ⟨ba,cp,rfl,hP,hb3⟩
 replace hP:=Lib.hid hP
 go_wp2_with fail
 go_ret2
 refine ⟨ba,cp,rfl,?_,hx1.below.trans (hb3.mono hx1.size)⟩
 rcases hP.out with e | ⟨g,cs,e1,e2,e3⟩
 ·exact .inl e
 ·exact .inr ⟨g,cs,e1,Nat.le_trans hx1.size e2,e3⟩
theorem elements_v {t:List VN} {B0:Blks} {w0 w:World} {k a:Nat} {s:St} {n:SNode} (h:SS t B0 w0 k s w) (hn:s.nodes[a]? = some n) :
  Calls Tryz.prog 91 #[.pointer (some ⟨B0.sb,0,none⟩),.int .i64 a] w fun e w'=>∃ ba cap,e = .returned (.tuple #[.slice ba n.el.length cap,.int .i64 0])∧NewP w.heap.size w' ba n.el∧Below w.heap.size w w':=by
 obtain ⟨B,hR,hS⟩:=h.held
 rw [←hS.sb]
 exact elements_any hR h.ne hn
theorem at_v {t:List VN} {B0:Blks} {w0 w:World} {k a:Nat} {s:St} {n:SNode} (h:SS t B0 w0 k s w) (hn:s.nodes[a]? = some n) :
  Calls Tryz.prog 41 #[.pointer (some ⟨B0.sb,0,none⟩),.int .i64 a] w fun e w'=>e = .returned (.tuple #[.int .i64 n.pl,.int .i64 0])∧Below w.heap.size w w':=by
 obtain ⟨B,hR,hS⟩:=h.held
 rw [←hS.sb]
 exact at_any hR h.ne hn
theorem size_v {t:List VN} {B0:Blks} {w0 w:World} {k a:Nat} {s:St} (h:SS t B0 w0 k s w) (ha:a < s.nodes.length) :
  Calls Tryz.prog 20 #[.pointer (some ⟨B0.sb,0,none⟩),.int .i64 a] w fun e w'=>∃ o:List Nat,(o.Nodup∧∀ b,b∈o↔L.Reach s.nodes a b)∧e = .returned (.tuple #[.int .i64 (sumEl s.nodes o),.int .i64 0])∧Below w.heap.size w w':=by
 obtain ⟨B,hR,hS⟩:=h.held
 have h0:=h.pos
 have hf:=h.few
 have hlen:=h.room.len
 obtain ⟨o,e,g1,g2⟩:=L.sizeF_spec h.inv (by omega) ha (v:=s.tree.length - 1) (by rw [h.tree];omega) (dep_root h.inv ha) (f:=14) (by rw [h.tree];omega)
 rw [←hS.sb]
 refine (size_any hR h.ne ha e).mono ?_
 rintro e w' ⟨rfl,hb⟩
 exact ⟨o,⟨g1,g2⟩,rfl,hb⟩
end Go.Proofs.YtemnmcfmabamcaaGreatDoor
end
section
set_option linter.unusedSimpArgs false
set_option linter.unusedVariables false
namespace Go.Proofs.YtemnmcfmabamcaaGreatDoor
open Go Go.RowKit Go.Shelf
theorem Rep.grownT {B:Blks} {s:St} {w w':World} {blk:Nat} {c0:Array Value} {t:TypeId} {f0:Nat × Nat} (h:Rep B s w) (hk:w.heap[blk]? = some (.cells c0 t f0)) (h1:t≠tPair) (h2:t≠tNode) (h3:t≠tStore) (h4:t≠78) (hg:blk≠gPow∧blk≠gTz)
  (hs:∀ (k:Nat) (o:Obj),k≠blk→w.heap[k]? = some o→w'.heap[k]? = some o):Rep B s w':=by
 obtain ⟨nv,vs,hst,hn,he⟩:=h.store
 obtain ⟨c',hc⟩:=hn.nbk
 have n1:B.sb≠blk:=fun e=>by rw [e,hk] at hst;simp at hst;exact h3 hst.2.1
 have n2:B.nb≠blk:=fun e=>by rw [e,hk] at hc;simp at hc;exact h2 hc.2.1
 have nm:∀ {α β:Type} [DecidableEq α] {enc:α→Value} {encV:β→Value} {b:Nat} {m:α→Option β},MapAt enc encV w b m→MapAt enc encV w' b m:=fun {α β _ enc encV b m} hm=>by
  obtain ⟨L,cl,hb,hm2⟩:=hm
  refine ⟨L,cl,hs b _ (fun e=>?_) hb,hm2⟩
  rw [e,hk] at hb;simp at hb
 have same:∀ k,k≠blk→k < w.heap.size→w'.heap[k]? = w.heap[k]?:=fun k h1 h2=>by
  rw [Array.getElem?_eq_getElem h2];exact hs k _ h1 (Array.getElem?_eq_getElem h2)
 exact {
  tz:=h.tz.same (same _ (Ne.symm hg.2) h.tz.lt')
  pow:=h.pow.same (same _ (Ne.symm hg.1) h.pow.lt)
  glob:=h.glob
  store:=by
   refine ⟨nv,vs,hs _ _ n1 hst,⟨hn.len,ownsRow_same hn.own ?_,hn.blk,fun i hi hv=>?_⟩,he⟩
   ·intro k hk2
    rw [hn.blk] at hk2
    cases hk2
    rw [hs _ _ n2 hc,hc]
   ·obtain ⟨ba,c,hve,hrow⟩:=hn.els i hi hv
    refine ⟨ba,c,hve,hrow.imp id ?_⟩
    rintro ⟨b,o,rfl,cs,fz,hb,hcs⟩
    exact ⟨b,o,rfl,cs,fz,hs b _ (fun e=>by rw [e,hk] at hb;simp at hb;exact h1 hb.2.1) hb,hcs⟩
  tree:=by
   obtain ⟨c,fz,hb,hcs⟩:=h.tree
   refine ⟨c,fz,hs _ _ (fun e=>?_) hb,hcs⟩
   rw [e,hk] at hb;simp at hb;exact h4 hb.2.1
  leaf:=nm h.leaf
  uniq:=nm h.uniq
  ands:=nm h.ands
  nots:=nm h.nots
  apart:=h.apart
  small:=h.small }
end Go.Proofs.YtemnmcfmabamcaaGreatDoor
end
section
namespace Go.Proofs
open Go.Shelf
def Tryz.sortInt_ren:Go.Shelf.Ren:=⟨fun | 5=>121 | 8=>142 | 7=>141 | 19=>165 | 20=>149 | 10=>156 | 11=>157 | 12=>158 | 13=>159 | 14=>160 | 15=>161 | 16=>162 | 17=>163 | 18=>164 | 30=>174 | 31=>175 | 32=>176 | 33=>177 | 34=>178 | 35=>179 | 40=>189 | n=>n,fun | 23=>76 | 25=>3 | 3=>3 | 32=>79 | 22=>76 | 0=>0 | 44=>198 | 46=>80 | 4=>4 | 36=>209 | 35=>208 | 41=>123 | 5=>5 | 9=>9 | 53=>223 | 57=>227 | 63=>239 | 64=>240 | n=>n,fun | n=>n⟩
theorem Tryz.sortInt:Go.Proofs.SlLaysM.n5 Tryz.prog Tryz.sortInt_ren:={
 mixed:=by kernel_rfl
 f5:=⟨Tryz.f121.name,by decide,Tryz.func121.trans (congrArg some (by kernel_rfl))⟩
 f7:=⟨Tryz.f141.name,by decide,Tryz.func141.trans (congrArg some (by kernel_rfl))⟩
 f8:=Tryz.func142.trans (congrArg some (by kernel_rfl))
 f10:=⟨Tryz.f156.name,by decide,Tryz.func156.trans (congrArg some (by kernel_rfl))⟩
 f11:=⟨Tryz.f157.name,by decide,Tryz.func157.trans (congrArg some (by kernel_rfl))⟩
 f12:=⟨Tryz.f158.name,by decide,Tryz.func158.trans (congrArg some (by kernel_rfl))⟩
 f13:=⟨Tryz.f159.name,by decide,Tryz.func159.trans (congrArg some (by kernel_rfl))⟩
 f14:=⟨Tryz.f160.name,by decide,Tryz.func160.trans (congrArg some (by kernel_rfl))⟩
 f15:=⟨Tryz.f161.name,by decide,Tryz.func161.trans (congrArg some (by kernel_rfl))⟩
 f16:=⟨Tryz.f162.name,by decide,Tryz.func162.trans (congrArg some (by kernel_rfl))⟩
 f17:=⟨Tryz.f163.name,by decide,Tryz.func163.trans (congrArg some (by kernel_rfl))⟩
 f18:=⟨Tryz.f164.name,by decide,Tryz.func164.trans (congrArg some (by kernel_rfl))⟩
 f19:=Tryz.func165.trans (congrArg some (by kernel_rfl))
 f20:=Tryz.func149.trans (congrArg some (by kernel_rfl))
 f30:=⟨Tryz.f174.name,by decide,Tryz.func174.trans (congrArg some (by kernel_rfl))⟩
 f31:=Tryz.func175.trans (congrArg some (by kernel_rfl))
 f32:=Tryz.func176.trans (congrArg some (by kernel_rfl))
 f33:=⟨Tryz.f177.name,by decide,Tryz.func177.trans (congrArg some (by kernel_rfl))⟩
 f34:=⟨Tryz.f178.name,by decide,Tryz.func178.trans (congrArg some (by kernel_rfl))⟩
 f35:=⟨Tryz.f179.name,by decide,Tryz.func179.trans (congrArg some (by kernel_rfl))⟩
 f40:=⟨Tryz.f189.name,by decide,Tryz.func189.trans (congrArg some (by kernel_rfl))⟩
 t0:=Tryz.underlying0
 a0:=Tryz.isAgg0
 z0:=Tryz.sizeOf0
 v0:=Tryz.zeroValue0
 t3:=Tryz.underlying3
 a3:=Tryz.isAgg3
 z3:=Tryz.sizeOf3
 v3:=Tryz.zeroValue3
 t4:=Tryz.underlying4
 a4:=Tryz.isAgg4
 z4:=Tryz.sizeOf4
 v4:=Tryz.zeroValue4
 t5:=Tryz.underlying5
 a5:=Tryz.isAgg5
 z5:=Tryz.sizeOf5
 v5:=Tryz.zeroValue5
 t9:=Tryz.underlying9
 a9:=Tryz.isAgg9
 z9:=Tryz.sizeOf9
 v9:=Tryz.zeroValue9
 t22:=Tryz.underlying76
 a22:=Tryz.isAgg76
 z22:=Tryz.sizeOf76
 v22:=Tryz.zeroValue76
 t23:=Tryz.underlying76
 a23:=Tryz.isAgg76
 z23:=Tryz.sizeOf76
 v23:=Tryz.zeroValue76
 t25:=Tryz.underlying3
 a25:=Tryz.isAgg3
 z25:=Tryz.sizeOf3
 v25:=Tryz.zeroValue3
 t32:=Tryz.underlying79
 a32:=Tryz.isAgg79
 z32:=Tryz.sizeOf79
 v32:=Tryz.zeroValue79
 t35:=Tryz.underlying208
 a35:=Tryz.isAgg208
 z35:=Tryz.sizeOf208
 v35:=Tryz.zeroValue208
 t36:=Tryz.underlying209
 a36:=Tryz.isAgg209
 z36:=Tryz.sizeOf209
 v36:=Tryz.zeroValue209
 t41:=Tryz.underlying123
 a41:=Tryz.isAgg123
 z41:=Tryz.sizeOf123
 v41:=Tryz.zeroValue123
 t44:=Tryz.underlying198
 a44:=Tryz.isAgg198
 z44:=Tryz.sizeOf198
 v44:=Tryz.zeroValue198
 t46:=Tryz.underlying80
 a46:=Tryz.isAgg80
 z46:=Tryz.sizeOf80
 v46:=Tryz.zeroValue80
 t53:=Tryz.underlying223
 a53:=Tryz.isAgg223
 z53:=Tryz.sizeOf223
 v53:=Tryz.zeroValue223
 t57:=Tryz.underlying227
 a57:=Tryz.isAgg227
 z57:=Tryz.sizeOf227
 v57:=Tryz.zeroValue227
 t63:=Tryz.underlying239
 a63:=Tryz.isAgg239
 z63:=Tryz.sizeOf239
 v63:=Tryz.zeroValue239
 t64:=Tryz.underlying240
 a64:=Tryz.isAgg240
 z64:=Tryz.sizeOf240
 v64:=Tryz.zeroValue240 }
end Go.Proofs
end
section
set_option linter.unusedSimpArgs false
set_option linter.unusedVariables false
namespace Go.Proofs.YtemnmcfmabamcaaGreatDoor
open Go Go.RowKit
theorem takeL {P:Program} {l:List Oper} {md:Region.Mode} {Q:Exit→Act→World→Prop} {S:World→Prop} {i:Nat} {oi:Oper} {v:Value} {fuel:Nat} {listed:Array Bool} {a:Act} {w:World} (hi:l[i]? = some oi)
  (hs:Region.noSelect l.toArray = true) (hf:Region.free md l.toArray listed i = true) (hr:(Region.ready md l.toArray listed).contains i = true)
  (hQ:∀ c a w,Q (.panic c) (a.put oi.dst v) w→Q (.panic c) a w) (hy:YieldsIf P l.toArray S oi v a) (hS:S w)
  (h:wpAnyH P md l.toArray Q S fuel (listed.setIfInBounds i true) (a.put oi.dst v) w):wpAnyH P md l.toArray Q S (fuel+1) listed a w :=
 wpAnyH_take (by simpa using hi) hs hf hr hQ hy hS h
theorem consL {P:Program} {l:List Oper} {md:Region.Mode} {Q:Exit→Act→World→Prop} {S:World→Prop} {fuel:Nat} {listed:Array Bool} {a:Act} {w:World} {i:Nat} {o:Oper} (ho:l[i]? = some o)
  (h:∀ K':Act→World→Prop,Shut (∀ a w,S w→(S w→wpAnyH P md l.toArray Q S fuel (listed.setIfInBounds i true) a w)→K' a w)→if Region.wanted o (yielded l.toArray a.tmps) = true then Oper.wp P o a w K' Q else K' (a.put o.dst undef) w)
  : AllReadyH P md l.toArray Q S fuel listed a w [i]:=AllReadyH.cons (by simpa using ho) h AllReadyH.nil
theorem consL2 {P:Program} {l:List Oper} {md:Region.Mode} {Q:Exit→Act→World→Prop} {S:World→Prop} {fuel:Nat} {listed:Array Bool} {a:Act} {w:World} {i j:Nat} {o p:Oper} (ho:l[i]? = some o) (hp:l[j]? = some p)
  (h:∀ K':Act→World→Prop,Shut (∀ a w,S w→(S w→wpAnyH P md l.toArray Q S fuel (listed.setIfInBounds i true) a w)→K' a w)→if Region.wanted o (yielded l.toArray a.tmps) = true then Oper.wp P o a w K' Q else K' (a.put o.dst undef) w)
  (h':∀ K':Act→World→Prop,Shut (∀ a w,S w→(S w→wpAnyH P md l.toArray Q S fuel (listed.setIfInBounds j true) a w)→K' a w)→if Region.wanted p (yielded l.toArray a.tmps) = true then Oper.wp P p a w K' Q else K' (a.put p.dst undef) w) :
  AllReadyH P md l.toArray Q S fuel listed a w [i,j]:=AllReadyH.cons (by simpa using ho) h (AllReadyH.cons (by simpa using hp) h' AllReadyH.nil)
end Go.Proofs.YtemnmcfmabamcaaGreatDoor
end
