/- CondExists answers true for every net and two sets, and leaves its arguments as they were: the row and its tied card. Conditions: the three listed package variables start as the program's text lays them (tied by the card). -/
import Derived.Test.YtckhohpbokojdaaGreatDoorHN47
import Derived.Test.YtckhohpbokojdaaGreatDoorHCdexFacts
import Derived.Test.YtckhohpbokojdaaGreatDoorHCardIn
set_option linter.unusedSimpArgs false
set_option linter.unusedVariables false
namespace Go.Proofs.YtckhohpbokojdaaGreatDoor.Cdex
open Go Go.ChangeShapes Go.WideShapes Go.ChangeAt Go.RowKit Go.Deep
set_option maxRecDepth 100000 in
theorem contract (H:Type) (enc:TypeId × Value→H) (W:World) (base:Nat) (args:Array Value) (ds gs:List (DataW H)) (before:List MemPlace)
  (hval:∀ (j:Nat) t v,Tryz.f8.params[j]? = some t→args[j]? = some v→Value.okWide Tryz.prog W .any base t v)
  (hW:DataW.Whole enc Tryz.prog Tryz.f8.params.toList Rows.condExistsSpec.vars false W args.toList ds gs before) (hsz:(DataW.weightsEach Tryz.prog (Tryz.f8.params.toList++(OpenSpec.ofChange Rows.condExistsSpec).bare.plain.varTypes Tryz.prog) (ds++gs)).all (·≤reachBytes) = true) (hL:laidMetH Tryz.prog Rows.condExistsRow.laid W) :
  Calls Tryz.prog 8 args W fun e W'=>∃ v,e = .returned v∧Rows.condExistsSpec.post enc Tryz.prog Tryz.f8 false true false false W args v W':=by
 have hW':=hW
 obtain ⟨p,q,hA0,hV,rfl,hfz,hnd⟩:=hW
 have hA:DataW.TrodAll enc Tryz.prog W 0 (fun _=>true) true Tryz.f8.params.toList args.toList ds p:=hA0
 have hAll:=hA
 rw [Tryz.params8] at hA hval
 obtain ⟨v0,vs0,d0,ds0,p0,q0,ha0,rfl,hp0,h0,hA1⟩:=trodAll_cons hA
 obtain ⟨v1,vs1,d1,ds1,p1,q1,ha1,rfl,hp1,h1,hA2⟩:=trodAll_cons hA1
 obtain ⟨v2,vs2,d2,ds2,p2,q2,ha2,rfl,hp2,h2,hA3⟩:=trodAll_cons hA2
 obtain ⟨ha3,rfl,hp3⟩:=trodAll_nil hA3
 obtain rfl:args = #[v0,v1,v2]:=by
  cases args
  simp_all
 obtain ⟨rfl,rfl⟩:=trodVars_none hV
 obtain ⟨cs0,rfl,hz0⟩:=okWide_struct Tryz.underlying24 (hval 0 24 v0 rfl rfl)
 obtain ⟨fuel0,hf0⟩:=h0
 obtain ⟨n0,C0,u0,hv0,ht0⟩:=open_net hz0 hf0
 rw [hv0] at hW' hAll ⊢
 obtain ⟨cs1,rfl,hz1⟩:=okWide_array Tryz.underlying37 (hval 1 37 v1 rfl rfl)
 obtain ⟨fuel1,hf1⟩:=h1
 obtain ⟨x1,y1,hv1,ht1⟩:=open_set hz1 hf1
 rw [hv1] at hW' hAll ⊢
 obtain ⟨cs2,rfl,hz2⟩:=okWide_array Tryz.underlying37 (hval 2 37 v2 rfl rfl)
 obtain ⟨fuel2,hf2⟩:=h2
 obtain ⟨x2,y2,hv2,ht2⟩:=open_set hz2 hf2
 rw [hv2] at hW' hAll ⊢
 have hlt:∀ x∈p,x.block < W.heap.size:=fun x hx=>hW'.lt x (List.mem_append_left _ hx)
 obtain ⟨hT,hP⟩:=laid_tabs rfl hL
 refine (condexists_card W hT hP ht0 ht1 ht2).mono fun e W' ⟨he,hb⟩=>?_
 subst he
 refine ⟨_,rfl,_,_,_,[],p,[],hW',?_,?_,?_,hb.frame _,fun h=>by cases h⟩
 ·exact trodAll_mk1 (shut_bool Tryz.underlying4 _)
 ·exact trodAll_below laidOut hb (by kernel_rfl) hAll hlt
 ·exact rfl
theorem laid_met (os:Os):laidMet Tryz.prog Rows.condExistsRow.laid ((laidWorld os).forCall (fun _ _=>0) ⟨#[],#[.agg #[.int .i64 0,.slice none 0 0],.agg #[.int .u64 0,.int .u64 0],.agg #[.int .u64 0,.int .u64 0]],[]⟩).memory :=
 laidMet_of_run' 8 (by kernel_rfl) (by kernel_rfl)
theorem reads (os:Os) {H:Type} (enc:TypeId × Value→H):∃ places,DataW.whole enc Tryz.prog ((laidWorld os).forCall (fun _ _=>0) ⟨#[],#[.agg #[.int .i64 0,.slice none 0 0],.agg #[.int .u64 0,.int .u64 0],.agg #[.int .u64 0,.int .u64 0]],[]⟩).memory Tryz.f8.params.toList Rows.condExistsSpec.vars false #[Value.agg #[.int .i64 0,.slice none 0 0],Value.agg #[.int .u64 0,.int .u64 0],Value.agg #[.int .u64 0,.int .u64 0]].toList 8 = some ([.agg [.lit (.int .i64 0),.nil],.agg [.lit (.int .u64 0),.lit (.int .u64 0)],.agg [.lit (.int .u64 0),.lit (.int .u64 0)]],[],places) :=
 ⟨[],by kernel_rfl⟩
set_option maxRecDepth 100000 in
theorem lifted (os:Os) (started:os.Started) (H:Type) (enc:TypeId × Value→H) (F:Stop.Interp) :
  ReturnsInHanded {} Tryz.checked os 8 .any ((OpenSpec.ofChange Rows.condExistsSpec).preRow enc Tryz.prog Tryz.f8 Rows.condExistsRow.domain false Rows.condExistsRow.laid) (((OpenSpec.ofChange Rows.condExistsSpec).at F).post enc Tryz.prog Tryz.f8 false true false false):=by
 obtain ⟨places,hx⟩:=reads os enc
 refine returnsInHanded_of_row (C:=Tryz.checked) (s:=OpenSpec.ofChange Rows.condExistsSpec) own started (by kernel_rfl) Tryz.func8
  (witness_row_at (enc:=enc) (C:=Tryz.checked) false (laidWorld os) #[.agg #[.int .i64 0,.slice none 0 0],.agg #[.int .u64 0,.int .u64 0],.agg #[.int .u64 0,.int .u64 0]] rfl (by kernel_rfl) (by kernel_rfl) (by kernel_rfl)
    (OpenSpec.preRow_of_cond 8 hx (by kernel_rfl) (fun k hk=>by cases hk) (by kernel_rfl) (laid_met os))) ?_
 intro W base args ds gs before hval hW _ _ hsz hL _ _
 exact contract H enc W base args ds gs before hval hW hsz hL
set_option maxRecDepth 100000 in
theorem said:Rows.CondExistsSaid :=
 OpenClaim.holds_of_cond 8 Tryz.f8 rfl rfl rfl rfl rfl rfl rfl ⟨rfl,rfl,rfl,rfl,rfl⟩ rfl rfl rfl rfl rfl (by kernel_rfl) Tryz.func8 closed
  (of_decide_eq_true (by kernel_rfl)) (by unfold Func.isWrapper;first | (rw [if_pos (by decide +kernel)];kernel_rfl) | (rw [if_neg (by decide +kernel)];exact ⟨rfl,rfl⟩))
  (fun os started H enc _ F=>by rw [OpenClaim.pre_eq_preRow];exact lifted os started H enc F)
set_option maxRecDepth 100000 in
theorem plain (f : FuncId) (fn : Func) (hf : Tryz.pinned.checked.prog.funcNamed "census/censuslaw35.CondExists" = some f) (hfn : Tryz.pinned.checked.prog.funcs[f]? = some fn) :
  false = Tryz.pinned.checked.prog.looks []∧∀ (j:Nat) t,fn.params[j]? = some t→Tryz.pinned.checked.prog.wantsStandIn t = false:=by
 obtain rfl : f = 8 := Option.some.inj ((show Tryz.prog.funcNamed "census/censuslaw35.CondExists" = some 8 by kernel_rfl).symm.trans hf) |>.symm
 obtain rfl:fn = Tryz.f8:=(Option.some.inj (Tryz.func8.symm.trans hfn)).symm
 refine ⟨by kernel_rfl,fun j t ht=>?_⟩
 have hall:Tryz.f8.params.toList.all (fun t=>!Tryz.prog.wantsStandIn t) = true:=by kernel_rfl
 have:=List.all_eq_true.1 hall t (by simpa using Array.mem_of_getElem? ht)
 show Tryz.prog.wantsStandIn t = false
 simpa using this
set_option maxRecDepth 100000 in
theorem card:Rows.CondExistsCardSaid :=
 Claim7.holds_tied_plain_at .later [] _ _ _ _ said (fun _ h=>by cases h) (by kernel_rfl) (fun _ h=>by cases h) condExists_row_tie rfl ⟨rfl,rfl⟩ (by kernel_rfl) rfl plain (by kernel_rfl)
#print axioms card
end Go.Proofs.YtckhohpbokojdaaGreatDoor.Cdex
