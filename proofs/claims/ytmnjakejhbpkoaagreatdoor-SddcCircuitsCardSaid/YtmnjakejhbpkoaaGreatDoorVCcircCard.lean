/- SddcCircuits answers true for every circuit and vtree, and leaves its arguments as they were: the row and its tied card. Conditions: the three listed package variables start as the program's text lays them (tied by the card). -/
import Derived.Test.YtmnjakejhbpkoaaGreatDoorVCirc27
import Derived.Test.YtmnjakejhbpkoaaGreatDoorVCcircFacts
set_option linter.unusedSimpArgs false
set_option linter.unusedVariables false
set_option maxRecDepth 100000
namespace Go.Proofs.YtmnjakejhbpkoaaGreatDoor.Ccirc
open Go Go.ChangeShapes Go.WideShapes Go.ChangeAt Go.RowKit Go.Deep
theorem contract(H:Type)(enc:TypeId × Value→H)(W:World)(base:Nat)(args:Array Value)(ds gs:List (DataW H))(before:List MemPlace)
  (av:∀(j:Nat) t v,Tryz.f8.params[j]? =some t→args[j]? =some v→Value.okWide Tryz.prog W .any base t v)
  (hW:DataW.Whole enc Tryz.prog Tryz.f8.params.toList Rows.sddcCircuitsSpec.vars false W args.toList ds gs before) (bW:(DataW.weightsEach Tryz.prog (Tryz.f8.params.toList++(OpenSpec.ofChange Rows.sddcCircuitsSpec).bare.plain.varTypes Tryz.prog) (ds++gs)).all (·≤reachBytes)=true) (hL:laidMetH Tryz.prog Rows.sddcCircuitsRow.laid W) :
  Calls Tryz.prog 8 args W fun e W'=>∃v,e= .returned v∧Rows.sddcCircuitsSpec.post enc Tryz.prog Tryz.f8 false true false false W args v W':=by
 have tp:=hW;obtain⟨p,q,hA0,hV,rfl,hfz,gU⟩:=hW;have hA:DataW.TrodAll enc Tryz.prog W 0 (fun _=>true) true Tryz.f8.params.toList args.toList ds p:=hA0;have oB:=hA;rw[Tryz.params8]at hA av;obtain⟨v0,vs0,d0,ds0,p0,q0,kC,rfl,qR,h0,hA1⟩:=trodAll_cons hA;obtain⟨v1,vs1,d1,ds1,p1,q1,gQ,rfl,iU,h1,vJ⟩:=trodAll_cons hA1;obtain⟨gY,rfl,jj⟩:=trodAll_nil vJ
 obtain rfl:args=#[v0,v1]:=by
  cases args
  simp_all
 obtain⟨rfl,rfl⟩:=trodVars_none hV;obtain⟨cs0,rfl,bB⟩:=Zgo Tryz.underlying84 (av 0 84 v0 rfl rfl);obtain⟨fuel0,uC⟩:=h0;obtain⟨n0,C0,u0,gV,ht0⟩:=Zg9 bB uC;rw[gV]at tp oB ⊢;obtain⟨ax1,lx1,cx1,rfl⟩:=okWide_slice Tryz.underlying26 (av 1 26 v1 rfl rfl);obtain⟨fuel1,uD⟩:=h1;obtain⟨eZ,uv,t1,bI,fZ⟩:=Zli uD
 have fJ:t1.length≤5864062014805:=by
  have h9:=ZjX bW (j:=1) (by kernel_rfl) rfl uD;have h8:=(Value.slice.inj bI).2.1;omega
 rw[bI]at tp oB ⊢;have aE:∀x∈p,x.block<W.heap.size:=fun x hx=>tp.lt x (List.mem_append_left _ hx)
 obtain⟨hT,hP⟩:=ZkV rfl hL;refine(ZgM W eZ uv hT hP ht0 fZ fJ).mono fun e W' ⟨he,hb⟩=>?_
 subst he;refine⟨_,rfl,_,_,_,[],p,[],tp,?_,?_,?_,hb.frame _,fun h=>by cases h⟩
 ·exact trodAll_mk1 (shut_bool Tryz.underlying4 _)
 ·exact ZdA Znx hb (by kernel_rfl) oB aE
 ·exact rfl
theorem laid_met(os:Os):laidMet Tryz.prog Rows.sddcCircuitsRow.laid ((ZeW os).forCall (fun _ _=>0) ⟨#[],#[.agg #[.int .i64 0,.slice none 0 0],.slice none 0 0],[]⟩).memory :=
 laidMet_of_run' 8 (by kernel_rfl) (by kernel_rfl)
theorem reads(os:Os){H:Type}(enc:TypeId × Value→H):∃places,DataW.whole enc Tryz.prog ((ZeW os).forCall (fun _ _=>0) ⟨#[],#[.agg #[.int .i64 0,.slice none 0 0],.slice none 0 0],[]⟩).memory Tryz.f8.params.toList Rows.sddcCircuitsSpec.vars false #[Value.agg #[.int .i64 0,.slice none 0 0],Value.slice none 0 0].toList 8=some ([.agg [.lit (.int .i64 0),.nil],.nil],[],places) :=
 ⟨[],by kernel_rfl⟩
theorem lifted(os:Os)(started:os.Started)(H:Type)(enc:TypeId × Value→H)(F:Stop.Interp) :
  ReturnsInHanded {} Tryz.checked os 8 .any ((OpenSpec.ofChange Rows.sddcCircuitsSpec).preRow enc Tryz.prog Tryz.f8 Rows.sddcCircuitsRow.domain false Rows.sddcCircuitsRow.laid) (((OpenSpec.ofChange Rows.sddcCircuitsSpec).at F).post enc Tryz.prog Tryz.f8 false true false false):=by
 obtain⟨places,hx⟩:=reads os enc
 refine returnsInHanded_of_row (C:=Tryz.checked) (s:=OpenSpec.ofChange Rows.sddcCircuitsSpec) own started (by kernel_rfl) Tryz.func8
  (witness_row_at (enc:=enc) (C:=Tryz.checked) false (ZeW os) #[.agg #[.int .i64 0,.slice none 0 0],.slice none 0 0] rfl (by kernel_rfl) (by kernel_rfl) (by kernel_rfl)
    (OpenSpec.preRow_of_cond 8 hx (by kernel_rfl) (fun k hk=>by cases hk) (by kernel_rfl) (laid_met os))) ?_
 intro W base args ds gs before av hW _ _ bW hL _ _;exact contract H enc W base args ds gs before av hW bW hL
theorem said:Rows.SddcCircuitsSaid :=
 OpenClaim.holds_of_cond 8 Tryz.f8 rfl rfl rfl rfl rfl rfl rfl ⟨rfl,rfl,rfl,rfl,rfl⟩ rfl rfl rfl rfl rfl (by kernel_rfl) Tryz.func8 Zod
  (of_decide_eq_true (by kernel_rfl)) (by unfold Func.isWrapper;first|(rw[if_pos (by decide +kernel)];kernel_rfl)|(rw[if_neg (by decide +kernel)];exact⟨rfl,rfl⟩))
  (fun os started H enc _ F=>by rw[OpenClaim.pre_eq_preRow];exact lifted os started H enc F)
theorem plain(f : FuncId)(fn : Func)(hf : Tryz.pinned.checked.prog.funcNamed "census/censuslaw27.SddcCircuits" =some f)(fU : Tryz.pinned.checked.prog.funcs[f]? =some fn) :
  true=Tryz.pinned.checked.prog.looks []∧∀(j:Nat) t,fn.params[j]? =some t→Tryz.pinned.checked.prog.wantsStandIn t=false:=by
 obtain rfl : f=8 :=Option.some.inj ((show Tryz.prog.funcNamed "census/censuslaw27.SddcCircuits" =some 8 by kernel_rfl).symm.trans hf) |>.symm
 obtain rfl:fn=Tryz.f8:=(Option.some.inj (Tryz.func8.symm.trans fU)).symm;refine⟨by kernel_rfl,fun j t ht=>?_⟩;have aN:Tryz.f8.params.toList.all (fun t=>!Tryz.prog.wantsStandIn t)=true:=by kernel_rfl
 have:=List.all_eq_true.1 aN t (by simpa using Array.mem_of_getElem? ht)
 show Tryz.prog.wantsStandIn t=false
 simpa using this
theorem card:Rows.SddcCircuitsCardSaid :=
 Claim7.holds_tied_plain_at .later [] _ _ _ _ said (fun _ h=>by cases h) (by kernel_rfl) (fun _ h=>by cases h) sddcCircuits_row_tie rfl ⟨rfl,rfl⟩ (by kernel_rfl) rfl plain (by kernel_rfl)
#print axioms card
end Go.Proofs.YtmnjakejhbpkoaaGreatDoor.Ccirc
