/- VsearchEnds answers true for every question, and leaves its arguments as they were: the row and its tied card. Conditions: the three listed package variables start as the program's text lays them (tied by the card). -/
import Derived.Test.YtemnmcfmabamcaaGreatDoorYVend
import Derived.Test.YtemnmcfmabamcaaGreatDoorYAskIn
set_option linter.unusedSimpArgs false
set_option linter.unusedVariables false
set_option maxRecDepth 100000
namespace Go.Proofs.YtemnmcfmabamcaaGreatDoor.Sends
open Go Go.ChangeShapes Go.WideShapes Go.ChangeAt Go.RowKit Go.Deep
theorem contract(H:Type)(enc:TypeId × Value→H)(W:World)(base:Nat)(args:Array Value)(ds gs:List (DataW H))(before:List MemPlace)
  (gB:∀(j:Nat) t v,Tryz.f3.params[j]? =some t→args[j]? =some v→Value.okWide Tryz.prog W .any base t v)
  (hW:DataW.Whole enc Tryz.prog Tryz.f3.params.toList Rows.vsearchEndsSpec.vars false W args.toList ds gs before) (hL:laidMetH Tryz.prog Rows.vsearchEndsRow.laid W) :
  Calls Tryz.prog 3 args W fun e W'=>∃v,e= .returned v∧Rows.vsearchEndsSpec.post enc Tryz.prog Tryz.f3 false true false false W args v W':=by
 have hW':=hW;obtain⟨p,q,hA0,hV,rfl,hfz,sr⟩:=hW;have hA:DataW.TrodAll enc Tryz.prog W 0 (fun _=>true) true Tryz.f3.params.toList args.toList ds p:=hA0;have xI:=hA;rw[Tryz.params3]at hA gB;obtain⟨v0,vs0,d0,ds0,p0,q0,ni,rfl,kq,h0,hA1⟩:=trodAll_cons hA;obtain⟨lU,rfl,gG⟩:=trodAll_nil hA1
 obtain rfl:args=#[v0]:=by
  cases args
  simp_all
 obtain⟨rfl,rfl⟩:=trodVars_none hV;obtain⟨cs0,rfl,bH⟩:=okWide_struct Tryz.underlying26 (gB 0 26 v0 rfl rfl);obtain⟨fuel0,uY⟩:=h0;obtain⟨ba0,cap0,t0,bt0,p0,nz,ht0,da,hr0⟩:=Zoh bH uY;rw[nz]at hW' xI ⊢;have aD:∀x∈p,x.block<W.heap.size:=fun x hx=>hW'.lt x (List.mem_append_left _ hx)
 obtain⟨hT,hP⟩:=ZkF rfl hL;refine(Zk9 W ba0 cap0 hT hP ht0 da hr0).mono fun e W' ⟨he,hb⟩=>?_
 subst he;refine⟨_,rfl,_,_,_,[],p,[],hW',?_,?_,?_,hb.frame _,fun h=>by cases h⟩
 ·exact trodAll_mk1 (shut_bool Tryz.underlying4 _)
 ·exact Zef ZpC hb (by kernel_rfl) xI aD
 ·exact rfl
theorem laid_met(os:Os):laidMet Tryz.prog Rows.vsearchEndsRow.laid ((Zeu os).forCall (fun _ _=>0) ⟨#[],#[.agg #[.slice none 0 0,.int .u16 0,.int .i64 0]],[]⟩).memory :=
 laidMet_of_run' 8 (by kernel_rfl) (by kernel_rfl)
theorem reads(os:Os){H:Type}(enc:TypeId × Value→H):∃places,DataW.whole enc Tryz.prog ((Zeu os).forCall (fun _ _=>0) ⟨#[],#[.agg #[.slice none 0 0,.int .u16 0,.int .i64 0]],[]⟩).memory Tryz.f3.params.toList Rows.vsearchEndsSpec.vars false #[Value.agg #[.slice none 0 0,.int .u16 0,.int .i64 0]].toList 8=some ([.agg [.nil,.lit (.int .u16 0),.lit (.int .i64 0)]],[],places) :=
 ⟨[],by kernel_rfl⟩
theorem lifted(os:Os)(started:os.Started)(H:Type)(enc:TypeId × Value→H)(F:Stop.Interp) :
  ReturnsInHanded {} Tryz.checked os 3 .any ((OpenSpec.ofChange Rows.vsearchEndsSpec).preRow enc Tryz.prog Tryz.f3 Rows.vsearchEndsRow.domain false Rows.vsearchEndsRow.laid) (((OpenSpec.ofChange Rows.vsearchEndsSpec).at F).post enc Tryz.prog Tryz.f3 false true false false):=by
 obtain⟨places,hx⟩:=reads os enc
 refine returnsInHanded_of_row (C:=Tryz.checked) (s:=OpenSpec.ofChange Rows.vsearchEndsSpec) own started (by kernel_rfl) Tryz.func3
  (witness_row_at (enc:=enc) (C:=Tryz.checked) false (Zeu os) #[.agg #[.slice none 0 0,.int .u16 0,.int .i64 0]] rfl (by kernel_rfl) (by kernel_rfl) (by kernel_rfl)
    (OpenSpec.preRow_of_cond 8 hx (by kernel_rfl) (fun k hk=>by cases hk) (by kernel_rfl) (laid_met os))) ?_
 intro W base args ds gs before gB hW _ _ _ hL _ _;exact contract H enc W base args ds gs before gB hW hL
theorem said:Rows.VsearchEndsSaid :=
 OpenClaim.holds_of_cond 3 Tryz.f3 rfl rfl rfl rfl rfl rfl rfl ⟨rfl,rfl,rfl,rfl,rfl⟩ rfl rfl rfl rfl rfl (by kernel_rfl) Tryz.func3 (by kernel_rfl)
  (of_decide_eq_true (by kernel_rfl)) (by unfold Func.isWrapper;first|(rw[if_pos (by decide +kernel)];kernel_rfl)|(rw[if_neg (by decide +kernel)];exact⟨rfl,rfl⟩))
  (fun os started H enc _ F=>by rw[OpenClaim.pre_eq_preRow];exact lifted os started H enc F)
theorem plain(f : FuncId)(fn : Func)(hf : Tryz.pinned.checked.prog.funcNamed "census/censuslaw29.VsearchEnds" =some f)(wJ : Tryz.pinned.checked.prog.funcs[f]? =some fn) :
  true=Tryz.pinned.checked.prog.looks []∧∀(j:Nat) t,fn.params[j]? =some t→Tryz.pinned.checked.prog.wantsStandIn t=false:=by
 obtain rfl : f=3 :=Option.some.inj ((show Tryz.prog.funcNamed "census/censuslaw29.VsearchEnds" =some 3 by kernel_rfl).symm.trans hf) |>.symm
 obtain rfl:fn=Tryz.f3:=(Option.some.inj (Tryz.func3.symm.trans wJ)).symm;refine⟨by kernel_rfl,fun j t ht=>?_⟩;have az:Tryz.f3.params.toList.all (fun t=>!Tryz.prog.wantsStandIn t)=true:=by kernel_rfl
 have:=List.all_eq_true.1 az t (by simpa using Array.mem_of_getElem? ht)
 show Tryz.prog.wantsStandIn t=false
 simpa using this
theorem card:Rows.VsearchEndsCardSaid :=
 Claim7.holds_tied_plain_at .later [] _ _ _ _ said (fun _ h=>by cases h) (by kernel_rfl) (fun _ h=>by cases h) vsearchEnds_row_tie rfl ⟨rfl,rfl⟩ (by kernel_rfl) rfl plain (by kernel_rfl)
#print axioms card
end Go.Proofs.YtemnmcfmabamcaaGreatDoor.Sends
