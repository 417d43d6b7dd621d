import Derived.Test.YtckhohpbokojdaaGreatDoorChecked
import Derived.Test.YtckhohpbokojdaaGreatDoorRows
import Derived.JoinedCond
import Derived.Deep.DeepHandedRow
import Derived.ProofKit
import Derived.WalkKit
set_option linter.unusedSimpArgs false
set_option linter.unusedVariables false
namespace Go.Proofs.YtckhohpbokojdaaGreatDoor.Cdall
open Go
set_option maxRecDepth 100000
noncomputable abbrev pp:Program:=Tryz.pinned.checked.prog
abbrev cc:OpenClaim:=Rows.condAllRow
abbrev ss:ChangeSpec:=(OpenSpec.ofChange Rows.condAllSpec).bare
theorem k1:cc.wf (OpenSpec.ofChange ss) = true:=by kernel_rfl
theorem k2:laidOutB pp = true:=by kernel_rfl
theorem k3:mapsRowed pp = true:=by kernel_rfl
theorem k4:Tryz.f6.params.all (pp.readableRec ·) = true:=by kernel_rfl
theorem k5:namedTie pp cc.named ss.vars = true:=by kernel_rfl
theorem k6:(cc.stops == []) = true:=by kernel_rfl
theorem k7:(pp.stops == []) = true:=by kernel_rfl
theorem k8:(cc.knobs == []) = true:=by kernel_rfl
theorem k9:(pp.stopKnobs == []) = true:=by kernel_rfl
theorem k10:(cc.inPlace == pp.inPlace 6) = true:=by kernel_rfl
theorem k11:(cc.unfollowed == pp.unfollowed 6) = true:=by kernel_rfl
theorem k12:(cc.recurses == pp.recurses 6) = true:=by kernel_rfl
theorem k13:(cc.named == pp.varsNamed 6) = true:=by kernel_rfl
theorem closed:joinedFacts pp 6 Tryz.f6 ss cc = true:=by
 unfold joinedFacts
 rw [k1,k2,k3,k4,k5,k6,k7,k8,k9,k10,k11,k12,k13]
 kernel_rfl
end Go.Proofs.YtckhohpbokojdaaGreatDoor.Cdall
