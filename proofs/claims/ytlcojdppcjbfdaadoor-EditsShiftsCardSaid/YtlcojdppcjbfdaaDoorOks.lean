/- What an argument of each struct type tells when it reads as data. -/
import Derived.Test.YtlcojdppcjbfdaaDoorF0
import Derived.Test.YtlcojdppcjbfdaaDoorOpn
set_option linter.unusedVariables false
namespace Go.Proofs.YtlcojdppcjbfdaaDoor.Opn
open Go.RowKit Go.Proofs.YtlcojdppcjbfdaaDoorW.PrintWords Go.Proofs.YtlcojdppcjbfdaaDoor.F
def ok53 (x : S53) : Prop := (fun n => (Lit.int .i64 n).wf = true) x.f0 ∧ (fun n => (Lit.int .i64 n).wf = true) x.f1 ∧ (fun s => s.size ≤ maxLen) x.f2
theorem opens53 : Opens Tryd.prog 53 k53 ok53 := opens_imp (opens_struct Tryd.underlying53 (fields_cons rfl (opens_int Tryd.underlying3) (by kernel_rfl) (fields_cons rfl (opens_int Tryd.underlying3) (by kernel_rfl) (fields_one rfl (opens_string Tryd.underlying9) (by kernel_rfl)))) (by kernel_rfl) (fun x => (⟨x.1, x.2.1, x.2.2⟩ : S53)) (fun _ => rfl)) (fun x h => h)
end Go.Proofs.YtlcojdppcjbfdaaDoor.Opn
