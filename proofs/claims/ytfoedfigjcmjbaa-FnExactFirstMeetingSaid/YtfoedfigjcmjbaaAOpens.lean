/- The openings of the arguments' types, and what is left to prove of each law, about numbers and lists alone. Written by this session's row2.py. No conditions. -/
import Derived.Test.YtfoedfigjcmjbaaOpen
import Derived.Test.YtfoedfigjcmjbaaA0
namespace Go.Proofs.Ytfoedfigjcmjbaa.A
open Go.RowKit Go.Proofs.YtfoedfigjcmjbaaW.PrintWords Go.Proofs.YtfoedfigjcmjbaaW.PrintLast Go.Proofs.Ytfoedfigjcmjbaa.O
set_option linter.unusedVariables false
def Wf_i64 (x : Int) : Prop := (Lit.int .i64 x).wf = true
def Wf_T43 (x : S43) : Prop := Wf_i64 x.f0 ∧ Wf_i64 x.f1
def Wf_L43 (x : List (S43)) : Prop := x.length ≤ maxLen ∧ ∀ y ∈ x, Wf_T43 y
theorem open_T43 (W : World) : Opens Try.prog W 43 k43 (fun x : S43 => Wf_T43 x) :=
  Opens.mono (Opens.struct (fun a => (⟨a.1, a.2⟩ : S43)) (fun _ => rfl) Try.underlying43 (by kernel_rfl) (OpensF.cons rfl (by kernel_rfl) (Opens.int Try.underlying2) (OpensF.one rfl (by kernel_rfl) (Opens.int Try.underlying2)))) (fun x h => h)
end Go.Proofs.Ytfoedfigjcmjbaa.A
