/- The openings of the arguments' types, and what is left to prove of each law, about numbers and lists alone. Written by this session's row2.py. No conditions. -/
import Derived.Test.YtjpjlobpglmoiaaDoorOpen
import Derived.Test.YtjpjlobpglmoiaaDoorA0
namespace Go.Proofs.YtjpjlobpglmoiaaDoor.A
open Go.RowKit Go.Proofs.YtjpjlobpglmoiaaDoorW.PrintWords Go.Proofs.YtjpjlobpglmoiaaDoorW.PrintLast Go.Proofs.YtjpjlobpglmoiaaDoor.O
set_option linter.unusedVariables false
def Wf_str (x : ByteArray) : Prop := x.size ≤ maxLen
def Wf_L9 (x : List ByteArray) : Prop := x.length ≤ maxLen ∧ ∀ y ∈ x, Wf_str y
def Wf_T24 (x : S24) : Prop := Wf_L9 x.f0 ∧ Wf_L9 x.f1
def Wf_i64 (x : Int) : Prop := (Lit.int .i64 x).wf = true
theorem open_T24 (W : World) : Opens Tryd.prog W 24 k24 (fun x : S24 => Wf_T24 x) :=
  Opens.mono (Opens.struct (fun a => (⟨a.1, a.2⟩ : S24)) (fun _ => rfl) Tryd.underlying24 (by kernel_rfl) (OpensF.cons rfl (by kernel_rfl) (haveI : Inhabited (ByteArray) := ⟨(⟨#[]⟩ : ByteArray)⟩; Opens.slice Tryd.underlying22 (by kernel_rfl) (Opens.mono (Opens.string Tryd.underlying9) (fun _ h => h))) (OpensF.one rfl (by kernel_rfl) (haveI : Inhabited (ByteArray) := ⟨(⟨#[]⟩ : ByteArray)⟩; Opens.slice Tryd.underlying22 (by kernel_rfl) (Opens.mono (Opens.string Tryd.underlying9) (fun _ h => h)))))) (fun x h => h)
end Go.Proofs.YtjpjlobpglmoiaaDoor.A
