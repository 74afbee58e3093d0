/- What the law answers: the last part, and the whole. -/
import Derived.Test.YtgakndkfbhhcnaaGreatPr
import Derived.Below
namespace Go.Px
open Go Go.Avm Go.RowKit
set_option maxRecDepth 1000000
theorem tail0 : endOf b6.results (run cl3 5005 b6T ⟨mid th0 s0, mkH s0.heap, none⟩) = some (.bool true) := by kernel_rfl
theorem names_true : callP pg3 5006 6 [] = some (.bool true) := names_run (n := 5005) (C := cl3) rfl th0_flat fd6 s0_eq run0 tail0
/-- a call without arguments that answers true, and leaves what it finds -/
theorem closed_walk {P : Program} {f : Nat} (h : PureOk P f [] (.bool true)) (w : World) : Go.Calls P f #[] w fun e w' => e = .returned (.bool true) ∧ Below w.heap.size w w' := by
  have ha : Agree ⟨fun _ _ => none, fun _ => none⟩ w := ⟨fun b o u h => (by cases h), fun b es h => (by cases h), fun b o u h => (by cases h)⟩
  refine (h w ⟨fun _ _ => none, fun _ => none⟩ #[] ha ⟨rfl, fun j v x hv => by simp at hv⟩).mono ?_
  rintro e w' ⟨u, k', rfl, h1, h2, h3, h4, h5, _, _, _, _, hr⟩
  cases hr
  exact ⟨rfl, ⟨h3, h4, h5, h1, h2⟩⟩
theorem names_walk (w : World) : Go.Calls Tryz.prog 6 #[] w fun e w' => e = .returned (.bool true) ∧ Below w.heap.size w w' := closed_walk (callP_sound pg3_ok names_true) w
end Go.Px
