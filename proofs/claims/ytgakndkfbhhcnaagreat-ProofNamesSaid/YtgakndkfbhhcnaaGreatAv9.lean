/- The abstract machine on data, part 9: loops. -/
import Derived.Test.YtgakndkfbhhcnaaGreatAv8
set_option linter.unusedVariables false
set_option linter.unusedSimpArgs false
/- The abstract machine on data: what is known of more slots does no harm; loops. -/
namespace Go.Avm
open Go

/-- the second environment knows all that the first one knows -/
def EnvLe (e e' : List (Nat × V)) : Prop := ∀ t v, lk e t = some v → lk e' t = some v
theorem EnvLe.refl (e : List (Nat × V)) : EnvLe e e := fun _ _ h => h
theorem EnvLe.trans {a b c : List (Nat × V)} (h : EnvLe a b) (g : EnvLe b c) : EnvLe a c := fun t v hv => g t v (h t v hv)
theorem EnvLe.cons {e e' : List (Nat × V)} (h : EnvLe e e') (t : Nat) (v : V) : EnvLe ((t, v) :: e) ((t, v) :: e') := by
  intro i u hu
  rw [lk_cons] at hu ⊢
  split at hu
  · rename_i h1; rw [if_pos h1]; exact hu
  · rename_i h1; rw [if_neg h1]; exact h i u hu
theorem EnvLe.put {e e' : List (Nat × V)} (h : EnvLe e e') (d : Option Nat) (v : V) : EnvLe (put d v e) (put d v e') := by
  cases d with
  | none => exact h
  | some d => exact h.cons d v

section
variable {C : Calls} {ρ ρ' : Nat → Option V} {h : H} (hr : ∀ t v, ρ t = some v → ρ' t = some v)
include hr
theorem opv_up {x : Opnd} {v : V} (hv : opv ρ x = some v) : opv ρ' x = some v := by
  cases x with
  | c d => exact hv
  | t n =>
    simp only [opv] at hv ⊢
    cases hn : ρ n with
    | none => rw [hn] at hv; cases hv
    | some u => rw [hr n u hn]; rw [hn] at hv; exact hv
theorem opvs_up : ∀ {l : List Opnd} {vs : List V}, opvs ρ l = some vs → opvs ρ' l = some vs
  | [], vs, hv => hv
  | x :: l, vs, hv => by
    simp only [opvs] at hv ⊢
    split at hv
    · rename_i v us h1 h2; rw [opv_up hr h1, opvs_up h2]; exact hv
    · cases hv
theorem partsV_up : ∀ {l : List (Nat × Nat × Opnd)} {vs : List (Nat × V)}, partsV ρ l = some vs → partsV ρ' l = some vs
  | [], vs, hv => hv
  | (o, n, x) :: l, vs, hv => by
    simp only [partsV] at hv ⊢
    split at hv
    · rename_i v us h1 h2; rw [opv_up hr h1, partsV_up h2]; exact hv
    · cases hv
theorem partsS_up {z : Nat} : ∀ {l : List (Nat × Opnd)} {vs : List (Nat × V)}, partsS ρ z l = some vs → partsS ρ' z l = some vs
  | [], vs, hv => hv
  | (i, x) :: l, vs, hv => by
    simp only [partsS] at hv ⊢
    split at hv
    · rename_i v us h1 h2; rw [opv_up hr h1, partsS_up h2]; exact hv
    · cases hv
theorem asNs_up {x : Option Opnd} {n : Option Nat} (hv : asNs ρ x = some n) : asNs ρ' x = some n := by
  cases x with
  | none => exact hv
  | some x =>
    simp only [asNs] at hv ⊢
    split at hv
    · rename_i v h1; rw [opv_up hr h1]; exact hv
    · cases hv
set_option maxHeartbeats 4000000 in
theorem opSem_up {ao : AOp} {y : Did} (hs : opSem C ρ h ao = some y) : opSem C ρ' h ao = some y := by
  have up := fun {x : Opnd} {v : V} => @opv_up ρ ρ' hr x v
  have ups := fun {l : List Opnd} {vs : List V} => @opvs_up ρ ρ' hr l vs
  cases ao
  case mv x => cases hx : opv ρ x <;> simp only [opSem, hx] at hs ⊢ <;> first | (simp [did] at hs; done) | (rw [up hx]; exact hs)
  case pick c a b =>
    simp only [opSem] at hs ⊢
    split at hs
    · rename_i t ht
      rw [up ht]
      obtain ⟨v, hv, rfl⟩ := did_eq hs
      cases t
      · simp only [Bool.false_eq_true, if_false] at hv ⊢; rw [up hv]; rfl
      · simp only [if_true] at hv ⊢; rw [up hv]; rfl
    · cases hs
  case storeF n a x =>
    simp only [opSem] at hs ⊢
    cases ha : ρ a with
    | none => rw [ha] at hs; cases hx : opv ρ x <;> rw [hx] at hs <;> cases hs
    | some u =>
      cases hx : opv ρ x with
      | none => rw [ha, hx] at hs; cases u <;> cases hs
      | some v => rw [ha, hx] at hs; rw [hr a u ha, up hx]; exact hs
  case build z ps =>
    simp only [opSem] at hs ⊢
    split at hs
    · rename_i vs hv; rw [partsV_up hr hv]; exact hs
    · cases hs
  case buildS z zs n ps own =>
    simp only [opSem] at hs ⊢
    split at hs
    · rename_i vs hv; rw [partsS_up hr hv]; exact hs
    · cases hs
  case slice z x lo hi mx =>
    simp only [opSem] at hs ⊢
    split at hs
    · rename_i a b c d h1 h2 h3 h4; rw [up h1, asNs_up hr h2, asNs_up hr h3, asNs_up hr h4]; exact hs
    · cases hs
  case sliceStr x lo hi =>
    simp only [opSem] at hs ⊢
    split at hs
    · rename_i a b c h1 h2 h3; rw [up h1, asNs_up hr h2, asNs_up hr h3]; exact hs
    · cases hs
  case box x =>
    cases hx : opv ρ x with
    | none => simp only [opSem, hx] at hs; first | (cases hs; done) | (simp [did] at hs; done) | (split at hs <;> cases hs)
    | some v => simp only [opSem, hx, up hx] at hs ⊢; exact hs
  case boxF x =>
    cases hx : opv ρ x with
    | none => simp only [opSem, hx] at hs; first | (cases hs; done) | (simp [did] at hs; done) | (split at hs <;> cases hs)
    | some v => simp only [opSem, hx, up hx] at hs ⊢; exact hs
  case load n g x =>
    cases hx : opv ρ x with
    | none => simp only [opSem, hx] at hs; first | (cases hs; done) | (simp [did] at hs; done) | (split at hs <;> cases hs)
    | some v => simp only [opSem, hx, up hx] at hs ⊢; exact hs
  case nilck x =>
    cases hx : opv ρ x with
    | none => simp only [opSem, hx] at hs; first | (cases hs; done) | (simp [did] at hs; done) | (split at hs <;> cases hs)
    | some v => simp only [opSem, hx, up hx] at hs ⊢; exact hs
  case eqNil kk neq x =>
    cases hx : opv ρ x with
    | none => simp only [opSem, hx] at hs; first | (cases hs; done) | (simp [did] at hs; done) | (split at hs <;> cases hs)
    | some v => simp only [opSem, hx, up hx] at hs ⊢; exact hs
  case un op x =>
    cases hx : opv ρ x with
    | none => simp only [opSem, hx] at hs; first | (cases hs; done) | (simp [did] at hs; done) | (split at hs <;> cases hs)
    | some v => simp only [opSem, hx, up hx] at hs ⊢; exact hs
  case conv k x =>
    cases hx : opv ρ x with
    | none => simp only [opSem, hx] at hs; first | (cases hs; done) | (simp [did] at hs; done) | (split at hs <;> cases hs)
    | some v => simp only [opSem, hx, up hx] at hs ⊢; exact hs
  case convStr x =>
    cases hx : opv ρ x with
    | none => simp only [opSem, hx] at hs; first | (cases hs; done) | (simp [did] at hs; done) | (split at hs <;> cases hs)
    | some v => simp only [opSem, hx, up hx] at hs ⊢; exact hs
  case mkI t x =>
    cases hx : opv ρ x with
    | none => simp only [opSem, hx] at hs; first | (cases hs; done) | (simp [did] at hs; done) | (split at hs <;> cases hs)
    | some v => simp only [opSem, hx, up hx] at hs ⊢; exact hs
  case fld n g off x =>
    cases hx : opv ρ x with
    | none => simp only [opSem, hx] at hs; first | (cases hs; done) | (simp [did] at hs; done) | (split at hs <;> cases hs)
    | some v => simp only [opSem, hx, up hx] at hs ⊢; exact hs
  case fAddr off x =>
    cases hx : opv ρ x with
    | none => simp only [opSem, hx] at hs; first | (cases hs; done) | (simp [did] at hs; done) | (split at hs <;> cases hs)
    | some v => simp only [opSem, hx, up hx] at hs ⊢; exact hs
  case tassert x t ok z =>
    cases hx : opv ρ x with
    | none => simp only [opSem, hx] at hs; first | (cases hs; done) | (simp [did] at hs; done) | (split at hs <;> cases hs)
    | some v => simp only [opSem, hx, up hx] at hs ⊢; exact hs
  case ext x i =>
    cases hx : opv ρ x with
    | none => simp only [opSem, hx] at hs; first | (cases hs; done) | (simp [did] at hs; done) | (split at hs <;> cases hs)
    | some v => simp only [opSem, hx, up hx] at hs ⊢; exact hs
  case len kk x =>
    cases hx : opv ρ x with
    | none => simp only [opSem, hx] at hs; first | (cases hs; done) | (simp [did] at hs; done) | (split at hs <;> cases hs)
    | some v => simp only [opSem, hx, up hx] at hs ⊢; exact hs
  case clear z zs x =>
    cases hx : opv ρ x with
    | none => simp only [opSem, hx] at hs; first | (cases hs; done) | (simp [did] at hs; done) | (split at hs <;> cases hs)
    | some v => simp only [opSem, hx, up hx] at hs ⊢; exact hs
  case cap x =>
    cases hx : opv ρ x with
    | none => simp only [opSem, hx] at hs; first | (cases hs; done) | (simp [did] at hs; done) | (split at hs <;> cases hs)
    | some v => simp only [opSem, hx, up hx] at hs ⊢; exact hs
  case range x =>
    cases hx : opv ρ x with
    | none => simp only [opSem, hx] at hs; first | (cases hs; done) | (simp [did] at hs; done) | (split at hs <;> cases hs)
    | some v => simp only [opSem, hx, up hx] at hs ⊢; exact hs
  case next x =>
    cases hx : opv ρ x with
    | none => simp only [opSem, hx] at hs; first | (cases hs; done) | (simp [did] at hs; done) | (split at hs <;> cases hs)
    | some v => simp only [opSem, hx, up hx] at hs ⊢; exact hs
  case entry x =>
    cases hx : opv ρ x with
    | none => simp only [opSem, hx] at hs; first | (cases hs; done) | (simp [did] at hs; done) | (split at hs <;> cases hs)
    | some v => simp only [opSem, hx, up hx] at hs ⊢; exact hs
  case store n x y =>
    cases hx : opv ρ x with
    | none => simp only [opSem, hx] at hs; first | (cases hs; done) | (split at hs <;> cases hs)
    | some v =>
      cases hy : opv ρ y with
      | none => simp only [opSem, hx, hy] at hs; first | (cases hs; done) | (split at hs <;> first | (cases hs; done) | (rename_i h1 h2; cases h2; done) | (rename_i h1; cases h1))
      | some u => simp only [opSem, hx, up hx, hy, up hy] at hs ⊢; exact hs
  case bin op x y =>
    cases hx : opv ρ x with
    | none => simp only [opSem, hx] at hs; first | (cases hs; done) | (split at hs <;> cases hs)
    | some v =>
      cases hy : opv ρ y with
      | none => simp only [opSem, hx, hy] at hs; first | (cases hs; done) | (split at hs <;> first | (cases hs; done) | (rename_i h1 h2; cases h2; done) | (rename_i h1; cases h1))
      | some u => simp only [opSem, hx, up hx, hy, up hy] at hs ⊢; exact hs
  case eqB neq x y =>
    cases hx : opv ρ x with
    | none => simp only [opSem, hx] at hs; first | (cases hs; done) | (split at hs <;> cases hs)
    | some v =>
      cases hy : opv ρ y with
      | none => simp only [opSem, hx, hy] at hs; first | (cases hs; done) | (split at hs <;> first | (cases hs; done) | (rename_i h1 h2; cases h2; done) | (rename_i h1; cases h1))
      | some u => simp only [opSem, hx, up hx, hy, up hy] at hs ⊢; exact hs
  case eqPtrs n neq x y =>
    cases hx : opv ρ x with
    | none => simp only [opSem, hx] at hs; first | (cases hs; done) | (split at hs <;> cases hs)
    | some v =>
      cases hy : opv ρ y with
      | none => simp only [opSem, hx, hy] at hs; first | (cases hs; done) | (split at hs <;> first | (cases hs; done) | (rename_i h1 h2; cases h2; done) | (rename_i h1; cases h1))
      | some u => simp only [opSem, hx, up hx, hy, up hy] at hs ⊢; exact hs
  case mkSl z b zs x y =>
    cases hx : opv ρ x with
    | none => simp only [opSem, hx] at hs; first | (cases hs; done) | (split at hs <;> cases hs)
    | some v =>
      cases hy : opv ρ y with
      | none => simp only [opSem, hx, hy] at hs; first | (cases hs; done) | (split at hs <;> first | (cases hs; done) | (rename_i h1 h2; cases h2; done) | (rename_i h1; cases h1))
      | some u => simp only [opSem, hx, up hx, hy, up hy] at hs ⊢; exact hs
  case iAddr z x y =>
    cases hx : opv ρ x with
    | none => simp only [opSem, hx] at hs; first | (cases hs; done) | (split at hs <;> cases hs)
    | some v =>
      cases hy : opv ρ y with
      | none => simp only [opSem, hx, hy] at hs; first | (cases hs; done) | (split at hs <;> first | (cases hs; done) | (rename_i h1 h2; cases h2; done) | (rename_i h1; cases h1))
      | some u => simp only [opSem, hx, up hx, hy, up hy] at hs ⊢; exact hs
  case iAddrA z l x y =>
    cases hx : opv ρ x with
    | none => simp only [opSem, hx] at hs; first | (cases hs; done) | (split at hs <;> cases hs)
    | some v =>
      cases hy : opv ρ y with
      | none => simp only [opSem, hx, hy] at hs; first | (cases hs; done) | (split at hs <;> first | (cases hs; done) | (rename_i h1 h2; cases h2; done) | (rename_i h1; cases h1))
      | some u => simp only [opSem, hx, up hx, hy, up hy] at hs ⊢; exact hs
  case idxS x y =>
    cases hx : opv ρ x with
    | none => simp only [opSem, hx] at hs; first | (cases hs; done) | (split at hs <;> cases hs)
    | some v =>
      cases hy : opv ρ y with
      | none => simp only [opSem, hx, hy] at hs; first | (cases hs; done) | (split at hs <;> first | (cases hs; done) | (rename_i h1 h2; cases h2; done) | (rename_i h1; cases h1))
      | some u => simp only [opSem, hx, up hx, hy, up hy] at hs ⊢; exact hs
  case lookup kk z x y ok =>
    cases hx : opv ρ x with
    | none => simp only [opSem, hx] at hs; first | (cases hs; done) | (split at hs <;> cases hs)
    | some v =>
      cases hy : opv ρ y with
      | none => simp only [opSem, hx, hy] at hs; first | (cases hs; done) | (split at hs <;> first | (cases hs; done) | (rename_i h1 h2; cases h2; done) | (rename_i h1; cases h1))
      | some u => simp only [opSem, hx, up hx, hy, up hy] at hs ⊢; exact hs
  case mapEnt kk z x y =>
    cases hx : opv ρ x with
    | none => simp only [opSem, hx] at hs; first | (cases hs; done) | (split at hs <;> cases hs)
    | some v =>
      cases hy : opv ρ y with
      | none => simp only [opSem, hx, hy] at hs; first | (cases hs; done) | (split at hs <;> first | (cases hs; done) | (rename_i h1 h2; cases h2; done) | (rename_i h1; cases h1))
      | some u => simp only [opSem, hx, up hx, hy, up hy] at hs ⊢; exact hs
  case append z b x y =>
    cases hx : opv ρ x with
    | none => simp only [opSem, hx] at hs; first | (cases hs; done) | (split at hs <;> cases hs)
    | some v =>
      cases hy : opv ρ y with
      | none => simp only [opSem, hx, hy] at hs; first | (cases hs; done) | (split at hs <;> first | (cases hs; done) | (rename_i h1 h2; cases h2; done) | (rename_i h1; cases h1))
      | some u => simp only [opSem, hx, up hx, hy, up hy] at hs ⊢; exact hs
  case appendZ z b zs x y =>
    cases hx : opv ρ x with
    | none => simp only [opSem, hx] at hs; first | (cases hs; done) | (split at hs <;> cases hs)
    | some v =>
      cases hy : opv ρ y with
      | none => simp only [opSem, hx, hy] at hs; first | (cases hs; done) | (split at hs <;> first | (cases hs; done) | (rename_i h1 h2; cases h2; done) | (rename_i h1; cases h1))
      | some u => simp only [opSem, hx, up hx, hy, up hy] at hs ⊢; exact hs
  case copy z x y =>
    cases hx : opv ρ x with
    | none => simp only [opSem, hx] at hs; first | (cases hs; done) | (split at hs <;> cases hs)
    | some v =>
      cases hy : opv ρ y with
      | none => simp only [opSem, hx, hy] at hs; first | (cases hs; done) | (split at hs <;> first | (cases hs; done) | (rename_i h1 h2; cases h2; done) | (rename_i h1; cases h1))
      | some u => simp only [opSem, hx, up hx, hy, up hy] at hs ⊢; exact hs
  case mapUp kk x y z =>
    cases hx : opv ρ x with
    | none => simp only [opSem, hx] at hs; first | (cases hs; done) | (split at hs <;> cases hs)
    | some v =>
      cases hy : opv ρ y with
      | none => simp only [opSem, hx, hy] at hs; first | (cases hs; done) | (split at hs <;> first | (cases hs; done) | (rename_i h1 h2; cases h2; done) | (rename_i h1; cases h1))
      | some u =>
        cases hz : opv ρ z with
        | none => simp only [opSem, hx, hy, hz] at hs; first | (cases hs; done) | (split at hs <;> first | (cases hs; done) | (rename_i h1 h2; cases h2; done) | (rename_i h1; cases h1))
        | some q => simp only [opSem, hx, up hx, hy, up hy, hz, up hz] at hs ⊢; exact hs
  case entSt x y z =>
    cases hx : opv ρ x with
    | none => simp only [opSem, hx] at hs; first | (cases hs; done) | (split at hs <;> cases hs)
    | some v =>
      cases hy : opv ρ y with
      | none => simp only [opSem, hx, hy] at hs; first | (cases hs; done) | (split at hs <;> first | (cases hs; done) | (rename_i h1 h2; cases h2; done) | (rename_i h1; cases h1))
      | some u =>
        cases hz : opv ρ z with
        | none => simp only [opSem, hx, hy, hz] at hs; first | (cases hs; done) | (split at hs <;> first | (cases hs; done) | (rename_i h1 h2; cases h2; done) | (rename_i h1; cases h1))
        | some q => simp only [opSem, hx, up hx, hy, up hy, hz, up hz] at hs ⊢; exact hs
  case call f xs =>
    cases hx : opvs ρ xs with
    | none => simp only [opSem, hx] at hs; cases hs
    | some v => simp only [opSem, hx, ups hx] at hs ⊢; exact hs
  case callX f xs =>
    cases hx : opvs ρ xs with
    | none => simp only [opSem, hx] at hs; cases hs
    | some v => simp only [opSem, hx, ups hx] at hs ⊢; exact hs
  case callS f xs =>
    cases hx : opvs ρ xs with
    | none => simp only [opSem, hx] at hs; cases hs
    | some v => simp only [opSem, hx, ups hx] at hs ⊢; exact hs
  case max xs =>
    cases hx : opvs ρ xs with
    | none => simp only [opSem, hx] at hs; cases hs
    | some v => simp only [opSem, hx, ups hx] at hs ⊢; exact hs
  case min xs =>
    cases hx : opvs ρ xs with
    | none => simp only [opSem, hx] at hs; cases hs
    | some v => simp only [opSem, hx, ups hx] at hs ⊢; exact hs
  case mkF f xs ys =>
    cases hx : opvs ρ xs with
    | none => simp only [opSem, hx] at hs; cases hs
    | some v =>
      cases hy : opvs ρ ys with
      | none => simp only [opSem, hx, hy] at hs; cases hs
      | some u => simp only [opSem, hx, ups hx, hy, ups hy] at hs ⊢; exact hs
  case callV g xs =>
    cases hx : opv ρ g with
    | none => simp only [opSem, hx] at hs; cases hs
    | some v =>
      cases hy : opvs ρ xs with
      | none => simp only [opSem, hx, hy] at hs; cases hs
      | some u => simp only [opSem, hx, up hx, hy, ups hy] at hs ⊢; exact hs
  all_goals exact hs
end
end Go.Avm

/- The abstract machine on data: code that runs where less is known. -/
namespace Go.Avm
open Go
section
variable {C : Calls} {lf : Nat} {h : H} {lg : Option (List Nat)} {e e' : List (Nat × V)}

/-- the same but for what is known of the slots besides -/
def StLe (s s' : St) : Prop := EnvLe s.env s'.env ∧ s'.heap = s.heap ∧ s'.log = s.log
theorem StLe.refl (s : St) : StLe s s := ⟨EnvLe.refl _, rfl, rfl⟩
theorem StLe.trans {a b c : St} (h : StLe a b) (g : StLe b c) : StLe a c := ⟨h.1.trans g.1, g.2.1.trans h.2.1, g.2.2.trans h.2.2⟩

theorem step_up {o : AOper} {s s' s1 : St} {c : Cls} (hs : StLe s s') (h1 : step C o s = some (s1, c)) : ∃ s1', step C o s' = some (s1', c) ∧ StLe s1 s1' := by
  obtain ⟨e1, e2, e3⟩ := hs
  have key : ∀ {y : Did}, opSem C (lk s.env) s.heap o.op = some y → opSem C (lk s'.env) s'.heap o.op = some y := fun hy => by rw [e2]; exact opSem_up e1 hy
  have go : (match opSem C (lk s.env) s.heap o.op with
      | some ⟨v, h, none, c⟩ => some ((⟨put o.dst v s.env, h, addLog c s.log⟩ : St), c)
      | some ⟨v, h, some (a, u), c⟩ => some (⟨put o.dst v ((a, u) :: s.env), h, addLog c s.log⟩, c)
      | none => none) = some (s1, c) → ∃ s1', (match opSem C (lk s'.env) s'.heap o.op with
      | some ⟨v, h, none, c⟩ => some ((⟨put o.dst v s'.env, h, addLog c s'.log⟩ : St), c)
      | some ⟨v, h, some (a, u), c⟩ => some (⟨put o.dst v ((a, u) :: s'.env), h, addLog c s'.log⟩, c)
      | none => none) = some (s1', c) ∧ StLe s1 s1' := by
    intro hh
    split at hh
    · rename_i v g c' hy
      injection hh with hh; injection hh with h1 h2; subst h1 h2
      rw [key hy]
      exact ⟨_, rfl, e1.put _ _, rfl, by simp only [e3]⟩
    · rename_i v g a u c' hy
      injection hh with hh; injection hh with h1 h2; subst h1 h2
      rw [key hy]
      exact ⟨_, rfl, (e1.cons a u).put _ _, rfl, by simp only [e3]⟩
    · cases hh
  unfold step at h1 ⊢
  cases hg : o.guard with
  | none => simp only [hg] at h1 ⊢; exact go h1
  | some g =>
    obtain ⟨t, want⟩ := g
    simp only [hg] at h1 ⊢
    cases ht : lk s.env t with
    | none => rw [ht] at h1; cases h1
    | some u =>
      rw [e1 t u ht]
      rw [ht] at h1
      split at h1
      · rename_i b hb
        cases hb
        split at h1
        · rename_i hb; rw [if_pos hb]; exact go h1
        · rename_i hb; rw [if_neg hb]
          injection h1 with h1; injection h1 with h1 h2; subst h1 h2
          exact ⟨_, rfl, e1.put _ _, e2, e3⟩
      · rename_i hb
        cases hb
        injection h1 with h1; injection h1 with h1 h2; subst h1 h2
        exact ⟨_, rfl, e1.put _ _, e2, e3⟩
      · cases h1
theorem runOps_up : ∀ {l : List AOper} {s s' s1 : St}, StLe s s' → runOps C l s = some s1 → ∃ s1', runOps C l s' = some s1' ∧ StLe s1 s1'
  | [], s, s', s1, hs, h1 => by simp only [runOps] at h1; injection h1 with h1; subst h1; exact ⟨s', rfl, hs⟩
  | o :: l, s, s', s1, hs, h1 => by
    simp only [runOps] at h1 ⊢
    split at h1
    · rename_i s2 c h2
      obtain ⟨s2', g1, g2⟩ := step_up hs h2
      rw [g1]
      exact runOps_up g2 h1
    · cases h1
theorem runDraw_up {b : Nat} : ∀ {l : List (AOper × List Nat)} {i : Nat} {seen : List (Nat × Cls × Nat)} {s s' s1 : St}, StLe s s' → runDraw C b l i seen s = some s1 → ∃ s1', runDraw C b l i seen s' = some s1' ∧ StLe s1 s1'
  | [], _, _, s, s', s1, hs, h1 => by simp only [runDraw] at h1; injection h1 with h1; subst h1; exact ⟨s', rfl, hs⟩
  | (o, bef) :: l, i, seen, s, s', s1, hs, h1 => by
    simp only [runDraw] at h1 ⊢
    split at h1
    · rename_i s2 c h2
      obtain ⟨s2', g1, g2⟩ := step_up (s' := ⟨s'.env, s'.heap.at (b + i), s'.log⟩) (by exact ⟨hs.1, by rw [hs.2.1], hs.2.2⟩) h2
      rw [g1]
      have g3 : StLe ⟨s2.env, s2.heap.rs, s2.log⟩ ⟨s2'.env, s2'.heap.rs, s2'.log⟩ := ⟨g2.1, by simp only [g2.2.1], g2.2.2⟩
      simp only [hs.2.1, g2.2.1] at h1 ⊢
      simp only [g2.2.1] at g3
      split at h1
      · exact runDraw_up g3 h1
      · split at h1
        · rename_i hf; rw [if_pos hf]; exact runDraw_up g3 h1
        · cases h1
    · cases h1
theorem keep_up {live : List Nat} (he : EnvLe e e') : EnvLe (keep live e) (keep live e') := by
  have key : ∀ (live : List Nat) (e : List (Nat × V)) (t : Nat), lk (keep live e) t = if t ∈ live then lk e t else none := by
    intro live e t
    induction live with
    | nil => simp [keep, lk]
    | cons i live ih =>
      simp only [keep, List.filterMap_cons] at ih ⊢
      cases hi : lk e i with
      | none =>
        simp only [Option.map_none, ih, List.mem_cons]
        by_cases hti : t = i
        · subst hti; simp [hi]
        · simp [hti]
      | some u =>
        simp only [Option.map_some, lk_cons, ih, List.mem_cons]
        by_cases hti : t = i
        · subst hti; simp [hi]
        · simp [hti]
  intro t v hv
  rw [key] at hv ⊢
  split at hv
  · rename_i hm; rw [if_pos hm]; exact he t v hv
  · cases hv
theorem lk_keep_mem {live : List Nat} {t : Nat} (ht : t ∈ live) : lk (keep live e) t = lk e t := by
  induction live with
  | nil => cases ht
  | cons i live ih =>
    simp only [keep, List.filterMap_cons]
    by_cases hti : i = t
    · subst hti
      cases hi : lk e i with
      | none =>
        simp only [Option.map_none]
        cases hk : lk (List.filterMap (fun t => (lk e t).map fun v => (t, v)) live) i with
        | none => rfl
        | some v => have := lk_keep (live := live) hk; rw [hi] at this; cases this
      | some u => simp [lk_cons]
    · have hm : t ∈ live := by
        rcases List.mem_cons.1 ht with h | h
        · exact absurd h.symm hti
        · exact h
      cases hi : lk e i with
      | none => simp only [Option.map_none]; exact ih hm
      | some u => simp only [Option.map_some, lk_cons, if_neg (Ne.symm hti)]; exact ih hm
theorem iter_up {b : St → Option (Ex × St)} (hb : ∀ {s s' : St} {ex : Ex} {s1 : St}, StLe s s' → b s = some (ex, s1) → ∃ s1', b s' = some (ex, s1') ∧ StLe s1 s1') {live : List Nat} : ∀ (n : Nat) {s s' : St} {ex : Ex} {s1 : St}, StLe s s' → iter n b live s = some (ex, s1) → ∃ s1', iter n b live s' = some (ex, s1') ∧ StLe s1 s1'
  | 0, _, _, _, _, _, h => by simp [iter] at h
  | n + 1, s, s', ex, s1, hs, h => by
    simp only [iter] at h ⊢
    have hk : StLe ⟨keep live s.env, s.heap, s.log⟩ ⟨keep live s'.env, s'.heap, s'.log⟩ := ⟨keep_up hs.1, hs.2.1, hs.2.2⟩
    split at h
    · rename_i s2 h2
      obtain ⟨s2', g1, g2⟩ := hb hk h2
      rw [g1]
      exact iter_up hb n g2 h
    · rename_i hne
      obtain ⟨s2', g1, g2⟩ := hb hk h
      rw [g1]
      cases ex with
      | norm => exact absurd h (hne s1)
      | exit i => exact ⟨s2', rfl, g2⟩
      | ret => exact ⟨s2', rfl, g2⟩
theorem run_up : ∀ (c : AC) {s s' : St} {ex : Ex} {s1 : St}, StLe s s' → run C lf c s = some (ex, s1) → ∃ s1', run C lf c s' = some (ex, s1') ∧ StLe s1 s1' := by
  intro c
  induction c with
  | region ops =>
    intro s s' ex s1 hs h
    simp only [run] at h ⊢
    split at h
    · rename_i s2 h2
      injection h with h; injection h with h3 h4; subst h3 h4
      obtain ⟨s2', g1, g2⟩ := runOps_up hs h2
      rw [g1]; exact ⟨_, rfl, g2⟩
    · cases h
  | draw ops =>
    intro s s' ex s1 hs h
    simp only [run] at h ⊢
    split at h
    · rename_i s2 h2
      injection h with h; injection h with h3 h4; subst h3 h4
      obtain ⟨s2', g1, g2⟩ := runDraw_up (s' := ⟨s'.env, s'.heap.aside ops.length, s'.log⟩) (by exact ⟨hs.1, by rw [hs.2.1], hs.2.2⟩) h2
      rw [hs.2.1] at g1 ⊢
      rw [g1]; exact ⟨_, rfl, g2⟩
    · cases h
  | seq a b iha ihb =>
    intro s s' ex s1 hs h
    simp only [run] at h ⊢
    split at h
    · rename_i s2 h2
      obtain ⟨s2', g1, g2⟩ := iha hs h2
      rw [g1]; exact ihb g2 h
    · rename_i hne
      obtain ⟨s2', g1, g2⟩ := iha hs h
      rw [g1]
      cases ex with
      | norm => exact absurd h (hne s1)
      | exit i => exact ⟨s2', rfl, g2⟩
      | ret => exact ⟨s2', rfl, g2⟩
  | cond c a b iha ihb =>
    intro s s' ex s1 hs h
    simp only [run] at h ⊢
    split at h
    · rename_i t ht
      rw [opv_up hs.1 ht]
      cases t
      · exact ihb hs h
      · exact iha hs h
    · cases h
  | block i c ih =>
    intro s s' ex s1 hs h
    simp only [run] at h ⊢
    split at h
    · rename_i j s2 h2
      obtain ⟨s2', g1, g2⟩ := ih hs h2
      rw [g1]
      simp only
      split at h <;> rename_i hb <;> (injection h with h; injection h with h3 h4; subst h3 h4)
      · rw [if_pos hb]; exact ⟨_, rfl, g2⟩
      · rw [if_neg hb]; exact ⟨_, rfl, g2⟩
    · rename_i hne
      obtain ⟨s2', g1, g2⟩ := ih hs h
      rw [g1]
      cases ex with
      | norm => exact ⟨s2', rfl, g2⟩
      | exit j => exact absurd h (hne j s1)
      | ret => exact ⟨s2', rfl, g2⟩
  | loop live c ih =>
    intro s s' ex s1 hs h
    simp only [run] at h ⊢
    exact iter_up (fun hs h => ih hs h) lf hs h
  | skip => intro s s' ex s1 hs h; simp only [run] at h ⊢; injection h with h; injection h with h3 h4; subst h3 h4; exact ⟨s', rfl, hs⟩
  | exit i => intro s s' ex s1 hs h; simp only [run] at h ⊢; injection h with h; injection h with h3 h4; subst h3 h4; exact ⟨s', rfl, hs⟩
  | ret => intro s s' ex s1 hs h; simp only [run] at h ⊢; injection h with h; injection h with h3 h4; subst h3 h4; exact ⟨s', rfl, hs⟩
  | unk => intro s s' ex s1 hs h; simp [run] at h

theorem resV_up {s s' : St} (hs : StLe s s') : ∀ {l : List ARes} {vs : List V}, resV s l = some vs → resV s' l = some vs
  | [], vs, h => h
  | .t n :: l, vs, h => by
    simp only [resV] at h ⊢
    split at h
    · rename_i v us h1 h2; rw [opv_up hs.1 h1, resV_up hs h2]; exact h
    · cases h
  | .cell a n g :: l, vs, h => by
    simp only [resV] at h ⊢
    split at h
    · rename_i v us h1 h2
      rw [hs.1 _ _ h1, resV_up hs h2, hs.2.1]; exact h
    · cases h
theorem result_up {s s' : St} (hs : StLe s s') {l : List ARes} {v : V} (h : result s l = some v) : result s' l = some v := by
  unfold result at h ⊢
  cases hv : resV s l with
  | none => rw [hv] at h; cases h
  | some vs => rw [resV_up hs hv]; rw [hv] at h; exact h
end
end Go.Avm

/- The abstract machine on data: loops, heaps that are written twice at one place. -/
namespace Go.Avm
open Go

theorem H.set_new (h : H) (x y : Obj) : (h.new x).set h.next y = h.new y := by
  simp only [H.set, H.new, OT.put_put (h.next + 1) h.objs h.next (by omega)]

/-- a loop: from one round to the next -/
theorem iter_rule {b : St → Option (Ex × St)} {live : List Nat} (J : Nat → St → Prop) (K : Ex → St → Prop) (m : Nat)
    (hs : ∀ i s, i < m → J i s → (∃ s', b s = some (.norm, s') ∧ J (i + 1) ⟨keep live s'.env, s'.heap, s'.log⟩) ∨ ∃ ex s', ex ≠ .norm ∧ b s = some (ex, s') ∧ K ex s')
    (he : ∀ s, J m s → ∃ ex s', ex ≠ .norm ∧ b s = some (ex, s') ∧ K ex s') :
    ∀ (k i n : Nat) (s : St), i + k = m → k < n → J i ⟨keep live s.env, s.heap, s.log⟩ → ∃ ex s', iter n b live s = some (ex, s') ∧ K ex s' := by
  have last : ∀ n s ex s', ex ≠ Ex.norm → b ⟨keep live s.env, s.heap, s.log⟩ = some (ex, s') → iter (n + 1) b live s = some (ex, s') := by
    intro n s ex s' hne h
    simp only [iter, h]
    cases ex with
    | norm => exact absurd rfl hne
    | exit i => rfl
    | ret => rfl
  intro k
  induction k with
  | zero =>
    intro i n s hi hn hJ
    obtain ⟨n, rfl⟩ : ∃ q, n = q + 1 := ⟨n - 1, by omega⟩
    have : i = m := by omega
    subst this
    obtain ⟨ex, s', h1, h2, h3⟩ := he _ hJ
    exact ⟨ex, s', last n s ex s' h1 h2, h3⟩
  | succ k ih =>
    intro i n s hi hn hJ
    obtain ⟨n, rfl⟩ : ∃ q, n = q + 1 := ⟨n - 1, by omega⟩
    rcases hs i _ (by omega) hJ with ⟨s', h1, h2⟩ | ⟨ex, s', h1, h2, h3⟩
    · obtain ⟨ex, s2, g1, g2⟩ := ih (i + 1) n s' (by omega) (by omega) h2
      exact ⟨ex, s2, by simp only [iter, h1]; exact g1, g2⟩
    · exact ⟨ex, s', last n s ex s' h1 h2, h3⟩

/-- what holds for all fuel from some on -/
def Evt (P : Nat → Prop) : Prop := ∃ N, ∀ n, N ≤ n → P n
theorem Evt.and {P Q : Nat → Prop} (h : Evt P) (g : Evt Q) : Evt fun n => P n ∧ Q n := by
  obtain ⟨N, h⟩ := h; obtain ⟨M, g⟩ := g
  exact ⟨max N M, fun n hn => ⟨h n (by omega), g n (by omega)⟩⟩
theorem Evt.mono {P Q : Nat → Prop} (h : Evt P) (g : ∀ n, P n → Q n) : Evt Q := by
  obtain ⟨N, h⟩ := h; exact ⟨N, fun n hn => g n (h n hn)⟩
theorem Evt.ge (m : Nat) : Evt fun n => m ≤ n := ⟨m, fun _ h => h⟩
theorem Evt.of {P : Nat → Prop} (h : ∀ n, P n) : Evt P := ⟨0, fun n _ => h n⟩
theorem Evt.all {α : Type} {P : α → Nat → Prop} : ∀ {l : List α}, (∀ a ∈ l, Evt (P a)) → Evt fun n => ∀ a ∈ l, P a n
  | [], _ => .of fun _ a ha => by cases ha
  | x :: l, h => by
    have h0 : Evt fun n => ∀ a ∈ l, P a n := Evt.all (fun a ha => h a (by simp [ha]))
    refine ((h x (by simp)).and h0).mono fun n hn a ha => ?_
    obtain ⟨h1, h2⟩ := hn
    rcases List.mem_cons.1 ha with rfl | ha
    · exact h1
    · exact h2 a ha
theorem Evt.succ {P : Nat → Prop} (h : Evt fun n => P (n + 1)) : Evt P := by
  obtain ⟨N, h⟩ := h
  exact ⟨N + 1, fun n hn => by
    obtain ⟨k, rfl⟩ : ∃ k, n = k + 1 := ⟨n - 1, by omega⟩
    exact h k (by omega)⟩

/-- a call of a function of the program -/
theorem callN_fn {P : Prog} {n f : Nat} {a : AFn} (hf : P.find f = some (.fn a)) {vs : List V} {h : H} (hl : vs.length = a.nparams) {ex : Ex} {s : St} {v : V}
    (hr : run ⟨pureOf (callN P n), callN P n⟩ n a.body ⟨args0 0 vs, h, some []⟩ = some (ex, s)) (he : ex = .norm ∨ ex = .ret) (hv : result s a.results = some v) : callN P (n + 1) f vs h = some (v, s.heap, lowLog h.top s.log) := by
  simp only [callN, hf, hl, if_true, hr]
  rcases he with rfl | rfl <;> simp only [hv]
theorem callP_fn {P : Prog} {n f : Nat} {a : AFn} (hf : P.find f = some (.fn a)) {ds : List D} {d : D} (hl : ds.length = a.nparams) {ex : Ex} {s : St} {v : V} {h' : H}
    (hr : run ⟨pureOf (callN P n), callN P n⟩ n a.body ⟨args0 0 (ds.map .d), H.empty, some []⟩ = some (ex, s)) (he : ex = .norm ∨ ex = .ret) (hv : result s a.results = some v) (hz : frz 100000 s.heap v = some (d, h')) : callP P (n + 1) f ds = some d := by
  simp only [callP, pureOf, callN_fn hf (by simpa using hl) hr he hv, hz]
end Go.Avm

