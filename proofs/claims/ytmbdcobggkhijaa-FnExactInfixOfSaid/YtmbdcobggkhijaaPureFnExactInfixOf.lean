/- InfixOf of the program and of the reference answer alike, for every name. No condition. -/
import Derived.Test.YtmbdcobggkhijaaPFnExactInfixOfx2
namespace Go.Proofs.Ytmbdcobggkhijaa.Pure
open Go.RowKit Go.Proofs.Ytmbdcobggkhijaa.PFnExactInfixOf Go.Proofs.YtmbdcobggkhijaaW.PrintWords Go.Proofs.YtmbdcobggkhijaaW.PrintLast

theorem infix_alike (k : Nat) (s : ByteArray) : spec_InfixOf.f k s = impl_InfixOf.f k s := by
  have h2 : ∀ k a b c, spec_InfixOf.j2 k a b c = impl_InfixOf.j2 k a b c := by
    intro k a b c; cases k <;> simp only [spec_InfixOf.j2, impl_InfixOf.j2]
  have h1 : ∀ k a b c, spec_InfixOf.j1 k a b c = impl_InfixOf.j1 k a b c := by
    intro k a b c; cases k <;> simp only [spec_InfixOf.j1, impl_InfixOf.j1, h2]
  have h0 : ∀ k a b c, spec_InfixOf.j0 k a b c = impl_InfixOf.j0 k a b c := by
    intro k a b c; cases k <;> simp only [spec_InfixOf.j0, impl_InfixOf.j0, h1]
  unfold spec_InfixOf.f impl_InfixOf.f
  simp only [h0]

theorem infix_some (k : Nat) (s : ByteArray) (hk : 3 ≤ k) : ∃ r, impl_InfixOf.f k s = some r := by
  obtain ⟨k, rfl⟩ : ∃ m, k = m + 1 := ⟨k - 1, by omega⟩
  obtain ⟨k, rfl⟩ : ∃ m, k = m + 1 := ⟨k - 1, by omega⟩
  obtain ⟨k, rfl⟩ : ∃ m, k = m + 1 := ⟨k - 1, by omega⟩
  have h2 : ∀ a b c, ∃ r, impl_InfixOf.j2 (k + 1) a b c = some r := by
    intro a b c; simp only [impl_InfixOf.j2]; repeat' split
    all_goals exact ⟨_, rfl⟩
  have h1 : ∀ a b c, ∃ r, impl_InfixOf.j1 (k + 1 + 1) a b c = some r := by
    intro a b c; simp only [impl_InfixOf.j1]; repeat' split
    all_goals first | exact ⟨_, rfl⟩ | exact h2 _ _ _
  have h0 : ∀ a b c, ∃ r, impl_InfixOf.j0 (k + 1 + 1 + 1) a b c = some r := by
    intro a b c; simp only [impl_InfixOf.j0]; repeat' split
    all_goals first | exact ⟨_, rfl⟩ | exact h1 _ _ _
  unfold impl_InfixOf.f
  split <;> exact h0 _ _ _

theorem FnExactInfixOf : laws_FnExactInfixOf.Pure := by
  intro s hs
  refine ⟨3, ?_⟩
  unfold laws_FnExactInfixOf.f
  rw [infix_alike]
  obtain ⟨r, hr⟩ := infix_some 3 s (by omega)
  rw [hr]
  simp [laws_eqOp.f]

end Go.Proofs.Ytmbdcobggkhijaa.Pure
