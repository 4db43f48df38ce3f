/- PrefixOf of the program and of the reference answer alike, for every name. No condition. -/
import Derived.Test.YtmbdcobggkhijaaPFnExactPrefixOfx1
namespace Go.Proofs.Ytmbdcobggkhijaa.Pure
open Go.RowKit Go.Proofs.Ytmbdcobggkhijaa.PFnExactPrefixOf Go.Proofs.YtmbdcobggkhijaaW.PrintWords Go.Proofs.YtmbdcobggkhijaaW.PrintLast

theorem prefix_alike (s : ByteArray) : spec_PrefixOf.f s = impl_PrefixOf.f s := by
  unfold spec_PrefixOf.f impl_PrefixOf.f; rfl

theorem prefix_some (s : ByteArray) : ∃ r, impl_PrefixOf.f s = some r := by
  unfold impl_PrefixOf.f
  repeat' split
  all_goals exact ⟨_, rfl⟩

theorem FnExactPrefixOf : laws_FnExactPrefixOf.Pure := by
  intro s hs
  unfold laws_FnExactPrefixOf.f
  rw [prefix_alike]
  obtain ⟨r, hr⟩ := prefix_some s
  rw [hr]
  simp [laws_eqOp.f]

end Go.Proofs.Ytmbdcobggkhijaa.Pure
