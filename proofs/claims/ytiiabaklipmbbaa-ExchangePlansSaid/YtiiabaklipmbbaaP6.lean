/- What is left to show of the law of plans. -/
import Derived.Test.YtiiabaklipmbbaaC6
import Derived.Test.YtiiabaklipmbbaaP4
namespace Go.Proofs.Ytiiabaklipmbbaa
open Go Go.RowKit Go.Proofs.Ytiiabaklipmbbaa.Vc
theorem smP_self (a : Int → Nat → Int) (n : Int) : smP a n a n = true := by
  simp [smP]
theorem smZ_self (a : Int → Nat → Int) (n : Int) : smZ a n a n = true := by
  simp [smZ]
theorem vc3 : VC3 := by
  unfold VC3
  intro p q lim d m rts cts ack bar back _ h0 h1
  refine ⟨fun _ => ⟨by simp, trivial⟩, fun hm => ⟨by omega, fun _ => ⟨by omega, fun _ => ⟨trivial, ?_⟩⟩⟩⟩
  rintro _ _ _ rfl rfl rfl _
  refine ⟨trivial, ?_⟩
  rintro _ _ _ rfl rfl rfl _ _
  refine ⟨trivial, ?_⟩
  rintro _ rfl _
  refine ⟨fun _ => trivial, ?_⟩
  rintro _ rfl
  rw [smP_self, smZ_self]
  exact ⟨by simp, trivial⟩
end Go.Proofs.Ytiiabaklipmbbaa
