/- Contests: hearing is symmetric. -/
import Derived.Test.YtkagcjibneigdaaDoorP3
import Derived.Test.YtkagcjibneigdaaDoorC5
namespace Go.Proofs.YtkagcjibneigdaaDoor
open Go Go.RowKit Go.Proofs.YtkagcjibneigdaaDoor.Vc
theorem vc20 : VC20 := by
  intro b n l f m ask T hu n0 m0
  refine ⟨hu, fun e he n1 m1 => ⟨fun h => ?_, fun h => ?_⟩⟩
  · have : evB b n l f m ask T = false := by unfold evB; rw [← he]; simp [h]
    simp [this]
  have h0 : e = 0 := by omega
  rw [he] at h0
  obtain ⟨cn, cm, cT, cb⟩ := cc_ok h0
  have hev : evB b n l f m ask T = allI (evO l f) m := by unfold evB; rw [h0]; rfl
  rw [hev]
  subst cm
  refine ⟨fun i => 0 ≤ i ∧ i ≤ m ∧ allI (evO l f) i = true, fun i => (m - i).toNat, ⟨by omega, by omega, rfl⟩, ?_⟩
  rintro i ⟨i0, i1, hi⟩
  refine ⟨fun h1 => ⟨i0, fun _ => ?_⟩, fun h1 => ?_⟩
  · have li := (cb i i0 h1).1
    refine ⟨fun j => 0 ≤ j ∧ j ≤ m ∧ allI (evR f i) j = true, fun j => (m - j).toNat, ⟨by omega, by omega, rfl⟩, ?_⟩
    rintro j ⟨j0, j1, hj⟩ l0 l1
    refine ⟨fun h2 => ?_, fun h2 => ?_⟩
    · have h2 : j < m := by omega
      have lj := (cb j j0 h2).1
      refine ⟨j0, fun _ => ⟨h2, fun _ => ⟨by omega, fun _ => fun _ _ => ⟨fun h3 => ⟨?_, trivial⟩, fun h3 => ⟨by omega, fun _ => ⟨⟨by omega, by omega, ?_⟩, by dsimp only; omega⟩⟩⟩⟩⟩⟩
      · have h4 : allI (evO l f) m = false := by
          cases hh : allI (evO l f) m with
          | false => rfl
          | true =>
            have h5 := allI_at hh i0 h1
            unfold evO at h5
            have h6 := allI_at h5 j0 (by omega)
            unfold evR at h6
            have h7 := of_decide_eq_true h6
            have h8 : rowA f i j 0 = f i j 0 := rfl
            have h9 : rowA f j i 0 = f j i 0 := rfl
            rw [h8, h9] at h3
            exact absurd (by by_cases ha : f i j 0 = 0 <;> simp_all) h3
        simp [h4]
      · rw [allI_succ j0, hj]
        have h8 : rowA f i j 0 = f i j 0 := rfl
        have h9 : rowA f j i 0 = f j i 0 := rfl
        rw [h8, h9] at h3
        have : evR f i j = true := by
          unfold evR
          refine decide_eq_true ?_
          by_cases ha : f i j 0 = 0 <;> by_cases hb : f j i 0 = 0 <;> simp_all
        rw [this]; rfl
    · refine ⟨by omega, fun _ => ⟨⟨by omega, by omega, ?_⟩, by dsimp only; omega⟩⟩
      rw [allI_succ i0, hi]
      have : j = m := by omega
      unfold evO
      rw [li, ← this, hj]; rfl
  · have : i = m := by omega
    rw [← this, hi]
    exact ⟨⟨fun _ => rfl, fun _ => trivial⟩, trivial⟩
end Go.Proofs.YtkagcjibneigdaaDoor
