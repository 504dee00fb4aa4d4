/- Contests: fewer slots give a prefix. -/
import Derived.Test.YtkagcjibneigdaaDoorP3
import Derived.Test.YtkagcjibneigdaaDoorC10
import Derived.Test.YtkagcjibneigdaaDoorE
namespace Go.Proofs.YtkagcjibneigdaaDoor
open Go Go.RowKit Go.Proofs.YtkagcjibneigdaaDoor.Vc
theorem cr_less {b : Int → Nat → Int} {n : Int} {l : Int → Int} {f : Int → Int → Nat → Int} {m : Int} {ask : Bool} {T q : Int} {d : Int → Nat → Int} {k : Int} (h : crE b n l f m ask T d k = 0) (q0 : 0 ≤ q) (q1 : q ≤ T) : crE b n l f m ask q d k = 0 := by
  unfold crE ccE at h ⊢
  grind
theorem pre_run (b : Int → Nat → Int) (n : Int) (f : Int → Int → Nat → Int) (ask : Bool) (T q : Int) (d : Int → Nat → Int) (k : Int) (q0 : 0 ≤ q) (q1 : q ≤ T) :
    Past q (crF b n f ask q d k) ∧ Grown q (crF b n f ask q d k).k (crF b n f ask q d k).o (crF b n f ask T d k) := by
  have e1 : ((q.toNat : Nat) : Int) = q := by omega
  have e2 : T.toNat = q.toNat + (T.toNat - q.toNat) := by omega
  have h1 := past_run (f := f) (n := n) (ask := ask) (d := d) (m := k) (b := b) q.toNat
  have h2 := grown_run (f := f) (n := n) (ask := ask) (d := d) (m := k) (s := st0 b n) q.toNat (T.toNat - q.toNat)
  rw [e1] at h1 h2
  unfold crF
  rw [← e2] at h2
  exact ⟨h1, h2⟩
theorem vc6 : VC6 := by
  intro b n l f m ask T q d k hu n0 m0 k0
  refine ⟨trivial, fun v9 h9 _ _ k1 => ⟨trivial, fun v10 h10 => ⟨fun _ => by simp [h9], fun hc => ⟨hu, fun o K a N E ho hK ha hN hE hK0 hN0 => ⟨hu, fun o2 K2 a2 N2 E2 ho2 hK2 ha2 hN2 hE2 hK20 hN20 hK1 hN1 hK21 hN21 => ⟨fun _ => by simp [h9], fun he => ?_⟩⟩⟩⟩⟩⟩
  have q0 : 0 ≤ q := by grind
  have q1 : q ≤ T := by grind
  have he : crE b n l f m ask T d k = 0 := by rw [← hE]; omega
  have he2 := cr_less he q0 q1
  obtain ⟨h1, h2⟩ := pre_run b n f ask T q d k q0 q1
  have eK : K = (crF b n f ask T d k).k := by rw [hK]; unfold crK; rw [if_pos he]
  have eK2 : K2 = (crF b n f ask q d k).k := by rw [hK2]; unfold crK; rw [if_pos he2]
  have eo : o = (crF b n f ask T d k).o := ho
  have eo2 : o2 = (crF b n f ask q d k).o := ho2
  have eE2 : E2 = 0 := by rw [hE2]; exact he2
  have p1 : ∀ j, j < K2 → o j 2 ≤ q := fun j hj => by rw [eo, h2.old j (by omega)]; exact h1 j (by omega)
  have p2 : ∀ j, K2 ≤ j → j < K → q < o j 2 := fun j h3 h4 => by rw [eo]; exact h2.new j (by omega) (by omega)
  have p3 : K2 ≤ K := by rw [eK, eK2]; exact h2.k
  refine ⟨fun i => 0 ≤ i ∧ i ≤ K ∧ i ≤ K2, fun i => (K - i).toNat, ⟨by omega, by omega, by omega⟩, ?_⟩
  rintro i ⟨i0, i1, i2⟩
  refine ⟨.inr i0, fun _ => ⟨.inr i0, fun _ => ⟨fun h => ⟨by omega, fun _ => ⟨⟨by omega, by omega, ?_⟩, by dsimp only; omega⟩⟩, fun h => ⟨.inr i0, fun _ => ⟨.inr i1, fun _ => ⟨.inr i1, fun _ => ⟨fun _ => trivial, fun v22 h22 => ⟨?_, trivial⟩⟩⟩⟩⟩⟩⟩⟩
  · have := p2 i
    rcases Int.lt_or_le i K2 with h5 | h5
    · omega
    · have := p2 i h5 h.1; have := h.2; omega
  · have hi : i = K2 := by
      rcases Int.lt_or_le i K2 with h5 | h5
      · exact absurd ⟨by omega, p1 i h5⟩ h
      · omega
    have hs : sbB o2 K2 o i = true := by
      unfold sbB
      rw [Bool.and_eq_true]
      refine ⟨decide_eq_true hi.symm, allI_of fun j j0 j1 => ?_⟩
      have : o2 j = o j := by rw [eo, eo2]; exact (h2.old j (by omega)).symm
      unfold sbR
      rw [this]
      simp
    rw [h22, hs, eE2, h9]
    simp
end Go.Proofs.YtkagcjibneigdaaDoor
