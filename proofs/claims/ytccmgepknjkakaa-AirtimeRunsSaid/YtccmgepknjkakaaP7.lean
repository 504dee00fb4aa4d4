/- Serving queues: what is left to show of AirtimeRuns. -/
import Derived.Test.YtccmgepknjkakaaP4
import Derived.Test.YtccmgepknjkakaaC7
namespace Go.Proofs.Ytccmgepknjkakaa
open Go Go.RowKit Go.Proofs.Ytccmgepknjkakaa.Vc
theorem row_le {l : Int → Int} {m : Int} (h : ∀ i, 0 ≤ i → i < m → 0 ≤ l i) : ∀ i, 0 ≤ i → i < m → l i ≤ sumI l m := by
  intro i i0 i1
  have h1 := sumI_le (g := upI (fun _ => 0) i (l i)) (h := l) (n := m) fun j j0 j1 => by
    by_cases hj : j = i
    · subst hj; rw [upI_eq]; exact Int.le_refl _
    · rw [upI_ne hj]; exact h j j0 j1
  rw [sumI_up i0 i1] at h1
  have e : sumI (fun _ => (0:Int)) m = _ := sumN_const
  rw [e] at h1
  simp at h1
  omega
theorem ru_congr {a : Int → Nat → Int} {n t : Int} {l l' : Int → Int} {f f' : Int → Int → Nat → Int} {m : Int} (hl : ∀ i, 0 ≤ i → i < m → l i = l' i) (hf : ∀ i, 0 ≤ i → i < m → f i = f' i) :
    ruO a n t l f m = ruO a n t l' f' m ∧ ruK a n t l f m = ruK a n t l' f' m ∧ ruA a n t l f m = ruA a n t l' f' m ∧ (∀ k, ruN a n t l f m k = ruN a n t l' f' m k) ∧ ruT a n t l f m = ruT a n t l' f' m ∧ ruE a n t l f m = ruE a n t l' f' m := by
  obtain ⟨e1, e2⟩ := rn_congr (a := a) (n := n) (t := t) (f := f) (f' := f') hl (fun i i0 i1 j => by rw [hf i i0 i1])
  refine ⟨?_, ?_, ?_, ?_, ?_, e2⟩
  · unfold ruO; rw [e1]
  · unfold ruK; rw [e1, e2]
  · unfold ruA; rw [e1]
  · intro k; unfold ruN; rw [e2]
  · unfold ruT; rw [e1, e2]
theorem vc3 : VC3 := by
  intro a n t l f m hp hn hm
  refine ⟨fun _ => hp, ?_⟩
  rintro g hg hN hM
  refine ⟨fun h => ⟨by simp, trivial⟩, fun h => ?_⟩
  have hgr : ¬ (40 < m ∨ 300 < sumI l m) := by
    intro hh
    apply h; right
    rw [hg]; unfold grA
    exact decide_eq_true hh
  have hrow := row_le (fun i i0 i1 => (hp.h i i0 i1).1)
  refine ⟨fun L G k i => 0 ≤ i ∧ i ≤ m ∧ k = i ∧ ∀ j, 0 ≤ j → j < i → L j = l j ∧ G j = f j, fun _ _ _ i => (m - i).toNat, ⟨by omega, by omega, rfl, fun j h0 h1 => by omega⟩, ?_⟩
  rintro L G k i ⟨i0, i1, rfl, hL⟩ _ _
  refine ⟨fun h1 => ?_, fun h1 => ?_⟩
  · have hl := hp.h k i0 h1
    have hl2 := hrow k i0 h1
    refine ⟨i0, fun _ => ⟨by omega, fun _ => ⟨by omega, fun _ => ⟨by omega, fun _ => ⟨by omega, fun _ => ⟨by omega, fun _ => ⟨by omega, fun _ => ⟨⟨by omega, by omega, rfl, fun j j0 j1 => ?_⟩, by dsimp only; omega⟩⟩⟩⟩⟩⟩⟩⟩
    by_cases hj : j = k
    · subst hj
      exact ⟨by unfold srL; rw [if_pos rfl], by unfold srF; rw [if_pos rfl]; rfl⟩
    · have := hL j j0 (by omega)
      exact ⟨by unfold srL; rw [if_neg hj]; exact this.1, by unfold srF; rw [if_neg hj]; exact this.2⟩
  obtain rfl : k = m := by omega
  obtain ⟨e1, e2, e3, e4, e5, e6⟩ := ru_congr (a := a) (n := n) (t := t) (fun i i0 i1 => (hL i i0 i1).1) (fun i i0 i1 => (hL i i0 i1).2)
  refine ⟨⟨by omega, ⟨fun i i0 i1 => by rw [(hL i i0 i1).1]; exact hp.h i i0 i1⟩⟩, ?_⟩
  rintro O1 k1 A1 n1 t1 E1 q1 q2 q3 q4 q5 q6 _ _
  refine ⟨⟨by omega, hp⟩, ?_⟩
  rintro O2 k2 A2 n2 t2 E2 p1 p2 p3 p4 p5 p6 _ _ _ _
  have z1 : O1 = O2 := by rw [q1, p1, e1]
  have z2 : k1 = k2 := by rw [q2, p2, e2]
  have z3 : A1 = A2 := by rw [q3, p3, e3]
  have z4 : n1 = n2 := by rw [q4, p4, e4]
  have z5 : t1 = t2 := by rw [q5, p5, e5]
  have z6 : E1 = E2 := by rw [q6, p6, e6]
  clear q1 q2 q3 q4 q5 q6 p1 p2 p3 p4 p5 p6
  subst z1 z2 z3 z4 z5 z6
  refine ⟨trivial, ?_⟩
  rintro s1 hs1 _ _
  refine ⟨fun _ => trivial, ?_⟩
  rintro s2 hs2
  have hs1' : s1 = true := by rw [hs1]; exact siA_self fun _ _ _ => rfl
  have hs2' : s2 = true := by rw [hs2]; exact smA_refl
  refine ⟨fun ok i => ok = true ∧ 0 ≤ i ∧ i ≤ k, fun _ i => (k - i).toNat, ⟨by rw [hs1', hs2']; simp, by omega, by omega⟩, ?_⟩
  rintro ok i ⟨rfl, j0, j1⟩
  refine ⟨fun h3 => ?_, fun h3 => ⟨by simp, trivial⟩⟩
  refine ⟨.inr j0, fun _ => ⟨.inr h3, fun _ => ⟨.inr j0, fun _ => ⟨.inr h3, fun _ => ⟨.inr j0, fun _ => ⟨.inr j0, fun _ => ⟨.inr j0, fun _ => ⟨.inr h3, fun _ => ⟨.inr j0, fun _ => ⟨fun _ => trivial, ?_⟩⟩⟩⟩⟩⟩⟩⟩⟩⟩
  rintro s3 hs3
  have hs3' : s3 = true := by
    rw [hs3, (hL i j0 h3).1]
    exact siA_self fun j _ _ => by show G i j 0 = f i j 0; rw [(hL i j0 h3).2]
  refine ⟨by omega, fun _ => ⟨⟨by rw [hs3']; rfl, by omega, by omega⟩, by dsimp only; omega⟩⟩
end Go.Proofs.Ytccmgepknjkakaa
