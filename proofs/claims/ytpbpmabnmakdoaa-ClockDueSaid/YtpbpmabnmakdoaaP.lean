/- The functions that sort: insertion, exchange, rotation, merging, all of it. -/
import Derived.Test.YtpbpmabnmakdoaaC
set_option linter.unusedVariables false
namespace Go.Proofs.Ytpbpmabnmakdoaa
open Go Go.RowKit Go.Proofs.Ytpbpmabnmakdoaa.Vc
theorem vc40 : VC40 := by
  unfold VC40
  intro v0 v1 v2 v3 v4 v5 _
  unfold cmpI
  refine ⟨fun h => absurd rfl h, fun _ => ⟨fun h => absurd rfl h, fun _ => ⟨fun h => ?_, fun h => ⟨fun g => ?_, fun g => ?_⟩⟩⟩⟩
  · rw [if_pos h]; exact ⟨rfl, trivial⟩
  · rw [if_neg h, if_pos g]; exact ⟨rfl, trivial⟩
  · rw [if_neg h, if_neg g]; exact ⟨rfl, trivial⟩
theorem vc53 : VC53 := by
  unfold VC53
  rintro v0 v1 v2 v3 v4 ⟨p1, p2, p3, p4, p5⟩ h1
  refine ⟨fun v t => 0 ≤ t ∧ t ≤ v4 ∧ ∀ i f, f < 3 → v i f = swpA v0 v2 v3 t i f, fun v t => (v4 - t).toNat, ⟨by omega, by omega, fun i f _ => ?_⟩, ?_⟩
  · unfold swpA; rw [if_neg (by omega), if_neg (by omega)]
  · rintro v5 v6 ⟨q1, q2, q3⟩ _
    refine ⟨fun h => ?_, fun h => ⟨rfl, fun _ => ⟨rfl, fun i f _ _ hf => ?_, trivial⟩⟩⟩
    · refine ⟨by omega, fun _ => ⟨by omega, fun _ => ⟨by omega, fun _ => ⟨by omega, fun _ => ⟨by omega, fun _ => ⟨by omega, fun _ => ⟨by omega, fun _ => ⟨⟨by omega, by omega, fun i f hf => ?_⟩, by dsimp only; omega⟩⟩⟩⟩⟩⟩⟩⟩
      show sw6 v5 (v2 + v6) (v3 + v6) i f = _
      rw [sw6_get _ _ _ _ _ hf]
      unfold swpA at q3 ⊢
      by_cases a1 : i = v3 + v6
      · subst a1
        rw [if_pos rfl, q3 _ _ hf]
        (repeat' split) <;> first | omega | (congr 1; omega)
      · rw [if_neg a1]
        by_cases a2 : i = v2 + v6
        · subst a2
          rw [if_pos rfl, q3 _ _ hf]
          (repeat' split) <;> first | omega | (congr 1; omega)
        · rw [if_neg a2, q3 _ _ hf]
          (repeat' split) <;> first | omega | rfl | (congr 1; omega)
    · have : v6 = v4 := by omega
      rw [q3 i f hf, this]
/-- what one exchange of blocks does to the turn that is left -/
theorem rot_step1 {v : Int → Nat → Int} {m i j : Int} (hi : 0 < i) (hj : 0 < j) (h : j < i) (t : Int) (f : Nat) : rotA (swpA v (m - i) m j) (m - i + j) m (m + j) t f = rotA v (m - i) m (m + j) t f := by
  unfold rotA swpA
  (repeat' split) <;> first | omega | (congr 1; omega)
theorem rot_step2 {v : Int → Nat → Int} {m i j : Int} (hi : 0 < i) (hj : 0 < j) (h : i < j) (t : Int) (f : Nat) : rotA (swpA v (m - i) (m + j - i) i) (m - i) m (m + j - i) t f = rotA v (m - i) m (m + j) t f := by
  unfold rotA swpA
  (repeat' split) <;> first | omega | (congr 1; omega)
theorem rot_step3 {v : Int → Nat → Int} {m i : Int} (hi : 0 < i) (t : Int) (f : Nat) : swpA v (m - i) m i t f = rotA v (m - i) m (m + i) t f := by
  unfold rotA swpA
  (repeat' split) <;> first | omega | (congr 1; omega)
theorem vc52 : VC52 := by
  unfold VC52
  rintro v0 v1 v2 v3 v4 ⟨p1, p2, p3, p4, p5⟩ h1
  refine ⟨by omega, fun _ => ⟨by omega, fun _ => ⟨fun v i j => 0 < i ∧ 0 < j ∧ v2 ≤ v3 - i ∧ v3 + j ≤ v4 ∧ ∀ t f, rotA v (v3 - i) v3 (v3 + j) t f = rotA v0 v2 v3 v4 t f, fun v i j => (i + j).toNat, ⟨by omega, by omega, by omega, by omega, fun t f => by rw [show v3 - (v3 - v2) = v2 by omega, show v3 + (v4 - v3) = v4 by omega]⟩, ?_⟩⟩⟩
  rintro v5 v6 v7 ⟨q1, q2, q3, q4, q5⟩ _
  refine ⟨fun hne => ⟨fun h => ?_, fun h => ?_⟩, fun he => ?_⟩
  · refine ⟨by omega, fun _ => ⟨h1, fun _ => ⟨Int.le_refl _, fun _ => ⟨by omega, ?_⟩⟩⟩⟩
    rintro v8 v9 rfl rfl
    refine ⟨by omega, fun _ => ⟨⟨by omega, by omega, by omega, by omega, fun t f => ?_⟩, by dsimp only; omega⟩⟩
    rw [← q5, ← rot_step1 q1 q2 h, show v3 - (v6 - v7) = v3 - v6 + v7 by omega]
  · refine ⟨by omega, fun _ => ⟨by omega, fun _ => ⟨by omega, fun _ => ⟨h1, fun _ => ⟨Int.le_refl _, fun _ => ⟨by omega, ?_⟩⟩⟩⟩⟩⟩
    rintro v8 v9 rfl rfl
    refine ⟨by omega, fun _ => ⟨⟨by omega, by omega, by omega, by omega, fun t f => ?_⟩, by dsimp only; omega⟩⟩
    rw [← q5, ← rot_step2 q1 q2 (by omega), show v3 + (v7 - v6) = v3 + v7 - v6 by omega]
  · refine ⟨by omega, fun _ => ⟨h1, fun _ => ⟨Int.le_refl _, fun _ => ⟨by omega, ?_⟩⟩⟩⟩
    rintro v8 v9 rfl rfl
    refine ⟨rfl, fun _ => ⟨rfl, fun t f _ _ _ => ?_, trivial⟩⟩
    have : v6 = v7 := by omega
    subst this
    rw [← q5, rot_step3 q1]
/-- the inner loop: the element at j is on its way down -/
structure Inr (x : Int → Nat → Int) (a i : Int) (u : Int → Nat → Int) (j : Int) : Prop where
  j0 : a ≤ j
  j1 : j ≤ i
  prm : Prm x u a (i + 1)
  outs : Outs x u a (i + 1)
  els : ∀ p q, a ≤ p → p < q → q ≤ i → p ≠ j → q ≠ j → Lt u p q
  up : ∀ q, j < q → q ≤ i → Lt u j q
  sq : ∀ p, a ≤ p → p ≤ i → p ≠ j → u p 2 < u j 2
theorem Inr.start {x v : Int → Nat → Int} {n a b i : Int} (h : Ins x n a b) (hi : a + 1 ≤ i) (hb : i < b) (hv : Srt x a i v) : Inr x a i v i where
  j0 := by omega
  j1 := Int.le_refl _
  prm := hv.prm.wide hv.outs (Int.le_refl _) (by omega)
  outs := hv.outs.wide (Int.le_refl _) (by omega)
  els := fun p q p0 pq q1 _ hq => hv.srtd p q p0 pq (by omega)
  up := fun q h1 h2 => by omega
  sq := fun p p0 p1 hp => by
    obtain ⟨s, t, hs⟩ := hv.prm
    obtain ⟨a1, a2, _, _, _, _, a7⟩ := hs p p0 (by omega)
    rw [a7 2 (by decide), hv.outs i 2 (by decide) (by omega)]
    exact h.sq _ _ a1 a2 hb
theorem Inr.step {x u : Int → Nat → Int} {a i j : Int} (h : Inr x a i u j) (hj : a < j) (hc : u j 0 < u (j - 1) 0) : Inr x a i (sw6 u j (j - 1)) (j - 1) := by
  have g1 : ∀ f, f < 3 → sw6 u j (j - 1) (j - 1) f = u j f := fun f hf => by rw [sw6_get _ _ _ _ _ hf, if_pos rfl]
  have g2 : ∀ f, f < 3 → sw6 u j (j - 1) j f = u (j - 1) f := fun f hf => by rw [sw6_get _ _ _ _ _ hf, if_neg (by omega), if_pos rfl]
  have g3 : ∀ t, t ≠ j → t ≠ j - 1 → ∀ f, f < 3 → sw6 u j (j - 1) t f = u t f := fun t h1 h2 f hf => by rw [sw6_get _ _ _ _ _ hf, if_neg h2, if_neg h1]
  have hj1 := h.j1
  refine ⟨by omega, by omega, h.prm.trans (sw6_prm (by omega) (by omega)), h.outs.trans (sw6_out (by omega) (by omega)), fun p q p0 pq q1 hp hq => ?_, fun q q0 q1 => ?_, fun p p0 p1 hp => ?_⟩
  · by_cases e1 : q = j
    · subst e1
      exact (h.els p (q - 1) p0 (by omega) (by omega) (by omega) (by omega)).of (g3 p (by omega) hp) g2
    · by_cases e2 : p = j
      · subst e2
        exact (h.els (p - 1) q (by omega) (by omega) q1 (by omega) (by omega)).of g2 (g3 q e1 hq)
      · exact (h.els p q p0 pq q1 e2 e1).of (g3 p e2 hp) (g3 q e1 hq)
  · by_cases e1 : q = j
    · subst e1
      exact Lt.of (i' := q) (j' := q - 1) (.inl hc) g1 g2
    · exact (h.up q (by omega) q1).of g1 (g3 q e1 (by omega))
  · rw [g1 2 (by decide)]
    by_cases e1 : p = j
    · subst e1
      rw [g2 2 (by decide)]
      exact h.sq _ (by omega) (by omega) (by omega)
    · rw [g3 p e1 hp 2 (by decide)]
      exact h.sq p p0 p1 e1
theorem Inr.done {x u : Int → Nat → Int} {a i j : Int} (h : Inr x a i u j) (hc : ¬ (a < j ∧ u j 0 < u (j - 1) 0)) : Srt x a (i + 1) u := by
  have hj1 := h.j1
  refine ⟨h.prm, h.outs, fun p q p0 pq q1 => ?_⟩
  by_cases e1 : p = j
  · subst e1; exact h.up q pq (by omega)
  · by_cases e2 : q = j
    · subst e2
      have hl : Lt u (q - 1) q := by
        have := h.sq (q - 1) (by omega) (by omega) (by omega)
        have : ¬ (u q 0 < u (q - 1) 0) := fun hlt => hc ⟨by omega, hlt⟩
        unfold Lt; omega
      by_cases e3 : p = q - 1
      · subst e3; exact hl
      · exact (h.els p (q - 1) p0 (by omega) (by omega) e1 (by omega)).trans hl
    · exact h.els p q p0 pq (by omega) e1 e2
theorem vc50 : VC50 := by
  unfold VC50
  rintro v0 v1 v2 v3 hI h1
  have := hI.a0
  have := hI.ab
  have := hI.bn
  have := hI.n6
  refine ⟨by omega, fun _ => ⟨fun v i => (v2 + 1 ≤ i ∧ i ≤ v3 ∧ Srt v0 v2 i v) ∨ (v3 ≤ v2 ∧ v = v0 ∧ i = v2 + 1), fun v i => (v3 - i).toNat, ?_, ?_⟩⟩
  · by_cases h : v2 < v3
    · exact .inl ⟨by omega, by omega, Prm.refl _ _ _, fun _ _ _ _ => rfl, fun i j _ _ _ => by omega⟩
    · exact .inr ⟨by omega, rfl, rfl⟩
  · rintro v4 v5 hA _
    refine ⟨fun hlt => ?_, fun hge => ⟨rfl, fun _ => ⟨rfl, fun i f _ _ hf => ?_, trivial⟩⟩⟩
    · rcases hA with ⟨q1, q2, q3⟩ | ⟨q1, _, q3⟩
      · refine ⟨fun u j => Inr v0 v2 v5 u j, fun u j => j.toNat, Inr.start hI q1 hlt q3, ?_⟩
        rintro v6 v7 hR
        have := hR.j0
        have := hR.j1
        refine ⟨by omega, fun _ => ⟨by omega, fun _ => ⟨by omega, fun _ => ⟨by omega, fun _ => ⟨by omega, fun _ => ⟨by omega, fun _ => ⟨by omega, fun _ => ⟨by omega, fun _ => ⟨by omega, fun _ => ⟨fun _ => trivial, ?_⟩⟩⟩⟩⟩⟩⟩⟩⟩⟩
        rintro v8 rfl
        rw [cmpI_lt]
        refine ⟨fun hc => ⟨by omega, fun _ => ⟨by omega, fun _ => ⟨by omega, fun _ => ⟨by omega, fun _ => ⟨by omega, fun _ => ⟨?_, by dsimp only; omega⟩⟩⟩⟩⟩⟩, fun hc => ⟨by omega, fun _ => ⟨.inl ⟨by omega, by omega, ?_⟩, by dsimp only; omega⟩⟩⟩
        · exact hR.step hc.1 hc.2
        · exact hR.done hc
      · omega
    · rcases hA with ⟨q1, q2, q3⟩ | ⟨q1, q2, q3⟩
      · have : v5 = v3 := by omega
        subst this
        exact q3.eq i f hf
      · subst q2
        exact (Srt.eq (x := v4) (a := v2) (b := v3) ⟨Prm.refl _ _ _, fun _ _ _ _ => rfl, fun i j _ _ _ => by omega⟩) i f hf
theorem Srtd.rows {x y : Int → Nat → Int} {a b : Int} (h : Srtd x a b) (e : ∀ i, a ≤ i → i < b → ∀ f, f < 3 → y i f = x i f) : Srtd y a b := fun i j i0 ij j1 => (h i j i0 ij j1).of (e i i0 (by omega)) (e j (by omega) j1)
theorem Srt.self {x : Int → Nat → Int} {a b : Int} (h : Srtd x a b) : Srt x a b x := ⟨Prm.refl _ _ _, fun _ _ _ _ => rfl, h⟩
theorem rot_triv {x : Int → Nat → Int} {s m e : Int} (h1 : s ≤ m) (h2 : m ≤ e) (h : ¬ (s < m ∧ m < e)) (t : Int) (f : Nat) : x t f = rotA x s m e t f := by
  unfold rotA
  (repeat' split) <;> first | omega | rfl | (congr 1; omega)
/-- the search for the cut -/
structure Sch (x : Int → Nat → Int) (p lo hi s r : Int) : Prop where
  l0 : lo ≤ s
  sr : s ≤ r
  r1 : r ≤ hi
  lo : lo < s → x (s - 1) 0 ≤ x (p - (s - 1)) 0
  up : r < hi → x (p - r) 0 < x r 0
theorem Sch.start {x : Int → Nat → Int} {p lo hi : Int} (h : lo ≤ hi) : Sch x p lo hi lo hi := ⟨Int.le_refl _, h, Int.le_refl _, fun h => by omega, fun h => by omega⟩
theorem Sch.right {x : Int → Nat → Int} {p lo hi s r : Int} (h : Sch x p lo hi s r) (hs : s < r) (hc : ¬ x (p - (s + r) / 2) 0 < x ((s + r) / 2) 0) : Sch x p lo hi ((s + r) / 2 + 1) r := by
  have := h.l0
  refine ⟨by omega, by omega, h.r1, fun _ => ?_, h.up⟩
  rw [show (s + r) / 2 + 1 - 1 = (s + r) / 2 by omega]
  omega
theorem Sch.left {x : Int → Nat → Int} {p lo hi s r : Int} (h : Sch x p lo hi s r) (hs : s < r) (hc : x (p - (s + r) / 2) 0 < x ((s + r) / 2) 0) : Sch x p lo hi s ((s + r) / 2) := by
  have := h.r1
  exact ⟨h.l0, by omega, by omega, h.lo, fun _ => hc⟩
/-- the list, turned about the cut -/
structure Turned (x : Int → Nat → Int) (n a b mid s e : Int) (v : Int → Nat → Int) : Prop where
  a0 : 0 ≤ a
  bn : b ≤ n
  n6 : n ≤ 256
  aS : a ≤ s
  sm : s ≤ mid
  me : mid ≤ e
  eb : e ≤ b
  am : a < mid
  mb : mid < b
  prm : Prm x v a b
  outs : Outs x v a b
  l1 : Srtd v a s
  l2 : Srtd v s mid
  r1 : Srtd v mid e
  r2 : Srtd v e b
  lq : ∀ i j, a ≤ i → i < s → s ≤ j → j < mid → v i 2 < v j 2
  rq : ∀ i j, mid ≤ i → i < e → e ≤ j → j < b → v i 2 < v j 2
  cross : ∀ i j, a ≤ i → i < mid → mid ≤ j → j < b → Lt v i j
theorem Turned.of_rot {x v : Int → Nat → Int} {n a m b mid s e lo hi : Int} (h : Mrg x n a m b) (hmid : mid = (a + b) / 2) (he : e = mid + m - s) (hS : Sch x (mid + m - 1) lo hi s s)
    (hlh : (lo = a ∧ hi = m ∧ m ≤ mid) ∨ (lo = mid + m - b ∧ hi = mid ∧ mid < m)) (hv : ∀ t f, v t f = rotA x s m e t f) : Turned x n a b mid s e v := by
  have k1 := h.am
  have k2 := h.mb
  have k3 := hS.l0
  have k4 := hS.r1
  have aS : a ≤ s := by omega
  have sm : s ≤ m := by omega
  have smid : s ≤ mid := by omega
  have me : m ≤ e := by omega
  have eb : e ≤ b := by omega
  have mide : mid ≤ e := by omega
  have ec : s + (e - m) = mid := by omega
  have hA : ∀ i j, a ≤ i → i < s → e ≤ j → j < b → Lt x i j := by
    intro i j i0 i1 j0 j1
    have hlo : lo < s := by omega
    have h0 := hS.lo hlo
    rw [show mid + m - 1 - (s - 1) = e by omega] at h0
    have hq := h.sq (s - 1) e (by omega) (by omega) (by omega) (by omega)
    have hl : Lt x (s - 1) e := by unfold Lt; omega
    have h1 : Lt x i e := by
      by_cases hi : i = s - 1
      · rw [hi]; exact hl
      · exact (h.s1 i (s - 1) i0 (by omega) (by omega)).trans hl
    by_cases hj : j = e
    · rw [hj]; exact h1
    · exact h1.trans (h.s2 e j (by omega) (by omega) j1)
  have hB : ∀ i j, m ≤ i → i < e → s ≤ j → j < m → Lt x i j := by
    intro i j i0 i1 j0 j1
    have hhi : s < hi := by omega
    have h0 := hS.up hhi
    rw [show mid + m - 1 - s = e - 1 by omega] at h0
    have hl : Lt x (e - 1) s := .inl h0
    have h1 : Lt x i s := by
      by_cases hi : i = e - 1
      · rw [hi]; exact hl
      · exact (h.s2 i (e - 1) i0 (by omega) (by omega)).trans hl
    by_cases hj : j = s
    · rw [hj]; exact h1
    · exact h1.trans (h.s1 s j (by omega) (by omega) j1)
  have hp : ∀ i, ∃ i', (∀ f, f < 3 → v i f = x i' f) ∧ ((i < s ∧ i' = i) ∨ (s ≤ i ∧ i < mid ∧ i' = i + (m - s)) ∨ (mid ≤ i ∧ i < e ∧ i' = i - (e - m)) ∨ (e ≤ i ∧ i' = i)) := fun i => by
    obtain ⟨i', h1, h2⟩ := rot_pre x sm me i
    rw [ec] at h2
    exact ⟨i', fun f _ => by rw [hv]; exact h1 f, h2⟩
  refine ⟨h.a0, h.bn, h.n6, aS, smid, mide, eb, by omega, by omega, ?_, ?_, ?_, ?_, ?_, ?_, ?_, ?_, ?_⟩
  · exact ((rot_prm sm me).wide (rot_out sm me) aS eb).congr fun i f _ => hv i f
  · intro i f hf hi
    rw [hv]
    exact rot_out sm me i f hf (by omega)
  · intro i j i0 ij j1
    obtain ⟨i', ei, hi⟩ := hp i
    obtain ⟨j', ej, hj⟩ := hp j
    exact (h.s1 i' j' (by omega) (by omega) (by omega)).of ei ej
  · intro i j i0 ij j1
    obtain ⟨i', ei, hi⟩ := hp i
    obtain ⟨j', ej, hj⟩ := hp j
    exact (h.s2 i' j' (by omega) (by omega) (by omega)).of ei ej
  · intro i j i0 ij j1
    obtain ⟨i', ei, hi⟩ := hp i
    obtain ⟨j', ej, hj⟩ := hp j
    exact (h.s1 i' j' (by omega) (by omega) (by omega)).of ei ej
  · intro i j i0 ij j1
    obtain ⟨i', ei, hi⟩ := hp i
    obtain ⟨j', ej, hj⟩ := hp j
    exact (h.s2 i' j' (by omega) (by omega) (by omega)).of ei ej
  · intro i j i0 i1 j0 j1
    obtain ⟨i', ei, hi⟩ := hp i
    obtain ⟨j', ej, hj⟩ := hp j
    rw [ei 2 (by decide), ej 2 (by decide)]
    exact h.sq i' j' (by omega) (by omega) (by omega) (by omega)
  · intro i j i0 i1 j0 j1
    obtain ⟨i', ei, hi⟩ := hp i
    obtain ⟨j', ej, hj⟩ := hp j
    rw [ei 2 (by decide), ej 2 (by decide)]
    exact h.sq i' j' (by omega) (by omega) (by omega) (by omega)
  · intro i j i0 i1 j0 j1
    obtain ⟨i', ei, hi⟩ := hp i
    obtain ⟨j', ej, hj⟩ := hp j
    have : Lt x i' j' := by
      rcases hi with ⟨u1, u2⟩ | ⟨u1, u2, u3⟩ | ⟨u1, u2, u3⟩ | ⟨u1, u2⟩
      · rcases hj with ⟨w1, w2⟩ | ⟨w1, w2, w3⟩ | ⟨w1, w2, w3⟩ | ⟨w1, w2⟩
        · omega
        · omega
        · exact h.s1 i' j' (by omega) (by omega) (by omega)
        · exact hA i' j' (by omega) (by omega) (by omega) (by omega)
      · rcases hj with ⟨w1, w2⟩ | ⟨w1, w2, w3⟩ | ⟨w1, w2, w3⟩ | ⟨w1, w2⟩
        · omega
        · omega
        · exact hB i' j' (by omega) (by omega) (by omega) (by omega)
        · exact h.s2 i' j' (by omega) (by omega) (by omega)
      · omega
      · omega
    exact this.of ei ej
section
variable {x v v1 v2 : Int → Nat → Int} {n a b mid s e : Int}
theorem Turned.leftM (T : Turned x n a b mid s e v) (h : a < s ∧ s < mid) : Mrg v n a s mid :=
  ⟨T.a0, h.1, h.2, by have := T.bn; have := T.mb; omega, T.n6, T.l1, T.l2, T.lq⟩
theorem Turned.leftS (T : Turned x n a b mid s e v) (h : ¬ (a < s ∧ s < mid)) : Srt v a mid v := by
  have := T.aS
  have := T.sm
  refine Srt.self ?_
  by_cases h1 : s = a
  · rw [← h1]; exact T.l2
  · have : s = mid := by omega
    rw [← this]; exact T.l1
theorem Turned.rightM (T : Turned x n a b mid s e v) (hl : Srt v a mid v1) (h : mid < e ∧ e < b) : Mrg v1 n mid e b := by
  have k0 := T.a0
  have k1 := T.am
  have row : ∀ i, mid ≤ i → ∀ f, f < 3 → v1 i f = v i f := fun i hi f hf => hl.outs i f hf (by omega)
  refine ⟨by omega, h.1, h.2, T.bn, T.n6, T.r1.rows fun i i0 _ => row i i0, T.r2.rows fun i i0 _ => row i (by omega), fun i j i0 i1 j0 j1 => ?_⟩
  rw [row i i0 2 (by decide), row j (by omega) 2 (by decide)]
  exact T.rq i j i0 i1 j0 j1
theorem Turned.rightS (T : Turned x n a b mid s e v) (hl : Srt v a mid v1) (h : ¬ (mid < e ∧ e < b)) : Srt v1 mid b v1 := by
  have := T.me
  have := T.eb
  have row : ∀ i, mid ≤ i → ∀ f, f < 3 → v1 i f = v i f := fun i hi f hf => hl.outs i f hf (by omega)
  refine Srt.self ?_
  by_cases h1 : e = mid
  · rw [← h1]; exact T.r2.rows fun i i0 _ => row i (by omega)
  · have : e = b := by omega
    rw [← this]; exact T.r1.rows fun i i0 _ => row i i0
theorem Turned.fin (T : Turned x n a b mid s e v) (hl : Srt v a mid v1) (hr : Srt v1 mid b v2) : Srt x a b v2 := by
  have k1 := T.am
  have k2 := T.mb
  refine ⟨T.prm.trans ((hl.prm.wide hl.outs (Int.le_refl _) (by omega)).trans (hr.prm.wide hr.outs (by omega) (Int.le_refl _))), T.outs.trans ((hl.outs.wide (Int.le_refl _) (by omega)).trans (hr.outs.wide (by omega) (Int.le_refl _))), fun i j i0 ij j1 => ?_⟩
  by_cases h1 : j < mid
  · exact (hl.srtd i j i0 ij h1).of (fun f hf => hr.outs i f hf (by omega)) (fun f hf => hr.outs j f hf (by omega))
  · by_cases h2 : mid ≤ i
    · exact hr.srtd i j h2 ij j1
    · obtain ⟨s1, _, p1⟩ := hl.prm
      obtain ⟨s2, _, p2⟩ := hr.prm
      obtain ⟨a1, a2, _, _, _, _, a7⟩ := p1 i i0 (by omega)
      obtain ⟨b1, b2, _, _, _, _, b7⟩ := p2 j (by omega) j1
      refine (T.cross (s1 i) (s2 j) a1 a2 b1 b2).of (fun f hf => ?_) (fun f hf => ?_)
      · rw [hr.outs i f hf (by omega), a7 f hf]
      · rw [b7 f hf, hl.outs _ f hf (by omega)]
end
/-- one element ahead of a run -/
theorem one_left {x y : Int → Nat → Int} {n a b i : Int} (h : Mrg x n a (a + 1) b) (hi0 : a + 1 ≤ i) (hi1 : i ≤ b) (lo : ∀ t, a + 1 ≤ t → t < i → x t 0 < x a 0) (hi : ∀ t, i ≤ t → t < b → x a 0 ≤ x t 0) (hy : ∀ t f, f < 3 → y t f = rotA x a (a + 1) i t f) : Srt x a b y := by
  refine ⟨((rot_prm (by omega) hi0).wide (rot_out (by omega) hi0) (Int.le_refl _) hi1).congr hy, fun t f hf ht => by rw [hy t f hf]; exact rot_out (by omega) hi0 t f hf (by omega), fun p q p0 pq q1 => ?_⟩
  obtain ⟨p', ep, hp⟩ := rot_pre x (s := a) (m := a + 1) (e := i) (by omega) hi0 p
  obtain ⟨q', eq, hq⟩ := rot_pre x (s := a) (m := a + 1) (e := i) (by omega) hi0 q
  have : Lt x p' q' := by
    by_cases h1 : p' = a
    · subst h1
      have := hi q' (by omega) (by omega)
      have := h.sq p' q' (by omega) (by omega) (by omega) (by omega)
      unfold Lt; omega
    · by_cases h2 : q' = a
      · subst h2
        exact .inl (lo p' (by omega) (by omega))
      · exact h.s2 p' q' (by omega) (by omega) (by omega)
  exact this.of (fun f hf => by rw [hy p f hf]; exact ep f) (fun f hf => by rw [hy q f hf]; exact eq f)
/-- one element behind a run -/
theorem one_right {x y : Int → Nat → Int} {n a m i : Int} (h : Mrg x n a m (m + 1)) (hi0 : a ≤ i) (hi1 : i ≤ m) (lo : ∀ t, a ≤ t → t < i → x t 0 ≤ x m 0) (hi : ∀ t, i ≤ t → t < m → x m 0 < x t 0) (hy : ∀ t f, f < 3 → y t f = rotA x i m (m + 1) t f) : Srt x a (m + 1) y := by
  refine ⟨((rot_prm hi1 (by omega)).wide (rot_out hi1 (by omega)) hi0 (Int.le_refl _)).congr hy, fun t f hf ht => by rw [hy t f hf]; exact rot_out hi1 (by omega) t f hf (by omega), fun p q p0 pq q1 => ?_⟩
  obtain ⟨p', ep, hp⟩ := rot_pre x (s := i) (m := m) (e := m + 1) hi1 (by omega) p
  obtain ⟨q', eq, hq⟩ := rot_pre x (s := i) (m := m) (e := m + 1) hi1 (by omega) q
  have : Lt x p' q' := by
    by_cases h1 : p' = m
    · subst h1
      exact .inl (hi q' (by omega) (by omega))
    · by_cases h2 : q' = m
      · subst h2
        have := lo p' (by omega) (by omega)
        have := h.sq p' q' (by omega) (by omega) (by omega) (by omega)
        unfold Lt; omega
      · exact h.s1 p' q' (by omega) (by omega) (by omega)
  exact this.of (fun f hf => by rw [hy p f hf]; exact ep f) (fun f hf => by rw [hy q f hf]; exact eq f)
/-- the first element goes one place on -/
theorem rot_on {x v : Int → Nat → Int} {a k : Int} (h : a ≤ k) (hv : ∀ t f, f < 3 → v t f = rotA x a (a + 1) (k + 1) t f) (t : Int) (f : Nat) (hf : f < 3) : sw6 v k (k + 1) t f = rotA x a (a + 1) (k + 1 + 1) t f := by
  rw [sw6_get _ _ _ _ _ hf, hv k f hf, hv (k + 1) f hf, hv t f hf]
  unfold rotA
  (repeat' split) <;> first | omega | rfl | (congr 1; omega)
/-- the last element goes one place back -/
theorem rot_back {x v : Int → Nat → Int} {m k : Int} (h : k ≤ m) (hv : ∀ t f, f < 3 → v t f = rotA x k m (m + 1) t f) (t : Int) (f : Nat) (hf : f < 3) : sw6 v k (k - 1) t f = rotA x (k - 1) m (m + 1) t f := by
  rw [sw6_get _ _ _ _ _ hf, hv k f hf, hv (k - 1) f hf, hv t f hf]
  unfold rotA
  (repeat' split) <;> first | omega | rfl | (congr 1; omega)
theorem Lt.le0 {x : Int → Nat → Int} {i j : Int} (h : Lt x i j) : x i 0 ≤ x j 0 := by unfold Lt at h; omega
theorem Srtd.le0 {x : Int → Nat → Int} {a b : Int} (h : Srtd x a b) {i j : Int} (i0 : a ≤ i) (ij : i ≤ j) (j1 : j < b) : x i 0 ≤ x j 0 := by
  by_cases e : i = j
  · rw [e]; exact Int.le_refl _
  · exact (h i j i0 (by omega) j1).le0
structure Bl (x : Int → Nat → Int) (a b i j : Int) : Prop where
  i0 : a + 1 ≤ i
  ij : i ≤ j
  j1 : j ≤ b
  lo : ∀ t, a + 1 ≤ t → t < i → x t 0 < x a 0
  hi : ∀ t, j ≤ t → t < b → x a 0 ≤ x t 0
structure Br (x : Int → Nat → Int) (a m i j : Int) : Prop where
  i0 : a ≤ i
  ij : i ≤ j
  j1 : j ≤ m
  lo : ∀ t, a ≤ t → t < i → x t 0 ≤ x m 0
  hi : ∀ t, j ≤ t → t < m → x m 0 < x t 0
theorem vc51 (M : Int) : VC51 M := by
  unfold VC51
  simp only [hf2]
  rintro v0 v1 v2 v3 v4 ⟨hM, hsz⟩ h1
  have k1 := hM.a0
  have k2 := hM.am
  have k3 := hM.mb
  have k4 := hM.bn
  have k5 := hM.n6
  refine ⟨by omega, fun _ _ => ⟨fun he => ?_, fun hne => ⟨by omega, fun _ => ⟨fun he => ?_, fun hne2 => ?_⟩⟩⟩⟩
  · obtain rfl : v3 = v2 + 1 := by omega
    refine ⟨fun i j => Bl v0 v2 v4 i j, fun i j => (j - i).toNat, ⟨Int.le_refl _, by omega, Int.le_refl _, fun t _ _ => by omega, fun t _ _ => by omega⟩, ?_⟩
    rintro v5 v6 hB
    have b1 := hB.i0
    have b2 := hB.ij
    have b3 := hB.j1
    refine ⟨fun hlt => ⟨by omega, fun _ => ⟨by omega, fun _ => ⟨by omega, fun _ => ⟨by omega, fun _ => ⟨by omega, fun _ => ⟨by omega, fun _ => ⟨by omega, fun _ => ⟨trivial, ?_⟩⟩⟩⟩⟩⟩⟩⟩, fun hge => ?_⟩
    · rintro v7 rfl
      rw [cmpI_lt]
      refine ⟨fun hc => ⟨by omega, fun _ => ⟨⟨by omega, by omega, by omega, fun t t0 t1 => ?_, hB.hi⟩, by dsimp only; omega⟩⟩, fun hc => ⟨⟨by omega, by omega, by omega, hB.lo, fun t t0 t1 => ?_⟩, by dsimp only; omega⟩⟩
      · have := hM.s2.le0 t0 (show t ≤ (v5 + v6) / 2 by omega) (by omega)
        omega
      · have := hM.s2.le0 (show v2 + 1 ≤ (v5 + v6) / 2 by omega) t0 (by omega)
        omega
    · refine ⟨fun v k => v2 ≤ k ∧ k ≤ v5 - 1 ∧ ∀ t f, f < 3 → v t f = rotA v0 v2 (v2 + 1) (k + 1) t f, fun v k => (v5 - k).toNat, ⟨by omega, by omega, fun t f _ => rot_triv (by omega) (by omega) (by omega) t f⟩, ?_⟩
      rintro v7 v8 ⟨c1, c2, c3⟩
      refine ⟨by omega, fun _ => ⟨fun hlt => ⟨by omega, fun _ => ⟨by omega, fun _ => ⟨by omega, fun _ => ⟨by omega, fun _ => ⟨by omega, fun _ => ⟨⟨by omega, by omega, fun t f hf => ?_⟩, by dsimp only; omega⟩⟩⟩⟩⟩⟩, fun hnl => ⟨trivial, fun _ => ⟨trivial, fun t f _ _ hf => ?_, trivial⟩⟩⟩⟩
      · exact rot_on c1 c3 t f hf
      · have : v8 + 1 = v5 := by omega
        rw [this] at c3
        exact (one_left hM b1 (by omega) hB.lo (fun t t0 t1 => hB.hi t (by omega) t1) c3).eq t f hf
  · obtain rfl : v4 = v3 + 1 := by omega
    refine ⟨fun i j => Br v0 v2 v3 i j, fun i j => (j - i).toNat, ⟨Int.le_refl _, by omega, Int.le_refl _, fun t _ _ => by omega, fun t _ _ => by omega⟩, ?_⟩
    rintro v5 v6 hB
    have b1 := hB.i0
    have b2 := hB.ij
    have b3 := hB.j1
    refine ⟨fun hlt => ⟨by omega, fun _ => ⟨by omega, fun _ => ⟨by omega, fun _ => ⟨by omega, fun _ => ⟨by omega, fun _ => ⟨by omega, fun _ => ⟨by omega, fun _ => ⟨trivial, ?_⟩⟩⟩⟩⟩⟩⟩⟩, fun hge => ?_⟩
    · rintro v7 rfl
      rw [cmpI_lt]
      refine ⟨fun hc => ⟨by omega, fun _ => ⟨⟨by omega, by omega, by omega, fun t t0 t1 => ?_, hB.hi⟩, by dsimp only; omega⟩⟩, fun hc => ⟨⟨by omega, by omega, by omega, hB.lo, fun t t0 t1 => ?_⟩, by dsimp only; omega⟩⟩
      · have := hM.s1.le0 t0 (show t ≤ (v5 + v6) / 2 by omega) (by omega)
        omega
      · have := hM.s1.le0 (show v2 ≤ (v5 + v6) / 2 by omega) t0 (by omega)
        omega
    · refine ⟨fun v k => v5 ≤ k ∧ k ≤ v3 ∧ ∀ t f, f < 3 → v t f = rotA v0 k v3 (v3 + 1) t f, fun v k => k.toNat, ⟨by omega, by omega, fun t f _ => rot_triv (by omega) (by omega) (by omega) t f⟩, ?_⟩
      rintro v7 v8 ⟨c1, c2, c3⟩
      refine ⟨fun hlt => ⟨by omega, fun _ => ⟨by omega, fun _ => ⟨by omega, fun _ => ⟨by omega, fun _ => ⟨by omega, fun _ => ⟨⟨by omega, by omega, fun t f hf => ?_⟩, by dsimp only; omega⟩⟩⟩⟩⟩⟩, fun hnl => ⟨trivial, fun _ => ⟨trivial, fun t f _ _ hf => ?_, trivial⟩⟩⟩
      · exact rot_back c2 c3 t f hf
      · have : v8 = v5 := by omega
        subst this
        exact (one_right hM b1 (by omega) hB.lo (fun t t0 t1 => hB.hi t (by omega) t1) c3).eq t f hf
  · have sub : ∀ v5, Turned v0 v1 v2 v4 ((v2 + v4) / 2) v5 ((v2 + v4) / 2 + v3 - v5) (rotA v0 v5 v3 ((v2 + v4) / 2 + v3 - v5)) ∧ ((¬ (v5 < v3 ∧ v3 < (v2 + v4) / 2 + v3 - v5)) → Turned v0 v1 v2 v4 ((v2 + v4) / 2) v5 ((v2 + v4) / 2 + v3 - v5) v0) → ((v5 < v3 ∧ v3 < (v2 + v4) / 2 + v3 - v5) →
              0 ≤ v1 ∧ (0 ≤ v1 →
              v1 ≤ v1 ∧ (v1 ≤ v1 →
              (0 ≤ v5 ∧ v5 < v3 ∧ v3 < (v2 + v4) / 2 + v3 - v5 ∧ (v2 + v4) / 2 + v3 - v5 ≤ v1 ∧ v1 ≤ 256) ∧ True))) := fun v5 h hc => by
      have := h.1.aS
      have := h.1.eb
      exact ⟨h1, fun _ => ⟨Int.le_refl _, fun _ => ⟨by omega, trivial⟩⟩⟩
    have fin : ∀ (v v' : Int → Nat → Int), (∀ i f, f < 3 → v i f = v' i f) → (∀ i f, f < 3 → v' i f = srtA v0 v2 v4 i f) → True ∧ (True → True ∧ (∀ (i : Int) (f : Nat), 0 ≤ i → i < v1 → f < 3 → v i f = srtA v0 v2 v4 i f) ∧ True) :=
      fun v v' h g => ⟨trivial, fun _ => ⟨trivial, fun i f _ _ hf => by rw [h i f hf, g i f hf], trivial⟩⟩
    have two : ∀ v5 v, Turned v0 v1 v2 v4 ((v2 + v4) / 2) v5 ((v2 + v4) / 2 + v3 - v5) v → ∀ w, Srt v v2 ((v2 + v4) / 2) w →
        ((((v2 + v4) / 2) < ((((v2 + v4) / 2) + v3) - v5) ∧ ((((v2 + v4) / 2) + v3) - v5) < v4) →
                  0 ≤ v1 ∧ (0 ≤ v1 →
                  v1 ≤ v1 ∧ (v1 ≤ v1 →
                  (Mrg w v1 ((v2 + v4) / 2) ((((v2 + v4) / 2) + v3) - v5) v4 ∧ v4 - ((v2 + v4) / 2) < M) ∧ (∀ (v11 : Int → Nat → Int) (v12 : Int), v11 = srtA w ((v2 + v4) / 2) v4 → v12 = v1 → 
                  True ∧ (True →
                  True ∧ (∀ (i : Int) (f : Nat), 0 ≤ i → i < v1 → f < 3 → v11 i f = srtA v0 v2 v4 i f) ∧ True))))) ∧
                (¬ ((((v2 + v4) / 2) < ((((v2 + v4) / 2) + v3) - v5) ∧ ((((v2 + v4) / 2) + v3) - v5) < v4)) →
                  True ∧ (True →
                  True ∧ (∀ (i : Int) (f : Nat), 0 ≤ i → i < v1 → f < 3 → w i f = srtA v0 v2 v4 i f) ∧ True)) := by
      intro v5 v T w hl
      refine ⟨fun hc => ⟨h1, fun _ => ⟨Int.le_refl _, fun _ => ⟨⟨T.rightM hl hc, by omega⟩, ?_⟩⟩⟩, fun hc => ?_⟩
      · rintro v11 v12 rfl _
        exact fin _ _ (fun _ _ _ => rfl) (T.fin hl (srtA_spec (T.rightM hl hc).tot)).eq
      · exact fin _ _ (fun _ _ _ => rfl) (T.fin hl (T.rightS hl hc)).eq
    have one : ∀ v5 v, Turned v0 v1 v2 v4 ((v2 + v4) / 2) v5 ((v2 + v4) / 2 + v3 - v5) v → _ := fun v5 v T => And.intro (fun (hc : v2 < v5 ∧ v5 < (v2 + v4) / 2) => And.intro h1 fun (_ : 0 ≤ v1) => And.intro (Int.le_refl v1) fun (_ : v1 ≤ v1) => And.intro (And.intro (T.leftM hc) (show (v2 + v4) / 2 - v2 < M by omega)) fun (w : Int → Nat → Int) (z : Int) (hw : w = srtA v v2 ((v2 + v4) / 2)) (_ : z = v1) => two v5 v T w (by rw [hw]; exact srtA_spec (T.leftM hc).tot)) (fun (hc : ¬ (v2 < v5 ∧ v5 < (v2 + v4) / 2)) => two v5 v T v (T.leftS hc))
    have srch : ∀ lo hi, (lo = v2 ∧ hi = v3 ∧ v3 ≤ (v2 + v4) / 2) ∨ (lo = (v2 + v4) / 2 + v3 - v4 ∧ hi = (v2 + v4) / 2 ∧ (v2 + v4) / 2 < v3) → ∀ v5 v6, Sch v0 ((v2 + v4) / 2 + v3 - 1) lo hi v5 v6 → ¬ v5 < v6 →
        Turned v0 v1 v2 v4 ((v2 + v4) / 2) v5 ((v2 + v4) / 2 + v3 - v5) (rotA v0 v5 v3 ((v2 + v4) / 2 + v3 - v5)) ∧ ((¬ (v5 < v3 ∧ v3 < (v2 + v4) / 2 + v3 - v5)) → Turned v0 v1 v2 v4 ((v2 + v4) / 2) v5 ((v2 + v4) / 2 + v3 - v5) v0) := by
      intro lo hi hlh v5 v6 hS hge
      have s1 := hS.l0
      have s2 := hS.sr
      have s3 := hS.r1
      obtain rfl : v6 = v5 := by omega
      exact ⟨Turned.of_rot hM rfl rfl hS hlh fun _ _ => rfl, fun hc => Turned.of_rot hM rfl rfl hS hlh fun t f => rot_triv (by omega) (by omega) hc t f⟩
    refine ⟨by omega, fun _ => ⟨by omega, fun _ => ⟨by omega, fun _ => ⟨by omega, fun _ => ⟨fun hm => ?_, fun hm => ?_⟩⟩⟩⟩⟩
    · refine ⟨by omega, fun _ => ⟨by omega, fun _ => ⟨fun i j => Sch v0 ((v2 + v4) / 2 + v3 - 1) ((v2 + v4) / 2 + v3 - v4) ((v2 + v4) / 2) i j, fun i j => (j - i).toNat, Sch.start (by omega), ?_⟩⟩⟩
      rintro v5 v6 hS
      have s1 := hS.l0
      have s2 := hS.sr
      have s3 := hS.r1
      refine ⟨fun hlt => ⟨by omega, fun _ => ⟨by omega, fun _ => ⟨by omega, fun _ => ⟨by omega, fun _ => ⟨by omega, fun _ => ⟨by omega, fun _ => ⟨by omega, fun _ => ⟨by omega, fun _ => ⟨trivial, ?_⟩⟩⟩⟩⟩⟩⟩⟩⟩, fun hge => ⟨by omega, fun _ => ⟨fun hc => ?_, fun hc => ?_⟩⟩⟩
      · rintro v7 rfl
        rw [cmpI_lt]
        exact ⟨fun hc => ⟨by omega, fun _ => ⟨hS.right hlt hc, by dsimp only; omega⟩⟩, fun hc => ⟨hS.left hlt (by omega), by dsimp only; omega⟩⟩
      · have T := srch _ _ (.inr ⟨rfl, rfl, hm⟩) v5 v6 hS hge
        obtain ⟨e1, e2⟩ := sub v5 T hc
        obtain ⟨e3, e4⟩ := e2 e1
        refine ⟨e1, fun _ => ⟨e3, fun _ => ⟨(e4 e3).1, ?_⟩⟩⟩
        rintro v7 v8 rfl _
        exact one v5 _ T.1
      · exact one v5 _ ((srch _ _ (.inr ⟨rfl, rfl, hm⟩) v5 v6 hS hge).2 hc)
    · refine ⟨by omega, fun _ => ⟨fun i j => Sch v0 ((v2 + v4) / 2 + v3 - 1) v2 v3 i j, fun i j => (j - i).toNat, Sch.start (by omega), ?_⟩⟩
      rintro v5 v6 hS
      have s1 := hS.l0
      have s2 := hS.sr
      have s3 := hS.r1
      refine ⟨fun hlt => ⟨by omega, fun _ => ⟨by omega, fun _ => ⟨by omega, fun _ => ⟨by omega, fun _ => ⟨by omega, fun _ => ⟨by omega, fun _ => ⟨by omega, fun _ => ⟨by omega, fun _ => ⟨trivial, ?_⟩⟩⟩⟩⟩⟩⟩⟩⟩, fun hge => ⟨by omega, fun _ => ⟨fun hc => ?_, fun hc => ?_⟩⟩⟩
      · rintro v7 rfl
        rw [cmpI_lt]
        exact ⟨fun hc => ⟨by omega, fun _ => ⟨hS.right hlt hc, by dsimp only; omega⟩⟩, fun hc => ⟨hS.left hlt (by omega), by dsimp only; omega⟩⟩
      · have T := srch _ _ (.inl ⟨rfl, rfl, by omega⟩) v5 v6 hS hge
        obtain ⟨e1, e2⟩ := sub v5 T hc
        obtain ⟨e3, e4⟩ := e2 e1
        refine ⟨e1, fun _ => ⟨e3, fun _ => ⟨(e4 e3).1, ?_⟩⟩⟩
        rintro v7 v8 rfl _
        exact one v5 _ T.1
      · exact one v5 _ ((srch _ _ (.inl ⟨rfl, rfl, by omega⟩) v5 v6 hS hge).2 hc)
def Blk (v : Int → Nat → Int) (d lo hi : Int) : Prop := ∀ i j, lo ≤ i → i < j → j < hi → i / d = j / d → Lt v i j
def Sepr (v : Int → Nat → Int) (d lo hi : Int) : Prop := ∀ i j, lo ≤ i → i < hi → lo ≤ j → j < hi → i / d < j / d → v i 2 < v j 2
section
variable {x v w : Int → Nat → Int} {n k a b c d s : Int}
theorem Srt.blk (hd : d = 20 ∨ d = 40 ∨ d = 80 ∨ d = 160 ∨ d = 320) (ha : a % d = 0) (hw : Srt v a c w) (B : Blk v d 0 a) : Blk w d 0 c := by
  intro i j i0 ij j1 he
  by_cases h1 : j < a
  · exact (B i j i0 ij h1 he).of (fun f hf => hw.outs i f hf (by omega)) (fun f hf => hw.outs j f hf (by omega))
  · by_cases h2 : a ≤ i
    · exact hw.srtd i j h2 ij j1
    · exfalso
      rcases hd with rfl | rfl | rfl | rfl | rfl <;> omega
theorem Srt.sep (hd : d = 20 ∨ d = 40 ∨ d = 80 ∨ d = 160 ∨ d = 320) (ha : a % d = 0) (a0 : 0 ≤ a) (hc : c ≤ a + d) (ck : c ≤ k) (hw : Srt v a c w) (B : Sepr v d 0 k) : Sepr w d 0 k := by
  have key : ∀ i, 0 ≤ i → i < k → ∃ i', 0 ≤ i' ∧ i' < k ∧ i' / d = i / d ∧ ∀ f, f < 3 → w i f = v i' f := by
    intro i i0 i1
    by_cases h : a ≤ i ∧ i < c
    · obtain ⟨u, _, p⟩ := hw.prm
      obtain ⟨a1, a2, _, _, _, _, a7⟩ := p i h.1 h.2
      refine ⟨u i, by omega, by omega, ?_, a7⟩
      rcases hd with rfl | rfl | rfl | rfl | rfl <;> omega
    · exact ⟨i, i0, i1, rfl, fun f hf => hw.outs i f hf h⟩
  intro i j i0 i1 j0 j1 hlt
  obtain ⟨i', p0, p1, p2, p3⟩ := key i i0 i1
  obtain ⟨j', q0, q1, q2, q3⟩ := key j j0 j1
  rw [p3 2 (by decide), q3 2 (by decide)]
  exact B i' j' p0 p1 q0 q1 (by omega)
structure Fst (x : Int → Nat → Int) (k : Int) (v : Int → Nat → Int) (a b : Int) : Prop where
  hb : b = a + 20
  am : a % 20 = 0
  a0 : 0 ≤ a
  ak : a ≤ k
  prm : Prm x v 0 k
  outs : Outs x v 0 k
  row : ∀ i, a ≤ i → ∀ f, f < 3 → v i f = x i f
  blk : Blk v 20 0 a
  sep : Sepr v 20 0 k
theorem Fst.ins (h : Fst x k v a b) (S : Stb x n k) (hc : c ≤ k) (ac : a ≤ c) : Ins v n a c := by
  refine ⟨h.a0, ac, by have := S.kn; omega, S.n6, fun i j i0 ij j1 => ?_⟩
  have := h.a0
  rw [h.row i i0 2 (by decide), h.row j (by omega) 2 (by decide)]
  exact S.sq i j (by omega) ij (by omega)
theorem Fst.next (h : Fst x k v a b) (hb : b ≤ k) (hw : Srt v a b w) : Fst x k w b (b + 20) := by
  have e := h.hb
  have a0 := h.a0
  have am := h.am
  refine ⟨rfl, by omega, by omega, hb, h.prm.trans (hw.prm.wide hw.outs a0 hb), h.outs.trans (hw.outs.wide a0 hb), fun i hi f hf => ?_, hw.blk (.inl rfl) am h.blk, hw.sep (.inl rfl) am a0 (by omega) hb h.sep⟩
  rw [hw.outs i f hf (by omega), h.row i (by omega) f hf]
structure Snd (x : Int → Nat → Int) (k : Int) (v : Int → Nat → Int) (s : Int) : Prop where
  hs : s = 20 ∨ s = 40 ∨ s = 80 ∨ s = 160 ∨ s = 320
  prm : Prm x v 0 k
  outs : Outs x v 0 k
  blk : Blk v s 0 k
  sep : Sepr v s 0 k
theorem Fst.last (h : Fst x k v a b) (hk : k < b) (hw : Srt v a k w) : Snd x k w 20 := by
  have e := h.hb
  have a0 := h.a0
  exact ⟨.inl rfl, h.prm.trans (hw.prm.wide hw.outs a0 (Int.le_refl _)), h.outs.trans (hw.outs.wide a0 (Int.le_refl _)), hw.blk (.inl rfl) h.am h.blk, hw.sep (.inl rfl) h.am a0 (by omega) (Int.le_refl _) h.sep⟩
theorem Snd.end (h : Snd x k v s) (hk : k ≤ s) : Srt x 0 k v := by
  refine ⟨h.prm, h.outs, fun i j i0 ij j1 => h.blk i j i0 ij j1 ?_⟩
  rcases h.hs with rfl | rfl | rfl | rfl | rfl <;> omega
structure Mid (x : Int → Nat → Int) (k s : Int) (v : Int → Nat → Int) (a b : Int) : Prop where
  hb : b = a + 2 * s
  am : a % (2 * s) = 0
  a0 : 0 ≤ a
  ak : a ≤ k
  prm : Prm x v 0 k
  outs : Outs x v 0 k
  big : Blk v (2 * s) 0 a
  sml : Blk v s a k
  seps : Sepr v s a k
  sepb : Sepr v (2 * s) 0 k
theorem Snd.start (h : Snd x k v s) (hs : s = 20 ∨ s = 40 ∨ s = 80 ∨ s = 160) (k0 : 0 ≤ k) : Mid x k s v 0 (2 * s) :=
  ⟨by omega, by rcases hs with rfl | rfl | rfl | rfl <;> rfl, Int.le_refl _, k0, h.prm, h.outs, fun i j _ _ _ => by omega, h.blk, h.sep, fun i j i0 i1 j0 j1 hl => h.sep i j i0 i1 j0 j1 (by rcases hs with rfl | rfl | rfl | rfl <;> omega)⟩
theorem Mid.mrg (h : Mid x k s v a b) (hs : s = 20 ∨ s = 40 ∨ s = 80 ∨ s = 160) (kn : k ≤ n) (n6 : n ≤ 256) (hc : c ≤ k) (h1 : a + s < c) (h2 : c ≤ b) : Mrg v n a (a + s) c := by
  have e := h.hb
  have am := h.am
  have a0 := h.a0
  refine ⟨a0, by omega, h1, by omega, n6, fun i j i0 ij j1 => h.sml i j i0 ij (by omega) ?_, fun i j i0 ij j1 => h.sml i j (by omega) ij (by omega) ?_, fun i j i0 i1 j0 j1 => h.seps i j i0 (by omega) (by omega) (by omega) ?_⟩
  · rcases hs with rfl | rfl | rfl | rfl <;> omega
  · rcases hs with rfl | rfl | rfl | rfl <;> omega
  · rcases hs with rfl | rfl | rfl | rfl <;> omega
theorem two_of (hs : s = 20 ∨ s = 40 ∨ s = 80 ∨ s = 160) : 2 * s = 20 ∨ 2 * s = 40 ∨ 2 * s = 80 ∨ 2 * s = 160 ∨ 2 * s = 320 := by omega
theorem Mid.next (h : Mid x k s v a b) (hs : s = 20 ∨ s = 40 ∨ s = 80 ∨ s = 160) (hb : b ≤ k) (hw : Srt v a b w) : Mid x k s w b (b + 2 * s) := by
  have e := h.hb
  have a0 := h.a0
  have am := h.am
  have row : ∀ i, b ≤ i → ∀ f, f < 3 → w i f = v i f := fun i hi f hf => hw.outs i f hf (by omega)
  refine ⟨rfl, by rcases hs with rfl | rfl | rfl | rfl <;> omega, by omega, hb, h.prm.trans (hw.prm.wide hw.outs a0 hb), h.outs.trans (hw.outs.wide a0 hb), hw.blk (two_of hs) am h.big, fun i j i0 ij j1 he => ?_, fun i j i0 i1 j0 j1 hl => ?_, hw.sep (two_of hs) am a0 (by omega) hb h.sepb⟩
  · exact (h.sml i j (by omega) ij j1 he).of (row i i0) (row j (by omega))
  · rw [row i i0 2 (by decide), row j j0 2 (by decide)]
    exact h.seps i j (by omega) i1 (by omega) j1 hl
theorem Mid.last (h : Mid x k s v a b) (hs : s = 20 ∨ s = 40 ∨ s = 80 ∨ s = 160) (hk : k ≤ b) (hw : Srt v a k w) : Snd x k w (s * 2) := by
  have e := h.hb
  rw [show s * 2 = 2 * s by omega]
  exact ⟨two_of hs, h.prm.trans (hw.prm.wide hw.outs h.a0 (Int.le_refl _)), h.outs.trans (hw.outs.wide h.a0 (Int.le_refl _)), hw.blk (two_of hs) h.am h.big, hw.sep (two_of hs) h.am h.a0 (by omega) (Int.le_refl _) h.sepb⟩
theorem Mid.self (h : Mid x k s v a b) (hs : s = 20 ∨ s = 40 ∨ s = 80 ∨ s = 160) (hk : k ≤ a + s) : Srt v a k v := by
  have am := h.am
  have a0 := h.a0
  refine Srt.self fun i j i0 ij j1 => h.sml i j i0 ij j1 ?_
  rcases hs with rfl | rfl | rfl | rfl <;> omega
end
theorem vc47 : VC47 := by
  unfold VC47
  rintro v0 v1 v2 hS h1
  have k0 := hS.k0
  have kn := hS.kn
  have n6 := hS.n6
  refine ⟨fun v a b => Fst v0 v2 v a b, fun v a b => (v2 - a).toNat, ⟨rfl, rfl, Int.le_refl _, k0, Prm.refl _ _ _, fun _ _ _ _ => rfl, fun _ _ _ _ => rfl, fun i j _ _ _ => by omega, fun i j i0 i1 j0 j1 hl => hS.sq i j i0 (by omega) j1⟩, ?_⟩
  rintro v3 v4 v5 hF _
  have e := hF.hb
  have a0 := hF.a0
  have ak := hF.ak
  refine ⟨fun hle => ⟨h1, fun _ => ⟨Int.le_refl _, fun _ => ⟨hF.ins hS hle (by omega), ?_⟩⟩⟩, fun hgt => ⟨h1, fun _ => ⟨Int.le_refl _, fun _ => ⟨hF.ins hS (Int.le_refl _) ak, ?_⟩⟩⟩⟩
  · rintro v6 v7 rfl _
    exact ⟨by omega, fun _ => ⟨hF.next hle (srtA_spec (hF.ins hS hle (by omega)).tot), by dsimp only; omega⟩⟩
  · rintro v6 v7 rfl _
    refine ⟨fun v s => Snd v0 v2 v s, fun v s => (v2 - s).toNat, hF.last (by omega) (srtA_spec (hF.ins hS (Int.le_refl _) ak).tot), ?_⟩
    rintro v8 v9 hN
    refine ⟨fun hlt => ?_, fun hge => ⟨rfl, fun _ => ⟨rfl, fun i f _ _ hf => (hN.end (by omega)).eq i f hf, trivial⟩⟩⟩
    have hs : v9 = 20 ∨ v9 = 40 ∨ v9 = 80 ∨ v9 = 160 := by have := hN.hs; omega
    refine ⟨by omega, fun _ => ⟨fun v a b => Mid v0 v2 v9 v a b, fun v a b => (v2 - a).toNat, hN.start hs k0, ?_⟩⟩
    rintro v10 v11 v12 hM
    have e2 := hM.hb
    have a02 := hM.a0
    have ak2 := hM.ak
    refine ⟨fun hle => ⟨by omega, fun _ => ⟨h1, fun _ => ⟨Int.le_refl _, fun _ => ⟨hM.mrg hs kn n6 hle (by omega) (Int.le_refl _), ?_⟩⟩⟩⟩, fun hgt2 => ⟨by omega, fun _ => ⟨fun hc => ⟨h1, fun _ => ⟨Int.le_refl _, fun _ => ⟨hM.mrg hs kn n6 (Int.le_refl _) hc (by omega), ?_⟩⟩⟩, fun hc => ⟨by omega, fun _ => ⟨hM.last hs (by omega) (hM.self hs (by omega)), by dsimp only; omega⟩⟩⟩⟩⟩
    · rintro v13 v14 rfl _
      exact ⟨by omega, fun _ => ⟨hM.next hs hle (srtA_spec (hM.mrg hs kn n6 hle (by omega) (Int.le_refl _)).tot), by dsimp only; omega⟩⟩
    · rintro v13 v14 rfl _
      exact ⟨by omega, fun _ => ⟨hM.last hs (by omega) (srtA_spec (hM.mrg hs kn n6 (Int.le_refl _) hc (by omega)).tot), by dsimp only; omega⟩⟩
end Go.Proofs.Ytpbpmabnmakdoaa
