/- Playing a sequence: what is left to show. -/
import Derived.Test.YtiiabaklipmbbaaDoorC10
namespace Go.Proofs.YtiiabaklipmbbaaDoor
open Go Go.RowKit Go.Proofs.YtiiabaklipmbbaaDoor.Vc
theorem inN_iff {a : Int → Nat → Int} {x : Int} : ∀ k : Nat, inN a x k = true ↔ ∃ j, 0 ≤ j ∧ j < (k : Int) ∧ a j 0 = x
  | 0 => ⟨fun h => absurd h Bool.false_ne_true, fun ⟨j, j0, j1, _⟩ => by omega⟩
  | k + 1 => by
    show (inN a x k || decide (a k 0 = x)) = true ↔ _
    rw [Bool.or_eq_true, inN_iff k, decide_eq_true_eq]
    constructor
    · rintro (⟨j, j0, j1, h⟩ | h)
      · exact ⟨j, j0, by omega, h⟩
      · exact ⟨k, by omega, by omega, h⟩
    · rintro ⟨j, j0, j1, h⟩
      by_cases hj : j = k
      · subst hj; exact .inr h
      · exact .inl ⟨j, j0, by omega, h⟩
theorem inA_iff {a : Int → Nat → Int} {n x : Int} : inA a n x = true ↔ ∃ j, 0 ≤ j ∧ j < n ∧ a j 0 = x := by
  unfold inA
  rw [inN_iff]
  constructor
  · rintro ⟨j, j0, j1, h⟩; exact ⟨j, j0, by omega, h⟩
  · rintro ⟨j, j0, j1, h⟩; exact ⟨j, j0, by omega, h⟩
theorem vc17 : VC17 := by
  rintro a n i ⟨i0, i1⟩ n0
  refine ⟨i0, fun _ => ⟨i1, fun _ => fun n1 => ⟨fun h => ⟨?_, trivial⟩, fun h => ⟨fun h4 => ⟨by omega, fun _ => ⟨by omega, fun _ => ⟨by omega, fun _ => ⟨?_, trivial⟩⟩⟩⟩, fun h4 => ⟨?_, trivial⟩⟩⟩⟩⟩
  · unfold goB; simp [h]
  · unfold goB; simp [h4]
  · unfold goB; simp [h, h4]
theorem ap_lo {a b : Int → Nat → Int} {n j : Int} (h : j < n) : appA a n b j = a j := by
  funext g
  show (if j < n then a j g else b (j - n) g) = a j g
  rw [if_pos h]
theorem ap_hi {a b : Int → Nat → Int} {n j : Int} (h : ¬ j < n) : appA a n b j = b (j - n) := by
  funext g
  show (if j < n then a j g else b (j - n) g) = b (j - n) g
  rw [if_neg h]
theorem one_at (x : Int) : one1 x 0 0 = x := by unfold one1; simp [setA]
/-- strictly in order -/
def Up (g : Int → Nat → Int) (n : Int) : Prop := ∀ j j', 0 ≤ j → j < j' → j' < n → g j 0 < g j' 0
theorem Up.sr {g : Int → Nat → Int} {n : Int} (h : Up g n) : srP g n := ⟨fun i j i0 ij j1 => by
  by_cases hij : i = j
  · subst hij; exact Int.le_refl _
  · exact Int.le_of_lt (h i j i0 (by omega) j1)⟩
theorem Up.push {g : Int → Nat → Int} {n x : Int} (h : Up g n) (hx : ∀ j, 0 ≤ j → j < n → g j 0 < x) : Up (appA g n (one1 x)) (n + 1) := fun j j' j0 hj j1 => by
  rw [ap_lo (show j < n by omega)]
  by_cases hj' : j' < n
  · rw [ap_lo hj']; exact h j j' j0 hj hj'
  · rw [ap_hi hj', show j' - n = 0 by omega, one_at]
    exact hx j j0 (by omega)
/-- what is received and known while part i is reached -/
structure PI (a : Int → Nat → Int) (n i : Int) (p : PS) : Prop where
  g0 : 0 ≤ p.gn
  g1 : p.gn ≤ i
  gf : ∀ j, 0 ≤ j → j < p.gn → ∃ r, 0 ≤ r ∧ r < i ∧ a r 0 = 4 ∧ p.g j 0 = a r 2
  gs : Up p.g p.gn
  k0 : 0 ≤ p.kn
  k1 : p.kn ≤ i
  ks : Up p.k p.kn
  kf : i < n → ∀ j, 0 ≤ j → j < p.kn → ∃ r, 0 ≤ r ∧ r < i ∧ a r 0 = 5 ∧ p.k j 0 = a r 2
section
variable {a : Int → Nat → Int} {n i : Int} {b : Int → Nat → Int} {m : Int} {p : PS}
theorem PI.on (h : PI a n i p) (i1 : i < n) {q : PS} (eg : q.g = p.g) (en : q.gn = p.gn) (ek : q.k = p.k) (em : q.kn = p.kn) : PI a n (i + 1) q := by
  obtain ⟨g0, g1, gf, gs, k0, k1, ks, kf⟩ := h
  refine ⟨by rw [en]; exact g0, by rw [en]; omega, fun j j0 j1 => ?_, by rw [eg, en]; exact gs, by rw [em]; exact k0, by rw [em]; omega, by rw [ek, em]; exact ks, fun _ j j0 j1 => ?_⟩
  · rw [en] at j1
    obtain ⟨r, r0, r1, hr⟩ := gf j j0 j1
    rw [eg]; exact ⟨r, r0, by omega, hr⟩
  · rw [em] at j1
    obtain ⟨r, r0, r1, hr⟩ := kf i1 j j0 j1
    rw [ek]; exact ⟨r, r0, by omega, hr⟩
theorem pi_step (hP : pyP a n) (i0 : 0 ≤ i) (i1 : i < n) (h : PI a n i p) : PI a n (i + 1) (pyT a n b m p i) := by
  unfold pyT
  split
  · exact h.on i1 rfl rfl rfl rfl
  split
  · split <;> exact h.on i1 rfl rfl rfl rfl
  have hh := h
  obtain ⟨g0, g1, gf, gs, k0, k1, ks, kf⟩ := h
  have kf := kf i1
  split
  · rename_i h4
    refine ⟨by show 0 ≤ p.gn + 1; omega, by show p.gn + 1 ≤ i + 1; omega, fun j j0 j1 => ?_, gs.push fun j j0 j1 => ?_, k0, by show p.kn ≤ i + 1; omega, ks, fun _ j j0 j1 => ?_⟩
    · show ∃ r, 0 ≤ r ∧ r < i + 1 ∧ a r 0 = 4 ∧ appA p.g p.gn (one1 (a i 2)) j 0 = a r 2
      have j1 : j < p.gn + 1 := j1
      by_cases hj : j < p.gn
      · obtain ⟨r, r0, r1, hr⟩ := gf j j0 hj
        rw [ap_lo hj]; exact ⟨r, r0, by omega, hr⟩
      · rw [ap_hi hj, show j - p.gn = 0 by omega, one_at]
        exact ⟨i, i0, by omega, h4, rfl⟩
    · obtain ⟨r, r0, r1, hr, he⟩ := gf j j0 j1
      rw [he]; exact hP.dt r i r0 r1 i1 hr h4
    · obtain ⟨r, r0, r1, hr⟩ := kf j j0 j1
      exact ⟨r, r0, by omega, hr⟩
  split
  · rename_i h5
    refine ⟨g0, by show p.gn ≤ i + 1; omega, fun j j0 j1 => ?_, gs, by show 0 ≤ p.kn + 1; omega, by show p.kn + 1 ≤ i + 1; omega, ks.push fun j j0 j1 => ?_, fun _ j j0 j1 => ?_⟩
    · obtain ⟨r, r0, r1, hr⟩ := gf j j0 j1
      exact ⟨r, r0, by omega, hr⟩
    · obtain ⟨r, r0, r1, hr, he⟩ := kf j j0 j1
      rw [he]; exact hP.ak r i r0 r1 i1 hr h5
    · show ∃ r, 0 ≤ r ∧ r < i + 1 ∧ a r 0 = 5 ∧ appA p.k p.kn (one1 (a i 2)) j 0 = a r 2
      have j1 : j < p.kn + 1 := j1
      by_cases hj : j < p.kn
      · obtain ⟨r, r0, r1, hr⟩ := kf j j0 hj
        rw [ap_lo hj]; exact ⟨r, r0, by omega, hr⟩
      · rw [ap_hi hj, show j - p.kn = 0 by omega, one_at]
        exact ⟨i, i0, by omega, h5, rfl⟩
  split
  · rename_i h7
    obtain ⟨hi, no5⟩ := hP.bk i i0 i1 h7
    have hk : p.kn = 0 := Classical.byContradiction fun hh => by
      obtain ⟨r, r0, r1, hr, _⟩ := kf 0 (Int.le_refl _) (by omega)
      exact no5 r r0 (by omega) hr
    have ek : appA p.k p.kn p.g = p.g ∨ True := .inr trivial
    have e2 : ∀ j, 0 ≤ j → appA p.k p.kn p.g j = p.g j := fun j j0 => by rw [hk, ap_hi (by omega), Int.sub_zero]
    refine ⟨g0, by show p.gn ≤ i + 1; omega, fun j j0 j1 => ?_, gs, by show 0 ≤ p.kn + p.gn; omega, by show p.kn + p.gn ≤ i + 1; omega, fun j j' j0 jj j1 => ?_, fun h _ _ _ => by omega⟩
    · obtain ⟨r, r0, r1, hr⟩ := gf j j0 j1
      exact ⟨r, r0, by omega, hr⟩
    · show appA p.k p.kn p.g j 0 < appA p.k p.kn p.g j' 0
      have j1 : j' < p.kn + p.gn := j1
      rw [e2 j j0, e2 j' (by omega)]
      exact gs j j' j0 jj (by omega)
  · exact hh.on i1 rfl rfl rfl rfl
theorem pi_all (hP : pyP a n) : ∀ k : Nat, (k : Int) ≤ n → PI a n k (pyF a n b m k)
  | 0, _ => ⟨Int.le_refl _, Int.le_refl _, fun j j0 j1 => absurd j1 (by show ¬ j < 0; omega), fun j j' j0 jj j1 => absurd j1 (by show ¬ j' < 0; omega), Int.le_refl _, Int.le_refl _, fun j j' j0 jj j1 => absurd j1 (by show ¬ j' < 0; omega), fun _ j j0 j1 => absurd j1 (by show ¬ j < 0; omega)⟩
  | k + 1, hk => by
    have := pi_step (b := b) (m := m) hP (i := (k : Int)) (by omega) (by omega) (pi_all hP k (by omega))
    exact this
theorem pyF_succ (h : 0 ≤ i) : pyF a n b m (i + 1).toNat = pyT a n b m (pyF a n b m i.toNat) i := by
  obtain ⟨k, rfl⟩ := Int.eq_ofNat_of_zero_le h
  rw [show ((k : Int) + 1).toNat = k + 1 by omega, show ((k : Int)).toNat = k by omega]; rfl
theorem py_stay {k : Nat} (h : (pyF a n b m k).st = true) : ∀ d : Nat, pyF a n b m (k + d) = pyF a n b m k
  | 0 => rfl
  | d + 1 => by
    have ih := py_stay h d
    show pyT a n b m (pyF a n b m (k + d)) _ = _
    rw [ih]
    unfold pyT
    rw [if_pos h]
/-- the results -/
def FIN (a : Int → Nat → Int) (n : Int) (b : Int → Nat → Int) (m s gn : Int) (g : Int → Nat → Int) (kn : Int) (k : Int → Nat → Int) : Prop :=
  s = pyS a n b m ∧ gn = pyN a n b m ∧ (∀ (i : Int) (f : Nat), 0 ≤ i → i < pyN a n b m → f < 1 → g i f = pyG a n b m i f) ∧ kn = pyM a n b m ∧ (∀ (i : Int) (f : Nat), 0 ≤ i → i < pyM a n b m → f < 1 → k i f = pyK a n b m i f) ∧ True
theorem fin_of {st : Bool} {s gn kn : Int} {g k : Int → Nat → Int} (h : pyF a n b m n.toNat = ⟨st, s, g, gn, k, kn⟩) : FIN a n b m s gn g kn k := by
  unfold FIN pyS pyN pyG pyM pyK
  rw [h]
  exact ⟨rfl, rfl, fun _ _ _ _ _ => rfl, rfl, fun _ _ _ _ _ => rfl, trivial⟩
/-- looking for repetitions -/
def LP (k : Int → Nat → Int) (kn : Int) (F : Prop) : Prop :=
  ∃ (I1 : (Int) → Prop) (μ1 : (Int) → Nat), I1 (1 : Int) ∧ (∀ (v11 : Int), I1 v11 →
    (v11 < kn →
      0 ≤ v11 ∧ (0 ≤ v11 →
      (-9223372036854775808 ≤ (v11 - 1) ∧ (v11 - 1) ≤ 9223372036854775807) ∧ ((-9223372036854775808 ≤ (v11 - 1) ∧ (v11 - 1) ≤ 9223372036854775807) →
      0 ≤ (v11 - 1) ∧ (0 ≤ (v11 - 1) →
      (v11 - 1) < kn ∧ ((v11 - 1) < kn →
      ((k v11 0) = (k (v11 - 1) 0) →
        v11 ≤ kn ∧ (v11 ≤ kn →
        kn ≤ kn ∧ (kn ≤ kn →
        False))) ∧
      (¬ ((k v11 0) = (k (v11 - 1) 0)) →
        (-9223372036854775808 ≤ (v11 + 1) ∧ (v11 + 1) ≤ 9223372036854775807) ∧ ((-9223372036854775808 ≤ (v11 + 1) ∧ (v11 + 1) ≤ 9223372036854775807) →
        I1 (v11 + 1) ∧ μ1 (v11 + 1) < μ1 v11))))))) ∧
    (¬ (v11 < kn) → F))
theorem lp_of {k : Int → Nat → Int} {kn : Int} {F : Prop} (h : Up k kn) (h1 : kn < 50) (hF : F) : LP k kn F := by
  refine ⟨fun i => 1 ≤ i, fun i => (kn - i).toNat, Int.le_refl _, ?_⟩
  intro i hi
  refine ⟨fun hk => ⟨by omega, fun _ => ⟨by omega, fun _ => ⟨by omega, fun _ => ⟨by omega, fun _ => ⟨fun he => ?_, fun _ => ⟨by omega, fun _ => ⟨by omega, by dsimp only; omega⟩⟩⟩⟩⟩⟩⟩, fun _ => hF⟩
  have := h (i - 1) i (by omega) (by omega) hk
  omega
/-- the end of playing -/
theorem end_of {g k : Int → Nat → Int} {gn kn : Int} {F : Prop} (hg : Up g gn) (hk : Up k kn) (h1 : gn < 50) (h2 : kn < 50) (hF : F) :
    (srP g gn ∧ gn < 50) ∧ ((gn < 2 → (srP k kn ∧ kn < 50) ∧ ((kn < 2 → F) ∧ (¬ (kn < 2) → LP k kn F))) ∧ (¬ (gn < 2) → LP g gn ((srP k kn ∧ kn < 50) ∧ ((kn < 2 → F) ∧ (¬ (kn < 2) → LP k kn F))))) :=
  ⟨⟨hg.sr, h1⟩, fun _ => ⟨⟨hk.sr, h2⟩, fun _ => hF, fun _ => lp_of hk h2 hF⟩, fun _ => lp_of hg h1 ⟨⟨hk.sr, h2⟩, fun _ => hF, fun _ => lp_of hk h2 hF⟩⟩
end
theorem vc8 : VC8 := by
  intro a n b m hP n0 m0
  have hlen := hP.len
  refine ⟨fun i s g gn k kn => 0 ≤ i ∧ i ≤ n ∧ pyF a n b m i.toNat = ⟨false, s, g, gn, k, kn⟩, fun i _ _ _ _ _ => (n - i).toNat, ⟨Int.le_refl _, n0, rfl⟩, ?_⟩
  rintro i s g gn k kn ⟨i0, i1, hi⟩ gn0 gn1 kn0 kn1 n1 m1
  have pI : PI a n i ⟨false, s, g, gn, k, kn⟩ := by
    have := pi_all (b := b) (m := m) hP i.toNat (by omega)
    rw [hi, show ((i.toNat : Nat) : Int) = i by omega] at this
    exact this
  have hg : Up g gn := pI.gs
  have hk : Up k kn := pI.ks
  have g1 : gn ≤ i := pI.g1
  have k1 : kn ≤ i := pI.k1
  have nx := pyF_succ (a := a) (n := n) (b := b) (m := m) i0
  rw [hi] at nx
  unfold pyT at nx
  rw [if_neg Bool.false_ne_true] at nx
  refine ⟨fun h1 => ?_, fun h1 => ?_⟩
  · refine ⟨i0, fun _ => ⟨by omega, fun _ => ⟨fun h2 => ⟨⟨i0, h1⟩, fun v hv => ⟨fun h3 => ?_, fun h3 => ?_⟩⟩, fun h2 => ⟨fun h4 => ?_, fun h4 => ⟨fun h5 => ?_, fun h5 => ⟨fun h7 => ?_, fun h7 => ?_⟩⟩⟩⟩⟩⟩
    · rw [if_pos (show gone b m i from h2), if_neg (by rw [← hv]; exact h3)] at nx
      have hs : pyF a n b m n.toNat = ⟨true, i + 1, g, gn, k, kn⟩ := by
        have := py_stay (a := a) (n := n) (b := b) (m := m) (k := (i + 1).toNat) (by rw [nx]) (n.toNat - (i + 1).toNat)
        rw [show (i + 1).toNat + (n.toNat - (i + 1).toNat) = n.toNat by omega, nx] at this
        exact this
      exact end_of hg hk (by omega) (by omega) (fin_of hs)
    · rw [if_pos (show gone b m i from h2), if_pos (Classical.byContradiction fun hh => h3 (by rw [hv]; exact hh))] at nx
      exact ⟨⟨by omega, by omega, nx⟩, by dsimp only; omega⟩
    · rw [if_neg (show ¬ gone b m i from h2), if_pos h4] at nx
      exact ⟨by omega, fun _ => ⟨by omega, fun _ => ⟨⟨by omega, by omega, nx⟩, by dsimp only; omega⟩⟩⟩
    · rw [if_neg (show ¬ gone b m i from h2), if_neg h4, if_pos h5] at nx
      exact ⟨by omega, fun _ => ⟨by omega, fun _ => ⟨⟨by omega, by omega, nx⟩, by dsimp only; omega⟩⟩⟩
    · rw [if_neg (show ¬ gone b m i from h2), if_neg h4, if_neg h5, if_pos h7] at nx
      exact ⟨by omega, fun _ => ⟨by omega, fun _ => ⟨⟨by omega, by omega, nx⟩, by dsimp only; omega⟩⟩⟩
    · rw [if_neg (show ¬ gone b m i from h2), if_neg h4, if_neg h5, if_neg h7] at nx
      exact ⟨⟨by omega, by omega, nx⟩, by dsimp only; omega⟩
  · have e : i = n := by omega
    rw [e] at hi
    exact end_of hg hk (by omega) (by omega) (fin_of hi)
end Go.Proofs.YtiiabaklipmbbaaDoor
