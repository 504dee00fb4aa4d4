/- What is known was received: what is left to show of the law. -/
import Derived.Test.YtiiabaklipmbbaaC11
import Derived.Test.YtiiabaklipmbbaaP11
import Derived.Test.YtiiabaklipmbbaaP9
import Derived.Test.YtiiabaklipmbbaaP4
namespace Go.Proofs.Ytiiabaklipmbbaa
open Go Go.RowKit Go.Proofs.Ytiiabaklipmbbaa.Vc
theorem ek_d {x : Xc} {n k : Int} (h : exK x n k = 4) : exB x ≤ k ∧ k < exB x + n * exQ x ∧ ¬ (x.q = 0 ∧ (k - exB x) % 2 = 1) ∧ exX x n k = exI x k := by
  have hx : exX x n k = exI x k := by unfold exX; rw [if_pos (.inl h)]
  unfold exK at h
  generalize exB x + n * exQ x = e at *
  grind
theorem ek_a {x : Xc} {n k : Int} (h : exK x n k = 5) : exB x ≤ k ∧ k < exB x + n * exQ x ∧ (x.q = 0 ∧ (k - exB x) % 2 = 1) ∧ exX x n k = exI x k := by
  have hx : exX x n k = exI x k := by unfold exX; rw [if_pos (.inr h)]
  unfold exK at h
  generalize exB x + n * exQ x = e at *
  grind
theorem ek_b {x : Xc} {n k : Int} (h : exK x n k = 7) : exB x + n * exQ x < k := by
  unfold exK at h
  generalize exB x + n * exQ x = e at *
  grind
theorem ek_r {x : Xc} {n k : Int} (k0 : 0 ≤ k) (h : exK x n k = 1 ∨ exK x n k = 2) : x.p = 2 ∧ k < 2 ∧ exB x = 2 := by
  have hB : exB x = if x.p = 1 then 1 else if x.p = 2 then 2 else 0 := rfl
  unfold exK at h
  generalize exB x + n * exQ x = e at *
  generalize exB x = bb at *
  grind
theorem ex_pyP {x : Xc} (hx : exOk x) {n : Int} (n1 : 1 ≤ n) (n2 : n ≤ x.m) : pyP (exRow x n) (exL x n) := by
  have hl := exL_bd x hx n n1 n2
  have r0 : ∀ i, exRow x n i 0 = exK x n i := fun i => rfl
  have r2 : ∀ i, exRow x n i 2 = exX x n i := fun i => rfl
  refine ⟨hl.2, fun i j i0 ij j1 hi hj => ?_, fun i j i0 ij j1 hi hj => ?_, fun i i0 i1 hi => ⟨?_, fun j j0 j1 hj => ?_⟩⟩
  · rw [r0] at hi hj
    rw [r2, r2]
    obtain ⟨a1, a2, a3, a4⟩ := ek_d hi
    obtain ⟨b1, b2, b3, b4⟩ := ek_d hj
    rw [a4, b4]
    unfold exI
    split
    · rename_i hq
      have a5 : ¬ (i - exB x) % 2 = 1 := fun h => a3 ⟨hq, h⟩
      have b5 : ¬ (j - exB x) % 2 = 1 := fun h => b3 ⟨hq, h⟩
      omega
    · omega
  · rw [r0] at hi hj
    rw [r2, r2]
    obtain ⟨a1, a2, ⟨a3, a5⟩, a4⟩ := ek_a hi
    obtain ⟨b1, b2, ⟨b3, b5⟩, b4⟩ := ek_a hj
    rw [a4, b4]
    unfold exI
    rw [if_pos a3, if_pos a3]
    omega
  · rw [r0] at hi
    have h1 := ek_b hi
    have hL : exL x n = exB x + n * exQ x + exT x := rfl
    have hT : exT x ≤ 2 := by unfold exT; split <;> omega
    omega
  · rw [r0] at hi hj
    have h1 := ek_b hi
    obtain ⟨a1, a2, ⟨a3, a5⟩, a4⟩ := ek_a hj
    have hL : exL x n = exB x + n * exQ x + exT x := rfl
    have hT : exT x = 0 := by unfold exT; rw [if_neg (by omega)]
    omega
/-- an acknowledgement stands behind its data frame -/
theorem ek_pre {x : Xc} {n k : Int} (h : exK x n k = 5) : 1 ≤ k ∧ exK x n (k - 1) = 4 ∧ exX x n (k - 1) = exX x n k := by
  obtain ⟨a1, a2, ⟨a3, a5⟩, a4⟩ := ek_a h
  have hB := exB_bd x
  have hk : exK x n (k - 1) = 4 := by
    unfold exK
    generalize exB x + n * exQ x = e at *
    generalize exB x = bb at *
    rw [if_neg (by omega), if_pos (by omega), if_neg (by omega)]
  refine ⟨by omega, hk, ?_⟩
  rw [a4, (ek_d hk).2.2.2]
  unfold exI
  rw [if_pos a3, if_pos a3]
  omega
theorem pk_of {x : Xc} (h : plE x = 0) : exOk x ∧ 1 ≤ plN x ∧ plN x ≤ x.m := by
  have hV : exV x = true := by
    by_cases hv : exV x = true
    · exact hv
    · unfold plE at h; rw [if_neg hv] at h; omega
  obtain ⟨hx, hm1⟩ := exV_ok hV
  have hm16 := hx.1.2
  obtain ⟨s1, s2, s3, s4⟩ := plF_spec x 16 1 hm1 (by omega)
  have hP : plF x 1 16 = plN x := rfl
  rw [hP] at s1 s2
  exact ⟨hx, s1, s2⟩
/-- what is sent and received while part i is reached -/
structure PJ (a : Int → Nat → Int) (n : Int) (b : Int → Nat → Int) (m i : Int) (p : PS) : Prop where
  s0 : 0 ≤ p.s
  s1 : p.s ≤ i
  sp : p.st = true → 1 ≤ p.s
  go : p.st = false → p.s = i
  gt : p.st = false → ∀ r, 0 ≤ r → r < i → gone b m r → goB a n r = true
  pv : ∀ r, 0 ≤ r → r + 1 < p.s → gone b m r → goB a n r = true
  gi : ∀ v, (∃ j, 0 ≤ j ∧ j < p.gn ∧ p.g j 0 = v) ↔ ∃ r, 0 ≤ r ∧ r < p.s ∧ a r 0 = 4 ∧ ¬ gone b m r ∧ a r 2 = v
  g0 : 0 ≤ p.gn
  k0 : 0 ≤ p.kn
  ki : ∀ j, 0 ≤ j → j < p.kn → (∃ r, 0 ≤ r ∧ r < p.s ∧ a r 0 = 5 ∧ a r 2 = p.k j 0) ∨ (∃ j', 0 ≤ j' ∧ j' < p.gn ∧ p.g j' 0 = p.k j 0)
section
variable {a : Int → Nat → Int} {n i : Int} {b : Int → Nat → Int} {m : Int} {p : PS}
theorem PJ.pass (h : PJ a n b m i p) (i0 : 0 ≤ i) (hs : p.st = false) {q : PS} (qs : q.s = i + 1) (qt : q.st = false → gone b m i → goB a n i = true) (h4 : gone b m i ∨ ¬ a i 0 = 4) (eg : q.g = p.g) (en : q.gn = p.gn) (ek : q.k = p.k) (em : q.kn = p.kn) : PJ a n b m (i + 1) q := by
  have hg := h.go hs
  refine ⟨by omega, by omega, fun _ => by omega, fun _ => qs, fun ht r r0 r1 hr => ?_, fun r r0 r1 hr => ?_, fun v => ?_, by rw [en]; exact h.g0, by rw [em]; exact h.k0, fun j j0 j1 => ?_⟩
  · by_cases hri : r = i
    · subst hri; exact qt ht hr
    · exact h.gt hs r r0 (by omega) hr
  · exact h.gt hs r r0 (by omega) hr
  · rw [eg, en, h.gi v]
    constructor
    · rintro ⟨r, r0, r1, hr⟩; exact ⟨r, r0, by omega, hr⟩
    · rintro ⟨r, r0, r1, hr⟩
      by_cases hri : r = i
      · subst hri
        rcases h4 with h4 | h4
        · exact absurd h4 hr.2.1
        · exact absurd hr.1 h4
      · exact ⟨r, r0, by omega, hr⟩
  · rw [em] at j1
    rw [ek, eg, en]
    rcases h.ki j j0 j1 with ⟨r, r0, r1, hr⟩ | hr
    · exact .inl ⟨r, r0, by omega, hr⟩
    · exact .inr hr
theorem pj_step (i0 : 0 ≤ i) (h : PJ a n b m i p) : PJ a n b m (i + 1) (pyT a n b m p i) := by
  unfold pyT
  by_cases ht : p.st = true
  · rw [if_pos ht]
    have nf : ¬ p.st = false := by rw [ht]; exact Bool.noConfusion
    exact ⟨h.s0, by have := h.s1; omega, h.sp, fun hf => absurd hf nf, fun hf => absurd hf nf, h.pv, h.gi, h.g0, h.k0, h.ki⟩
  rw [if_neg ht]
  have hf : p.st = false := by cases hs : p.st with | false => rfl | true => exact absurd hs ht
  have hg := h.go hf
  split
  · rename_i hgo
    split
    · rename_i hb
      exact h.pass i0 hf rfl (fun _ _ => hb) (.inl hgo) rfl rfl rfl rfl
    · exact h.pass i0 hf rfl (fun hh => Bool.noConfusion hh) (.inl hgo) rfl rfl rfl rfl
  rename_i hgo
  split
  · rename_i h4
    refine ⟨by show 0 ≤ i + 1; omega, Int.le_refl _, fun hh => Bool.noConfusion hh, fun _ => rfl, fun _ r r0 r1 hr => ?_, fun r r0 r1 hr => ?_, fun v => ?_, by have := h.g0; show 0 ≤ p.gn + 1; omega, h.k0, fun j j0 j1 => ?_⟩
    · by_cases hri : r = i
      · subst hri; exact absurd hr hgo
      · exact h.gt hf r r0 (by omega) hr
    · have r1 : r + 1 < i + 1 := r1
      exact h.gt hf r r0 (by omega) hr
    · show (∃ j, 0 ≤ j ∧ j < p.gn + 1 ∧ appA p.g p.gn (one1 (a i 2)) j 0 = v) ↔ ∃ r, 0 ≤ r ∧ r < i + 1 ∧ a r 0 = 4 ∧ ¬ gone b m r ∧ a r 2 = v
      constructor
      · rintro ⟨j, j0, j1, hj⟩
        by_cases hjg : j < p.gn
        · rw [ap_lo hjg] at hj
          obtain ⟨r, r0, r1, hr⟩ := (h.gi v).1 ⟨j, j0, hjg, hj⟩
          exact ⟨r, r0, by omega, hr⟩
        · rw [ap_hi hjg, show j - p.gn = 0 by omega, one_at] at hj
          exact ⟨i, i0, by omega, h4, hgo, hj⟩
      · rintro ⟨r, r0, r1, hr⟩
        by_cases hri : r = i
        · subst hri
          refine ⟨p.gn, h.g0, by omega, ?_⟩
          rw [ap_hi (by omega), show p.gn - p.gn = 0 by omega, one_at]
          exact hr.2.2
        · obtain ⟨j, j0, j1, hj⟩ := (h.gi v).2 ⟨r, r0, by omega, hr⟩
          exact ⟨j, j0, by omega, by rw [ap_lo j1]; exact hj⟩
    · show (∃ r, 0 ≤ r ∧ r < i + 1 ∧ a r 0 = 5 ∧ a r 2 = p.k j 0) ∨ (∃ j', 0 ≤ j' ∧ j' < p.gn + 1 ∧ appA p.g p.gn (one1 (a i 2)) j' 0 = p.k j 0)
      rcases h.ki j j0 j1 with ⟨r, r0, r1, hr⟩ | ⟨j', a0, a1, hr⟩
      · exact .inl ⟨r, r0, by omega, hr⟩
      · exact .inr ⟨j', a0, by omega, by rw [ap_lo a1]; exact hr⟩
  rename_i h4
  split
  · rename_i h5
    have hp := h.pass (q := ⟨false, i + 1, p.g, p.gn, p.k, p.kn⟩) i0 hf rfl (fun _ hh => absurd hh hgo) (.inr h4) rfl rfl rfl rfl
    refine ⟨hp.s0, hp.s1, hp.sp, hp.go, hp.gt, hp.pv, hp.gi, hp.g0, by have := h.k0; show 0 ≤ p.kn + 1; omega, fun j j0 j1 => ?_⟩
    show (∃ r, 0 ≤ r ∧ r < i + 1 ∧ a r 0 = 5 ∧ a r 2 = appA p.k p.kn (one1 (a i 2)) j 0) ∨ (∃ j', 0 ≤ j' ∧ j' < p.gn ∧ p.g j' 0 = appA p.k p.kn (one1 (a i 2)) j 0)
    have j1 : j < p.kn + 1 := j1
    by_cases hj : j < p.kn
    · rw [ap_lo hj]; exact hp.ki j j0 hj
    · rw [ap_hi hj, show j - p.kn = 0 by omega, one_at]
      exact .inl ⟨i, i0, by omega, h5, rfl⟩
  split
  · have hp := h.pass (q := ⟨false, i + 1, p.g, p.gn, p.k, p.kn⟩) i0 hf rfl (fun _ hh => absurd hh hgo) (.inr h4) rfl rfl rfl rfl
    refine ⟨hp.s0, hp.s1, hp.sp, hp.go, hp.gt, hp.pv, hp.gi, hp.g0, by have := h.k0; have := h.g0; show 0 ≤ p.kn + p.gn; omega, fun j j0 j1 => ?_⟩
    show (∃ r, 0 ≤ r ∧ r < i + 1 ∧ a r 0 = 5 ∧ a r 2 = appA p.k p.kn p.g j 0) ∨ (∃ j', 0 ≤ j' ∧ j' < p.gn ∧ p.g j' 0 = appA p.k p.kn p.g j 0)
    have j1 : j < p.kn + p.gn := j1
    by_cases hj : j < p.kn
    · rw [ap_lo hj]; exact hp.ki j j0 hj
    · rw [ap_hi hj]
      exact .inr ⟨j - p.kn, by omega, by omega, rfl⟩
  · exact h.pass i0 hf rfl (fun _ hh => absurd hh hgo) (.inr h4) rfl rfl rfl rfl
theorem pj_all : ∀ k : Nat, PJ a n b m k (pyF a n b m k)
  | 0 => ⟨Int.le_refl _, Int.le_refl _, fun hh => Bool.noConfusion hh, fun _ => rfl, fun _ r r0 r1 => absurd r1 (by omega), fun r r0 r1 => absurd r1 (by show ¬ r + 1 < 0; omega), fun v => ⟨fun ⟨j, j0, j1, _⟩ => absurd j1 (by show ¬ j < 0; omega), fun ⟨r, r0, r1, _⟩ => absurd r1 (by show ¬ r < 0; omega)⟩, Int.le_refl _, Int.le_refl _, fun j j0 j1 => absurd j1 (by show ¬ j < 0; omega)⟩
  | k + 1 => pj_step (by omega) (pj_all k)
/-- nothing is lost -/
structure PN (a : Int → Nat → Int) (n i : Int) (p : PS) : Prop where
  st : p.st = false
  s : p.s = i
  g : p.gn = ctA a i 4
  k1 : (∃ r, 0 ≤ r ∧ r < i ∧ a r 0 = 7) → p.kn = ctA a i 5 + p.gn
  k2 : (¬ ∃ r, 0 ≤ r ∧ r < i ∧ a r 0 = 7) → p.kn = ctA a i 5
theorem pn_step (hP : pyP a n) (i0 : 0 ≤ i) (i1 : i < n) (h : PN a n i p) : PN a n (i + 1) (pyT a n zA 0 p i) := by
  obtain ⟨ht, hs, hg, _, hk⟩ := h
  have ng : ¬ gone zA 0 i := fun hh => by have := hh.1; omega
  have n7 : ¬ ∃ r, 0 ≤ r ∧ r < i ∧ a r 0 = 7 := fun ⟨r, r0, r1, hr⟩ => by have := (hP.bk r r0 (by omega) hr).1; omega
  have hk := hk n7
  have m7 : ¬ a i 0 = 7 → ¬ ∃ r, 0 ≤ r ∧ r < i + 1 ∧ a r 0 = 7 := fun h7 ⟨r, r0, r1, hr⟩ => by
    by_cases hri : r = i
    · subst hri; exact h7 hr
    · exact n7 ⟨r, r0, by omega, hr⟩
  have c4 := ctA_succ a 4 i i0
  have c5 := ctA_succ a 5 i i0
  unfold pyT
  rw [if_neg (by rw [ht]; exact Bool.false_ne_true), if_neg ng]
  split
  · rename_i h4
    refine ⟨rfl, rfl, by show p.gn + 1 = _; rw [c4, if_pos h4, hg], fun hh => absurd hh (m7 (by omega)), fun _ => ?_⟩
    show p.kn = _
    rw [c5, if_neg (by omega)]; omega
  rename_i h4
  split
  · rename_i h5
    refine ⟨rfl, rfl, by show p.gn = _; rw [c4, if_neg h4, hg]; omega, fun hh => absurd hh (m7 (by omega)), fun _ => ?_⟩
    show p.kn + 1 = _
    rw [c5, if_pos h5]; omega
  rename_i h5
  split
  · rename_i h7
    refine ⟨rfl, rfl, by show p.gn = _; rw [c4, if_neg h4, hg]; omega, fun _ => ?_, fun hh => absurd ⟨i, i0, by omega, h7⟩ hh⟩
    show p.kn + p.gn = _
    rw [c5, if_neg h5]
    show p.kn + p.gn = ctA a i 5 + 0 + p.gn
    omega
  · rename_i h7
    refine ⟨rfl, rfl, by show p.gn = _; rw [c4, if_neg h4, hg]; omega, fun hh => absurd hh (m7 h7), fun _ => ?_⟩
    show p.kn = _
    rw [c5, if_neg h5]; omega
theorem pn_all (hP : pyP a n) : ∀ k : Nat, (k : Int) ≤ n → PN a n k (pyF a n zA 0 k)
  | 0, _ => ⟨rfl, rfl, rfl, fun ⟨r, r0, r1, _⟩ => by omega, fun _ => rfl⟩
  | k + 1, hk => by
    have := pn_step hP (i := (k : Int)) (by omega) (by omega) (pn_all hP k (by omega))
    exact this
end
theorem vc6 : VC6 := by
  intro p q lim d dm rts cts ack bar back b m hq0 dm0 m0
  refine ⟨trivial, ?_⟩
  rintro _ rfl _ _
  refine ⟨fun _ => ⟨⟨fun _ => rfl, fun _ => rfl⟩, trivial⟩, fun hc => ⟨trivial, ?_⟩⟩
  have eq : q = (Xc.mk p q lim d dm rts cts ack bar back).q := rfl
  generalize Xc.mk p q lim d dm rts cts ack bar back = x at *
  rintro a L er ha hL he L0 _
  refine ⟨fun _ => ⟨⟨fun _ => rfl, fun _ => rfl⟩, trivial⟩, fun h0 => ?_⟩
  have h0 : plE x = 0 := by omega
  obtain ⟨hx, n1, n2⟩ := pk_of h0
  have hLe : L = exL x (plN x) := by rw [hL]; unfold plL; rw [if_pos h0]
  generalize plN x = n at *
  have hl := exL_bd x hx n n1 n2
  have hP : pyP a L := by rw [ha, hLe]; exact ex_pyP hx n1 n2
  have r0 : ∀ i, a i 0 = exK x n i := fun i => by rw [ha]; rfl
  have r2 : ∀ i, a i 2 = exX x n i := fun i => by rw [ha]; rfl
  refine ⟨hP, ?_⟩
  intro s g gn k kn hs hg hgn hk hkn gn0 kn0 _ _
  have J : PJ a L b m L (pyF a L b m L.toNat) := by
    have := pj_all (a := a) (n := L) (b := b) (m := m) L.toNat
    rw [show ((L.toNat : Nat) : Int) = L by omega] at this
    exact this
  have hs : s = (pyF a L b m L.toNat).s := hs
  have hg : g = (pyF a L b m L.toNat).g := hg
  have hgn : gn = (pyF a L b m L.toNat).gn := hgn
  have hk : k = (pyF a L b m L.toNat).k := hk
  have hkn : kn = (pyF a L b m L.toNat).kn := hkn
  generalize pyF a L b m L.toNat = w at *
  have s1 : 1 ≤ s := by
    cases hst : w.st with
    | true => have := J.sp hst; omega
    | false => have := J.go hst; omega
  have s2 := J.s1
  have gin : ∀ v, inA g gn v = true ↔ ∃ r, 0 ≤ r ∧ r < s ∧ a r 0 = 4 ∧ ¬ gone b m r ∧ a r 2 = v := fun v => by
    rw [inA_iff, hg, hgn, hs]; exact J.gi v
  refine ⟨fun h => by omega, fun _ => ?_⟩
  refine ⟨fun i => 0 ≤ i, fun i => (kn - i).toNat, Int.le_refl _, ?_⟩
  intro i i0
  refine ⟨fun hi => ⟨i0, fun _ => ⟨trivial, fun v hv => ⟨fun hn => ?_, fun _ => ⟨by omega, fun _ => ⟨by omega, by dsimp only; omega⟩⟩⟩⟩⟩, fun hi => ?_⟩
  · refine absurd ?_ hn
    rw [hv, gin, hk]
    rcases J.ki i i0 (by omega) with ⟨r, a0, a1, a2, a3⟩ | ⟨j, a0, a1, a2⟩
    · rw [r0] at a2
      obtain ⟨b1, b2, b3⟩ := ek_pre a2
      refine ⟨r - 1, by omega, by omega, by rw [r0]; exact b2, fun hgo => ?_, by rw [← a3, r2, r2]; exact b3⟩
      have := J.pv (r - 1) (by omega) (by omega) hgo
      unfold goB at this
      have := of_decide_eq_true this
      rw [r0, b2, show r - 1 + 1 = r by omega, r0 r, a2] at this
      rcases this with h | ⟨_, h | h⟩
      · omega
      · omega
      · exact h rfl
    · have := (J.gi (w.k i 0)).1 ⟨j, a0, a1, a2⟩
      rw [hs]; exact this
  refine ⟨fun i => 0 ≤ i, fun i => (L - i).toNat, Int.le_refl _, ?_⟩
  intro r ri0
  refine ⟨fun hr => ⟨.inr ri0, fun _ => ⟨.inr ri0, fun _ => ⟨ri0, fun _ => ⟨fun _ => trivial, fun v hv => ⟨fun hbad => ?_, fun _ => ⟨fun hbad => ?_, fun _ => ⟨by omega, fun _ => ⟨by omega, by dsimp only; omega⟩⟩⟩⟩⟩⟩⟩⟩, fun hr => ?_⟩
  · exfalso
    obtain ⟨h4, hbad⟩ := hbad
    apply hbad
    have key : v = true ↔ (r < s ∧ ¬ gone b m r) := by
      rw [hv, gin]
      constructor
      · rintro ⟨z, z0, z1, z4, zg, ze⟩
        have : z = r := Classical.byContradiction fun hne => by
          rcases Int.lt_or_gt_of_ne hne with hlt | hgt
          · have := hP.dt z r z0 hlt hr z4 h4; omega
          · have := hP.dt r z ri0 hgt (by omega) h4 z4; omega
        subst this
        exact ⟨z1, zg⟩
      · rintro ⟨z1, zg⟩
        exact ⟨r, ri0, z1, h4, zg, rfl⟩
    by_cases hvt : v = true
    · exact .inl ⟨hvt, key.1 hvt⟩
    · exact .inr ⟨hvt, fun hh => hvt (key.2 hh)⟩
  · exfalso
    obtain ⟨⟨hk12, hgo⟩, hbig⟩ := hbad
    rw [r0] at hk12
    obtain ⟨e1, e2, e3⟩ := ek_r ri0 hk12
    have hng : goB a L r = false := by
      unfold goB
      refine decide_eq_false ?_
      rw [r0]
      omega
    have s3 : s ≤ r + 1 := by
      rcases Int.lt_or_le (r + 1) s with h | h
      · have := J.pv r ri0 (by omega) hgo
        rw [hng] at this; cases this
      · exact h
    rcases hbig with h | h
    · obtain ⟨z, z0, z1, z4, _⟩ := (gin (g 0 0)).1 (inA_iff.2 ⟨0, Int.le_refl _, h, rfl⟩)
      rw [r0] at z4
      have := (ek_d z4).1
      omega
    · omega
  refine ⟨hP, ?_⟩
  intro t _ tn _ km ht _ htn _ hkm _ _
  refine ⟨trivial, ?_⟩
  intro c hcc _ _
  have N : PN a L L (pyF a L zA 0 L.toNat) := by
    have := pn_all hP L.toNat (by omega)
    rw [show ((L.toNat : Nat) : Int) = L by omega] at this
    exact this
  have ht : t = (pyF a L zA 0 L.toNat).s := ht
  have htn : tn = (pyF a L zA 0 L.toNat).gn := htn
  have hkm : km = (pyF a L zA 0 L.toNat).kn := hkm
  have e1 : t = L := by rw [ht]; exact N.s
  have e2 : tn = c := by rw [htn, hcc]; exact N.g
  have k1 := N.k1
  have k2 := N.k2
  rw [← hkm, ← htn] at k1
  rw [← hkm] at k2
  obtain ⟨_, _, _, d4, d5, _, d7, _⟩ := ct_all x n n1 (by omega)
  rw [← ha, ← hLe] at d4 d5 d7
  rw [d5] at k1 k2
  have hcn : c = n := by rw [hcc]; exact d4
  have h7 : (∃ r, 0 ≤ r ∧ r < L ∧ a r 0 = 7) ↔ x.q = 2 := by
    constructor
    · rintro ⟨r, z0, z1, z7⟩
      rw [r0] at z7
      have := ek_b z7
      have hLd : exL x n = exB x + n * exQ x + exT x := rfl
      unfold exT at hLd
      by_cases hq : x.q = 2
      · exact hq
      · rw [if_neg hq] at hLd; omega
    · intro hq
      have hLd : exL x n = exB x + n * exQ x + exT x := rfl
      have hT : exT x = 2 := by unfold exT; rw [if_pos hq]
      have hB := exB_bd x
      have hQ : exQ x = 1 := by unfold exQ; rw [if_neg (by omega)]
      refine ⟨L - 1, by omega, by omega, ?_⟩
      rw [r0]
      unfold exK
      rw [if_neg (by omega), if_neg (by omega), if_neg (by omega)]
  have hq : q = x.q := eq
  have hq2 := hx.2.2.1
  refine ⟨fun h1 => ⟨⟨fun _ => rfl, fun _ => ⟨⟨⟨rfl, e1⟩, e2⟩, ?_⟩⟩, trivial⟩, fun h1 => ⟨⟨fun _ => rfl, fun _ => ⟨⟨⟨rfl, e1⟩, e2⟩, ?_⟩⟩, trivial⟩⟩
  · have e3 := k2 (by rw [h7]; omega)
    rw [if_neg (by omega)] at e3
    exact e3
  · by_cases hz : x.q = 0
    · have e3 := k2 (by rw [h7]; omega)
      rw [if_pos hz] at e3
      omega
    · have e3 := k1 (h7.2 (by omega))
      rw [if_neg hz] at e3
      omega
end Go.Proofs.Ytiiabaklipmbbaa
