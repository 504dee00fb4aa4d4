/- The law. -/
import Derived.Test.YtpbpmabnmakdoaaC3
import Derived.Test.YtpbpmabnmakdoaaP2
set_option linter.unusedVariables false
namespace Go.Proofs.Ytpbpmabnmakdoaa
open Go Go.RowKit Go.Proofs.Ytpbpmabnmakdoaa.Vc
theorem vc21 : VC21 := by
  intro _
  exact ⟨⟨fun _ => rfl, fun _ => trivial⟩, trivial⟩
/-- what was sorted: every timer that is due, in order -/
structure Ordr (x : Int → Nat → Int) (n now N : Int) (w : Int → Nat → Int) : Prop where
  srt : Srtd w 0 N
  src : ∀ p, 0 ≤ p → p < N → ∃ i, 0 ≤ i ∧ i < n ∧ x i 0 ≤ now ∧ ∀ f, f < 3 → w p f = x i f
  dst : ∀ i, 0 ≤ i → i < n → x i 0 ≤ now → ∃ p, 0 ≤ p ∧ p < N ∧ ∀ f, f < 3 → w p f = x i f
theorem ord_of {q : Int} {x : Int → Nat → Int} {n now : Int} (hG : Good q x n) (h0 : 0 ≤ n) : Ordr x n now (filN (kDue now) x n.toNat) (srtA (filA (kDue now) x n.toNat) 0 (filN (kDue now) x n.toNat)) := by
  have hle := filN_le (k := kDue now) (x := x) n.toNat
  have n6 := hG.n6
  have hI : Ins (filA (kDue now) x n.toNat) (filN (kDue now) x n.toNat) 0 (filN (kDue now) x n.toNat) :=
    ⟨Int.le_refl _, by omega, Int.le_refl _, by omega, fun i j i0 ij j1 => filA_sq (fun p q p0 pq q1 => hG.sq p q p0 pq (by omega)) i j i0 ij j1⟩
  have hS := srtA_spec hI.tot
  obtain ⟨s, t, hp⟩ := hS.prm
  refine ⟨hS.srtd, fun p p0 p1 => ?_, fun i i0 i1 hk => ?_⟩
  · obtain ⟨a1, a2, _, _, _, _, a7⟩ := hp p p0 p1
    obtain ⟨i, b1, b2, b3, b4⟩ := filA_from (k := kDue now) (x := x) n.toNat (s p) a1 a2
    exact ⟨i, by omega, by omega, due_t.1 b2, fun f hf => by rw [a7 f hf, b4 f]⟩
  · have hi : ((i.toNat : Nat) : Int) = i := by omega
    have hk2 : kDue now (x (i.toNat : Int) 0) = true := by rw [hi]; exact due_t.2 hk
    have h1 := filN_le (k := kDue now) (x := x) i.toNat
    have h2 : filN (kDue now) x (i.toNat + 1) ≤ filN (kDue now) x n.toNat := filN_mono (by omega)
    have h3 : filN (kDue now) x (i.toNat + 1) = filN (kDue now) x i.toNat + 1 := by show (if kDue now (x (i.toNat : Int) 0) = true then _ else _) = _; rw [if_pos hk2]
    obtain ⟨_, _, _, a4, a5, a6, _⟩ := hp (filN (kDue now) x i.toNat) h1.1 (by omega)
    obtain ⟨_, _, _, _, _, _, b7⟩ := hp (t (filN (kDue now) x i.toNat)) a4 a5
    refine ⟨_, a4, a5, fun f hf => ?_⟩
    rw [b7 f hf, a6, filA_at (show i.toNat < n.toNat by omega) hk2 f, hi]
def Cand (x : Int → Nat → Int) (l s i : Int) : Prop := l < x i 0 ∨ (x i 0 = l ∧ s < x i 2)
structure Nxt (x : Int → Nat → Int) (n l s m i : Int) : Prop where
  i0 : 0 ≤ i
  i1 : i ≤ n
  m0 : -1 ≤ m
  m1 : m < i
  no : m < 0 → ∀ j, 0 ≤ j → j < i → ¬ Cand x l s j
  is : 0 ≤ m → Cand x l s m
  mn : 0 ≤ m → ∀ j, 0 ≤ j → j < i → Cand x l s j → x m 0 ≤ x j 0 ∧ (j < m → x m 0 < x j 0)
structure Row (w : Int → Nat → Int) (N l s p : Int) : Prop where
  p0 : 0 ≤ p
  p1 : p ≤ N
  z : p = 0 → l = -1 ∧ s = -1
  h : 0 < p → l = w (p - 1) 0 ∧ s = w (p - 1) 2
theorem nxt_is {q : Int} {x : Int → Nat → Int} {n now N l s p m : Int} {w : Int → Nat → Int} (hG : Good q x n) (hO : Ordr x n now N w) (hR : Row w N l s p) (hp : p < N) (hM : Nxt x n l s m n) : 0 ≤ m ∧ x m 0 ≤ now ∧ (∀ f, f < 3 → x m f = w p f) := by
  have p0 := hR.p0
  obtain ⟨i, i0, i1, i2, i3⟩ := hO.src p p0 hp
  have e0 := i3 0 (by decide)
  have e2 := i3 2 (by decide)
  have hi : Cand x l s i := by
    unfold Cand
    by_cases h : p = 0
    · have := hR.z h
      have := hG.el i i0 i1
      omega
    · have h1 := hR.h (by omega)
      have h2 := hO.srt (p - 1) p (by omega) (by omega) hp
      unfold Lt at h2
      omega
  have hm : 0 ≤ m := by
    rcases Int.lt_or_le m 0 with h | h
    · exact absurd hi (hM.no h i i0 i1)
    · exact h
  have hm1 := hM.m1
  obtain ⟨k1, k2⟩ := hM.mn hm i i0 i1 hi
  have hc := hM.is hm
  have hnow : x m 0 ≤ now := by omega
  obtain ⟨r, r0, r1, r2⟩ := hO.dst m hm hm1 hnow
  have f0 := r2 0 (by decide)
  have f2 := r2 2 (by decide)
  have hrp : r = p := by
    rcases Int.lt_trichotomy r p with h | h | h
    · exfalso
      have h1 := hR.h (by omega)
      unfold Cand at hc
      by_cases e : r = p - 1
      · subst e; omega
      · have h2 := hO.srt r (p - 1) r0 (by omega) (by omega)
        unfold Lt at h2
        omega
    · exact h
    · exfalso
      have h2 := hO.srt p r p0 h r1
      unfold Lt at h2
      by_cases e : i < m
      · have := k2 e; omega
      · by_cases e2 : i = m
        · subst e2; omega
        · have := hG.sq m i hm (by omega) i1
          omega
  exact ⟨hm, hnow, fun f hf => by rw [← hrp, r2 f hf]⟩
theorem Nxt.take {x : Int → Nat → Int} {n l s m i : Int} (h : Nxt x n l s m i) (hi : i < n) (hc : Cand x l s i) (hm : m < 0 ∨ x i 0 < x m 0) : Nxt x n l s i (i + 1) := by
  have i0 := h.i0
  refine ⟨by omega, by omega, by omega, by omega, fun h => by omega, fun _ => hc, fun _ j j0 j1 hj => ?_⟩
  by_cases e : j = i
  · subst e; exact ⟨Int.le_refl _, fun h => by omega⟩
  · rcases Int.lt_or_le m 0 with h1 | h1
    · exact absurd hj (h.no h1 j j0 (by omega))
    · have := h.mn h1 j j0 (by omega) hj
      omega
theorem Nxt.skip {x : Int → Nat → Int} {n l s m i : Int} (h : Nxt x n l s m i) (hi : i < n) (hc : ¬ (Cand x l s i ∧ (m < 0 ∨ x i 0 < x m 0))) : Nxt x n l s m (i + 1) := by
  have i0 := h.i0
  have m1 := h.m1
  refine ⟨by omega, by omega, h.m0, by omega, fun h1 j j0 j1 hj => ?_, h.is, fun h1 j j0 j1 hj => ?_⟩
  · by_cases e : j = i
    · subst e; exact hc ⟨hj, .inl h1⟩
    · exact h.no h1 j j0 (by omega) hj
  · by_cases e : j = i
    · subst e
      refine ⟨?_, fun h => by omega⟩
      rcases Int.lt_or_le (x j 0) (x m 0) with h2 | h2
      · exact absurd ⟨hj, .inr h2⟩ hc
      · exact h2
    · exact h.mn h1 j j0 (by omega) hj
theorem vc9 : VC9 := by
  unfold VC9
  rintro v0 v1 v2 v3 _ h0
  refine ⟨trivial, ?_⟩
  rintro v4 rfl _
  refine ⟨fun _ => ⟨Iff.rfl, trivial⟩, fun hl => ⟨trivial, ?_⟩⟩
  rintro v5 v6 v7 v8 v9 v10 rfl h6 h7 rfl h9 h10 _ _ _ _
  refine ⟨fun hb => ?_, fun hg => ?_⟩
  · have hb : ¬ chkT v0 v1 v2 = 0 := by rw [← h10]; exact hb
    unfold dueN at h6
    unfold stN at h9
    rw [if_neg hb] at h6 h9
    exact ⟨by simp [h6, h9], trivial⟩
  have hc : chkT v0 v1 v2 = 0 := by omega
  have hG := good_of hc
  have n6 := hG.n6
  have hO := ord_of (now := v3) hG h0
  unfold dueN at h6
  unfold stN at h9
  unfold dueX at h7
  rw [if_pos hc] at h6 h7 h9
  have htwo := filN_two (k := kDue v3) (k' := kStay v3) (x := v1) (fun z => by
    unfold kDue kStay
    by_cases h : z ≤ v3
    · rw [decide_eq_true h, decide_eq_false (by omega)]; rfl
    · rw [decide_eq_false h, decide_eq_true (by omega)]; rfl) v2.toNat
  have hD := filN_le (k := kDue v3) (x := v1) v2.toNat
  have hT := filN_le (k := kStay v3) (x := v1) v2.toNat
  have h5 : ∀ i, dueF v0 v1 v2 v3 i 0 = srtA (filA (kDue v3) v1 v2.toNat) 0 (filN (kDue v3) v1 v2.toNat) i 1 := fun i => by unfold dueF; rw [if_pos hc]
  have h8 : ∀ i f, stF v0 v1 v2 v3 i f = filA (kStay v3) v1 v2.toNat i f := fun i f => by unfold stF; rw [if_pos hc]
  generalize hw : srtA (filA (kDue v3) v1 v2.toNat) 0 (filN (kDue v3) v1 v2.toNat) = w at hO h5
  rw [← h6] at hO hD htwo
  refine ⟨by omega, fun _ => ⟨fun hbad => by omega, fun _ => ?_⟩⟩
  refine ⟨fun l s p => Row w v6 l s p, fun l s p => (v6 - p).toNat, ⟨Int.le_refl _, by omega, fun _ => ⟨rfl, rfl⟩, fun h => by omega⟩, ?_⟩
  intro l s p hR
  have p0 := hR.p0
  have p1 := hR.p1
  refine ⟨fun hp => ?_, fun hp => ?_⟩
  · refine ⟨fun m i => Nxt v1 v2 l s m i, fun m i => (v2 - i).toNat, ⟨Int.le_refl _, h0, Int.le_refl _, by omega, fun _ j _ _ => by omega, fun h => by omega, fun h => by omega⟩, ?_⟩
    intro m i hM
    have i0 := hM.i0
    have i1 := hM.i1
    have m0 := hM.m0
    have m1 := hM.m1
    refine ⟨fun hi => ⟨i0, fun _ => ⟨by omega, fun _ => ⟨by omega, fun _ => ⟨by omega, fun _ => ⟨by omega, fun _ => ⟨fun ht => ⟨by omega, fun _ => ⟨hM.take hi ht.1 ht.2, by dsimp only; omega⟩⟩, fun ht => ⟨by omega, fun _ => ⟨hM.skip hi ht, by dsimp only; omega⟩⟩⟩⟩⟩⟩⟩⟩, fun hi => ?_⟩
    have hin : i = v2 := by omega
    subst hin
    obtain ⟨a1, a2, a3⟩ := nxt_is hG hO hR hp hM
    have e1 := a3 1 (by decide)
    have e2 := h5 p
    refine ⟨by omega, fun _ => ⟨by omega, fun _ => ⟨by omega, fun _ => ⟨by omega, fun _ => ⟨by omega, fun _ => ⟨by omega, fun _ => ⟨by omega, fun _ => ⟨by omega, fun _ => ⟨by omega, fun _ => ⟨by omega, fun _ => ⟨fun hbad => by omega, fun _ => ⟨a1, fun _ => ⟨by omega, fun _ => ⟨by omega, fun _ => ⟨⟨by omega, by omega, fun h => by omega, fun _ => ?_⟩, by dsimp only; omega⟩⟩⟩⟩⟩⟩⟩⟩⟩⟩⟩⟩⟩⟩⟩
    rw [show p + 1 - 1 = p by omega]
    exact ⟨a3 0 (by decide), a3 2 (by decide)⟩
  · refine ⟨fun c i => 0 ≤ i ∧ i ≤ v2 ∧ c = filN (kStay v3) v1 i.toNat, fun c i => (v2 - i).toNat, ⟨Int.le_refl _, h0, rfl⟩, ?_⟩
    rintro c i ⟨i0, i1, hcn⟩
    have hci := filN_le (k := kStay v3) (x := v1) i.toNat
    refine ⟨fun hi => ⟨i0, fun _ => ⟨fun hk => ?_, fun hk => ⟨by omega, fun _ => ⟨⟨by omega, by omega, ?_⟩, by dsimp only; omega⟩⟩⟩⟩, fun hi => ⟨?_, trivial⟩⟩
    · have hii : ((i.toNat : Nat) : Int) = i := by omega
      have hk2 : kStay v3 (v1 i 0) = true := stay_t.2 hk
      have hs := filN_succ (k := kStay v3) (x := v1) i i0
      rw [if_pos hk2] at hs
      have hmo : filN (kStay v3) v1 (i + 1).toNat ≤ filN (kStay v3) v1 v2.toNat := filN_mono (by omega)
      have hat : ∀ f, filA (kStay v3) v1 v2.toNat c f = v1 i f := fun f => by
        rw [hcn, filA_at (show i.toNat < v2.toNat by omega) (by rw [hii]; exact hk2) f, hii]
      have g0 := h8 c 0
      have g1 := h8 c 1
      have g2 := h8 c 2
      rw [hat] at g0 g1 g2
      refine ⟨by omega, fun _ => ⟨by omega, fun _ => ⟨by omega, fun _ => ⟨by omega, fun _ => ⟨fun hbad => by omega, fun _ => ⟨by omega, fun _ => ⟨by omega, fun _ => ⟨⟨by omega, by omega, by omega⟩, by dsimp only; omega⟩⟩⟩⟩⟩⟩⟩⟩
    · rw [filN_succ i i0, if_neg (by rw [stay_f.2 (by omega)]; decide)]
      exact hcn
    · have : i = v2 := by omega
      subst this
      simp only [true_and, iff_true]
      omega
end Go.Proofs.Ytpbpmabnmakdoaa
