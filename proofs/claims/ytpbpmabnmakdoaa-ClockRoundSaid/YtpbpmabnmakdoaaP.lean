/- Clocks: what is left to show of each function. -/
import Derived.Test.YtpbpmabnmakdoaaC
import Derived.Test.YtpbpmabnmakdoaaA
namespace Go.Proofs.Ytpbpmabnmakdoaa
open Go Go.RowKit Go.Proofs.Ytpbpmabnmakdoaa.Vc
theorem vc19 : VC19 := by
  intro v0 v1 _
  unfold ckZ
  exact ⟨fun h => ⟨by rw [if_neg (by omega)], trivial⟩, fun h => ⟨by rw [if_pos (by omega)], trivial⟩⟩
theorem vc33 : VC33 := by
  intro a b ⟨hb, h1, h2, h3⟩
  obtain ⟨p, q⟩ := tdiv_bd (a := a) hb
  have hp : 0 ≤ a ∨ a < 0 := by omega
  refine ⟨by omega, fun _ => ⟨by omega, fun _ => ⟨by omega, fun _ => ⟨fun h => ⟨?_, trivial⟩, fun h => ⟨by omega, fun _ => ⟨?_, trivial⟩⟩⟩⟩⟩⟩
  · exact (div_unique hb h (by omega)).symm
  · exact (div_unique hb (by rw [Int.sub_mul]; omega) (by rw [Int.sub_mul]; omega)).symm
theorem vc27 : VC27 := by
  intro o p n ⟨h, h0, h1⟩
  have hb := mul_bd (p := p) h0 (by unfold okC at h; omega) (by unfold okC at h; omega)
  have hf := fdiv_bd (n * p)
  unfold okC at h
  refine ⟨by omega, fun _ => ⟨by omega, fun _ => ⟨by omega, fun q hq => ⟨by subst hq; omega, fun _ => ⟨by subst hq; rfl, trivial⟩⟩⟩⟩⟩
theorem vc28 : VC28 := by
  intro o p n s ⟨h, h0, h1, h2, h3⟩
  refine ⟨⟨h, h0, h1⟩, fun t ht => ?_⟩
  have hb := tm_bd h h0 h1
  rw [← ht] at hb
  have ha : o + max (s - t) 0 = adZ o p n s := by rw [ht]; rfl
  have ho := h
  unfold okC at ho
  refine ⟨by omega, fun _ => ⟨by omega, fun _ => ⟨trivial, fun c hc => ?_⟩⟩⟩
  rw [ha] at hc ⊢
  unfold adO adP
  subst hc
  refine ⟨fun hn => ?_, fun hn => ?_⟩
  · rw [if_neg hn, if_neg hn]; exact ⟨rfl, rfl, rfl, trivial⟩
  · have : ckZ (adZ o p n s) p = 0 := by omega
    rw [if_pos this, if_pos this]; exact ⟨rfl, rfl, this.symm, trivial⟩
theorem vc10 : VC10 := by
  intro l n m f k now _ h0 h1
  refine ⟨fun i => 0 ≤ i ∧ i ≤ n ∧ ∀ j, 0 ≤ j → j < i → ckZ (l j 0) (l j 1) = 0, fun i => (n - i).toNat, ⟨by omega, by omega, fun j _ _ => by omega⟩, ?_⟩
  intro i ⟨i0, i1, hi⟩ hn1 hk1
  refine ⟨fun hlt => ⟨i0, fun _ => ⟨trivial, fun c hc => ⟨fun hne => ?_, fun he => ⟨by omega, fun _ => ⟨⟨by omega, by omega, fun j j0 j1 => ?_⟩, by dsimp only; omega⟩⟩⟩⟩⟩, fun hge => ?_⟩
  · obtain ⟨e1, e2⟩ := rd_bad (m := m) (f := f) (k := k) (now := now) i0 hlt (by rw [← hc]; exact hne)
    rw [e1, e2]
    exact ⟨rfl, fun i g a b _ => by omega, by have := ck_01 (l i 0) (l i 1); omega, trivial⟩
  · by_cases hj : j = i
    · subst hj; omega
    · exact hi j j0 (by omega)
  · have hc : ∀ j, 0 ≤ j → j < n → ckZ (l j 0) (l j 1) = 0 := fun j j0 j1 => hi j j0 (by omega)
    have bad2 : (32 < n ∨ k ≠ n ∨ now < 0 ∨ 1099511627776 < now ∨ ∃ i j : Int, 0 ≤ i ∧ i < k ∧ 0 ≤ j ∧ j < m i ∧ (f i j 0 < 0 ∨ n ≤ f i j 0)) →
        0 = rdN l n m f k now ∧ (∀ (i : Int) (g : Nat), 0 ≤ i → i < rdN l n m f k now → g < 2 → zA i g = rdA l n m f k now i g) ∧ 2 = rdE l n m f k now ∧ True := fun h => by
      obtain ⟨e1, e2⟩ := rd_arg hc h
      rw [e1, e2]
      exact ⟨rfl, fun i g a b _ => by omega, rfl, trivial⟩
    refine ⟨fun hok => ?_, fun hno => bad2 (by omega)⟩
    refine ⟨fun i => 0 ≤ i ∧ i ≤ k ∧ ∀ a b, 0 ≤ a → a < i → 0 ≤ b → b < m a → 0 ≤ f a b 0 ∧ f a b 0 < n, fun i => (k - i).toNat, ⟨by omega, by omega, fun a b _ _ => by omega⟩, ?_⟩
    intro r ⟨r0, r1, hr⟩
    refine ⟨fun hlt => ⟨r0, fun _ => ?_⟩, fun hge => ?_⟩
    · refine ⟨fun b => 0 ≤ b ∧ ∀ c, 0 ≤ c → c < b → 0 ≤ f r c 0 ∧ f r c 0 < n, fun b => (m r - b).toNat, ⟨by omega, fun c _ _ => by omega⟩, ?_⟩
      intro b ⟨b0, hb⟩ hm0 hm1
      refine ⟨fun hbl => ⟨b0, fun _ => ⟨fun hodd => bad2 (.inr (.inr (.inr (.inr ⟨r, b, r0, hlt, b0, hbl, hodd⟩)))), fun hin => ⟨by omega, fun _ => ⟨⟨by omega, fun c c0 c1 => ?_⟩, by dsimp only; omega⟩⟩⟩⟩, fun hbl => ⟨by omega, fun _ => ⟨⟨by omega, by omega, fun a c a0 a1 c0 c1 => ?_⟩, by dsimp only; omega⟩⟩⟩
      · by_cases hcb : c = b
        · subst hcb
          have : ¬ (f r c 0 < 0 ∨ n ≤ f r c 0) := hin
          omega
        · exact hb c c0 (by omega)
      · by_cases har : a = r
        · subst har; exact hb c c0 (by omega)
        · exact hr a c a0 (by omega) c0 c1
    · have hrow : ∀ a b, 0 ≤ a → a < k → 0 ≤ b → b < m a → 0 ≤ f a b 0 ∧ f a b 0 < n := fun a b a0 a1 => hr a b a0 (by omega)
      have hgood : ¬ (32 < n ∨ k ≠ n ∨ now < 0 ∨ 1099511627776 < now ∨ ∃ i j : Int, 0 ≤ i ∧ i < k ∧ 0 ≤ j ∧ j < m i ∧ (f i j 0 < 0 ∨ n ≤ f i j 0)) := by
        rintro (h | h | h | h | ⟨a, b, a0, a1, b0, b1, h⟩)
        · omega
        · omega
        · omega
        · omega
        · have := hrow a b a0 a1 b0 b1; omega
      have hok' : ∀ j, 0 ≤ j → j < n → okC (l j 0) (l j 1) := fun j j0 j1 => ck_ok.1 (hc j j0 j1)
      refine ⟨fun v7 v8 v9 _ => 0 ≤ v7 ∧ v7 ≤ n ∧ v9 = v7 ∧ ∀ j, 0 ≤ j → j < v7 → v8 j 0 = offs l m f now j ∧ v8 j 1 = l j 1 ∧ ckZ (offs l m f now j) (l j 1) = 0, fun v7 _ _ _ => (n - v7).toNat, ⟨by omega, by omega, rfl, fun j _ _ => by omega⟩, ?_⟩
      intro v7 v8 v9 v10 ⟨p0, p1, p2, p3⟩ q0 q1
      refine ⟨fun hlt => ⟨p0, fun _ => ⟨⟨hok' v7 p0 hlt, by omega, by omega⟩, fun t ht => ⟨by omega, fun _ => ?_⟩⟩⟩, fun hge => ?_⟩
      · have tb := tm_bd (hok' v7 p0 hlt) (n := now) (by omega) (by omega)
        rw [← ht] at tb
        refine ⟨fun v12 v13 => 0 ≤ v13 ∧ (m v7 < 0 ∨ v13 ≤ m v7) ∧ v12 = best l now (fun c => f v7 c 0) v13.toNat t, fun _ v13 => (m v7 - v13).toNat, ⟨by omega, by omega, rfl⟩, ?_⟩
        intro v12 v13 ⟨b0, b1, b2⟩ hm0 hm1
        have bb : -(2^44) ≤ v12 ∧ v12 ≤ 2^44 := by
          rw [b2]
          refine best_bd l now _ t tb _ (fun j hj => ?_) (by omega) (by omega)
          have := hrow v7 j p0 (by omega) (by omega) (by omega)
          exact hok' _ this.1 this.2
        refine ⟨fun hb => ⟨b0, fun _ => ?_⟩, fun hb => ?_⟩
        · have hr := hrow v7 v13 p0 (by omega) b0 hb
          refine ⟨hr.1, fun _ => ⟨hr.2, fun _ => ⟨⟨hok' _ hr.1 hr.2, by omega, by omega⟩, fun v14 hv14 => ⟨by omega, fun _ => ⟨⟨by omega, by omega, ?_⟩, by dsimp only; omega⟩⟩⟩⟩⟩
          have e : (v13 + 1).toNat = v13.toNat + 1 := by omega
          rw [e]
          unfold best
          rw [← b2, hv14, Int.toNat_of_nonneg b0]
          rfl
        · have hbest : v12 = bestOf l m f now v7 := by
            unfold bestOf
            rw [b2, ← ht]
            have : v13 = m v7 := by omega
            rw [this]
          have hoff : adZ (l v7 0) (l v7 1) now v12 = offs l m f now v7 := by rw [hbest]; rfl
          refine ⟨⟨hok' v7 p0 hlt, by omega, by omega, bb⟩, fun v14 v15 v16 h14 h15 h16 => ?_⟩
          unfold adO at h14
          unfold adP at h15
          rw [hoff] at h14 h15 h16
          refine ⟨fun hne => ?_, fun he => ⟨by omega, fun _ => ⟨by omega, fun _ => ⟨by omega, fun _ => ⟨⟨by omega, by omega, by omega, fun j j0 j1 => ?_⟩, by dsimp only; omega⟩⟩⟩⟩⟩
          · obtain ⟨e1, e2⟩ := rd_bad2 hc hgood p0 hlt (by rw [← h16]; exact hne)
            rw [e1, e2]
            exact ⟨rfl, fun i g a b _ => by omega, by have := ck_01 (offs l m f now v7) (l v7 1); omega, trivial⟩
          · have he := Classical.not_not.1 he
            rw [← h16, if_pos he] at h14 h15
            simp only [app_row, set_row]
            by_cases hj : j = v7
            · subst hj
              rw [if_neg (by omega), if_neg (by omega), if_pos ⟨by omega, trivial⟩, if_neg (by omega), if_pos ⟨by omega, trivial⟩]
              exact ⟨h14, h15, by omega⟩
            · rw [if_pos (by omega), if_pos (by omega)]
              exact p3 j j0 (by omega)
      · obtain ⟨e1, e2⟩ := rd_fine hc hgood (fun j j0 j1 => (p3 j j0 (by omega)).2.2)
        rw [e1, e2]
        refine ⟨by omega, fun j g j0 j1 hg => ?_, rfl, trivial⟩
        obtain ⟨a1, a2, _⟩ := p3 j j0 (by omega)
        match g, hg with
        | 0, _ => exact a1
        | 1, _ => exact a2
end Go.Proofs.Ytpbpmabnmakdoaa
