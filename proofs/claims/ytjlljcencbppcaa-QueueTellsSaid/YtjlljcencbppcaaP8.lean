/- A managed queue: what is left to show of QueueTells. -/
import Derived.Test.YtjlljcencbppcaaP3
import Derived.Test.YtjlljcencbppcaaR
import Derived.Test.YtjlljcencbppcaaC8
namespace Go.Proofs.Ytjlljcencbppcaa
open Go Go.RowKit Go.Proofs.Ytjlljcencbppcaa.Vc
theorem wrap_id {x : Int} (h0 : -9223372036854775808 ≤ x) (h1 : x ≤ 9223372036854775807) : IntKind.wrap .i64 x = x := by
  have hw : ∀ y : Int, IntKind.wrap .i64 y = if y % 18446744073709551616 ≥ 9223372036854775808 then y % 18446744073709551616 - 18446744073709551616 else y % 18446744073709551616 := fun y => by
    simp [IntKind.wrap, IntKind.bits, IntKind.signed]
  rw [hw]
  omega
theorem sum_bd {a : Int → Nat → Int} {n u k : Int} (h : ckQ a n u k = 0) : ∀ i : Nat, (i : Int) ≤ n → 0 ≤ sumN (fun i => a i 1) i ∧ sumN (fun i => a i 1) i ≤ 2304 * i
  | 0, _ => ⟨Int.le_refl _, Int.le_refl _⟩
  | i + 1, hi => by
    have ih := sum_bd h i (by omega)
    have hr := ck_row h i (by omega) (by omega)
    show 0 ≤ sumN (fun i => a i 1) i + a i 1 ∧ sumN (fun i => a i 1) i + a i 1 ≤ _
    omega
theorem sum_step {a : Int → Nat → Int} {n u k s i : Int} (i0 : 0 ≤ i) (i1 : i < n) (hs : ckQ a n u k = 0 → s = sumI (fun i => a i 1) i) : ckQ a n u k = 0 → IntKind.wrap .i64 (s + a i 1) = sumI (fun i => a i 1) (i + 1) := fun h => by
  have e := hs h
  have h1 := sum_bd h i.toNat (by omega)
  have hr := ck_row h i i0 i1
  have hn := (ck_ok h).1
  rw [sumI_succ i0, e]
  have e2 : sumI (fun i => a i 1) i = sumN (fun i => a i 1) i.toNat := rfl
  refine wrap_id ?_ ?_ <;> rw [e2] <;> omega
theorem tkG_01 (a : Int → Nat → Int) (n u k now : Int) : (tkG a n u k now = 0 ∧ ∀ f, tkI a n u k now f = 0) ∨ tkG a n u k now = 1 := by
  unfold tkI tkG
  by_cases h : asE a n u k now = 0 ∧ tkD a n u k now < n
  · rw [if_pos h]; exact .inr rfl
  · rw [if_neg h]; exact .inl ⟨rfl, fun f => if_neg (by omega)⟩
theorem vc7 : VC7 := by
  intro a n u k nid by_ now life _ hn hn2
  refine ⟨fun _ => ⟨by simp, trivial⟩, fun h3 => ?_⟩
  refine ⟨by omega, fun _ => ⟨by omega, fun _ => ⟨trivial, ?_⟩⟩⟩
  rintro A N U K E hA hN hU hK hE N0
  refine ⟨trivial, ?_⟩
  rintro A' N' U' K' E' hA' hN' hU' hK' hE' N1 _
  rw [← hA] at hA'
  rw [← hN] at hN'
  rw [← hU] at hU'
  rw [← hK] at hK'
  rw [← hE] at hE'
  subst A' N' U' K' E'
  clear hA hN hU hK hE
  refine ⟨trivial, ?_⟩
  rintro B M V L x0 x1 x2 is C Dn E2 hB hM hV hL hx0 hx1 hx2 his hC hDn hE2 _ M0 D0
  refine ⟨trivial, ?_⟩
  rintro B' M' V' L' x g C' D' F' hB' hM' hV' hL' hx hg hC' hD' hF' M1 _ g0 _ D1
  rw [← hB] at hB'
  rw [← hM] at hM'
  rw [← hV] at hV'
  rw [← hL] at hL'
  rw [← hC] at hC'
  rw [← hDn] at hD'
  rw [← hE2] at hF'
  subst B' M' V' L' C' D' F'
  have hgx := tkG_01 a n u k now
  rw [← hg] at his hgx
  rw [show tkI a n u k now 0 = x 0 0 by rw [hx]] at hx0
  rw [show tkI a n u k now 1 = x 0 1 by rw [hx]] at hx1
  rw [show tkI a n u k now 2 = x 0 2 by rw [hx]] at hx2
  have hz : g = 0 → x 0 0 = 0 ∧ x 0 1 = 0 ∧ x 0 2 = 0 := fun h0 => by
    rcases hgx with h | h
    · rw [hx]; exact ⟨h.2 0, h.2 1, h.2 2⟩
    · omega
  have hg1 : g = 0 ∨ g = 1 := hgx.imp (fun h => h.1) id
  clear hB hM hV hL hC hDn hE2 hg hgx hx
  subst x0 x1 x2 is
  refine ⟨trivial, ?_⟩
  rintro G P Y Z C2 P2 E3 hG hP hY hZ hC2 hP2 hE3 _ P0 P20 _ _
  refine ⟨trivial, ?_⟩
  rintro G' P' Y' Z' C3 P3 E4 hG' hP' hY' hZ' hC3 hP3 hE4 P1 _ _ P21
  rw [← hG] at hG'
  rw [← hP] at hP'
  rw [← hY] at hY'
  rw [← hZ] at hZ'
  rw [← hC2] at hC3
  rw [← hP2] at hP3
  rw [← hE3] at hE4
  subst G' P' Y' Z' C3 P3 E4
  clear hG hP hY hZ hC2 hP2 hE3
  refine ⟨trivial, ?_⟩
  rintro c1 hc1
  refine ⟨trivial, ?_⟩
  rintro c2 hc2
  rw [← hc1] at hc2
  subst c2
  refine ⟨fun _ => trivial, ?_⟩
  rintro b1 hb1 _ _
  have hb1 : b1 = true := by rw [hb1, sm_self]; simp
  subst hb1
  refine ⟨fun _ => trivial, ?_⟩
  rintro b2 hb2
  have hb2 : b2 = true := by rw [hb2, sm_self]; simp
  subst hb2
  have hgi : ∀ {p q r : Prop}, ¬ (p ∧ (decide (g = 1) = true ∧ g = 1)) ∨ 0 < g := fun {p q r} => by
    rcases hg1 with h | h
    · left; rintro ⟨_, _, h2⟩; omega
    · right; omega
  refine ⟨hgi (q := True) (r := True), fun _ => ⟨hgi (q := True) (r := True), fun _ => ⟨fun _ => trivial, ?_⟩⟩⟩
  rintro b3 hb3
  have hb3 : b3 = true := by rw [hb3]; exact sm_self _ _
  subst hb3
  refine ⟨fun _ => trivial, ?_⟩
  rintro b4 hb4
  have hb4 : b4 = true := by rw [hb4, sm_self]; simp
  subst hb4
  refine ⟨fun _ => trivial, ?_⟩
  rintro b5 hb5
  have hb5 : b5 = true := by rw [hb5]; exact sm_self _ _
  subst hb5
  have hmid : ((decide (g = 1) = true ∧ g = 1) ∨ (¬ (decide (g = 1) = true) ∧ ¬ (g = 1))) ∧ ((¬ (decide (g = 1) = true) ∧ (x 0 0 = 0 ∧ (x 0 1 = 0 ∧ x 0 2 = 0))) ∨ ((decide (g = 1) = true ∧ g = 1) ∧ (x 0 0 = x 0 0 ∧ (x 0 1 = x 0 1 ∧ x 0 2 = x 0 2)))) := by
    rcases hg1 with h | h
    · have h1 : ¬ g = 1 := by omega
      simp [h1, hz h]
    · simp [h]
  refine ⟨fun s i => 0 ≤ i ∧ i ≤ n ∧ (ckQ a n u k = 0 → s = sumI (fun i => a i 1) i), fun _ i => (n - i).toNat, ⟨by omega, by omega, fun _ => rfl⟩, ?_⟩
  rintro s i ⟨i0, i1, hs⟩
  refine ⟨fun hlt => ⟨i0, fun _ => ⟨by omega, fun _ => ⟨⟨by omega, by omega, sum_step i0 hlt hs⟩, by dsimp only; omega⟩⟩⟩, fun hge => ?_⟩
  obtain rfl : i = n := by omega
  refine ⟨trivial, ?_⟩
  rintro t e ht he
  refine ⟨trivial, ?_⟩
  rintro c3 hc3
  rw [← hc1] at he hc3
  subst c3
  have fin : ∀ {z : Int}, (c1 = 0 → z = s) → (¬ c1 = 0 → z = 0) → t = z := fun {z} h1 h2 => by
    by_cases hc : c1 = 0
    · rw [h1 hc, ht]
      unfold byS
      rw [if_pos (by rw [← hc1]; exact hc), hs (by rw [← hc1]; exact hc)]
    · rw [h2 hc, ht]
      unfold byS
      rw [if_neg (by rw [← hc1]; exact hc)]
  refine ⟨fun hc => ?_, fun hc => ?_⟩
  all_goals
    refine ⟨fun _ i => 0 ≤ i, fun _ i => (N - i).toNat, by omega, fun x i hi => ⟨fun hlt => ⟨hi, fun _ => ⟨by omega, fun _ => ⟨by omega, by dsimp only; omega⟩⟩⟩, fun _ => ?_⟩⟩
    refine ⟨fun _ i => 0 ≤ i, fun _ i => (M - i).toNat, by omega, fun x i hi => ⟨fun hlt => ⟨hi, fun _ => ⟨by omega, fun _ => ⟨by omega, by dsimp only; omega⟩⟩⟩, fun _ => ?_⟩⟩
    refine ⟨fun _ i => 0 ≤ i, fun _ i => (Dn - i).toNat, by omega, fun x i hi => ⟨fun hlt => ⟨hi, fun _ => ⟨by omega, fun _ => ⟨by omega, by dsimp only; omega⟩⟩⟩, fun _ => ?_⟩⟩
    refine ⟨fun _ i => 0 ≤ i, fun _ i => (P - i).toNat, by omega, fun x i hi => ⟨fun hlt => ⟨hi, fun _ => ⟨by omega, fun _ => ⟨by omega, by dsimp only; omega⟩⟩⟩, fun _ => ?_⟩⟩
    refine ⟨fun _ i => 0 ≤ i, fun _ i => (P2 - i).toNat, by omega, fun x i hi => ⟨fun hlt => ⟨hi, fun _ => ⟨by omega, fun _ => ⟨by omega, by dsimp only; omega⟩⟩⟩, fun _ => ?_⟩⟩
    refine ⟨fun _ => trivial, ?_⟩
    rintro c4 hc4
    rw [← hc1] at hc4
    subst c4
    refine ⟨fun _ => trivial, ?_⟩
    rintro b6 hb6
    have hb6 : b6 = true := by rw [hb6, sm_self]; simp
    subst hb6
  · have ht0 := fin (z := 0) (fun h => absurd h hc) (fun _ => rfl)
    exact ⟨⟨fun _ => rfl, fun _ => ⟨⟨⟨⟨⟨⟨⟨⟨⟨⟨⟨⟨⟨rfl, rfl⟩, rfl⟩, rfl⟩, hmid.1⟩, hmid.2⟩, rfl⟩, rfl⟩, rfl⟩, rfl⟩, rfl⟩, ht0⟩, he⟩, rfl⟩⟩, trivial⟩
  · have ht0 := fin (z := s) (fun _ => rfl) (fun h => absurd h hc)
    exact ⟨⟨fun _ => rfl, fun _ => ⟨⟨⟨⟨⟨⟨⟨⟨⟨⟨⟨⟨⟨rfl, rfl⟩, rfl⟩, rfl⟩, hmid.1⟩, hmid.2⟩, rfl⟩, rfl⟩, rfl⟩, rfl⟩, rfl⟩, ht0⟩, he⟩, rfl⟩⟩, trivial⟩
end Go.Proofs.Ytjlljcencbppcaa
