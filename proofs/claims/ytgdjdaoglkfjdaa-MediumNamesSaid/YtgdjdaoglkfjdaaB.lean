/- Contracts of Loss and its reference, and the walk of RadioLosses: it returns true for every input. -/
import Derived.Test.YtgdjdaoglkfjdaaA
import Derived.Test.YtgdjdaoglkfjdaaL
namespace Go.Proofs.Ytgdjdaoglkfjdaa
open Go.RowKit
theorem bitLen_halvings : ∀ (b x : Nat), x < 2 ^ b → b ≤ 64 → 1 ≤ x → Lib.bitLen x = halvings x + 1 := by
  intro b
  induction b with
  | zero => intro x h _ h1; simp at h; omega
  | succ b ih =>
    intro x h hb h1
    have hx : x < 2 ^ 64 := Nat.lt_of_lt_of_le h (Nat.pow_le_pow_right (by decide) hb)
    rw [Lib.bitLen_half x (by omega) hx]
    by_cases h2 : x < 2
    · have : x = 1 := by omega
      subst this
      rw [halvings_lt 1 (by decide)]
      decide
    · rw [halvings_ge x (by omega), ih (x / 2) (by rw [Nat.pow_succ] at h; omega) (by omega) (by omega)]
      omega
theorem wrapmulu (a b : Int) (h0 : 0 ≤ a * b) (h1 : a * b ≤ 9000000000000000000) : (a * b) % 18446744073709551616 = a * b := by omega
def losse (d : Int) : Int := if inB d 0 30000 then 0 else 2
def lossv (d : Int) : Int := if inB d 0 30000 then loss d else 0
theorem loss_any (d : Int) (w : World) :
    Calls Try.prog 67 #[.int .i64 d] w fun e w' => e = .returned (.tuple #[.int .i64 (lossv d), .int .i64 (losse d)]) ∧ w = w' := by
  cases ha : inB d 0 30000
  · have e : lossv d = 0 ∧ losse d = 2 := by simp [lossv, losse, ha]
    have E := Lib.hid e
    clear e
    go_enter Try.func67, Try.ntmps67
    go_wp2_with (go_at_call 63; refine (within_any _ _ _ _).mono ?_; rintro e w' ⟨rfl, rfl⟩)
    go_ret2
    exact ⟨by rw [E.out.1, E.out.2]; rfl, rfl⟩
  · have e : lossv d = loss d ∧ losse d = 0 := by simp [lossv, losse, ha]
    have E := Lib.hid e
    clear e
    obtain ⟨h0, h1⟩ := inB_true ha
    have hp := pow4_bd (show 1 ≤ max d 1 by omega) (show max d 1 ≤ 30000 by omega)
    obtain ⟨p1, p2, p3, p4, p5, p6⟩ := hp
    have hw1 := wrapmulu (max d 1) (max d 1) (by omega) (by omega)
    have hw2 := wrapmulu (max d 1 * max d 1) (max d 1) (by omega) (by omega)
    have hw3 := wrapmulu (max d 1 * max d 1 * max d 1) (max d 1) (by omega) (by omega)
    have hH := halvings_bd 60 ((max d 1) * (max d 1) * (max d 1) * (max d 1)).toNat (by omega)
    have hl : (Lib.bitLen ((max d 1) * (max d 1) * (max d 1) * (max d 1)).toNat : Int) = halvings ((max d 1) * (max d 1) * (max d 1) * (max d 1)).toNat + 1 := by
      rw [bitLen_halvings 60 _ (by omega) (by decide) (by omega)]; rfl
    go_enter Try.func67, Try.ntmps67
    go_wp2_with (first | (go_at_call 63; refine (within_any _ _ _ _).mono ?_; rintro e w' ⟨rfl, rfl⟩) | (go_at_call 75; refine (len64_any _ _ (by omega) (by omega)).mono ?_; rintro e w' ⟨rfl, rfl⟩))
    go_ret2
    exact ⟨by rw [E.out.1, E.out.2]; simp only [loss]; congr 4, rfl⟩
end Go.Proofs.Ytgdjdaoglkfjdaa
