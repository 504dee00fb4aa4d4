/- sort.Search over a closure that answers a predicate; the least number at which a predicate holds. -/
import Derived.Test.YtpbpmabnmakdoaaProg
import Derived.WalkKit
import Derived.Below
import Derived.Lib.Hide
namespace Go.Proofs.Ytpbpmabnmakdoaa
open Go.RowKit
/-- a call of function g enters it -/
def Enters (g : Nat) : Prop := ∀ (args : Array Value) (w : World), (callFunc g args).run Try.prog w = .ok (.enter g args) w
/-- a closure's answers: called with i, in any world that holds what W held, it returns p i and leaves old memory alone -/
def PredB (g : Nat) (cap : Array Value) (n : Nat) (p : Int → Bool) (W : World) : Prop :=
  ∀ (i : Int) (w : World), 0 ≤ i → i < n → Below W.heap.size W w → Calls Try.prog g (#[.int .i64 i] ++ cap) w fun e w' => e = .returned (.bool (p i)) ∧ Below w.heap.size w w'
/-- the least i below n at which p holds; n where there is none -/
def lst (p : Int → Bool) : Nat → Nat
  | 0 => 0
  | n + 1 => if lst p n < n then lst p n else if p n then n else n + 1
theorem lst_spec (p : Int → Bool) : ∀ n, lst p n ≤ n ∧ (∀ i : Nat, i < lst p n → p i = false) ∧ (lst p n < n → p (lst p n) = true)
  | 0 => ⟨Nat.le_refl _, fun i h => by simp [lst] at h, fun h => by simp [lst] at h⟩
  | n + 1 => by
    obtain ⟨h1, h2, h3⟩ := lst_spec p n
    unfold lst
    by_cases hc : lst p n < n
    · rw [if_pos hc]; exact ⟨by omega, h2, fun _ => h3 hc⟩
    · have e : lst p n = n := by omega
      rw [if_neg hc]
      rw [e] at h2
      by_cases hp : p n = true
      · rw [if_pos hp]; exact ⟨by omega, h2, fun _ => hp⟩
      · rw [if_neg hp]
        refine ⟨Nat.le_refl _, fun i hi => ?_, fun h => by omega⟩
        by_cases hin : i = n
        · rw [hin]; simpa using hp
        · exact h2 i (by omega)
theorem lst_eq {p : Int → Bool} {n r : Nat} (h1 : r ≤ n) (h2 : ∀ i : Int, 0 ≤ i → i < r → p i = false) (h3 : r < n → p r = true) : lst p n = r := by
  obtain ⟨g1, g2, g3⟩ := lst_spec p n
  rcases Nat.lt_trichotomy (lst p n) r with h | h | h
  · have := g3 (by omega)
    rw [h2 (lst p n) (by omega) (by omega)] at this; cases this
  · exact h
  · have := h3 (by omega)
    rw [g2 r h] at this; cases this
theorem search_any (n : Nat) (hn : n ≤ 1099511627776) (g : Nat) (cap : Array Value) (p : Int → Bool) (w : World) (hg : Enters g)
    (hp : PredB g cap n p w) (hm : ∀ i j : Int, 0 ≤ i → i ≤ j → j < n → p i = true → p j = true) :
    Calls Try.prog 34 #[.int .i64 n, .func (.func g) #[] cap] w fun e w' => e = .returned (.int .i64 (lst p n)) ∧ Below w.heap.size w w' := by
  have HM := Lib.hid hm
  clear hm
  have hcf : ∀ (args : Array Value) (w : World), (callFunc g args).run Try.prog w = .ok (.enter g args) w := hg
  have HP := Lib.hid hp
  clear hp
  go_enter Try.func34, Try.ntmps34
  go_wp2_with fail
  go_loopw [5, 6] (fun i j wr => ∃ a b : Nat, a ≤ b ∧ b ≤ n ∧ i = .int .i64 a ∧ j = .int .i64 b ∧ Hid (∀ i : Int, 0 ≤ i → i < a → p i = false) ∧ Hid (∀ i : Int, b ≤ i → i < n → p i = true) ∧ Below w.heap.size w wr) (fun i j _ => (intOf j - intOf i).toNat)
  case atStart => exact ⟨0, n, Nat.zero_le _, Nat.le_refl _, rfl, rfl, by intro i; omega, by intro i; omega, Below.refl _ _⟩
  case round =>
    obtain ⟨a, b, hab, hbn, rfl, rfl, h1, h2, hB⟩ := hrel
    by_cases hlt : a < b
    · go_wp2_with fail
      refine (HP.out (((a : Int) + b) / 2) wr (by omega) (by omega) hB).mono ?_
      rintro e w' ⟨rfl, hb⟩
      have hB2 := hB.trans (hb.mono hB.size)
      clear hb
      cases hv : p (((a : Int) + b) / 2)
      · have HV := Lib.hid hv
        clear hv
        go_wp2_with fail
        go_roundw
        case rel => exact ⟨(a + b) / 2 + 1, b, by omega, by omega, by go_num, rfl, (fun i h3 h4 => by
          cases hc : p i
          · rfl
          · have := HM.out i (((a : Int) + b) / 2) h3 (by omega) (by omega) hc
            rw [HV.out] at this; exact absurd this (by decide)), h2, hB2⟩
        case measure => simp [intOf]; omega
      · have HV := Lib.hid hv
        clear hv
        go_wp2_with fail
        go_roundw
        case rel => exact ⟨a, (a + b) / 2, by omega, by omega, rfl, by go_num, h1, (fun i h3 h4 => HM.out (((a : Int) + b) / 2) i (by omega) (by omega) h4 HV.out), hB2⟩
        case measure => simp [intOf]; omega
    · have hba : b = a := by omega
      subst hba
      go_wp2_with fail
      go_ret
      exact ⟨by rw [lst_eq hbn h1.out (fun h => h2.out b (by omega) (by omega))]; rfl, hB⟩
theorem search_int (m : Int) (h0 : 0 ≤ m) (hn : m ≤ 1099511627776) (g : Nat) (cap : Array Value) (p : Int → Bool) (w : World) (hg : Enters g)
    (hp : PredB g cap m.toNat p w) (hm : ∀ i j : Int, 0 ≤ i → i ≤ j → j < m → p i = true → p j = true) :
    Calls Try.prog 34 #[.int .i64 m, .func (.func g) #[] cap] w fun e w' => e = .returned (.int .i64 (lst p m.toNat)) ∧ Below w.heap.size w w' := by
  obtain ⟨n, rfl⟩ := Int.eq_ofNat_of_zero_le h0
  exact search_any n (by omega) g cap p w hg hp hm
end Go.Proofs.Ytpbpmabnmakdoaa
