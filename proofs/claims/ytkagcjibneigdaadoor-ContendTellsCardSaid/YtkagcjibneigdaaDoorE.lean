/- Contests in plain words: what many slots do to the list of bursts. -/
import Derived.Test.YtkagcjibneigdaaDoorP2
namespace Go.Proofs.YtkagcjibneigdaaDoor
open Go Go.RowKit Go.Proofs.YtkagcjibneigdaaDoor.Vc
theorem finN_ind {d : Int → Nat → Int} {m t : Int} {s : FS} (P : Nat → FS → Prop) (h0 : P 0 s) : ∀ (k : Nat), (∀ (i : Nat) s', i < k → P i s' → P (i + 1) (finS d m t s' i)) → P k (finN d m t s k)
  | 0, _ => h0
  | k + 1, h => h k _ (by omega) (finN_ind P h0 k fun i s' hi hp => h i s' (by omega) hp)
theorem crS_ind {f : Int → Int → Nat → Int} {n : Int} {ask : Bool} {d : Int → Nat → Int} {m : Int} {s : FS} (P : Nat → FS → Prop) (h0 : P 0 s) : ∀ (k : Nat), (∀ (t : Nat) s', t < k → P t s' → P (t + 1) (slotF f n ask d m t s')) → P k (crS f n ask d m s k)
  | 0, _ => h0
  | k + 1, h => h k _ (by omega) (crS_ind P h0 k fun i s' hi hp => h i s' (by omega) hp)
theorem app_lo {a b : Int → Nat → Int} {n j : Int} (h : j < n) : appA a n b j = a j := by
  funext g
  show (if j < n then a j g else b (j - n) g) = a j g
  rw [if_pos h]
theorem app_hi {a b : Int → Nat → Int} {n : Int} (g : Nat) : appA a n b n g = b 0 g := by
  show (if n < n then a n g else b (n - n) g) = b 0 g
  rw [if_neg (by omega), Int.sub_self]
theorem bu_0 (c : Int → Nat → Int) (i : Int) : buA c i 0 0 = i := by simp [buA, setA]
theorem bu_1 (c : Int → Nat → Int) (i : Int) : buA c i 0 1 = c i 7 := by simp [buA, setA]
theorem bu_2 (c : Int → Nat → Int) (i : Int) : buA c i 0 2 = c i 8 := by simp [buA, setA]
theorem bu_3 (c : Int → Nat → Int) (i : Int) : buA c i 0 3 = (if c i 9 = 0 then 0 else 1) := by
  simp only [buA, setA]
  by_cases h : c i 9 = 0 <;> simp [h]
theorem bu_4 (c : Int → Nat → Int) (i : Int) : buA c i 0 4 = (if c i 10 = 0 then 1 else 0) := by
  simp only [buA, setA]
  by_cases h : c i 10 = 0 <;> simp [h]
/-- the list of bursts grows at its end alone, by bursts that end with the slot -/
structure Grown (t k0 : Int) (o0 : Int → Nat → Int) (s : FS) : Prop where
  k : k0 ≤ s.k
  old : ∀ j, j < k0 → s.o j = o0 j
  new : ∀ j, k0 ≤ j → j < s.k → t < s.o j 2
theorem grown_fin {d : Int → Nat → Int} {m t t0 k0 : Int} {o0 : Int → Nat → Int} {s : FS} (ht : t0 ≤ t) (h : Grown t0 k0 o0 s) (i : Int) : Grown t0 k0 o0 (finS d m t s i) := by
  unfold finS
  split
  · rename_i he
    refine ⟨by have := h.k; show k0 ≤ s.k + 1; omega, fun j hj => ?_, fun j h0 h1 => ?_⟩
    · show appA s.o s.k (buA s.a i) j = o0 j
      rw [app_lo (by have := h.k; omega)]; exact h.old j hj
    · show t0 < appA s.o s.k (buA s.a i) j 2
      have h1 : j < s.k + 1 := h1
      by_cases hj : j < s.k
      · rw [app_lo hj]; exact h.new j h0 hj
      · have : j = s.k := by omega
        subst this
        rw [app_hi, bu_2, he]; omega
  · exact h
theorem grown_slot {f : Int → Int → Nat → Int} {n : Int} {ask : Bool} {d : Int → Nat → Int} {m t t0 k0 : Int} {o0 : Int → Nat → Int} {s : FS} (ht : t0 ≤ t) (h : Grown t0 k0 o0 s) : Grown t0 k0 o0 (slotF f n ask d m t s) := by
  show Grown t0 k0 o0 (finN d m t { s with a := airA f n ask t (begN s.a f n ask t n.toNat) } n.toNat)
  exact finN_ind (s := { s with a := airA f n ask t (begN s.a f n ask t n.toNat) }) (fun _ s => Grown t0 k0 o0 s) ⟨h.k, h.old, h.new⟩ n.toNat fun i s' _ hp => grown_fin ht hp i
theorem grown_run {f : Int → Int → Nat → Int} {n : Int} {ask : Bool} {d : Int → Nat → Int} {m : Int} {s : FS} (q : Nat) : ∀ e : Nat, Grown q (crS f n ask d m s q).k (crS f n ask d m s q).o (crS f n ask d m s (q + e))
  | 0 => ⟨Int.le_refl _, fun _ _ => rfl, fun j h0 h1 => by have h1 : j < (crS f n ask d m s q).k := h1; omega⟩
  | e + 1 => grown_slot (t := ((q + e : Nat) : Int)) (by omega) (grown_run q e)
/-- all bursts have ended -/
def Past (t : Int) (s : FS) : Prop := ∀ j, j < s.k → s.o j 2 ≤ t
theorem past_fin {d : Int → Nat → Int} {m t : Int} {s : FS} (h : Past (t + 1) s) (i : Int) : Past (t + 1) (finS d m t s i) := by
  unfold finS
  split
  · rename_i he
    intro j hj
    show appA s.o s.k (buA s.a i) j 2 ≤ t + 1
    have hj : j < s.k + 1 := hj
    by_cases h2 : j < s.k
    · rw [app_lo h2]; exact h j h2
    · have : j = s.k := by omega
      subst this
      rw [app_hi, bu_2, he]; omega
  · exact h
theorem past_run {f : Int → Int → Nat → Int} {n : Int} {ask : Bool} {d : Int → Nat → Int} {m : Int} {b : Int → Nat → Int} (q : Nat) : Past q (crS f n ask d m (st0 b n) q) :=
  crS_ind (fun t s => Past t s) (fun j hj => by show (0 : Int) ≤ 0; omega) q fun t s' _ hp => by
    have : Past ((t : Int) + 1) (slotF f n ask d m t s') := finN_ind (s := { s' with a := airA f n ask t (begN s'.a f n ask t n.toNat) }) (fun _ s => Past ((t : Int) + 1) s) (fun j hj => by have := hp j hj; show s'.o j 2 ≤ _; omega) n.toNat fun i s'' _ h => past_fin h i
    exact this
end Go.Proofs.YtkagcjibneigdaaDoor
