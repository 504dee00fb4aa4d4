/- Contests in plain words: the end of a slot, and who may begin. -/
import Derived.Test.YtkagcjibneigdaaDoorE2
namespace Go.Proofs.YtkagcjibneigdaaDoor
open Go Go.RowKit Go.Proofs.YtkagcjibneigdaaDoor.Vc
theorem sd_iff {a : Int → Nat → Int} {t i : Int} : sdB a t i = true ↔ a i 7 ≤ t ∧ t < a i 8 := by unfold sdB; simp
theorem sd_no {a : Int → Nat → Int} {t i : Int} (t0 : 0 ≤ t) (h : a i 8 = 0) : sdB a t i = false := by unfold sdB; exact decide_eq_false (by omega)
theorem ans_req {c : Int → Nat → Int} {f : Int → Int → Nat → Int} {n : Int} {ask : Bool} {t i : Int} (h : ansB c f n ask t i = true) : ask = true ∧ c i 7 = t ∧ sdB c t i = true ∧ dsB c f n t i = false ∧ c (c i 6) 11 ≤ t := by
  unfold ansB rqB at h
  simp only [Bool.and_eq_true, Bool.not_eq_true', decide_eq_true_eq, decide_eq_false_iff_not] at h
  exact ⟨h.2.2.1.1, h.2.2.1.2, h.1, h.2.1, by omega⟩
theorem beg_hi {a : Int → Nat → Int} {f : Int → Int → Nat → Int} {n : Int} {ask : Bool} {t i : Int} {r : Nat → Int} (h : Beg a f n ask t i r) : (∀ g, 4 ≤ g → r g = a i g) ∨ (Free a f n t i ∧ a i 2 ≤ 0 ∧ Snd (a i) r ask t) := by
  cases h with
  | same h => exact .inl fun g _ => h g
  | step _ _ h => exact .inl h
  | send h p s => exact .inr ⟨h, p, s⟩
/-- undisturbed -/
theorem ds_no {a : Int → Nat → Int} {f : Int → Int → Nat → Int} {n t i : Int} (h : dsB a f n t i = false) : f (a i 6) i 0 ≠ 0 ∧ sdB a t (a i 6) = false ∧ ∀ k, 0 ≤ k → k < n → k ≠ i → f (a i 6) k 0 ≠ 0 → sdB a t k = false := by
  unfold dsB hrB at h
  simp only [Bool.or_eq_false_iff, Bool.not_eq_false'] at h
  refine ⟨fun hh => by rw [hh] at h; simp at h, h.2.1, fun k k0 k1 hk hf => ?_⟩
  have := allI_at h.2.2 k0 k1
  unfold dsN hrB at this
  cases hs : sdB a t k with
  | false => rfl
  | true => rw [hs] at this; simp [hk, hf] at this
theorem ds_of {a : Int → Nat → Int} {f : Int → Int → Nat → Int} {n t i : Int} (h1 : f (a i 6) i 0 ≠ 0) (h2 : sdB a t (a i 6) = false) (h3 : ∀ k, 0 ≤ k → k < n → k ≠ i → f (a i 6) k 0 ≠ 0 → sdB a t k = false) : dsB a f n t i = false := by
  unfold dsB hrB
  have : allI (dsN a f t i) n = true := allI_of fun k k0 k1 => by
    unfold dsN hrB
    by_cases hk : k = i
    · simp [hk]
    · by_cases hf : f (a i 6) k 0 = 0
      · simp [hf]
      · simp [h3 k k0 k1 hk hf]
  rw [this, h2]
  simp [h1]
/-- the rows while the stations before w have ended the slot -/
structure FR (n t w : Int) (x a : Int → Nat → Int) : Prop where
  dn : ∀ q, 0 ≤ q → q < n → q < w → x q 8 = t + 1 → a q 8 = 0 ∧ ∀ g, 5 ≤ g → g ≠ 8 → a q g = x q g
  kp : ∀ q, 0 ≤ q → q < n → (w ≤ q ∨ x q 8 ≠ t + 1) → a q = x q
theorem fr_fin {n t i : Int} {x : Int → Nat → Int} {d : Int → Nat → Int} {m : Int} {s : FS} (i0 : 0 ≤ i) (i1 : i < n) (h : FR n t i x s.a) : FR n t (i + 1) x (finS d m t s i).a := by
  obtain ⟨hd, hk⟩ := h
  have hi := hk i i0 i1 (.inl (Int.le_refl _))
  unfold finS
  split
  · rename_i he
    obtain ⟨f8, fo⟩ := fin_hi (c := s.a) (i := i) (d := drI d m s.u)
    refine ⟨fun q q0 q1 qw hx => ?_, fun q q0 q1 hq => ?_⟩
    · show finA s.a i _ q 8 = 0 ∧ ∀ g, 5 ≤ g → g ≠ 8 → finA s.a i _ q g = x q g
      by_cases hqi : q = i
      · subst hqi
        exact ⟨f8, fun g h5 h8 => by rw [fo g h5 h8, hi]⟩
      · rw [fin_ne hqi]; exact hd q q0 q1 (by omega) hx
    · show finA s.a i _ q = x q
      have hqi : q ≠ i := fun e => by
        subst e
        rcases hq with hq | hq
        · omega
        · rw [hi] at he; exact hq he
      rw [fin_ne hqi]
      exact hk q q0 q1 (by rcases hq with hq | hq; exact .inl (by omega); exact .inr hq)
  · rename_i he
    rw [hi] at he
    refine ⟨fun q q0 q1 qw hx => ?_, fun q q0 q1 hq => ?_⟩
    · have hqi : q ≠ i := fun e => by subst e; exact he hx
      exact hd q q0 q1 (by omega) hx
    · by_cases hqi : q = i
      · subst hqi; exact hi
      · exact hk q q0 q1 (by rcases hq with hq | hq; exact .inl (by omega); exact .inr hq)
/-- a slot's end, for the rows and for what the list tells -/
theorem fin_ind {n t : Int} {d : Int → Nat → Int} {m : Int} {s : FS} (n0 : 0 ≤ n) (P : Int → FS → Prop) (h0 : P 0 s)
    (hs : ∀ i s', 0 ≤ i → i < n → FR n t i s.a s'.a → P i s' → P (i + 1) (finS d m t s' i)) : FR n t n s.a (finN d m t s n.toNat).a ∧ P n (finN d m t s n.toNat) := by
  have := finN_ind (d := d) (m := m) (t := t) (s := s) (fun i s' => FR n t i s.a s'.a ∧ P i s') ⟨⟨fun q q0 q1 qw => by omega, fun q q0 q1 _ => rfl⟩, h0⟩ n.toNat fun i s' hi hp => by
    have h1 := fr_fin (d := d) (m := m) (i := (i : Int)) (by omega) (by omega) hp.1
    have h2 := hs i s' (by omega) (by omega) hp.1 hp.2
    exact ⟨h1, h2⟩
  rw [show ((n.toNat : Nat) : Int) = n by omega] at this
  exact this
end Go.Proofs.YtkagcjibneigdaaDoor
