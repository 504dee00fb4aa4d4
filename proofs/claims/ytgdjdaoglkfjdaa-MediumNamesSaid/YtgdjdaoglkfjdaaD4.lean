/- Transmissions in plain words. -/
import Derived.Test.YtgdjdaoglkfjdaaD3
namespace Go.Proofs.Ytgdjdaoglkfjdaa
open Go Go.RowKit Go.Proofs.Ytgdjdaoglkfjdaa.Vc
def ovl (s1 e1 s2 e2 : Int) : Bool := decide (s1 < e2 ∧ s2 < e1)
def sdR (n : Int) (b : Int → Nat → Int) (i : Int) : Bool := decide (0 ≤ b i 0 ∧ b i 0 < n ∧ 0 ≤ b i 1 ∧ b i 1 < b i 2 ∧ b i 2 ≤ 1099511627776 ∧ -2000 ≤ b i 3 ∧ b i 3 ≤ 2000)
def sdT (b : Int → Nat → Int) (i k : Int) : Bool := decide (b k 0 = b i 0) && ovl (b k 1) (b k 2) (b i 1) (b i 2)
def sdN (b : Int → Nat → Int) (i k : Int) : Bool := !(sdT b i k)
def sdO (n : Int) (b : Int → Nat → Int) (i : Int) : Bool := sdR n b i && allI (sdN b i) i
/-- the error of a world and a list -/
def mcE (a : Int → Nat → Int) (n : Int) (l : Int → Int) (f : Int → Int → Nat → Int) (m : Int) (b : Int → Nat → Int) (k : Int) : Int :=
  if ckW a n l f m = 0 then if k ≤ 64 ∧ allI (sdO n b) k = true then 0 else 8 else ckW a n l f m
def tmO (t : Int → Nat → Int) (i : Int) : Bool := decide (0 ≤ t i 0 ∧ t i 0 ≤ 1099511627776)
def maT (a : Int → Nat → Int) (n : Int) (l : Int → Int) (f : Int → Int → Nat → Int) (m : Int) (b : Int → Nat → Int) (k j : Int) (t : Int → Nat → Int) (h : Int) : Int :=
  if mcE a n l f m b k = 0 then if 0 ≤ j ∧ j < n ∧ allI (tmO t) h = true then 0 else 2 else mcE a n l f m b k
def maE (a : Int → Nat → Int) (n : Int) (l : Int → Int) (f : Int → Int → Nat → Int) (m : Int) (b : Int → Nat → Int) (k j t u : Int) : Int :=
  if mcE a n l f m b k = 0 then if 0 ≤ j ∧ j < n ∧ (0 ≤ t ∧ t ≤ 1099511627776) ∧ 0 ≤ u ∧ u ≤ 1099511627776 then 0 else 2 else mcE a n l f m b k
/-- the transmissions that a node senses -/
def snP (a : Int → Nat → Int) (f : Int → Int → Nat → Int) (m : Int) (b : Int → Nat → Int) (j i : Int) : Bool := hrA a f m j (b i 0) || decide (b i 0 = j)
/-- a part of a list -/
def flA (p : Int → Bool) (b : Int → Nat → Int) : Nat → Int → Nat → Int
  | 0 => zA
  | k + 1 => if p k = true then appA (flA p b k) (cntN p k) (fun i g => b k g) else flA p b k
def snA (a : Int → Nat → Int) (f : Int → Int → Nat → Int) (m : Int) (b : Int → Nat → Int) (k j : Int) : Int → Nat → Int := flA (snP a f m b j) b k.toNat
def snN (a : Int → Nat → Int) (f : Int → Int → Nat → Int) (m : Int) (b : Int → Nat → Int) (k j : Int) : Int := cntI (snP a f m b j) k
def drP (b : Int → Nat → Int) (t i : Int) : Bool := decide (t < b i 2)
def drA (b : Int → Nat → Int) (k t : Int) : Int → Nat → Int := flA (drP b t) b k.toNat
def drN (b : Int → Nat → Int) (k t : Int) : Int := cntI (drP b t) k
def bzN (a : Int → Nat → Int) (f : Int → Int → Nat → Int) (m : Int) (b : Int → Nat → Int) (j x y i : Int) : Bool := !(snP a f m b j i && (decide (b i 1 < y) && decide (x < b i 2)))
/-- busy at some time from x to before y -/
def bzB (a : Int → Nat → Int) (f : Int → Int → Nat → Int) (m : Int) (b : Int → Nat → Int) (k j x y : Int) : Bool := !(allI (bzN a f m b j x y) k)
def buV (a : Int → Nat → Int) (n : Int) (l : Int → Int) (f : Int → Int → Nat → Int) (m : Int) (b : Int → Nat → Int) (k j t : Int) : Bool := decide (maE a n l f m b k j t 0 = 0) && bzB a f m b k j t (t + 1)
/-- the first time from x on before which the medium has been idle for a space -/
structure idT (a : Int → Nat → Int) (f : Int → Int → Nat → Int) (m : Int) (b : Int → Nat → Int) (k j x s t : Int) : Prop where
  ge : x ≤ t
  no : bzB a f m b k j (t - s) t = false
  lt : ∀ u, x ≤ u → u < t → bzB a f m b k j (u - s) u = true
noncomputable def idF (a : Int → Nat → Int) (f : Int → Int → Nat → Int) (m : Int) (b : Int → Nat → Int) (k j x s : Int) : Int := if s = 0 then x else Classical.epsilon (idT a f m b k j x s)
noncomputable def idV (a : Int → Nat → Int) (n : Int) (l : Int → Int) (f : Int → Int → Nat → Int) (m : Int) (b : Int → Nat → Int) (k j x s : Int) : Int := if maE a n l f m b k j x s = 0 then idF a f m b k j x s else 0
theorem idT_eq {a : Int → Nat → Int} {f : Int → Int → Nat → Int} {m : Int} {b : Int → Nat → Int} {k j x s t u : Int} (h1 : idT a f m b k j x s t) (h2 : idT a f m b k j x s u) : t = u := by
  rcases Int.lt_trichotomy t u with h | h | h
  · have := h2.lt t h1.ge h
    rw [h1.no] at this; cases this
  · exact h
  · have := h1.lt u h2.ge h
    rw [h2.no] at this; cases this
theorem idF_eq {a : Int → Nat → Int} {f : Int → Int → Nat → Int} {m : Int} {b : Int → Nat → Int} {k j x s t : Int} (hs : ¬ s = 0) (h : idT a f m b k j x s t) : idF a f m b k j x s = t := by
  unfold idF
  rw [if_neg hs]
  exact idT_eq (Classical.epsilon_spec (p := idT a f m b k j x s) ⟨t, h⟩) h
def sm5 (b c : Int → Nat → Int) (i : Int) : Bool := decide (b i 0 = c i 0 ∧ b i 1 = c i 1 ∧ b i 2 = c i 2 ∧ b i 3 = c i 3)
def smL (b : Int → Nat → Int) (n : Int) (c : Int → Nat → Int) (m : Int) : Bool := decide (n = m) && allI (sm5 b c) n
theorem smL_self {b c : Int → Nat → Int} {n : Int} (h : ∀ i, 0 ≤ i → i < n → ∀ g, g < 4 → b i g = c i g) : smL b n c n = true := by
  unfold smL
  rw [Bool.and_eq_true]
  exact ⟨by simp, allI_of fun i h0 h1 => by unfold sm5; simp [h i h0 h1]⟩
def gr1 (n : Int) (l : Int → Int) (m k : Int) : Bool := grW n l m || decide (80 < k)
end Go.Proofs.Ytgdjdaoglkfjdaa
