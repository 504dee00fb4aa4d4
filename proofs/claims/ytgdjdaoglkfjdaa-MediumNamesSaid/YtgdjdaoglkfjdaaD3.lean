/- Worlds of radios in plain words: who hears, copies, changes, equality. -/
import Derived.Test.YtgdjdaoglkfjdaaD2
import Derived.Test.YtgdjdaoglkfjdaaVE
namespace Go.Proofs.Ytgdjdaoglkfjdaa
open Go Go.RowKit Go.Proofs.Ytgdjdaoglkfjdaa.Vc
/-- the numbers that p admits, in order: how many, and which -/
def cntN (p : Int → Bool) : Nat → Int
  | 0 => 0
  | k + 1 => if p k = true then cntN p k + 1 else cntN p k
def lstN (p : Int → Bool) : Nat → Int → Nat → Int
  | 0 => zA
  | k + 1 => if p k = true then appA (lstN p k) (cntN p k) (setA zA 0 0 k) else lstN p k
def cntI (p : Int → Bool) (i : Int) : Int := cntN p i.toNat
def lstI (p : Int → Bool) (i : Int) : Int → Nat → Int := lstN p i.toNat
theorem cnt_zero {p : Int → Bool} : cntI p 0 = 0 ∧ lstI p 0 = zA := ⟨rfl, rfl⟩
theorem cnt_succ {p : Int → Bool} {i : Int} (h : 0 ≤ i) : cntI p (i + 1) = (if p i = true then cntI p i + 1 else cntI p i) ∧ lstI p (i + 1) = (if p i = true then appA (lstI p i) (cntI p i) (setA zA 0 0 i) else lstI p i) := by
  unfold cntI lstI
  obtain ⟨k, rfl⟩ := Int.eq_ofNat_of_zero_le h
  rw [show ((k : Int) + 1).toNat = k + 1 by omega, show ((k : Int)).toNat = k by omega]
  exact ⟨rfl, rfl⟩
theorem cntN_bd (p : Int → Bool) : ∀ k : Nat, 0 ≤ cntN p k ∧ cntN p k ≤ k
  | 0 => ⟨Int.le_refl _, Int.le_refl _⟩
  | k + 1 => by
    have := cntN_bd p k
    unfold cntN
    split <;> omega
theorem cntI_bd (p : Int → Bool) {i : Int} (h : 0 ≤ i) : 0 ≤ cntI p i ∧ cntI p i ≤ i := by
  have := cntN_bd p i.toNat
  unfold cntI; omega
def nbF (a : Int → Nat → Int) (n : Int) (f : Int → Int → Nat → Int) (m j : Int) : Int → Nat → Int := lstI (fun i => hrA a f m j i) n
def nbN (a : Int → Nat → Int) (n : Int) (l : Int → Int) (f : Int → Int → Nat → Int) (m j : Int) : Int := if lvE a n l f m j j = 0 then cntI (fun i => hrA a f m j i) n else 0
def saI (a : Int → Nat → Int) (n : Int) (b : Int → Nat → Int) (m : Int) : Bool := decide (n = m) && allI (fun i => decide (a i 0 = b i 0)) n
def sm4 (a b : Int → Nat → Int) (i : Int) : Bool := decide (a i 0 = b i 0 ∧ a i 1 = b i 1 ∧ a i 2 = b i 2 ∧ a i 3 = b i 3)
def smR (l : Int → Int) (f : Int → Int → Nat → Int) (l' : Int → Int) (f' : Int → Int → Nat → Int) (i : Int) : Bool := saI (rowA f i) (l i) (rowA f' i) (l' i)
def smW (a : Int → Nat → Int) (n : Int) (l : Int → Int) (f : Int → Int → Nat → Int) (m : Int) (a' : Int → Nat → Int) (n' : Int) (l' : Int → Int) (f' : Int → Int → Nat → Int) (m' : Int) : Bool :=
  decide (n = n' ∧ m = m') && (allI (sm4 a a') n && allI (smR l f l' f') m)
structure smallW (n : Int) (l : Int → Int) (m : Int) : Prop where
  hn : n ≤ 40
  hm : m ≤ 40
  hl : ∀ i, 0 ≤ i → i < m → 0 ≤ l i ∧ l i ≤ 40
def puA (a : Int → Nat → Int) (i x y p c : Int) : Int → Nat → Int := setA (setA (setA (setA a i 0 x) i 1 y) i 2 p) i 3 c
def puN (ok : Bool) (n : Int) : Int := if ok = true then n else 0
def puE (ok : Bool) : Int := if ok = true then 0 else 2
def mvE (a : Int → Nat → Int) (n : Int) (l : Int → Int) (f : Int → Int → Nat → Int) (m i x y p c : Int) : Int := if lvE a n l f m i i = 0 then puE (okW x y p c) else lvE a n l f m i i
def mvN (a : Int → Nat → Int) (n : Int) (l : Int → Int) (f : Int → Int → Nat → Int) (m i x y p c k : Int) : Int := if mvE a n l f m i x y p c = 0 then k else 0
theorem saI_self {a b : Int → Nat → Int} {n : Int} (h : ∀ i, 0 ≤ i → i < n → a i 0 = b i 0) : saI a n b n = true := by
  unfold saI
  rw [Bool.and_eq_true]
  exact ⟨by simp, allI_of fun i h0 h1 => by simp [h i h0 h1]⟩
theorem saI_refl {a : Int → Nat → Int} {n : Int} : saI a n a n = true := saI_self fun _ _ _ => rfl
theorem smW_self {a : Int → Nat → Int} {n : Int} {l : Int → Int} {f : Int → Int → Nat → Int} {m : Int} {b : Int → Nat → Int} {l' : Int → Int} {f' : Int → Int → Nat → Int}
    (h : ∀ i, 0 ≤ i → i < n → ∀ g, g < 4 → a i g = b i g) (hr : ∀ i, 0 ≤ i → i < m → l i = l' i ∧ ∀ j, 0 ≤ j → j < l i → f i j 0 = f' i j 0) : smW a n l f m b n l' f' m = true := by
  unfold smW
  rw [Bool.and_eq_true, Bool.and_eq_true]
  refine ⟨by simp, allI_of fun i h0 h1 => ?_, allI_of fun i h0 h1 => ?_⟩
  · unfold sm4
    simp [h i h0 h1]
  · unfold smR
    rw [← (hr i h0 h1).1]
    exact saI_self fun j j0 j1 => (hr i h0 h1).2 j j0 j1
theorem smW_refl {a : Int → Nat → Int} {n : Int} {l : Int → Int} {f : Int → Int → Nat → Int} {m : Int} : smW a n l f m a n l f m = true := smW_self (fun _ _ _ _ _ => rfl) fun _ _ _ => ⟨rfl, fun _ _ _ => rfl⟩
theorem sm_nil {a b : Int → Nat → Int} {l l' : Int → Int} {f f' : Int → Int → Nat → Int} : smW a 0 l f 0 b 0 l' f' 0 = true := smW_self (fun i h0 h1 => by omega) fun i h0 h1 => by omega
end Go.Proofs.Ytgdjdaoglkfjdaa
