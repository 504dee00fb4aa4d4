/- A frame exchange in plain words. -/
import Derived.Test.YtiiabaklipmbbaaDoorVE
namespace Go.Proofs.YtiiabaklipmbbaaDoor
open Go Go.RowKit Go.Proofs.YtiiabaklipmbbaaDoor.Vc
structure Xc where
  p : Int
  q : Int
  lim : Int
  d : Int → Nat → Int
  m : Int
  rts : Int
  cts : Int
  ack : Int
  bar : Int
  back : Int
/-- parts ahead of the data; parts for each data frame; parts behind -/
def exB (x : Xc) : Int := if x.p = 1 then 1 else if x.p = 2 then 2 else 0
def exQ (x : Xc) : Int := if x.q = 0 then 2 else 1
def exT (x : Xc) : Int := if x.q = 2 then 2 else 0
def exL (x : Xc) (n : Int) : Int := exB x + n * exQ x + exT x
/-- a data frame's number, of a part between -/
def exI (x : Xc) (k : Int) : Int := if x.q = 0 then (k - exB x) / 2 else k - exB x
def exK (x : Xc) (n k : Int) : Int :=
  if k < exB x then (if x.p = 1 then 3 else if k = 0 then 1 else 2)
  else if k < exB x + n * exQ x then (if x.q = 0 ∧ (k - exB x) % 2 = 1 then 5 else 4)
  else if k = exB x + n * exQ x then 6 else 7
def exX (x : Xc) (n k : Int) : Int := if exK x n k = 4 ∨ exK x n k = 5 then exI x k else 0
def exP (x : Xc) (n k : Int) : Int := if exK x n k = 2 ∨ exK x n k = 5 ∨ exK x n k = 7 then 1 else 0
def exA (x : Xc) (n k : Int) : Int :=
  if exK x n k = 1 then x.rts else if exK x n k = 2 ∨ exK x n k = 3 then x.cts else if exK x n k = 4 then x.d (exI x k) 0 else if exK x n k = 5 then x.ack else if exK x n k = 6 then x.bar else x.back
def exSN (x : Xc) (n : Int) : Nat → Int
  | 0 => 0
  | k + 1 => exSN x n k + exA x n k + 16
/-- where part k starts -/
def exS (x : Xc) (n k : Int) : Int := exSN x n k.toNat
theorem exS_zero (x : Xc) (n : Int) : exS x n 0 = 0 := rfl
theorem exS_succ (x : Xc) (n k : Int) (h : 0 ≤ k) : exS x n (k + 1) = exS x n k + exA x n k + 16 := by
  unfold exS
  rw [show (k + 1).toNat = k.toNat + 1 by omega]
  simp only [exSN]
  rw [Int.toNat_of_nonneg h]
def exE (x : Xc) (n : Int) : Int := exS x n (exL x n) - 16
def exRow (x : Xc) (n : Int) : Int → Nat → Int := fun k f =>
  if f = 0 then exK x n k else if f = 1 then exP x n k else if f = 2 then exX x n k else if f = 3 then exS x n k else if f = 4 then exA x n k else exE x n - exS x n k - exA x n k
def exOk (x : Xc) : Prop := (1 ≤ x.m ∧ x.m ≤ 16) ∧ (x.p ≤ 2) ∧ (x.q ≤ 2) ∧ (0 ≤ x.lim ∧ x.lim ≤ 32767) ∧ (1 ≤ x.rts ∧ x.rts ≤ 32767) ∧ (1 ≤ x.cts ∧ x.cts ≤ 32767) ∧ (1 ≤ x.ack ∧ x.ack ≤ 32767) ∧ (1 ≤ x.bar ∧ x.bar ≤ 32767) ∧ (1 ≤ x.back ∧ x.back ≤ 32767) ∧
  ∀ i, 0 ≤ i → i < x.m → 1 ≤ x.d i 0 ∧ x.d i 0 ≤ 32767
/-- the first k parts without their durations, and the end of the last of them -/
structure PR (x : Xc) (n k : Int) (a : Int → Nat → Int) (e : Int) : Prop where
  k0 : 0 ≤ k
  en : e = if k = 0 then 0 else exS x n k - 16
  rows : ∀ j, 0 ≤ j → j < k → a j 0 = exK x n j ∧ a j 1 = exP x n j ∧ a j 2 = exX x n j ∧ a j 3 = exS x n j ∧ a j 4 = exA x n j ∧ a j 5 = 0
def prow (kd pr ix s air : Int) : Int → Nat → Int := setA (setA (setA (setA (setA (setA zA 0 0 kd) 0 1 pr) 0 2 ix) 0 3 s) 0 4 air) 0 5 0
theorem PR_add {x : Xc} {n k e s air kd pr ix e2 : Int} {a : Int → Nat → Int} (h : PR x n k a e) (hs : s = if k = 0 then 0 else e + 16) (hk : kd = exK x n k) (hp : pr = exP x n k) (hi : ix = exX x n k) (ha : air = exA x n k) (he : e2 = s + air) :
    PR x n (k + 1) (appA a k (prow kd pr ix s air)) e2 := by
  have k0 := h.k0
  have en := h.en
  have hsk : s = exS x n k := by
    rw [hs]
    split
    · rename_i h0; rw [h0, exS_zero]
    · rename_i h0; rw [en, if_neg h0]; omega
  refine ⟨by omega, ?_, fun j j0 j1 => ?_⟩
  · rw [if_neg (by omega), exS_succ x n k k0, he, hsk, ha]; omega
  · by_cases hj : j < k
    · have := h.rows j j0 hj
      simp only [appA, if_pos hj]
      exact this
    · have e : j = k := by omega
      subst e
      simp only [appA, prow, setA, Int.lt_irrefl, if_false, Int.sub_self]
      simp [hk, hp, hi, ha, hsk]
theorem PR_nil (x : Xc) (n : Int) : PR x n 0 zA 0 := ⟨by omega, by simp, fun j h0 h1 => by omega⟩
theorem PR_one {x : Xc} {n s air kd pr ix e2 : Int} (hs : s = 0) (hk : kd = exK x n 0) (hp : pr = exP x n 0) (hi : ix = exX x n 0) (ha : air = exA x n 0) (he : e2 = air) : PR x n 1 (prow kd pr ix s air) e2 := by
  have h := PR_add (PR_nil x n) (s := s) (by simpa using hs) hk hp hi ha (e2 := e2) (by omega)
  refine ⟨by omega, h.en, fun j j0 j1 => ?_⟩
  have := h.rows j j0 j1
  have e : j = 0 := by omega
  subst e
  simpa [appA] using this
theorem exB_bd (x : Xc) : 0 ≤ exB x ∧ exB x ≤ 2 := by unfold exB; grind
theorem ex_data (x : Xc) (n i : Int) (h0 : 0 ≤ i) (h1 : i < n) : 4 = exK x n (exB x + i * exQ x) ∧ 0 = exP x n (exB x + i * exQ x) ∧ i = exX x n (exB x + i * exQ x) ∧ x.d i 0 = exA x n (exB x + i * exQ x) := by
  have hB := exB_bd x
  have hK : exK x n (exB x + i * exQ x) = 4 := by
    unfold exK exQ
    generalize exB x = b at *
    split <;> grind
  have hI : exI x (exB x + i * exQ x) = i := by
    unfold exI exQ
    generalize exB x = b at *
    split <;> omega
  unfold exP exX exA
  rw [hK, hI]
  simp
theorem ex_ack (x : Xc) (n i : Int) (hq : x.q = 0) (h0 : 0 ≤ i) (h1 : i < n) : 5 = exK x n (exB x + i * exQ x + 1) ∧ 1 = exP x n (exB x + i * exQ x + 1) ∧ i = exX x n (exB x + i * exQ x + 1) ∧ x.ack = exA x n (exB x + i * exQ x + 1) := by
  have hB := exB_bd x
  have hK : exK x n (exB x + i * exQ x + 1) = 5 := by
    unfold exK exQ
    generalize exB x = b at *
    simp only [hq, if_true]
    grind
  have hI : exI x (exB x + i * exQ x + 1) = i := by
    unfold exI exQ
    generalize exB x = b at *
    simp only [hq, if_true]
    omega
  unfold exP exX exA
  rw [hK, hI]
  simp
theorem ex_tail (x : Xc) (n : Int) (hq : x.q = 2) (hn : 1 ≤ n) : (6 = exK x n (exB x + n * exQ x) ∧ 0 = exP x n (exB x + n * exQ x) ∧ 0 = exX x n (exB x + n * exQ x) ∧ x.bar = exA x n (exB x + n * exQ x)) ∧
    (7 = exK x n (exB x + n * exQ x + 1) ∧ 1 = exP x n (exB x + n * exQ x + 1) ∧ 0 = exX x n (exB x + n * exQ x + 1) ∧ x.back = exA x n (exB x + n * exQ x + 1)) := by
  have hB := exB_bd x
  have hQ : exQ x = 1 := by unfold exQ; rw [if_neg (by omega)]
  rw [hQ]
  have hK : exK x n (exB x + n * 1) = 6 := by unfold exK; rw [hQ]; grind
  have hK2 : exK x n (exB x + n * 1 + 1) = 7 := by unfold exK; rw [hQ]; grind
  unfold exP exX exA
  rw [hK, hK2]
  simp
theorem ex_self (x : Xc) (n : Int) (hp : x.p = 1) : 3 = exK x n 0 ∧ 0 = exP x n 0 ∧ 0 = exX x n 0 ∧ x.cts = exA x n 0 := by
  have hK : exK x n 0 = 3 := by unfold exK exB; simp [hp]
  unfold exP exX exA
  rw [hK]
  simp
theorem ex_ask (x : Xc) (n : Int) (hp : x.p = 2) : (1 = exK x n 0 ∧ 0 = exP x n 0 ∧ 0 = exX x n 0 ∧ x.rts = exA x n 0) ∧ (2 = exK x n 1 ∧ 1 = exP x n 1 ∧ 0 = exX x n 1 ∧ x.cts = exA x n 1) := by
  have hK : exK x n 0 = 1 := by unfold exK exB; simp [hp]
  have hK2 : exK x n 1 = 2 := by unfold exK exB; simp [hp]
  unfold exP exX exA
  rw [hK, hK2]
  simp
theorem exA_bd (x : Xc) (h : exOk x) (n k : Int) (hn : n ≤ x.m) (h0 : 0 ≤ k) (h1 : k < exL x n) : 1 ≤ exA x n k ∧ exA x n k ≤ 32767 := by
  obtain ⟨_, _, _, _, a1, a2, a3, a4, a5, a6⟩ := h
  have hB := exB_bd x
  have hk4 : exK x n k = 4 → 0 ≤ exI x k ∧ exI x k < n := by
    unfold exK exI exQ
    unfold exL exQ at h1
    generalize exB x = b at *
    intro hh
    by_cases hq : x.q = 0
    · simp only [hq, if_true, true_and] at hh ⊢
      grind
    · simp only [hq, if_false, false_and] at hh ⊢
      grind
  have := a6 (exI x k)
  unfold exA
  grind
theorem exS_bd (x : Xc) (h : exOk x) (n : Int) (hn : n ≤ x.m) : ∀ k : Nat, (k : Int) ≤ exL x n → 17 * (k : Int) ≤ exS x n k ∧ exS x n k ≤ 32783 * (k : Int)
  | 0, _ => by
    have e : ((0 : Nat) : Int) = 0 := rfl
    rw [e, exS_zero]; omega
  | k + 1, hk => by
    have ih := exS_bd x h n hn k (by omega)
    have ha := exA_bd x h n k hn (by omega) (by omega)
    have e : ((k + 1 : Nat) : Int) = (k : Int) + 1 := by omega
    rw [e, exS_succ x n k (by omega)]
    omega
theorem exL_bd (x : Xc) (h : exOk x) (n : Int) (h1 : 1 ≤ n) (hn : n ≤ x.m) : 1 ≤ exL x n ∧ exL x n ≤ 36 := by
  have hB := exB_bd x
  have := h.1
  unfold exL exQ exT
  generalize exB x = b at *
  split <;> split <;> omega
/-- a data frame, and its acknowledgement -/
theorem seq_data {x : Xc} {n k e i s e1 : Int} {a : Int → Nat → Int} (h : PR x n k a e) (hk : k = exB x + i * exQ x) (i0 : 0 ≤ i) (i1 : i < n) (hs : s = if k = 0 then 0 else e + 16) (he : e1 = s + x.d i 0) : PR x n (k + 1) (appA a k (prow 4 0 i s (x.d i 0))) e1 := by
  obtain ⟨h1, h2, h3, h4⟩ := ex_data x n i i0 i1
  rw [← hk] at h1 h2 h3 h4
  exact PR_add h hs h1 h2 h3 h4 he
theorem seq_ack {x : Xc} {n k e i s e1 : Int} {a : Int → Nat → Int} (h : PR x n (k + 1) a e) (hk : k = exB x + i * exQ x) (hq : x.q = 0) (i0 : 0 ≤ i) (i1 : i < n) (hs : s = e + 16) (he : e1 = s + x.ack) : PR x n (k + 1 + 1) (appA a (k + 1) (prow 5 1 i s x.ack)) e1 := by
  obtain ⟨h1, h2, h3, h4⟩ := ex_ack x n i hq i0 i1
  rw [← hk] at h1 h2 h3 h4
  have hB := exB_bd x
  have hQ : exQ x = 2 := by unfold exQ; rw [if_pos hq]
  exact PR_add h (by rw [if_neg (by rw [hk, hQ]; omega)]; exact hs) h1 h2 h3 h4 he
theorem seq_tail {x : Xc} {n k e s e1 s2 e2 : Int} {a : Int → Nat → Int} (h : PR x n k a e) (hk : k = exB x + n * exQ x) (hq : x.q = 2) (hn : 1 ≤ n) (hs : s = if k = 0 then 0 else e + 16) (he : e1 = s + x.bar) (hs2 : s2 = e1 + 16) (he2 : e2 = s2 + x.back) :
    PR x n (k + 1 + 1) (appA (appA a k (prow 6 0 0 s x.bar)) (k + 1) (prow 7 1 0 s2 x.back)) e2 := by
  obtain ⟨⟨h1, h2, h3, h4⟩, h5, h6, h7, h8⟩ := ex_tail x n hq hn
  rw [← hk] at h1 h2 h3 h4 h5 h6 h7 h8
  have hB := exB_bd x
  have hQ : exQ x = 1 := by unfold exQ; rw [if_neg (by omega)]
  exact PR_add (PR_add h hs h1 h2 h3 h4 he) (by rw [if_neg (by rw [hk, hQ]; omega)]; exact hs2) h5 h6 h7 h8 he2
/-- the first j durations are in -/
structure DR (x : Xc) (n : Int) (a : Int → Nat → Int) (j : Int) : Prop where
  j0 : 0 ≤ j
  j1 : j ≤ exL x n
  done : ∀ i (f : Nat), 0 ≤ i → i < j → f < 6 → a i f = exRow x n i f
  rest : ∀ i, j ≤ i → i < exL x n → a i 0 = exK x n i ∧ a i 1 = exP x n i ∧ a i 2 = exX x n i ∧ a i 3 = exS x n i ∧ a i 4 = exA x n i ∧ a i 5 = 0
theorem DR_start {x : Xc} {n k e : Int} {a : Int → Nat → Int} (h : PR x n k a e) (hk : k = exL x n) (hn : 1 ≤ exL x n) : DR x n a 0 ∧ e = exE x n := by
  subst hk
  refine ⟨⟨by omega, by omega, fun i f h0 h1 => by omega, fun i h0 h1 => h.rows i h0 h1⟩, ?_⟩
  have := h.en
  rw [if_neg (by omega)] at this
  exact this
theorem DR_step {x : Xc} {n j v : Int} {a : Int → Nat → Int} (h : DR x n a j) (hj : j < exL x n) (hv : v = exE x n - exS x n j - exA x n j) : DR x n (setA a j 5 v) (j + 1) := by
  have h0 := h.j0
  refine ⟨by omega, by omega, fun i f i0 i1 hf => ?_, fun i i0 i1 => ?_⟩
  · by_cases hi : i < j
    · have := h.done i f i0 hi hf
      unfold setA
      rw [if_neg (by omega)]
      exact this
    · have e : i = j := by omega
      subst e
      obtain ⟨r0, r1, r2, r3, r4, r5⟩ := h.rest i (by omega) hj
      unfold setA exRow
      have : f = 0 ∨ f = 1 ∨ f = 2 ∨ f = 3 ∨ f = 4 ∨ f = 5 := by omega
      rcases this with rfl | rfl | rfl | rfl | rfl | rfl <;> simp [r0, r1, r2, r3, r4, hv]
  · have := h.rest i (by omega) i1
    have e : ∀ f : Nat, setA a j 5 v i f = a i f := fun f => by unfold setA; rw [if_neg (by omega)]
    rw [e, e, e, e, e, e]
    exact this
theorem PR_end {x : Xc} {n k e : Int} {a : Int → Nat → Int} (h : PR x n k a e) (hk : 0 < k) : a (k - 1) 3 + a (k - 1) 4 = e := by
  have h1 := h.en
  rw [if_neg (by omega)] at h1
  obtain ⟨_, _, _, r3, r4, _⟩ := h.rows (k - 1) (by omega) (by omega)
  have h2 := exS_succ x n (k - 1) (by omega)
  rw [show k - 1 + 1 = k by omega] at h2
  rw [r3, r4]
  omega
/-- lists' lengths, comparisons, counts -/
def lnN (a : Int → Nat → Int) : Nat → Int
  | 0 => 0
  | k + 1 => max (lnN a k) (a k 3 + a k 4)
def lnA (a : Int → Nat → Int) (n : Int) : Int := lnN a n.toNat
theorem lnA_succ (a : Int → Nat → Int) (k : Int) (h : 0 ≤ k) : lnA a (k + 1) = max (lnA a k) (a k 3 + a k 4) := by
  unfold lnA
  rw [show (k + 1).toNat = k.toNat + 1 by omega]
  simp only [lnN]
  rw [Int.toNat_of_nonneg h]
def lnP (a : Int → Nat → Int) (n : Int) : Prop := ∀ j, 0 ≤ j → j < n → 0 ≤ a j 3 ∧ a j 3 ≤ 100000000 ∧ 0 ≤ a j 4 ∧ a j 4 ≤ 100000000
def ctN (a : Int → Nat → Int) (c : Int) : Nat → Int
  | 0 => 0
  | k + 1 => ctN a c k + (if a k 0 = c then 1 else 0)
def ctA (a : Int → Nat → Int) (n c : Int) : Int := ctN a c n.toNat
theorem ctA_succ (a : Int → Nat → Int) (c k : Int) (h : 0 ≤ k) : ctA a (k + 1) c = ctA a k c + (if a k 0 = c then 1 else 0) := by
  unfold ctA
  rw [show (k + 1).toNat = k.toNat + 1 by omega]
  simp only [ctN]
  rw [Int.toNat_of_nonneg h]
open Classical in
noncomputable def smP (a : Int → Nat → Int) (n : Int) (b : Int → Nat → Int) (m : Int) : Bool := decide (n = m ∧ ∀ i, 0 ≤ i → i < n → a i 0 = b i 0 ∧ (a i 1 = 0 ↔ b i 1 = 0) ∧ a i 2 = b i 2 ∧ a i 3 = b i 3 ∧ a i 4 = b i 4 ∧ a i 5 = b i 5)
open Classical in
noncomputable def smZ (a : Int → Nat → Int) (n : Int) (b : Int → Nat → Int) (m : Int) : Bool := decide (n = m ∧ ∀ i, 0 ≤ i → i < n → a i 0 = b i 0)
/-! the plan -/
open Classical in
noncomputable def exV (x : Xc) : Bool := decide ((x.p ≤ 2 ∧ x.q ≤ 2) ∧ (0 ≤ x.lim ∧ x.lim ≤ 32767) ∧ (1 ≤ x.m ∧ x.m ≤ 16) ∧ (1 ≤ x.rts ∧ x.rts ≤ 32767) ∧ (1 ≤ x.cts ∧ x.cts ≤ 32767) ∧ (1 ≤ x.ack ∧ x.ack ≤ 32767) ∧ (1 ≤ x.bar ∧ x.bar ≤ 32767) ∧ (1 ≤ x.back ∧ x.back ≤ 32767) ∧ ∀ i, 0 ≤ i → i < x.m → 1 ≤ x.d i 0 ∧ x.d i 0 ≤ 32767)
/-- the number of data frames, from n on -/
def plF (x : Xc) (n : Int) : Nat → Int
  | 0 => n
  | f + 1 => if n < x.m ∧ exE x (n + 1) ≤ x.lim then plF x (n + 1) f else n
def plN (x : Xc) : Int := plF x 1 16
noncomputable def plE (x : Xc) : Int := if exV x = true then (if exRow x (plN x) 0 5 > 32767 then 4 else 0) else 2
noncomputable def plL (x : Xc) : Int := if plE x = 0 then exL x (plN x) else 0
/-! more data frames: the parts ahead stay, and it gets longer -/
theorem exK_pre (x : Xc) (n n' j : Int) (h0 : 0 ≤ n) (hj : j < exB x + n * exQ x) (hn : n ≤ n') : exK x n' j = exK x n j := by
  have hQ : exQ x = 1 ∨ exQ x = 2 := by unfold exQ; split <;> simp
  have hj2 : j < exB x + n' * exQ x := by rcases hQ with h | h <;> rw [h] at hj ⊢ <;> omega
  unfold exK
  rw [if_pos hj, if_pos hj2]
theorem exA_pre (x : Xc) (n n' j : Int) (h0 : 0 ≤ n) (hj : j < exB x + n * exQ x) (hn : n ≤ n') : exA x n' j = exA x n j := by
  unfold exA
  rw [exK_pre x n n' j h0 hj hn]
theorem exS_pre (x : Xc) (n n' : Int) (h0 : 0 ≤ n) (hn : n ≤ n') : ∀ k : Nat, (k : Int) ≤ exB x + n * exQ x → exS x n' k = exS x n k
  | 0, _ => rfl
  | k + 1, hk => by
    have ih := exS_pre x n n' h0 hn k (by omega)
    have e : ((k + 1 : Nat) : Int) = (k : Int) + 1 := by omega
    rw [e, exS_succ x n' k (by omega), exS_succ x n k (by omega), ih, exA_pre x n n' k h0 (by omega) hn]
theorem exE_mono (x : Xc) (hx : exOk x) (n : Int) (h1 : 1 ≤ n) (hn : n + 1 ≤ x.m) : exE x n + 17 ≤ exE x (n + 1) := by
  have hB := exB_bd x
  have hQ : exQ x = 1 ∨ exQ x = 2 := by unfold exQ; split <;> simp
  have Q2 : exQ x = 2 → x.q = 0 := fun h => by unfold exQ at h; split at h <;> omega
  have hk0 : 0 ≤ exB x + n * exQ x := by rcases hQ with h | h <;> rw [h] <;> omega
  have hS := exS_pre x n (n + 1) (by omega) (by omega) (exB x + n * exQ x).toNat (by omega)
  rw [Int.toNat_of_nonneg hk0] at hS
  obtain ⟨d1, d2, d3, d4⟩ := ex_data x (n + 1) n (by omega) (by omega)
  have hd := hx.2.2.2.2.2.2.2.2.2 n (by omega) (by omega)
  have s1 := exS_succ x (n + 1) (exB x + n * exQ x) hk0
  rw [← d4, hS] at s1
  have hmul : (n + 1) * exQ x = n * exQ x + exQ x := by rw [Int.add_mul, Int.one_mul]
  rcases hQ with h | h
  · by_cases hq : x.q = 2
    · obtain ⟨⟨_, _, _, t4⟩, _, _, _, t8⟩ := ex_tail x n hq h1
      obtain ⟨⟨_, _, _, u4⟩, _, _, _, u8⟩ := ex_tail x (n + 1) hq (by omega)
      have L1 : exL x n = exB x + n * exQ x + 1 + 1 := by unfold exL exT; rw [if_pos hq]; omega
      have L2 : exL x (n + 1) = exB x + (n + 1) * exQ x + 1 + 1 := by unfold exL exT; rw [if_pos hq]; omega
      have a1 := exS_succ x n (exB x + n * exQ x) hk0
      have a2 := exS_succ x n (exB x + n * exQ x + 1) (by omega)
      have a3 := exS_succ x (n + 1) (exB x + (n + 1) * exQ x) (by omega)
      have a4 := exS_succ x (n + 1) (exB x + (n + 1) * exQ x + 1) (by omega)
      rw [← t4] at a1
      rw [← t8] at a2
      rw [← u4] at a3
      rw [← u8] at a4
      unfold exE
      rw [L1, L2, a2, a1, a4, a3]
      rw [show exB x + (n + 1) * exQ x = exB x + n * exQ x + 1 by omega, s1]
      omega
    · have L1 : exL x n = exB x + n * exQ x := by unfold exL exT; rw [if_neg hq]; omega
      have L2 : exL x (n + 1) = exB x + n * exQ x + 1 := by unfold exL exT; rw [if_neg hq]; omega
      unfold exE
      rw [L1, L2, s1]
      omega
  · have hq := Q2 h
    have L1 : exL x n = exB x + n * exQ x := by unfold exL exT; rw [if_neg (by omega)]; omega
    have L2 : exL x (n + 1) = exB x + n * exQ x + 1 + 1 := by unfold exL exT; rw [if_neg (by omega)]; omega
    obtain ⟨_, _, _, c4⟩ := ex_ack x (n + 1) n hq (by omega) (by omega)
    have s2 := exS_succ x (n + 1) (exB x + n * exQ x + 1) (by omega)
    rw [← c4, s1] at s2
    have hack := hx.2.2.2.2.2.2.1
    unfold exE
    rw [L1, L2, s2]
    omega
theorem ln_row (x : Xc) (hx : exOk x) (n : Int) (hn : n ≤ x.m) : ∀ k : Nat, ((k : Int) + 1) ≤ exL x n → lnA (exRow x n) ((k : Int) + 1) = exS x n ((k : Int) + 1) - 16
  | 0, h => by
    have := exA_bd x hx n 0 hn (by omega) (by omega)
    have e : ((0 : Nat) : Int) = 0 := rfl
    rw [e, lnA_succ _ _ (by omega), exS_succ x n 0 (by omega), exS_zero]
    show max (lnA (exRow x n) 0) (exS x n 0 + exA x n 0) = _
    rw [exS_zero]
    show max 0 _ = _
    omega
  | k + 1, h => by
    have ih := ln_row x hx n hn k (by omega)
    have ha := exA_bd x hx n ((k : Int) + 1) hn (by omega) (by omega)
    have e : ((k + 1 : Nat) : Int) = (k : Int) + 1 := by omega
    rw [e, lnA_succ _ _ (by omega), ih, exS_succ x n ((k : Int) + 1) (by omega)]
    show max _ (exS x n ((k : Int) + 1) + exA x n ((k : Int) + 1)) = _
    omega
theorem ln_len (x : Xc) (hx : exOk x) (n : Int) (h1 : 1 ≤ n) (hn : n ≤ x.m) : lnA (exRow x n) (exL x n) = exE x n := by
  have hl := exL_bd x hx n h1 hn
  have := ln_row x hx n hn (exL x n - 1).toNat (by omega)
  rw [show (((exL x n - 1).toNat : Nat) : Int) + 1 = exL x n by omega] at this
  exact this
theorem ln_pre (x : Xc) (hx : exOk x) (n : Int) (h1 : 1 ≤ n) (hn : n ≤ x.m) : lnP (exRow x n) (exL x n) := fun j j0 j1 => by
  have hl := exL_bd x hx n h1 hn
  have ha := exA_bd x hx n j hn j0 j1
  have hb := exS_bd x hx n hn j.toNat (by omega)
  rw [Int.toNat_of_nonneg j0] at hb
  show 0 ≤ exS x n j ∧ exS x n j ≤ 100000000 ∧ 0 ≤ exA x n j ∧ exA x n j ≤ 100000000
  omega
theorem exE_pos (x : Xc) (hx : exOk x) (n : Int) (h1 : 1 ≤ n) (hn : n ≤ x.m) : 1 ≤ exE x n := by
  have hl := exL_bd x hx n h1 hn
  have hb := exS_bd x hx n hn (exL x n).toNat (by omega)
  rw [Int.toNat_of_nonneg (by omega)] at hb
  unfold exE
  omega
theorem exE_le (x : Xc) (hx : exOk x) (n : Int) (h1 : 1 ≤ n) : ∀ d : Nat, n + d ≤ x.m → exE x n ≤ exE x (n + d)
  | 0, _ => by simp
  | d + 1, h => by
    have ih := exE_le x hx n h1 d (by omega)
    have := exE_mono x hx (n + d) (by omega) (by omega)
    have e : n + ((d + 1 : Nat) : Int) = n + d + 1 := by omega
    rw [e]
    omega
/-- what the plan's number is -/
theorem plF_spec (x : Xc) : ∀ (f : Nat) (n : Int), n ≤ x.m → x.m - n ≤ f → n ≤ plF x n f ∧ plF x n f ≤ x.m ∧ (plF x n f < x.m → x.lim < exE x (plF x n f + 1)) ∧ (∀ j, n < j → j ≤ plF x n f → exE x j ≤ x.lim)
  | 0, n, h1, h2 => by
    simp only [plF]
    exact ⟨by omega, by omega, fun h => by omega, fun j a b => by omega⟩
  | f + 1, n, h1, h2 => by
    simp only [plF]
    split
    · rename_i hc
      obtain ⟨a, b, c, d⟩ := plF_spec x f (n + 1) (by omega) (by omega)
      refine ⟨by omega, b, c, fun j j0 j1 => ?_⟩
      by_cases hj : j = n + 1
      · rw [hj]; exact hc.2
      · exact d j (by omega) j1
    · rename_i hc
      refine ⟨by omega, h1, fun h => ?_, fun j a b => by omega⟩
      have : ¬ exE x (n + 1) ≤ x.lim := fun h' => hc ⟨h, h'⟩
      omega
end Go.Proofs.YtiiabaklipmbbaaDoor
