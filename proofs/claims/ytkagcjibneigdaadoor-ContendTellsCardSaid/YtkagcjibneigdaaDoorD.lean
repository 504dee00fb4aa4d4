/- The backoff in plain words: windows, one event, many events. -/
import Derived.Test.YtkagcjibneigdaaDoorVE
namespace Go.Proofs.YtkagcjibneigdaaDoor
open Go Go.RowKit Go.Proofs.YtkagcjibneigdaaDoor.Vc
def wlo (c : Int) : Int := if c ≤ 1 then 15 else if c = 2 then 7 else 3
def whi (c : Int) : Int := if c ≤ 1 then 1023 else if c = 2 then 15 else 7
def p2 (f : Int) : Int := if f ≤ 0 then 1 else if f = 1 then 2 else if f = 2 then 4 else if f = 3 then 8 else if f = 4 then 16 else if f = 5 then 32 else 64
def aft (c f : Int) : Int := min (whi c) ((wlo c + 1) * p2 f - 1)
def winE (c f : Int) : Int := if c ≤ 3 ∧ 0 ≤ f ∧ f ≤ 6 then 0 else 2
def winW (c f : Int) : Int := if c ≤ 3 ∧ 0 ≤ f ∧ f ≤ 6 then aft c f else 0
def chkE (c w n t : Int) : Int := if c ≤ 3 ∧ 0 ≤ t ∧ t ≤ 6 ∧ w = aft c t ∧ 0 ≤ n ∧ n ≤ w then 0 else 8
def oddA (d : Int) : Bool := decide (d < 0 ∨ 1099511627776 < d)
def fitA (d : Int) : Bool := !(oddA d)
def drN (c f d : Int) : Int := Int.tmod d (aft c f + 1)
def stT (_c _w _n t e _d : Int) : Int := if e = 3 then (if t = 6 then 0 else t + 1) else if e = 2 then 0 else t
def stW (c w n t e d : Int) : Int := if e = 2 ∨ e = 3 then aft c (stT c w n t e d) else w
def stN (c w n t e d : Int) : Int := if e = 2 ∨ e = 3 then drN c (stT c w n t e d) d else if e = 0 then max (n - 1) 0 else n
def stG (_c _w _n t e _d : Int) : Bool := decide (e = 3 ∧ t = 6)
def SE (c w n t e d : Int) : Int := if chkE c w n t = 0 then (if 3 < e ∨ d < 0 ∨ 1099511627776 < d then 2 else if 2 ≤ e ∧ 0 < n then 20 else 0) else 8
def SC (c w n t e d : Int) : Int := if SE c w n t e d = 0 then c else 0
def SW (c w n t e d : Int) : Int := if SE c w n t e d = 0 then stW c w n t e d else 0
def SN (c w n t e d : Int) : Int := if SE c w n t e d = 0 then stN c w n t e d else 0
def SR (c w n t e d : Int) : Int := if SE c w n t e d = 0 then stT c w n t e d else 0
def SG (c w n t e d : Int) : Bool := decide (SE c w n t e d = 0) && stG c w n t e d
def drA (a : Int → Nat → Int) (n i : Int) : Int := if i < n then a i 0 else 0
theorem p2_pow (f : Int) (h0 : 0 ≤ f) (h : f ≤ 6) : (2 : Int) ^ f.toNat = p2 f := by
  have : f = 0 ∨ f = 1 ∨ f = 2 ∨ f = 3 ∨ f = 4 ∨ f = 5 ∨ f = 6 := by omega
  rcases this with rfl | rfl | rfl | rfl | rfl | rfl | rfl <;> decide
theorem p2_succ (f : Int) (h0 : 0 ≤ f) (h : f ≤ 5) : p2 (f + 1) = p2 f * 2 := by
  have : f = 0 ∨ f = 1 ∨ f = 2 ∨ f = 3 ∨ f = 4 ∨ f = 5 := by omega
  rcases this with rfl | rfl | rfl | rfl | rfl | rfl <;> decide
theorem p2_bd (f : Int) : 1 ≤ p2 f ∧ p2 f ≤ 64 := by unfold p2; grind
theorem wlo_bd (c : Int) : wlo c = 15 ∨ wlo c = 7 ∨ wlo c = 3 := by unfold wlo; grind
theorem aft_bd (c f : Int) : 3 ≤ aft c f ∧ aft c f ≤ 1023 := by
  have h := p2_bd f
  unfold aft whi wlo
  generalize p2 f = x at *
  split <;> (try split) <;> omega
theorem drN_bd (c f d : Int) (h : 0 ≤ d) : 0 ≤ drN c f d ∧ drN c f d ≤ aft c f := by
  have h1 := aft_bd c f
  have h2 := Int.tmod_nonneg (aft c f + 1) h
  have h3 := Int.tmod_lt_of_pos d (show 0 < aft c f + 1 by omega)
  unfold drN
  omega
theorem st_chk (c w n t e d : Int) (h : SE c w n t e d = 0) : chkE c (stW c w n t e d) (stN c w n t e d) (stT c w n t e d) = 0 := by
  have h1 : chkE c w n t = 0 := by unfold SE at h; grind
  have h2 : 0 ≤ d := by unfold SE at h; grind
  have h3 := drN_bd c (stT c w n t e d) d h2
  unfold chkE at h1 ⊢
  unfold stW stN
  have h4 : 0 ≤ stT c w n t e d ∧ stT c w n t e d ≤ 6 := by unfold stT; grind
  have h5 : ¬ (e = 2 ∨ e = 3) → stT c w n t e d = t := by unfold stT; grind
  grind
structure RS where
  c : Int
  w : Int
  n : Int
  t : Int
  k : Int
  m : Int
  e : Int
/-- the draw of an event -/
def dw (dr : Int → Nat → Int) (nd k x : Int) : Int := if x = 2 ∨ x = 3 then drA dr nd k else 0
def rsStep (ev : Int → Nat → Int) (dr : Int → Nat → Int) (nd : Int) (s : RS) (i : Int) : RS :=
  if SE s.c s.w s.n s.t (ev i 0) (dw dr nd s.k (ev i 0)) = 0 then
    ⟨SC s.c s.w s.n s.t (ev i 0) (dw dr nd s.k (ev i 0)), SW s.c s.w s.n s.t (ev i 0) (dw dr nd s.k (ev i 0)), SN s.c s.w s.n s.t (ev i 0) (dw dr nd s.k (ev i 0)), SR s.c s.w s.n s.t (ev i 0) (dw dr nd s.k (ev i 0)),
      s.k + (if ev i 0 = 2 ∨ ev i 0 = 3 then 1 else 0), s.m + (if SG s.c s.w s.n s.t (ev i 0) (dw dr nd s.k (ev i 0)) = true then 1 else 0), 0⟩
  else { s with e := SE s.c s.w s.n s.t (ev i 0) (dw dr nd s.k (ev i 0)) }
def rsAt (c w n t : Int) (ev : Int → Nat → Int) (dr : Int → Nat → Int) (nd : Int) : Nat → RS
  | 0 => ⟨c, w, n, t, 0, 0, 0⟩
  | i + 1 => if (rsAt c w n t ev dr nd i).e = 0 then rsStep ev dr nd (rsAt c w n t ev dr nd i) i else rsAt c w n t ev dr nd i
def rsI (c w n t : Int) (ev : Int → Nat → Int) (dr : Int → Nat → Int) (nd i : Int) : RS := rsAt c w n t ev dr nd i.toNat
theorem rsI_zero (c w n t : Int) (ev : Int → Nat → Int) (dr : Int → Nat → Int) (nd : Int) : rsI c w n t ev dr nd 0 = ⟨c, w, n, t, 0, 0, 0⟩ := rfl
theorem rsI_succ (c w n t : Int) (ev : Int → Nat → Int) (dr : Int → Nat → Int) (nd i : Int) (h : 0 ≤ i) : rsI c w n t ev dr nd (i + 1) = if (rsI c w n t ev dr nd i).e = 0 then rsStep ev dr nd (rsI c w n t ev dr nd i) i else rsI c w n t ev dr nd i := by
  unfold rsI
  have e : (i + 1).toNat = i.toNat + 1 := by omega
  rw [e]
  simp only [rsAt]
  rw [Int.toNat_of_nonneg h]
theorem rsAt_stick (c w n t : Int) (ev : Int → Nat → Int) (dr : Int → Nat → Int) (nd : Int) (i : Nat) (h : (rsAt c w n t ev dr nd i).e ≠ 0) : ∀ d, rsAt c w n t ev dr nd (i + d) = rsAt c w n t ev dr nd i
  | 0 => rfl
  | d + 1 => by
    have ih := rsAt_stick c w n t ev dr nd i h d
    rw [← Nat.add_assoc]
    simp only [rsAt, ih, if_neg h]
theorem rsI_stick (c w n t : Int) (ev : Int → Nat → Int) (dr : Int → Nat → Int) (nd i j : Int) (h0 : 0 ≤ i) (hij : i ≤ j) (h : (rsI c w n t ev dr nd i).e ≠ 0) : rsI c w n t ev dr nd j = rsI c w n t ev dr nd i := by
  have := rsAt_stick c w n t ev dr nd i.toNat h (j.toNat - i.toNat)
  rw [show i.toNat + (j.toNat - i.toNat) = j.toNat by omega] at this
  exact this
/-- one more event that goes well -/
theorem rsI_ok (c w n t : Int) (ev : Int → Nat → Int) (dr : Int → Nat → Int) (nd i : Int) (h : 0 ≤ i) {c1 w1 n1 t1 k1 m1 : Int} (hi : rsI c w n t ev dr nd i = ⟨c1, w1, n1, t1, k1, m1, 0⟩) {d : Int} (hd : d = dw dr nd k1 (ev i 0)) (he : SE c1 w1 n1 t1 (ev i 0) d = 0) :
    rsI c w n t ev dr nd (i + 1) = ⟨SC c1 w1 n1 t1 (ev i 0) d, SW c1 w1 n1 t1 (ev i 0) d, SN c1 w1 n1 t1 (ev i 0) d, SR c1 w1 n1 t1 (ev i 0) d, k1 + (if ev i 0 = 2 ∨ ev i 0 = 3 then 1 else 0), m1 + (if SG c1 w1 n1 t1 (ev i 0) d = true then 1 else 0), 0⟩ := by
  subst hd
  rw [rsI_succ _ _ _ _ _ _ _ _ h, hi]
  simp only [rsStep, he, if_true]
/-- one that fails ends it all -/
theorem rsI_bad (c w n t : Int) (ev : Int → Nat → Int) (dr : Int → Nat → Int) (nd i ne : Int) (h : 0 ≤ i) (hne : i < ne) {c1 w1 n1 t1 k1 m1 : Int} (hi : rsI c w n t ev dr nd i = ⟨c1, w1, n1, t1, k1, m1, 0⟩) {d : Int} (hd : d = dw dr nd k1 (ev i 0)) (he : SE c1 w1 n1 t1 (ev i 0) d ≠ 0) :
    (rsI c w n t ev dr nd ne).e = SE c1 w1 n1 t1 (ev i 0) d := by
  subst hd
  have h1 : (rsI c w n t ev dr nd (i + 1)).e = SE c1 w1 n1 t1 (ev i 0) (dw dr nd k1 (ev i 0)) := by
    rw [rsI_succ _ _ _ _ _ _ _ _ h, hi]
    simp only [rsStep, he, if_true, if_false]
  rw [rsI_stick c w n t ev dr nd (i + 1) ne (by omega) (by omega) (by rw [h1]; exact he), h1]
theorem rsI_good (c w n t : Int) (ev : Int → Nat → Int) (dr : Int → Nat → Int) (nd i : Int) (h : 0 ≤ i) (h0 : (rsI c w n t ev dr nd i).e = 0) (d : Int) (hd : d = dw dr nd (rsI c w n t ev dr nd i).k (ev i 0)) :
    SE (rsI c w n t ev dr nd i).c (rsI c w n t ev dr nd i).w (rsI c w n t ev dr nd i).n (rsI c w n t ev dr nd i).t (ev i 0) d = 0 →
    (rsI c w n t ev dr nd (i + 1)).c = SC (rsI c w n t ev dr nd i).c (rsI c w n t ev dr nd i).w (rsI c w n t ev dr nd i).n (rsI c w n t ev dr nd i).t (ev i 0) d ∧
    (rsI c w n t ev dr nd (i + 1)).w = SW (rsI c w n t ev dr nd i).c (rsI c w n t ev dr nd i).w (rsI c w n t ev dr nd i).n (rsI c w n t ev dr nd i).t (ev i 0) d ∧
    (rsI c w n t ev dr nd (i + 1)).n = SN (rsI c w n t ev dr nd i).c (rsI c w n t ev dr nd i).w (rsI c w n t ev dr nd i).n (rsI c w n t ev dr nd i).t (ev i 0) d ∧
    (rsI c w n t ev dr nd (i + 1)).t = SR (rsI c w n t ev dr nd i).c (rsI c w n t ev dr nd i).w (rsI c w n t ev dr nd i).n (rsI c w n t ev dr nd i).t (ev i 0) d ∧
    (rsI c w n t ev dr nd (i + 1)).k = (rsI c w n t ev dr nd i).k + (if ev i 0 = 2 ∨ ev i 0 = 3 then 1 else 0) ∧
    (rsI c w n t ev dr nd (i + 1)).m = (rsI c w n t ev dr nd i).m + (if SG (rsI c w n t ev dr nd i).c (rsI c w n t ev dr nd i).w (rsI c w n t ev dr nd i).n (rsI c w n t ev dr nd i).t (ev i 0) d = true then 1 else 0) ∧
    (rsI c w n t ev dr nd (i + 1)).e = 0 := by
  intro he
  generalize hr : rsI c w n t ev dr nd i = r at *
  obtain ⟨c1, w1, n1, t1, k1, m1, e1⟩ := r
  simp only at h0
  subst h0
  rw [rsI_ok c w n t ev dr nd i h hr hd he]
  exact ⟨rfl, rfl, rfl, rfl, rfl, rfl, rfl⟩
theorem rsI_fail (c w n t : Int) (ev : Int → Nat → Int) (dr : Int → Nat → Int) (nd i ne : Int) (h : 0 ≤ i) (h0 : (rsI c w n t ev dr nd i).e = 0) (d : Int) (hd : d = dw dr nd (rsI c w n t ev dr nd i).k (ev i 0)) (hne : i < ne) :
    SE (rsI c w n t ev dr nd i).c (rsI c w n t ev dr nd i).w (rsI c w n t ev dr nd i).n (rsI c w n t ev dr nd i).t (ev i 0) d ≠ 0 →
    (rsI c w n t ev dr nd ne).e = SE (rsI c w n t ev dr nd i).c (rsI c w n t ev dr nd i).w (rsI c w n t ev dr nd i).n (rsI c w n t ev dr nd i).t (ev i 0) d := by
  intro he
  generalize hr : rsI c w n t ev dr nd i = r at *
  obtain ⟨c1, w1, n1, t1, k1, m1, e1⟩ := r
  simp only at h0
  subst h0
  exact rsI_bad c w n t ev dr nd i ne h hne hr hd he
/-- events that are idle (0) or busy (1) alone -/
theorem rsI_wait (c w n t : Int) (ev : Int → Nat → Int) (dr : Int → Nat → Int) (nd : Int) (hc : chkE c w n t = 0) (ne : Int) (hev : ∀ i, 0 ≤ i → i < ne → ev i 0 = 0 ∨ ev i 0 = 1) (id : Int → Int) (id0 : id 0 = 0) (ids : ∀ i, 0 ≤ i → i < ne → id (i + 1) = id i + (if ev i 0 = 0 then 1 else 0)) :
    ∀ i : Nat, (i : Int) ≤ ne → 0 ≤ id i ∧ (rsI c w n t ev dr nd i).e = 0 ∧ (rsI c w n t ev dr nd i).c = c ∧ (rsI c w n t ev dr nd i).w = w ∧ (rsI c w n t ev dr nd i).t = t ∧ (rsI c w n t ev dr nd i).m = 0 ∧ (rsI c w n t ev dr nd i).n = max (n - id i) 0
  | 0, _ => by
    have : 0 ≤ n := by unfold chkE at hc; grind
    have e : ((0 : Nat) : Int) = 0 := rfl
    rw [e, rsI_zero, id0]
    simp
    omega
  | i + 1, hi => by
    obtain ⟨h0, h1, h2, h3, h4, h5, h6⟩ := rsI_wait c w n t ev dr nd hc ne hev id id0 ids i (by omega)
    have hx := hev i (by omega) (by omega)
    have hs := ids i (by omega) (by omega)
    have hd : (0 : Int) = dw dr nd (rsI c w n t ev dr nd i).k (ev i 0) := by unfold dw; grind
    have hg := rsI_good c w n t ev dr nd i (by omega) h1 0 hd
    have hbd := aft_bd c t
    have e : ((i + 1 : Nat) : Int) = (i : Int) + 1 := by omega
    rw [e]
    rw [h2, h3, h4, h5, h6] at hg
    have hc2 : chkE c w (max (n - id i) 0) t = 0 := by unfold chkE at hc ⊢; grind
    have hse : SE c w (max (n - id i) 0) t (ev i 0) 0 = 0 := by unfold SE; grind
    have hsg : SG c w (max (n - id i) 0) t (ev i 0) 0 = false := by unfold SG stG; grind
    obtain ⟨g1, g2, g3, g4, _, g5, g6⟩ := hg hse
    rw [hsg] at g5
    unfold SC at g1
    unfold SW stW at g2
    unfold SN stN at g3
    unfold SR stT at g4
    grind
/-- idle slots among the first i -/
def idN (bz : Int → Nat → Int) : Nat → Int
  | 0 => 0
  | i + 1 => idN bz i + (if bz i 0 = 0 then 1 else 0)
def idA (bz : Int → Nat → Int) (i : Int) : Int := idN bz i.toNat
theorem idA_succ (bz : Int → Nat → Int) (i : Int) (h : 0 ≤ i) : idA bz (i + 1) = idA bz i + (if bz i 0 = 0 then 1 else 0) := by
  unfold idA
  rw [show (i + 1).toNat = i.toNat + 1 by omega]
  simp only [idN]
  rw [Int.toNat_of_nonneg h]
def rnE (c w n t : Int) (ev : Int → Nat → Int) (ne : Int) (dr : Int → Nat → Int) (nd : Int) : Int := if chkE c w n t = 0 then (rsI c w n t ev dr nd ne).e else 8
def rnC (c w n t : Int) (ev : Int → Nat → Int) (ne : Int) (dr : Int → Nat → Int) (nd : Int) : Int := if rnE c w n t ev ne dr nd = 0 then (rsI c w n t ev dr nd ne).c else 0
def rnW (c w n t : Int) (ev : Int → Nat → Int) (ne : Int) (dr : Int → Nat → Int) (nd : Int) : Int := if rnE c w n t ev ne dr nd = 0 then (rsI c w n t ev dr nd ne).w else 0
def rnN (c w n t : Int) (ev : Int → Nat → Int) (ne : Int) (dr : Int → Nat → Int) (nd : Int) : Int := if rnE c w n t ev ne dr nd = 0 then (rsI c w n t ev dr nd ne).n else 0
def rnT (c w n t : Int) (ev : Int → Nat → Int) (ne : Int) (dr : Int → Nat → Int) (nd : Int) : Int := if rnE c w n t ev ne dr nd = 0 then (rsI c w n t ev dr nd ne).t else 0
def rnM (c w n t : Int) (ev : Int → Nat → Int) (ne : Int) (dr : Int → Nat → Int) (nd : Int) : Int := if rnE c w n t ev ne dr nd = 0 then (rsI c w n t ev dr nd ne).m else 0
/-! the contention inside a station -/
def rvP (a b c d : Int) : Prop := (0 ≤ a ∧ a ≤ 255) ∧ (0 ≤ b ∧ b ≤ 255) ∧ (0 ≤ c ∧ c ≤ 255) ∧ (0 ≤ d ∧ d ≤ 255)
def rd (p : Bool) (n : Int) : Bool := p && decide (n = 0)
def rk (p : Bool) (n : Int) : Int := if rd p n = true then 1 else 0
def rvE (v0 : Int) (v1 : Int) (v2 : Int) (v3 : Int) (v4 : Int) (v5 : Int) (v6 : Int) (v7 : Int) (v8 : Int) (v9 : Int) (v10 : Int) (v11 : Int) (v12 : Int) (v13 : Int) (v14 : Int) (v15 : Int) (v16 : Bool) (v17 : Bool) (v18 : Bool) (v19 : Bool) (v20 : Int → Nat → Int) (v21 : Int) : Int :=
  if (chkE v0 v1 v2 v3 = 0 ∧ v0 = 0) ∧ (chkE v4 v5 v6 v7 = 0 ∧ v4 = 1) ∧ (chkE v8 v9 v10 v11 = 0 ∧ v8 = 2) ∧ (chkE v12 v13 v14 v15 = 0 ∧ v12 = 3) then
    (if oddA (drA v20 v21 0) = true ∨ oddA (drA v20 v21 1) = true ∨ oddA (drA v20 v21 2) = true ∨ oddA (drA v20 v21 3) = true then 2 else 0) else 8
def rvC (v0 : Int) (v1 : Int) (v2 : Int) (v3 : Int) (v4 : Int) (v5 : Int) (v6 : Int) (v7 : Int) (v8 : Int) (v9 : Int) (v10 : Int) (v11 : Int) (v12 : Int) (v13 : Int) (v14 : Int) (v15 : Int) (v16 : Bool) (v17 : Bool) (v18 : Bool) (v19 : Bool) (v20 : Int → Nat → Int) (v21 : Int) : Int :=
  if rvE v0 v1 v2 v3 v4 v5 v6 v7 v8 v9 v10 v11 v12 v13 v14 v15 v16 v17 v18 v19 v20 v21 = 0 then (if rd v19 v14 = true then 3 else if rd v18 v10 = true then 2 else if rd v17 v6 = true then 1 else if rd v16 v2 = true then 0 else -1) else 0
def fxC (E c : Int) : Int := if E = 0 then c else 0
def fxW (E C i : Int) (r : Bool) (c w n t d : Int) : Int := if E = 0 then (if i < C ∧ r = true then stW c w n t 3 d else w) else 0
def fxN (E C i : Int) (r : Bool) (c w n t d : Int) : Int := if E = 0 then (if i < C ∧ r = true then stN c w n t 3 d else n) else 0
def fxT (E C i : Int) (r : Bool) (c w n t d : Int) : Int := if E = 0 then (if i < C ∧ r = true then stT c w n t 3 d else t) else 0
def fxG (E C i : Int) (r : Bool) (c w n t d : Int) : Bool := decide (E = 0 ∧ i < C ∧ r = true) && stG c w n t 3 d
end Go.Proofs.YtkagcjibneigdaaDoor
