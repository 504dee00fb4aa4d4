/- The symbolic executor: what its expressions and values stand for; small laws. -/
import Derived.Test.YtiiabaklipmbbaaVa
import Derived.Below
namespace Go.Proofs.Ytiiabaklipmbbaa.Vc
noncomputable section
open Go Go.RowKit

theorem X.den_ext (ρ δ : List AV) : ∀ x : X, x.lt ρ.length = true → x.den (ρ ++ δ) = x.den ρ := by
  intro x
  induction x with
  | var n => intro h; simp [X.lt] at h; simp [X.den, List.getD_eq_getElem?_getD, List.getElem?_append_left h]
  | lit | bl | zeros => intro _; rfl
  | bin o x y hx hy => intro h; simp [X.lt] at h; simp [X.den, hx h.1, hy h.2]
  | shift x y hx hy => intro h; simp [X.lt] at h; simp [X.den, hx h.1, hy h.2]
  | row x y hx hy => intro h; simp [X.lt] at h; simp [X.den, hx h.1, hy h.2]
  | mlen x y hx hy => intro h; simp [X.lt] at h; simp [X.den, hx h.1, hy h.2]
  | get x y f hx hy => intro h; simp [X.lt] at h; simp [X.den, hx h.1, hy h.2]
  | not x hx => intro h; simp [X.lt] at h; simp [X.den, hx h]
  | inr k x hx => intro h; simp [X.lt] at h; simp [X.den, hx h]
  | wrap k x hx => intro h; simp [X.lt] at h; simp [X.den, hx h]
  | ite c x y hc hx hy => intro h; simp [X.lt] at h; simp [X.den, hc h.1.1, hx h.1.2, hy h.2]
  | app c x y hc hx hy => intro h; simp [X.lt] at h; simp [X.den, hc h.1.1, hx h.1.2, hy h.2]
  | set c x f y hc hx hy => intro h; simp [X.lt] at h; simp [X.den, hc h.1.1, hx h.1.2, hy h.2]

variable {ρ : List AV}
abbrev X.I (ρ : List AV) (x : X) : Int := (x.den ρ).int
abbrev X.B (ρ : List AV) (x : X) : Bool := (x.den ρ).bool
/-! the folding constructors -/
theorem fold_int (o : Bin) (x y : Int) : ((o.fold x y).den ρ).int = (o.den (.i x) (.i y)).int := by cases o <;> rfl
theorem fold_cmp (o : Bin) (h : o ≠ .and) (h' : o ≠ .or) (x y : Int) : ((o.fold x y).den ρ).bool = (o.den (.i x) (.i y)).bool := by cases o <;> first | rfl | contradiction
theorem xAnd_B (x y : X) : (xAnd x y).B ρ = (x.B ρ && y.B ρ) := by
  unfold xAnd X.B
  split
  · simp [X.den, AV.bool]
  · simp [X.den, AV.bool]
  · split <;> simp [X.den, Bin.den, AV.bool]
theorem xOr_B (x y : X) : (xOr x y).B ρ = (x.B ρ || y.B ρ) := by
  unfold xOr X.B
  split
  · simp [X.den, AV.bool]
  · simp [X.den, AV.bool]
  · split <;> simp [X.den, Bin.den, AV.bool]
theorem xf_int (o : Bin) (x y : X) : ((xf o x y).den ρ).int = (o.den (x.den ρ) (y.den ρ)).int := by
  unfold xf
  split
  · split
    · simp [X.den, fold_int]
    · rfl
  · rfl
theorem xf_bool (o : Bin) (h : o ≠ .and) (h' : o ≠ .or) (x y : X) : ((xf o x y).den ρ).bool = (o.den (x.den ρ) (y.den ρ)).bool := by
  unfold xf
  split
  · split
    · simp [X.den, fold_cmp o h h']
    · rfl
  · rfl
theorem isLit_I {z : Int} {x : X} (h : isLit z x = true) : x.I ρ = z := by
  unfold isLit at h
  split at h
  · simp at h; simp [X.I, X.den, AV.int, h]
  · cases h
theorem xadd (x y : X) : (xb .add x y).I ρ = x.I ρ + y.I ρ := by
  unfold xb
  simp only
  split
  · rename_i h; rw [isLit_I h]; simp
  · split
    · rename_i h; rw [isLit_I h]; simp
    · exact xf_int _ _ _
theorem xsub (x y : X) : (xb .sub x y).I ρ = x.I ρ - y.I ρ := by
  unfold xb
  simp only
  split
  · rename_i h; rw [isLit_I h]; simp
  · exact xf_int _ _ _
theorem xmul (x y : X) : (xb .mul x y).I ρ = x.I ρ * y.I ρ := xf_int _ _ _
theorem xquo (x y : X) : (xb .quo x y).I ρ = (x.I ρ).tdiv (y.I ρ) := xf_int _ _ _
theorem xrem (x y : X) : (xb .rem x y).I ρ = (x.I ρ).tmod (y.I ρ) := xf_int _ _ _
theorem xmin (x y : X) : (xb .min x y).I ρ = min (x.I ρ) (y.I ρ) := xf_int _ _ _
theorem xmax (x y : X) : (xb .max x y).I ρ = max (x.I ρ) (y.I ρ) := xf_int _ _ _
theorem xshl (x y : X) : (xb .shl x y).I ρ = x.I ρ * 2 ^ (y.I ρ).toNat := xf_int _ _ _
theorem xshr (x y : X) : (xb .shr x y).I ρ = (x.I ρ).fdiv (2 ^ (y.I ρ).toNat) := xf_int _ _ _
theorem xlt (x y : X) : (xb .lt x y).B ρ = decide (x.I ρ < y.I ρ) := xf_bool _ (by decide) (by decide) _ _
theorem xle (x y : X) : (xb .le x y).B ρ = decide (x.I ρ ≤ y.I ρ) := xf_bool _ (by decide) (by decide) _ _
theorem xeq (x y : X) : (xb .eq x y).B ρ = decide (x.I ρ = y.I ρ) := xf_bool _ (by decide) (by decide) _ _
theorem xand (x y : X) : (xb .and x y).B ρ = (x.B ρ && y.B ρ) := xAnd_B x y
theorem xor_ (x y : X) : (xb .or x y).B ρ = (x.B ρ || y.B ρ) := xOr_B x y
theorem xnot (x : X) : (mkNot x).B ρ = !(x.B ρ) := by
  unfold mkNot X.B
  split <;> simp [X.den, AV.bool]
theorem xinr (k : IntKind) (x : X) : (mkInr k x).B ρ = Vc.inr k (x.I ρ) := by
  unfold mkInr X.B
  split <;> rfl
theorem xite (c x y : X) : (mkIte c x y).I ρ = if c.B ρ then x.I ρ else y.I ρ := by
  unfold mkIte X.I X.B
  split
  · simp [X.den, AV.bool]
  · simp [X.den, AV.bool]
  · split
    · rename_i h; subst h; simp
    · simp [X.den, AV.int]
theorem xitb (c x y : X) : (mkItb c x y).B ρ = if c.B ρ then x.B ρ else y.B ρ := by
  unfold mkItb
  split
  · simp [X.B, X.den, AV.bool]
  · simp [X.B, X.den, AV.bool]
  · rw [xand]; cases c.B ρ <;> simp [X.B, X.den, AV.bool]
  · rw [xor_]; cases c.B ρ <;> simp [X.B, X.den, AV.bool]
  · rw [xor_, xand, xand, xnot]; cases c.B ρ <;> simp
theorem lit_I (z : Int) : (X.lit z).I ρ = z := rfl
theorem bl_B (p : Bool) : (X.bl p).B ρ = p := rfl
theorem ximp (g x : X) : (imp g x).B ρ = (!(g.B ρ) || x.B ρ) := by unfold imp; rw [xor_, xnot]

theorem conjIn_B {x : X} : ∀ {y : X}, conjIn x y = true → y.B ρ = true → x.B ρ = true := by
  intro y
  induction y with
  | bin o a b ha hb =>
    intro h hy
    by_cases ho : o = .and
    · subst ho
      simp only [conjIn, Bool.or_eq_true, decide_eq_true_eq] at h
      have hy' : a.B ρ = true ∧ b.B ρ = true := by simpa [X.B, X.den, Bin.den, AV.bool] using hy
      rcases h with (h | h) | h
      · rw [h]; exact hy
      · exact ha h hy'.1
      · exact hb h hy'.2
    · have : x = .bin o a b := by cases o <;> first | contradiction | (simpa [conjIn] using h)
      rw [this]; exact hy
  | bl p => intro h hy; rw [isBl_eq h]; exact hy
  | _ => intro h hy; simp [conjIn] at h; subst h; exact hy
def S.factsOk (ρ : List AV) (s : S) : Prop := ∀ x ∈ s.facts, x.B ρ = true
theorem lb_sound {fs : List X} (hf : ∀ x ∈ fs, x.B ρ = true) : ∀ {e : X} {z : Int}, e.lb fs = some z → z ≤ (e.den ρ).int
  | .lit y, z, h => by
    simp only [X.lb] at h
    obtain rfl := Option.some.inj h
    exact Int.le_refl _
  | .var n, z, h => by
    simp only [X.lb] at h
    split at h
    · rename_i hc
      obtain rfl := Option.some.inj h
      rw [List.any_eq_true] at hc
      obtain ⟨y, hy, hc⟩ := hc
      have h1 := conjIn_B hc (hf y hy)
      have h2 : decide ((0 : Int) ≤ ((X.var n).den ρ).int) = true := h1
      exact of_decide_eq_true h2
    · cases h
  | .bin .add a b, z, h => by
    simp only [X.lb] at h
    split at h
    · rename_i x y hx hy
      obtain rfl := Option.some.inj h
      have h1 := lb_sound hf hx
      have h2 := lb_sound hf hy
      show x + y ≤ (a.den ρ).int + (b.den ρ).int
      omega
    · cases h
theorem boundB_sound {fs : List X} (hf : ∀ x ∈ fs, x.B ρ = true) {e : X} (h : boundB fs e = true) : e.B ρ = true := by
  unfold boundB at h
  split at h
  · split at h
    · rename_i w hw
      have h1 := lb_sound hf hw
      have h2 := of_decide_eq_true h
      exact decide_eq_true (Int.le_trans h2 h1)
    · cases h
  · split at h
    · rename_i w hw
      have h1 := lb_sound hf hw
      have h2 := of_decide_eq_true h
      exact decide_eq_true (Int.lt_of_lt_of_le h2 h1)
    · cases h
  · rename_i a b z
    split at h
    · rename_i w hw
      have h1 := lb_sound hf hw
      have h2 := of_decide_eq_true h
      show (!decide (((X.bin .add a b).den ρ).int = z)) = true
      rw [Bool.not_eq_true', decide_eq_false_iff_not]
      omega
    · cases h
  · cases h
theorem S.holds_B {s : S} {g x : X} (hf : s.factsOk ρ) (hg : g.B ρ = true) (h : s.holds g x = true) : x.B ρ = true := by
  simp only [S.holds, Bool.or_eq_true, decide_eq_true_eq, List.any_eq_true] at h
  rcases h with ((h | h) | ⟨y, hy, h⟩) | h
  · rw [isT_eq h]; rfl
  · exact conjIn_B h hg
  · exact conjIn_B h (hf y hy)
  · exact boundB_sound hf h
theorem S.fact_ok {s : S} {x : X} (hf : s.factsOk ρ) (hx : x.B ρ = true) : (s.fact x).factsOk ρ := by
  unfold S.fact
  split
  · exact hf
  · intro y hy
    simp at hy
    rcases hy with rfl | hy
    · exact hx
    · exact hf y hy
theorem xwrap {ρ : List AV} (k : IntKind) (x : X) : (X.wrap k x).I ρ = k.wrap (x.I ρ) := rfl
end
end Go.Proofs.Ytiiabaklipmbbaa.Vc
