/- What a law is handed, as the executor reads it. -/
import Derived.Test.YtiiabaklipmbbaaV4
import Derived.ChangeShapes
import Derived.ChangeArms
import Derived.OpenShut
import Derived.WideShapes
import Derived.RowKit
namespace Go.Proofs.Ytiiabaklipmbbaa.Vc
noncomputable section
open Go Go.RowKit Go.WideShapes Go.ChangeShapes

def toFK : List Sh0 → Option (List FK)
  | [] => some []
  | .int k :: l => (toFK l).map (.int k :: ·)
  | .bool :: l => (toFK l).map (.bool :: ·)
  | _ => none
def shF (K : TypeId → Option (List Sh0)) (P : Program) : Nat → List Field → Option (List Sh0)
  | _, [] => some []
  | off, f :: fs => match K f.type with
    | some lf => if f.offset = off ∧ P.cellsOf f.type = lf.length then (shF K P (off + lf.length) fs).map (lf ++ ·) else none
    | none => none
/-- what a type's cells are, one for each cell -/
def shP (P : Program) : Nat → TypeId → Option (List Sh0)
  | 0, _ => none
  | d + 1, t => match P.underlying t with
    | some .bool => some [.bool]
    | some (.int k) => some [.int k]
    | some (.struct fs) => match shF (shP P d) P 0 fs.toList with
      | some l => if P.cellsOf t = l.length then some l else none
      | none => none
    | some (.array n e) => match shP P d e with
      | some l => if P.cellsOf e = l.length ∧ P.cellsOf t = n * l.length then some (List.replicate n l).flatten else none
      | none => none
    | some (.slice e) => match shP P d e with
      | some l => match toFK l with
        | some ks => if P.cellsOf e = ks.length ∧ 0 < ks.length then some [.slc ks] else none
        | none => match l with
          | [.slc ks] => if P.cellsOf e = 1 ∧ 0 < ks.length then some [.mat ks] else none
          | _ => none
      | none => none
    | _ => none
/-- the numbers are in range -/
def RngL : List Sh0 → List AV → Prop
  | [], l => l = []
  | .int k :: hs, x :: l => x = .i x.int ∧ k.min ≤ x.int ∧ x.int ≤ k.max ∧ RngL hs l
  | .bool :: hs, x :: l => x = .b x.bool ∧ RngL hs l
  | .slc sh :: hs, x :: n :: l => x = .a x.fn ∧ n = .i n.int ∧ 0 ≤ n.int ∧ n.int ≤ 9223372036854775807 ∧ (∀ (i : Int) (g : Nat) k, 0 ≤ i → i < n.int → sh[g]? = some (.int k) → k.min ≤ x.fn i g ∧ x.fn i g ≤ k.max) ∧ RngL hs l
  | .mat sh :: hs, x :: n :: l => x = .m x.mlen x.mfn ∧ n = .i n.int ∧ 0 ≤ n.int ∧ n.int ≤ 9223372036854775807 ∧ (∀ i : Int, 0 ≤ i → i < n.int → 0 ≤ x.mlen i ∧ x.mlen i ≤ 9223372036854775807 ∧
      ∀ (j : Int) (g : Nat) k, 0 ≤ j → j < x.mlen i → sh[g]? = some (.int k) → k.min ≤ x.mfn i j g ∧ x.mfn i j g ≤ k.max) ∧ RngL hs l
  | _, _ => False
section
variable {w : World}
theorem RdL.app : ∀ {a b : List Sh0} {vs us : List Value} {l m : List AV}, RdL w a vs l → RdL w b us m → RdL w (a ++ b) (vs ++ us) (l ++ m)
  | [], b, [], us, l, m, h, k => by
    obtain rfl : l = [] := h
    exact k
  | h0 :: a, b, v :: vs, us, l, m, h, k => by
    obtain ⟨x, y, rfl, h1, h2⟩ := h
    exact ⟨x, y ++ m, by rw [List.append_assoc], h1, RdL.app h2 k⟩
  | [], _, _ :: _, _, _, _, h, _ => h.elim
  | _ :: _, _, [], _, _, _, h, _ => h.elim
theorem RngL.app : ∀ {a b : List Sh0} {l m : List AV}, RngL a l → RngL b m → RngL (a ++ b) (l ++ m)
  | [], b, l, m, h, k => by
    obtain rfl : l = [] := h
    exact k
  | .int _ :: a, b, x :: l, m, h, k => ⟨h.1, h.2.1, h.2.2.1, RngL.app h.2.2.2 k⟩
  | .bool :: a, b, x :: l, m, h, k => ⟨h.1, RngL.app h.2 k⟩
  | .slc _ :: a, b, x :: n :: l, m, h, k => ⟨h.1, h.2.1, h.2.2.1, h.2.2.2.1, h.2.2.2.2.1, RngL.app h.2.2.2.2.2 k⟩
  | .mat _ :: a, b, x :: n :: l, m, h, k => ⟨h.1, h.2.1, h.2.2.1, h.2.2.2.1, h.2.2.2.2.1, RngL.app h.2.2.2.2.2 k⟩
  | .int _ :: _, _, [], _, h, _ | .bool :: _, _, [], _, h, _ | .slc _ :: _, _, [], _, h, _ | .slc _ :: _, _, [_], _, h, _ | .mat _ :: _, _, [], _, h, _ | .mat _ :: _, _, [_], _, h, _ => h.elim
theorem RdL.len : ∀ {a : List Sh0} {vs : List Value} {l : List AV}, RdL w a vs l → vs.length = a.length
  | [], [], _, _ => rfl
  | _ :: _, _ :: _, _, h => by
    obtain ⟨_, _, _, _, h2⟩ := h
    simp [RdL.len h2]
  | [], _ :: _, _, h => h.elim
  | _ :: _, [], _, h => h.elim
variable {H : Type} {enc : TypeId × Value → H} {P : Program} {base : Nat} {spare : Nat → Bool} {held : Bool}
def Opens (enc : TypeId × Value → H) (P : Program) (w : World) (base : Nat) (spare : Nat → Bool) (held : Bool) (t : TypeId) (l : List Sh0) : Prop :=
  ∀ fuel cs x, DataW.trod enc P w base spare held fuel t cs = some x → ∃ avs, RdL w l cs avs ∧ RngL l avs
theorem drop_split (cs : List Value) (off n : Nat) : cs.drop off = (cs.drop off).take n ++ cs.drop (off + n) := by
  rw [← List.drop_drop, List.take_append_drop]
theorem open_fields {K : TypeId → Option (List Sh0)} (hK : ∀ t l, K t = some l → Opens enc P w base spare held t l) : ∀ (fs : List Field) (off : Nat) (l : List Sh0), shF K P off fs = some l → ∀ cs : List Value, cs.length = off + l.length →
    (∀ f ∈ fs, ∃ fuel x, DataW.trod enc P w base spare held fuel f.type ((cs.drop f.offset).take (P.cellsOf f.type)) = some x) → ∃ avs, RdL w l (cs.drop off) avs ∧ RngL l avs
  | [], off, l, h, cs, hl, _ => by
    simp only [shF] at h
    obtain rfl := Option.some.inj h
    have : cs.drop off = [] := List.drop_eq_nil_of_le (by simp at hl; omega)
    rw [this]
    exact ⟨[], rfl, rfl⟩
  | f :: fs, off, l, h, cs, hl, ht => by
    simp only [shF] at h
    split at h
    · rename_i lf hlf
      split at h
      · rename_i hc
        simp only [Option.map_eq_some_iff] at h
        obtain ⟨l2, hl2, rfl⟩ := h
        obtain ⟨fuel, x, hx⟩ := ht f (by simp)
        obtain ⟨a1, r1, g1⟩ := hK _ _ hlf fuel _ x hx
        obtain ⟨a2, r2, g2⟩ := open_fields hK fs (off + lf.length) l2 hl2 cs (by simp at hl; omega) (fun f hf => ht f (by simp [hf]))
        rw [hc.1, hc.2] at r1
        refine ⟨a1 ++ a2, ?_, g1.app g2⟩
        rw [drop_split cs off lf.length]
        exact r1.app r2
      · cases h
    · cases h
theorem open_items {e : TypeId} {l : List Sh0} (hE : Opens enc P w base spare held e l) (hc : P.cellsOf e = l.length) : ∀ (n i : Nat) (cs : List Value), cs.length = (i + n) * l.length →
    (∀ j, j < i + n → ∃ fuel x, DataW.trod enc P w base spare held fuel e ((cs.drop (j * P.cellsOf e)).take (P.cellsOf e)) = some x) → ∃ avs, RdL w (List.replicate n l).flatten (cs.drop (i * l.length)) avs ∧ RngL (List.replicate n l).flatten avs
  | 0, i, cs, hl, _ => by
    have : cs.drop (i * l.length) = [] := List.drop_eq_nil_of_le (by rw [hl]; simp)
    rw [this]
    exact ⟨[], rfl, rfl⟩
  | n + 1, i, cs, hl, ht => by
    obtain ⟨fuel, x, hx⟩ := ht i (by omega)
    obtain ⟨a1, r1, g1⟩ := hE fuel _ x hx
    obtain ⟨a2, r2, g2⟩ := open_items hE hc n (i + 1) cs (by rw [hl]; congr 1; omega) (fun j hj => ht j (by omega))
    rw [hc] at r1
    rw [List.replicate_succ, List.flatten_cons]
    refine ⟨a1 ++ a2, ?_, g1.app g2⟩
    rw [drop_split cs (i * l.length) l.length]
    have : i * l.length + l.length = (i + 1) * l.length := by rw [Nat.add_mul, Nat.one_mul]
    rw [this]
    exact r1.app r2
def cellZ : Option Value → Int
  | some (.int _ z) => z
  | some (.bool p) => if p then 1 else 0
  | _ => 0
/-- a row of numbers and truth values, cell by cell -/
theorem fk_cells : ∀ {l : List Sh0} {ks : List FK} {vs : List Value} {avs : List AV}, toFK l = some ks → RdL w l vs avs → RngL l avs → ∀ (g : Nat) k, ks[g]? = some k → ∃ v, vs[g]? = some v ∧ v = k.val (cellZ (some v)) ∧ (∀ q, k = .int q → q.min ≤ cellZ (some v) ∧ cellZ (some v) ≤ q.max)
  | [], ks, vs, avs, h, _, _, g, k, hk => by simp [toFK] at h; subst h; simp at hk
  | .int q :: l, ks, v :: vs, avs, h, hr, hg, g, k, hk => by
    simp only [toFK, Option.map_eq_some_iff] at h
    obtain ⟨ks', h1, rfl⟩ := h
    obtain ⟨a, b, rfl, ⟨z, rfl, rfl⟩, h2⟩ := hr
    obtain ⟨_, g1, g2, g3⟩ := hg
    cases g with
    | zero =>
      simp at hk; subst hk
      exact ⟨_, rfl, rfl, fun q' hq => by cases hq; exact ⟨g1, g2⟩⟩
    | succ g => simpa using fk_cells h1 h2 g3 g k (by simpa using hk)
  | .bool :: l, ks, v :: vs, avs, h, hr, hg, g, k, hk => by
    simp only [toFK, Option.map_eq_some_iff] at h
    obtain ⟨ks', h1, rfl⟩ := h
    obtain ⟨a, b, rfl, ⟨z, rfl, rfl⟩, h2⟩ := hr
    obtain ⟨_, g3⟩ := hg
    cases g with
    | zero =>
      simp at hk; subst hk
      exact ⟨_, rfl, by cases z <;> simp [cellZ, FK.val], fun q' hq => by cases hq⟩
    | succ g => simpa using fk_cells h1 h2 g3 g k (by simpa using hk)
  | .slc _ :: _, _, _, _, h, _, _, _, _, _ => by simp [toFK] at h
  | .mat _ :: _, _, _, _, h, _, _, _, _, _ => by simp [toFK] at h
  | .int _ :: _, _, [], _, _, hr, _, _, _, _ => hr.elim
  | .bool :: _, _, [], _, _, hr, _, _, _, _ => hr.elim
theorem open_slice {t e : TypeId} {l : List Sh0} {ks : List FK} (hu : P.underlying t = some (.slice e)) (hE : Opens enc P w base spare held e l) (hk : toFK l = some ks) (hc : P.cellsOf e = ks.length) : Opens enc P w base spare held t [.slc ks] := by
  intro fuel cs x hx
  rcases DataW.trod_slice hu hx with ⟨rfl, _⟩ | ⟨a, len, cap, elems, rest, n, _, rfl, _, _, hlc, hcm, hel, hall, _⟩
  · refine ⟨[.a fun _ _ => 0, .i 0], ⟨_, [], rfl, ⟨none, 0, 0, fun _ _ => 0, rfl, Nat.le_refl _, Nat.zero_le _, fun _ => rfl, rfl, fun i f' k i0 i1 => ?_⟩, rfl⟩, rfl, rfl, Int.le_refl _, by decide, fun i g k i0 i1 => ?_, rfl⟩
    · simp at i1; omega
    · simp only [AV.int] at i1; omega
  · have key : ∀ (i : Int) (g : Nat) k, 0 ≤ i → i < len → ks[g]? = some k → w.cell? (a.add (i.toNat * ks.length + g)) = some (k.val (cellZ (w.cell? (a.add (i.toNat * ks.length + g))))) ∧ ∀ q, k = .int q → q.min ≤ cellZ (w.cell? (a.add (i.toNat * ks.length + g))) ∧ cellZ (w.cell? (a.add (i.toNat * ks.length + g))) ≤ q.max := by
      intro i g k i0 i1 hg
      have h1 := hall i.toNat (by omega)
      rw [List.getElem?_eq_getElem (by omega), Option.bind_eq_some_iff] at h1
      obtain ⟨cs', h2, h3⟩ := h1
      obtain ⟨avs, r, gg⟩ := hE n cs' _ h3
      obtain ⟨v, hv, hv2, hv3⟩ := fk_cells hk r gg g k hg
      obtain ⟨_, h5, h6⟩ := World.cells?_some h2
      have hgl := (List.getElem?_eq_some_iff.1 hg).1
      have h7 := h6 g (by rw [hc]; exact hgl)
      rw [hc, add_add] at h7
      rw [h7, hv]
      exact ⟨by rw [← hv2], hv3⟩
    refine ⟨[.a fun i g => cellZ (w.cell? (a.add (i.toNat * ks.length + g))), .i (len : Int)], ⟨_, [], rfl, ⟨some a, len, cap, _, rfl, hlc, hcm, fun h => (by cases h), rfl, fun i g k i0 i1 hg => ⟨a, rfl, ?_, (key i g k i0 i1 hg).1⟩⟩, rfl⟩, rfl, rfl, Int.natCast_nonneg _, ?_, fun i g k i0 i1 hg => (key i g _ i0 i1 hg).2 k rfl, rfl⟩
    · have := World.block_lt_of_cell? w _ (key i g k i0 i1 hg).1
      rwa [add_block] at this
    · have : cap ≤ 9223372036854775807 := hcm
      simp only [AV.int]; omega
theorem open_mat {t e : TypeId} {ks : List FK} (hu : P.underlying t = some (.slice e)) (hE : Opens enc P w base spare held e [.slc ks]) (hc : P.cellsOf e = 1) (hk0 : 0 < ks.length) : Opens enc P w base spare held t [.mat ks] := by
  intro fuel cs x hx
  rcases DataW.trod_slice hu hx with ⟨rfl, _⟩ | ⟨a, len, cap, elems, rest, n, _, rfl, _, _, hlc, hcm, hel, hall, _⟩
  · refine ⟨[.m (fun _ => 0) fun _ _ _ => 0, .i 0], ⟨_, [], rfl, ⟨none, 0, 0, fun _ => 0, fun _ _ _ => 0, fun _ => none, fun _ => 0, rfl, Nat.le_refl _, Nat.zero_le _, fun _ => rfl, rfl, fun i i0 i1 => ?_⟩, rfl⟩, rfl, rfl, Int.le_refl _, by decide, fun i i0 i1 => ?_, rfl⟩
    · simp at i1; omega
    · simp only [AV.int] at i1; omega
  · have key : ∀ i : Int, ∃ r : Option Addr × Nat × Nat × (Int → Nat → Int), 0 ≤ i → i < len → w.cell? (a.add i.toNat) = some (.slice r.1 r.2.1 r.2.2.1) ∧ r.2.1 ≤ r.2.2.1 ∧ r.2.2.1 ≤ maxLen ∧ (r.1 = none → r.2.2.1 = 0) ∧
        (∀ (j : Int) f' k, 0 ≤ j → j < r.2.1 → ks[f']? = some k → ∃ p, r.1 = some p ∧ p.block < w.heap.size ∧ w.cell? (p.add (j.toNat * ks.length + f')) = some (k.val (r.2.2.2 j f'))) ∧
        (∀ (j : Int) (g : Nat) k, 0 ≤ j → j < r.2.1 → ks[g]? = some (.int k) → k.min ≤ r.2.2.2 j g ∧ r.2.2.2 j g ≤ k.max) := by
      intro i
      by_cases hi : 0 ≤ i ∧ i < len
      · have h1 := hall i.toNat (by omega)
        rw [List.getElem?_eq_getElem (by omega), Option.bind_eq_some_iff] at h1
        obtain ⟨cs', h2, h3⟩ := h1
        obtain ⟨avs, r, gg⟩ := hE n cs' _ h3
        obtain ⟨_, h5, h6⟩ := World.cells?_some h2
        cases cs' with
        | nil => exact r.elim
        | cons v vs =>
          obtain ⟨x1, y1, rfl, ⟨q, m, c, f, rfl, b1, b2, b3, rfl, b4⟩, r2⟩ := r
          obtain ⟨_, _, _, _, g5, _⟩ := gg
          have h7 := h6 0 (by rw [hc]; omega)
          rw [hc, Nat.mul_one, add_add, Nat.add_zero] at h7
          exact ⟨(q, m, c, f), fun _ _ => ⟨h7, b1, b2, b3, b4, g5⟩⟩
      · exact ⟨(none, 0, 0, fun _ _ => 0), fun h0 h1 => absurd ⟨h0, h1⟩ hi⟩
    obtain ⟨R, hR⟩ := Classical.axiomOfChoice key
    refine ⟨[.m (fun i => ((R i).2.1 : Int)) fun i => (R i).2.2.2, .i (len : Int)], ⟨_, [], rfl, ⟨some a, len, cap, _, _, fun i => (R i).1, fun i => (R i).2.2.1, rfl, hlc, hcm, fun h => (by cases h), rfl, fun i i0 i1 => ?_⟩, rfl⟩, rfl, rfl, Int.natCast_nonneg _, ?_, fun i i0 i1 => ?_, rfl⟩
    · obtain ⟨k1, k2, k3, k4, k5, _⟩ := hR i i0 i1
      refine ⟨a, rfl, ?_, Int.natCast_nonneg _, by simpa using k2, k3, k4, by simpa using k1, ?_⟩
      · have := World.block_lt_of_cell? w _ k1
        rwa [add_block] at this
      · cases hq : (R i).1 with
        | none =>
          left
          have := k4 hq
          show ((R i).2.1 : Int) = 0
          omega
        | some p =>
          by_cases h0 : (R i).2.1 = 0
          · left
            show ((R i).2.1 : Int) = 0
            omega
          · right
            obtain ⟨p', hp', hb, _⟩ := k5 0 0 ks[0] (Int.le_refl _) (by omega) (List.getElem?_eq_getElem (by omega))
            refine ⟨p', hp', hb, fun j f' k j0 j1 hk => ?_⟩
            obtain ⟨p2, hp2, _, hc2⟩ := k5 j f' k j0 j1 hk
            obtain rfl := Option.some.inj (hp2.symm.trans hp')
            exact hc2
    · have : cap ≤ 9223372036854775807 := hcm
      simp only [AV.int]; omega
    · obtain ⟨k1, k2, k3, k4, _, k6⟩ := hR i i0 i1
      have : (R i).2.2.1 ≤ 9223372036854775807 := k3
      exact ⟨Int.natCast_nonneg _, by simp only [AV.mlen]; omega, k6⟩
theorem shP_open : ∀ (d : Nat) (t : TypeId) (l : List Sh0), shP P d t = some l → Opens enc P w base spare held t l
  | 0, _, _, h => by simp [shP] at h
  | d + 1, t, l, h => by
    simp only [shP] at h
    split at h
    · rename_i hu
      obtain rfl := Option.some.inj h
      intro fuel cs x hx
      obtain ⟨b, rfl, _⟩ := DataW.trod_bool hu hx
      exact ⟨[.b b], ⟨[.b b], [], rfl, ⟨b, rfl, rfl⟩, rfl⟩, rfl, rfl⟩
    · rename_i k hu
      obtain rfl := Option.some.inj h
      intro fuel cs x hx
      obtain ⟨z, rfl, _, hw⟩ := DataW.trod_int hu hx
      simp only [Lit.wf, Bool.and_eq_true, decide_eq_true_eq] at hw
      exact ⟨[.i z], ⟨[.i z], [], rfl, ⟨z, rfl, rfl⟩, rfl⟩, rfl, hw.1, hw.2, rfl⟩
    · rename_i fs hu
      split at h
      · rename_i l' hl'
        split at h
        · rename_i hc
          obtain rfl := Option.some.inj h
          intro fuel cs x hx
          obtain ⟨xs, n, _, _, hcl, hxl, hall⟩ := DataW.trod_struct hu hx
          have := open_fields (K := shP P d) (fun t l h => shP_open d t l h) fs.toList 0 l' hl' cs (by rw [hcl, hc]; omega) (fun f hf => by
            obtain ⟨i, hi, rfl⟩ := List.getElem_of_mem hf
            have hi' : i < fs.size := by simpa using hi
            have h1 := hall i fs[i] (by simp [hi'])
            rw [List.getElem?_eq_getElem (by omega)] at h1
            exact ⟨n, _, by simpa using h1⟩)
          simpa using this
        · cases h
      · cases h
    · rename_i n e hu
      split at h
      · rename_i l' hl'
        split at h
        · rename_i hc
          obtain rfl := Option.some.inj h
          intro fuel cs x hx
          obtain ⟨xs, m, _, _, hcl, hxl, hall⟩ := DataW.trod_array hu hx
          have := open_items (shP_open d e l' hl') hc.1 n 0 cs (by rw [hcl, hc.2]; simp) (fun j hj => by
            have h1 := hall j (by omega)
            rw [List.getElem?_eq_getElem (by omega)] at h1
            exact ⟨m, _, h1⟩)
          simpa using this
        · cases h
      · cases h
    · rename_i e hu
      split at h
      · rename_i l' hl'
        split at h
        · rename_i ks hks
          split at h
          · rename_i hc
            obtain rfl := Option.some.inj h
            exact open_slice hu (shP_open d e l' hl') hks hc.1
          · cases h
        · split at h
          · rename_i ks
            split at h
            · rename_i hc
              obtain rfl := Option.some.inj h
              exact open_mat hu (shP_open d e _ hl') hc.1 hc.2
            · cases h
          · cases h
      · cases h
    · cases h
def isAggD : TypeDesc → Bool
  | .struct _ | .array .. => true
  | _ => false
/-- the shape of a parameter -/
def shV (P : Program) (t : TypeId) : Option Sh := match shP P 8 t with
  | some l => some ⟨aggT P t, l⟩
  | none => none
theorem open_v {t : TypeId} {h : Sh} (hs : shV P t = some h) {r : Reach} {b0 : Nat} {W : World} {v : Value} (hval : Value.okWide P W r b0 t v) {d : DataW H} {ps : List MemPlace} (hd : DataW.Trod enc P w base spare held t v d ps) : ∃ avs, RdV w h v avs ∧ RngL h.l avs := by
  unfold shV at hs
  split at hs
  · rename_i l hl
    obtain rfl := Option.some.inj hs
    obtain ⟨fuel, hf⟩ := hd
    obtain ⟨avs, h1, h2⟩ := shP_open 8 t l hl fuel _ _ hf
    refine ⟨avs, ?_, h2⟩
    have hn : ∀ u, P.underlying t = some u → isAggD u = false → RdV w ⟨aggT P t, l⟩ v avs := by
      intro u hu hk
      have ha : aggT P t = false := by
        unfold aggT; rw [hu]; cases u <;> simp [isAggD] at hk ⊢
      unfold RdV
      simp only [ha, Bool.false_eq_true, if_false]
      cases u with
      | bool =>
        obtain ⟨b, rfl⟩ := okWide_bool hu hval
        exact h1
      | int k =>
        obtain ⟨b, rfl⟩ := okWide_int hu hval
        exact h1
      | slice e =>
        obtain ⟨a, n, c, rfl⟩ := okWide_slice hu hval
        exact h1
      | struct fs => simp [isAggD] at hk
      | array n e => simp [isAggD] at hk
      | _ => simp [shP, hu] at hl
    have ha : ∀ u, P.underlying t = some u → isAggD u = true → RdV w ⟨aggT P t, l⟩ v avs := by
      intro u hu hk
      have ha : aggT P t = true := by
        unfold aggT; rw [hu]; cases u <;> simp [isAggD] at hk ⊢
      unfold RdV
      simp only [ha, if_true]
      unfold Value.okWide at hval
      rw [hu] at hval
      cases u with
      | struct fs =>
        obtain ⟨cs, rfl, _, _⟩ := hval
        exact ⟨cs.toList, by simp, h1⟩
      | array n e =>
        obtain ⟨cs, rfl, _, _⟩ := hval
        exact ⟨cs.toList, by simp, h1⟩
      | _ => simp [isAggD] at hk
    cases hu : P.underlying t with
    | none => simp [shP, hu] at hl
    | some u =>
      cases hk : isAggD u with
      | true => exact ha u hu hk
      | false => exact hn u hu hk
  · cases hs
/-- the parameters of a law -/
theorem open_args {r : Reach} {b0 : Nat} {W : World} : ∀ {ts : List TypeId} {sh : List Sh} {vs : List Value} {ds : List (DataW H)} {ps : List MemPlace}, mapOpt (shV P) ts = some sh → (∀ (j : Nat) t v, ts[j]? = some t → vs[j]? = some v → Value.okWide P W r b0 t v) →
    DataW.TrodAll enc P w base spare held ts vs ds ps → ∃ avs, RdA w sh vs avs ∧ RngL (sh.flatMap (·.l)) avs
  | [], sh, vs, ds, ps, h, _, ht => by
    simp [mapOpt] at h; subst h
    obtain ⟨rfl, _, _⟩ := trodAll_nil ht
    exact ⟨[], rfl, rfl⟩
  | t :: ts, sh, vs, ds, ps, h, hv, ht => by
    simp only [mapOpt] at h
    split at h
    · rename_i h0 hs h1 h2
      obtain rfl := Option.some.inj h
      obtain ⟨v, vs', d, ds', p, q, rfl, rfl, rfl, t1, t2⟩ := trodAll_cons ht
      obtain ⟨a1, r1, g1⟩ := open_v h1 (hv 0 t v rfl rfl) t1
      obtain ⟨a2, r2, g2⟩ := open_args h2 (fun j t v hj hvj => hv (j + 1) t v (by simpa using hj) (by simpa using hvj)) t2
      exact ⟨a1 ++ a2, ⟨a1, a2, rfl, r1, r2⟩, by rw [List.flatMap_cons]; exact g1.app g2⟩
    · cases h
end
theorem rng_KT : ∀ {hs : List Sh0} {l : List AV}, RngL hs l → KT (shKs hs) l
  | [], l, h => by
    obtain rfl : l = [] := h
    exact ⟨rfl, fun i k h => by simp [shKs] at h⟩
  | .int _ :: hs, x :: l, h => by
    rw [h.1]
    exact KT.append (a := [.i]) (ρ := [.i x.int]) ⟨rfl, fun i k hk => by cases i <;> simp at hk; subst hk; rfl⟩ (rng_KT h.2.2.2)
  | .bool :: hs, x :: l, h => by
    rw [h.1]
    exact KT.append (a := [.b]) (ρ := [.b x.bool]) ⟨rfl, fun i k hk => by cases i <;> simp at hk; subst hk; rfl⟩ (rng_KT h.2)
  | .slc _ :: hs, x :: n :: l, h => by
    rw [h.1, h.2.1]
    exact KT.append (a := [.a, .i]) (ρ := [.a x.fn, .i n.int]) ⟨rfl, fun i k hk => by
      match i, hk with
      | 0, hk => simp at hk; subst hk; rfl
      | 1, hk => simp at hk; subst hk; rfl
      | i + 2, hk => simp at hk⟩ (rng_KT h.2.2.2.2.2)
  | .mat _ :: hs, x :: n :: l, h => by
    rw [h.1, h.2.1]
    exact KT.append (a := [.m, .i]) (ρ := [.m x.mlen x.mfn, .i n.int]) ⟨rfl, fun i k hk => by
      match i, hk with
      | 0, hk => simp at hk; subst hk; rfl
      | 1, hk => simp at hk; subst hk; rfl
      | i + 2, hk => simp at hk⟩ (rng_KT h.2.2.2.2.2)
  | .int _ :: _, [], h | .bool :: _, [], h | .slc _ :: _, [], h | .slc _ :: _, [_], h | .mat _ :: _, [], h | .mat _ :: _, [_], h => h.elim
/-- a law's call -/
theorem law_callsG {P : Program} {G : World → Prop} {sig : CSig} {f : FuncId} {pre : List AV → Prop} {raw : List AV → List AV} (hm : MeetsG P G (mkCon sig pre raw) f sig) (ho : sig.outs = [⟨false, [.bool]⟩])
    (hp : allAV (insKs sig.ins) fun l => RngL (sig.ins.flatMap (·.l)) l → pre l ∧ raw l = [.b true]) {args : Array Value} {avs : List AV} {w : World} (hGw : G w) (hrd : RdA w sig.ins args.toList avs) (hrg : RngL (sig.ins.flatMap (·.l)) avs) :
    Calls P f args w fun e w' => e = .returned (.bool true) ∧ Below w.heap.size w w' := by
  have hk := rng_KT hrg
  rw [← ks_flat] at hk
  obtain ⟨h1, h2⟩ := allAV_elim hp avs hk hrg
  have h := hm args.toList avs w hGw hrd h1
  rw [Array.toArray_toList] at h
  refine h.mono fun e w' he => ?_
  obtain ⟨v, rfl, hb, us, os, rfl, hg, _⟩ := he
  refine ⟨?_, hb⟩
  have e1 : (mkCon sig pre raw).out avs = [.b true] := by
    show fixL (insKs sig.outs) (raw avs) = _
    rw [h2, ho]; rfl
  rw [e1, ho] at hg
  match us, hg with
  | [u], hg =>
    obtain ⟨a, b, o1, o2, hab, _, h3, h4⟩ := hg
    obtain ⟨rfl, _⟩ := h4
    unfold GvV at h3
    simp only [Bool.false_eq_true, if_false] at h3
    obtain ⟨_, _, h5⟩ := h3
    obtain ⟨a1, b1, _, _, rfl, _, ⟨p, rfl, rfl, _⟩, h6⟩ := h5
    obtain ⟨rfl, _⟩ := h6
    simp at hab
    subst hab
    rfl
  | [], hg => exact hg.elim
  | _ :: _ :: _, hg =>
    obtain ⟨_, _, _, _, _, _, _, h4⟩ := hg
    exact h4.elim
theorem law_calls {P : Program} {sig : CSig} {f : FuncId} {pre : List AV → Prop} {raw : List AV → List AV} (hm : Meets P (mkCon sig pre raw) f sig) (ho : sig.outs = [⟨false, [.bool]⟩])
    (hp : allAV (insKs sig.ins) fun l => RngL (sig.ins.flatMap (·.l)) l → pre l ∧ raw l = [.b true]) {args : Array Value} {avs : List AV} {w : World} (hrd : RdA w sig.ins args.toList avs) (hrg : RngL (sig.ins.flatMap (·.l)) avs) :
    Calls P f args w fun e w' => e = .returned (.bool true) ∧ Below w.heap.size w w' := law_callsG hm ho hp trivial hrd hrg
end
end Go.Proofs.Ytiiabaklipmbbaa.Vc
