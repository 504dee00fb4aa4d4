/- The symbolic executor: '==' on structs and arrays whose cells are numbers and truth values. -/
import Derived.Test.YtiiabaklipmbbaaVq
import Derived.Laws.StructEq
import Derived.ChangeKeysEq
namespace Go.Proofs.Ytiiabaklipmbbaa.Vc
noncomputable section
open Go Go.RowKit
variable {ρ : List AV} {β β' : Mp} {w w' : World} {P : Program}

noncomputable def eqV (vs us : List Value) : Bool := @decide (vs = us) (Classical.propDecidable _)
theorem eqV_iff {vs us : List Value} : eqV vs us = true ↔ vs = us := by unfold eqV; exact @decide_eq_true_iff _ (Classical.propDecidable _)
theorem eqV_congr {a b c d : List Value} (h : a = b ↔ c = d) : eqV a b = eqV c d := by rw [Bool.eq_iff_iff, eqV_iff, eqV_iff]; exact h
theorem eqV_of {a b : List Value} {p : Bool} (h : p = true ↔ a = b) : eqV a b = p := by rw [Bool.eq_iff_iff, eqV_iff]; exact h.symm
theorem eqV_self (a : List Value) : eqV a a = true := eqV_iff.2 rfl
theorem eqV_ne {a b : List Value} (h : a ≠ b) : eqV a b = false := by
  cases hc : eqV a b
  · rfl
  · exact absurd (eqV_iff.1 hc) h
theorem infoRun {e : TypeId} {i : TypeInfo} (h : P.info? e = some i) : (sizeOf e).run P w = .ok i.size w := by simp [sizeOf, typeInfo, h]

/-- the kinds of a type's cells, if all are numbers and truth values and lie side by side -/
def kindsF (K : TypeId → Option (List FK)) (P : Program) : Nat → List Field → Option (List FK)
  | _, [] => some []
  | off, f :: fs => match K f.type, P.info? f.type with
    | some ks, some i => if f.name ≠ "_" ∧ f.offset = off ∧ i.size = ks.length then (kindsF K P (off + ks.length) fs).map (ks ++ ·) else none
    | _, _ => none
def kindsT (P : Program) : Nat → TypeId → Option (List FK)
  | 0, _ => none
  | d + 1, t => match P.underlying t with
    | some .bool => some [.bool]
    | some (.int k) => some [.int k]
    | some (.struct fs) => if P.stoodInHeld t then none else kindsF (kindsT P d) P 0 fs.toList
    | some (.array n e) => match kindsT P d e, P.info? e with
      | some ks, some i => if i.size = ks.length then some (List.replicate n ks).flatten else none
      | _, _ => none
    | _ => none
def fitB : FK → Value → Prop
  | .int k, v => ∃ z, v = .int k z
  | .bool, v => ∃ p, v = .bool p
def aggT (P : Program) (t : TypeId) : Bool := match P.underlying t with | some (.struct _) | some (.array ..) => true | _ => false
/-- a value of type t with these cells -/
def shapeT (P : Program) (t : TypeId) (vs : List Value) (v : Value) : Prop := if aggT P t then v = .agg vs.toArray else vs = [v]
def EqT (P : Program) (d : Nat) (t : TypeId) (ks : List FK) : Prop :=
  ∀ (w : World) (vs us : List Value) (v u : Value), RelL fitB ks vs → RelL fitB ks us → shapeT P t vs v → shapeT P t us u → (Op.equalIn d t v u).run P w = .ok (eqV vs us) w
theorem isAgg_of {t : TypeId} {u : TypeDesc} (hu : P.underlying t = some u) : (isAgg t).run P w = .ok (aggT P t) w := by
  unfold isAgg aggT
  simp only [Sem.run_bind, run_underlying hu, Result.andThen_ok, hu]
  cases u <;> simp
theorem part_shape {t : TypeId} {ks : List FK} {i : TypeInfo} {off : Nat} {vs : List Value} {u : TypeDesc} (hu : P.underlying t = some u) (hi : P.info? t = some i) (hsz : i.size = ks.length) (hone : aggT P t = false → ks.length = 1) (hl : off + ks.length ≤ vs.length) :
    ∃ v, (part t vs.toArray off).run P w = .ok v w ∧ shapeT P t ((vs.drop off).take ks.length) v := by
  unfold part shapeT
  simp only [Sem.run_bind, isAgg_of hu, Result.andThen_ok]
  cases h : aggT P t
  · have h1 := hone h
    simp only [Bool.false_eq_true, if_false]
    have hlt : off < vs.length := by omega
    refine ⟨vs[off], by simp [hlt], ?_⟩
    rw [h1, List.drop_eq_getElem_cons hlt]; rfl
  · simp only [if_true, Sem.run_bind, infoRun hi, Result.andThen_ok, Sem.run_pure]
    refine ⟨_, rfl, ?_⟩
    rw [hsz]
    simp
theorem drop_take_eq {vs us : List Value} {n : Nat} : (vs.take n = us.take n ∧ vs.drop n = us.drop n) ↔ vs = us := by
  constructor
  · intro ⟨h1, h2⟩
    rw [← List.take_append_drop n vs, ← List.take_append_drop n us, h1, h2]
  · rintro rfl; exact ⟨rfl, rfl⟩
theorem RelL.split {α β : Type} {r : α → β → Prop} {a b : List α} {l : List β} (h : RelL r (a ++ b) l) : RelL r a (l.take a.length) ∧ RelL r b (l.drop a.length) := by
  have h1 := h.take a.length
  have h2 := h.drop a.length
  simp at h1 h2
  exact ⟨h1, h2⟩
theorem drop_eq {α : Type} (l : List α) (a b : Nat) : (l.drop a).drop b = l.drop (a + b) := by simp
theorem eqFields_run {d : Nat} {K : TypeId → Option (List FK)} (hK : ∀ t ks, K t = some ks → EqT P d t ks ∧ (aggT P t = false → ks.length = 1) ∧ ∃ u, P.underlying t = some u) {vs us : List Value} : ∀ (fs : List Field) (off : Nat) (ks : List FK), kindsF K P off fs = some ks →
    ∀ w, RelL fitB ks (vs.drop off) → RelL fitB ks (us.drop off) → off ≤ vs.length → off ≤ us.length → (Op.eqFields d vs.toArray us.toArray fs).run P w = .ok (eqV (vs.drop off) (us.drop off)) w
  | [], off, ks, h, w, hv, hu, hlv, hlu => by
    simp only [kindsF] at h
    obtain rfl := Option.some.inj h
    have h1 := hv.length
    have h2 := hu.length
    rw [List.eq_nil_of_length_eq_zero h1.symm, List.eq_nil_of_length_eq_zero h2.symm]
    simp [Op.eqFields, eqV_self]
  | f :: fs, off, ks, h, w, hv, hu, hlv, hlu => by
    simp only [kindsF] at h
    split at h
    · rename_i k1 i hk1 hi
      split at h
      · rename_i hc
        obtain ⟨hn, ho, hsz⟩ := hc
        simp only [Option.map_eq_some_iff] at h
        obtain ⟨k2, hk2, rfl⟩ := h
        obtain ⟨hE, hone, u0, hu0⟩ := hK _ _ hk1
        obtain ⟨v1, v2⟩ := hv.split
        obtain ⟨u1, u2⟩ := hu.split
        have lv := hv.length
        have lu := hu.length
        simp only [List.length_append, List.length_drop] at lv lu
        obtain ⟨a, pa, sa⟩ := part_shape (w := w) (vs := vs) (off := off) hu0 hi hsz hone (by omega)
        obtain ⟨b, pb, sb⟩ := part_shape (w := w) (vs := us) (off := off) hu0 hi hsz hone (by omega)
        have he := hE w _ _ a b v1 u1 sa sb
        have ih := eqFields_run hK fs (off + k1.length) k2 hk2 w (by rw [← drop_eq]; exact v2) (by rw [← drop_eq]; exact u2) (by omega) (by omega)
        unfold Op.eqFields
        rw [if_pos hn]
        simp only [Sem.run_bind, ho, pa, pb, he, Result.andThen_ok]
        have hdt := drop_take_eq (vs := vs.drop off) (us := us.drop off) (n := k1.length)
        rw [drop_eq, drop_eq] at hdt
        by_cases h1 : (vs.drop off).take k1.length = (us.drop off).take k1.length
        · simp only [eqV_iff.2 h1, Bool.not_true, Bool.false_eq_true, if_false, ih]
          rw [eqV_congr (show _ ↔ _ from ⟨fun h2 => hdt.1 ⟨h1, h2⟩, fun h2 => (hdt.2 h2).2⟩)]
        · simp only [eqV_ne h1, Bool.not_false, if_true, Sem.run_pure]
          have : ¬ vs.drop off = us.drop off := fun h2 => h1 (hdt.2 h2).1
          rw [eqV_ne this]
      · cases h
    · cases h
theorem flat_len {α : Type} (ks : List α) : ∀ n, (List.replicate n ks).flatten.length = n * ks.length
  | 0 => by simp
  | n + 1 => by rw [List.replicate_succ, List.flatten_cons, List.length_append, flat_len ks n, Nat.succ_mul]; omega
theorem eqItems_run {d : Nat} {e : TypeId} {ks : List FK} (hE : EqT P d e ks) (hone : aggT P e = false → ks.length = 1) {u0 : TypeDesc} (hu0 : P.underlying e = some u0) {i0 : TypeInfo} (hi : P.info? e = some i0) (hsz : i0.size = ks.length) {vs us : List Value} :
    ∀ (n i : Nat), ∀ w, RelL fitB (List.replicate n ks).flatten (vs.drop (i * ks.length)) → RelL fitB (List.replicate n ks).flatten (us.drop (i * ks.length)) → i * ks.length ≤ vs.length → i * ks.length ≤ us.length →
      (Op.eqItems d e ks.length vs.toArray us.toArray (List.range' i n)).run P w = .ok (eqV (vs.drop (i * ks.length)) (us.drop (i * ks.length))) w
  | 0, i, w, hv, hu, hlv, hlu => by
    have h1 := hv.length
    have h2 := hu.length
    simp only [List.replicate_zero, List.flatten_nil, List.length_nil] at h1 h2
    rw [List.eq_nil_of_length_eq_zero h1.symm, List.eq_nil_of_length_eq_zero h2.symm]
    simp [Op.eqItems, eqV_self]
  | n + 1, i, w, hv, hu, hlv, hlu => by
    rw [List.replicate_succ, List.flatten_cons] at hv hu
    obtain ⟨v1, v2⟩ := hv.split
    obtain ⟨u1, u2⟩ := hu.split
    have lv := hv.length
    have lu := hu.length
    simp only [List.length_append, List.length_drop] at lv lu
    obtain ⟨a, pa, sa⟩ := part_shape (w := w) (vs := vs) (off := i * ks.length) hu0 hi hsz hone (by omega)
    obtain ⟨b, pb, sb⟩ := part_shape (w := w) (vs := us) (off := i * ks.length) hu0 hi hsz hone (by omega)
    have he := hE w _ _ a b v1 u1 sa sb
    have ei : i * ks.length + ks.length = (i + 1) * ks.length := by rw [Nat.add_mul, Nat.one_mul]
    have ih := eqItems_run hE hone hu0 hi hsz n (i + 1) w (by rw [← ei, ← drop_eq]; exact v2) (by rw [← ei, ← drop_eq]; exact u2) (by omega) (by omega)
    rw [List.range'_succ]
    unfold Op.eqItems
    simp only [Sem.run_bind, pa, pb, he, Result.andThen_ok]
    have hdt := drop_take_eq (vs := vs.drop (i * ks.length)) (us := us.drop (i * ks.length)) (n := ks.length)
    rw [drop_eq, drop_eq, ei] at hdt
    by_cases h1 : (vs.drop (i * ks.length)).take ks.length = (us.drop (i * ks.length)).take ks.length
    · simp only [eqV_iff.2 h1, Bool.not_true, Bool.false_eq_true, if_false, ih]
      rw [eqV_congr (show _ ↔ _ from ⟨fun h2 => hdt.1 ⟨h1, h2⟩, fun h2 => (hdt.2 h2).2⟩)]
    · simp only [eqV_ne h1, Bool.not_false, if_true, Sem.run_pure]
      have : ¬ vs.drop (i * ks.length) = us.drop (i * ks.length) := fun h2 => h1 (hdt.2 h2).1
      rw [eqV_ne this]
theorem kindsT_run : ∀ (m d : Nat) (t : TypeId) (ks : List FK), kindsT P m t = some ks → EqT P (d + m) t ks ∧ (aggT P t = false → ks.length = 1) ∧ ∃ u, P.underlying t = some u
  | 0, _, _, _, h => by simp [kindsT] at h
  | m + 1, d, t, ks, h => by
    simp only [kindsT] at h
    split at h
    · rename_i hu
      obtain rfl := Option.some.inj h
      refine ⟨fun w vs us v u hv hu' sv su => ?_, fun _ => rfl, _, hu⟩
      have ha : aggT P t = false := by simp [aggT, hu]
      simp only [shapeT, ha, Bool.false_eq_true, if_false] at sv su
      subst sv su
      obtain ⟨a, rfl⟩ := hv.1
      obtain ⟨b, rfl⟩ := hu'.1
      rw [← Nat.add_assoc, equalIn_bool w (d + m) hu]
      rw [eqV_of (p := a == b) (by simp)]
    · rename_i k hu
      obtain rfl := Option.some.inj h
      refine ⟨fun w vs us v u hv hu' sv su => ?_, fun _ => rfl, _, hu⟩
      have ha : aggT P t = false := by simp [aggT, hu]
      simp only [shapeT, ha, Bool.false_eq_true, if_false] at sv su
      subst sv su
      obtain ⟨a, rfl⟩ := hv.1
      obtain ⟨b, rfl⟩ := hu'.1
      rw [← Nat.add_assoc, run_equalIn_int w (d + m) t k k a b hu]
      rw [eqV_of (p := a == b) (by simp)]
    · rename_i fs hu
      split at h
      · cases h
      · rename_i hst
        have ha : aggT P t = true := by simp [aggT, hu]
        have hfs : P.fieldsOf t = fs := by simp [Program.fieldsOf, hu]
        refine ⟨fun w vs us v u hv hu' sv su => ?_, fun h => (by rw [ha] at h; cases h), _, hu⟩
        simp only [shapeT, ha, if_true] at sv su
        subst sv su
        rw [← Nat.add_assoc, run_equalIn_struct w (d + m) t _ _ (by rw [hfs]; exact hu) (by simpa using hst), hfs]
        have := eqFields_run (P := P) (d := d + m) (K := kindsT P m) (fun t ks h => kindsT_run m d t ks h) (vs := vs) (us := us) fs.toList 0 ks h w (by simpa using hv) (by simpa using hu') (Nat.zero_le _) (Nat.zero_le _)
        simpa using this
    · rename_i n e hu
      split at h
      · rename_i k1 i hk hi
        split at h
        · rename_i hsz
          obtain rfl := Option.some.inj h
          have ha : aggT P t = true := by simp [aggT, hu]
          obtain ⟨hE, hone, u0, hu0⟩ := kindsT_run m d e k1 hk
          refine ⟨fun w vs us v u hv hu' sv su => ?_, fun h => (by rw [ha] at h; cases h), _, hu⟩
          simp only [shapeT, ha, if_true] at sv su
          subst sv su
          have hc : P.cellsOf e = k1.length := by simp [Program.cellsOf, hi, hsz]
          rw [← Nat.add_assoc, run_equalIn_array w (d + m) _ _ hu hi, hc, List.range_eq_range']
          have := eqItems_run hE hone hu0 hi hsz n 0 w (vs := vs) (us := us) (by simpa using hv) (by simpa using hu') (by simp) (by simp)
          simpa using this
        · cases h
      · cases h
    · cases h
theorem fit_of {l : List Sc} {ks : List FK} {vs : List Value} (h : mapOpt fkOf l = some ks) (hr : RelL (Sc.rel ρ β) l vs) : RelL fitB ks vs := by
  induction l generalizing ks vs with
  | nil =>
    simp [mapOpt] at h; subst h
    cases vs with
    | nil => trivial
    | cons _ _ => exact hr.elim
  | cons x l ih =>
    cases vs with
    | nil => exact hr.elim
    | cons v vs =>
      simp only [mapOpt] at h
      split at h
      · rename_i y m hy hm
        obtain rfl := Option.some.inj h
        refine ⟨?_, ih hm hr.2⟩
        have h1 := hr.1
        unfold fkOf at hy
        split at hy
        · obtain rfl := Option.some.inj hy; exact ⟨_, h1⟩
        · obtain rfl := Option.some.inj hy; exact ⟨_, h1⟩
        · cases hy
      · cases h
theorem eqCells_val : ∀ {x y : List Sc} {vs us : List Value} {e : X}, eqCells x y = some e → RelL (Sc.rel ρ β) x vs → RelL (Sc.rel ρ β) y us → e.B ρ = eqV vs us ∧ mapOpt fkOf y = mapOpt fkOf x
  | [], [], vs, us, e, h, hx, hy => by
    simp only [eqCells] at h
    obtain rfl := Option.some.inj h
    cases vs with
    | nil => cases us with
      | nil => exact ⟨(eqV_self _).symm, rfl⟩
      | cons _ _ => exact hy.elim
    | cons _ _ => exact hx.elim
  | .c (.int k a) :: l, .c (.int k' b) :: l', v :: vs, u :: us, e, h, hx, hy => by
    simp only [eqCells] at h
    split at h
    · rename_i hk
      subst hk
      simp only [Option.map_eq_some_iff] at h
      obtain ⟨e', he', rfl⟩ := h
      obtain ⟨h1, h2⟩ := eqCells_val he' hx.2 hy.2
      have e1 : v = .int k (a.I ρ) := hx.1
      have e2 : u = .int k (b.I ρ) := hy.1
      subst e1 e2
      refine ⟨?_, by simp only [mapOpt, fkOf, h2]⟩
      rw [xand, xeq, h1, Bool.eq_iff_iff]
      simp [eqV_iff]
    · cases h
  | .c (.bool a) :: l, .c (.bool b) :: l', v :: vs, u :: us, e, h, hx, hy => by
    simp only [eqCells, Option.map_eq_some_iff] at h
    obtain ⟨e', he', rfl⟩ := h
    obtain ⟨h1, h2⟩ := eqCells_val he' hx.2 hy.2
    have e1 : v = .bool (a.B ρ) := hx.1
    have e2 : u = .bool (b.B ρ) := hy.1
    subst e1 e2
    refine ⟨?_, by simp only [mapOpt, fkOf, h2]⟩
    rw [xand, xor_, xand, xand, xnot, xnot, h1, Bool.eq_iff_iff]
    simp only [Bool.and_eq_true, eqV_iff, List.cons.injEq, Value.bool.injEq]
    cases a.B ρ <;> cases b.B ρ <;> simp
  | [], _ :: _, _, _, _, h, _, _ => by simp [eqCells] at h
  | _ :: _, [], _, _, _, h, _, _ => by simp [eqCells] at h
  | .c (.int ..) :: _, .c (.bool _) :: _, _, _, _, h, _, _ | .c (.int ..) :: _, .c (.ptr ..) :: _, _, _, _, h, _, _ | .c (.int ..) :: _, .c .nilp :: _, _, _, _, h, _, _ | .c (.int ..) :: _, .c (.slc ..) :: _, _, _, _, h, _, _
  | .c (.int ..) :: _, .c .nils :: _, _, _, _, h, _, _ | .c (.int ..) :: _, .fn .. :: _, _, _, _, h, _, _ | .c (.int ..) :: _, .nilf :: _, _, _, _, h, _, _
  | .c (.bool _) :: _, .c (.int ..) :: _, _, _, _, h, _, _ | .c (.bool _) :: _, .c (.ptr ..) :: _, _, _, _, h, _, _ | .c (.bool _) :: _, .c .nilp :: _, _, _, _, h, _, _ | .c (.bool _) :: _, .c (.slc ..) :: _, _, _, _, h, _, _
  | .c (.bool _) :: _, .c .nils :: _, _, _, _, h, _, _ | .c (.bool _) :: _, .fn .. :: _, _, _, _, h, _, _ | .c (.bool _) :: _, .nilf :: _, _, _, _, h, _, _
  | .c (.ptr ..) :: _, _ :: _, _, _, _, h, _, _ | .c .nilp :: _, _ :: _, _, _, _, h, _, _ | .c (.slc ..) :: _, _ :: _, _, _, _, h, _, _ | .c .nils :: _, _ :: _, _, _, _, h, _, _ | .fn .. :: _, _ :: _, _, _, _, h, _, _ | .nilf :: _, _ :: _, _, _, _, h, _, _ => by simp [eqCells] at h
  | .c (.int ..) :: _, .c (.int ..) :: _, [], _, _, _, hx, _ => hx.elim
  | .c (.int ..) :: _, .c (.int ..) :: _, _ :: _, [], _, _, _, hy => hy.elim
  | .c (.bool _) :: _, .c (.bool _) :: _, [], _, _, _, hx, _ => hx.elim
  | .c (.bool _) :: _, .c (.bool _) :: _, _ :: _, [], _, _, _, hy => hy.elim
/-- what a table's row marked 'plain' is held to -/
def plainB (P : Program) (t : TypeId) (d : TD) : Bool := decide (kindsT P 20 t = mapOpt fkOf d.zero) && aggT P t && !P.eqGuardType P.depth t
theorem plain_eq {t : TypeId} {d : TD} (h : plainB P t d = true) (x y : List Sc) (vs us : List Value) (e : X) (ρ : List AV) (β : Mp) (w : World) (he : eqCells x y = some e) (hx : RelL (Sc.rel ρ β) x vs) (hy : RelL (Sc.rel ρ β) y us) (h1 : (mapOpt fkOf x).isSome = true) (h2 : mapOpt fkOf x = mapOpt fkOf d.zero) :
    (Op.equal t (.agg vs.toArray) (.agg us.toArray)).run P w = .ok (e.B ρ) w ∧ ∀ op xo yo, (eqGuard op t xo yo (.agg vs.toArray) (.agg us.toArray)).run P w = .ok () w := by
  simp only [plainB, Bool.and_eq_true, decide_eq_true_eq, Bool.not_eq_true'] at h
  obtain ⟨⟨hk, ha⟩, hg⟩ := h
  obtain ⟨ks, hks⟩ := Option.isSome_iff_exists.1 h1
  obtain ⟨e1, e2⟩ := eqCells_val he hx hy
  obtain ⟨hE, _, _⟩ := kindsT_run (P := P) 20 9980 t ks (by rw [hk, ← h2, hks])
  refine ⟨?_, fun op xo yo => run_eqGuard_agg w op t xo yo _ _ hg⟩
  rw [e1]
  exact hE w vs us _ _ (fit_of hks hx) (fit_of (by rw [e2]; exact hks) hy) (by simp [shapeT, ha]) (by simp [shapeT, ha])
end
end Go.Proofs.Ytiiabaklipmbbaa.Vc
