/- The symbolic executor: operations that leave old memory as it is. -/
import Derived.Test.YtiiabaklipmbbaaVl
namespace Go.Proofs.Ytiiabaklipmbbaa.Vc
noncomputable section
open Go Go.RowKit
variable {ρ : List AV} {β β' : Mp} {W W' : Nat → Prop} {w w' : World} {P : Program} {C : Cfg} {t : TypeId} {d : TD}

/-- literal cells and the cells of a zero value -/
def litB : Sc → Value → Bool
  | .c (.int k (.lit z)), .int k' z' => decide (k = k') && decide (z = z')
  | .c (.bool (.bl p)), .bool p' => decide (p = p')
  | .c .nilp, .pointer none => true
  | .c .nils, .slice none 0 0 => true
  | .nilf, .nilFunc => true
  | _, _ => false
def litsB : List Sc → List Value → Bool
  | [], [] => true
  | x :: l, y :: m => litB x y && litsB l m
  | _, _ => false
theorem litB_rel {x : Sc} {v : Value} (h : litB x v = true) : x.rel ρ β v := by
  unfold litB at h
  split at h
  · simp at h; obtain ⟨rfl, rfl⟩ := h; rfl
  · simp at h; subst h; rfl
  · rfl
  · rfl
  · rfl
  · cases h
theorem litsB_rel : ∀ {l : List Sc} {m : List Value}, litsB l m = true → RelL (Sc.rel ρ β) l m
  | [], [], _ => trivial
  | x :: l, y :: m, h => by simp [litsB] at h; exact ⟨litB_rel h.1, litsB_rel h.2⟩
  | [], _ :: _, h => by simp [litsB] at h
  | _ :: _, [], h => by simp [litsB] at h
def fieldsB (P : Program) : List Field → List (Nat × Nat × Nat) → Bool
  | [], [] => true
  | f :: fs, (off, sz, ft) :: l => (decide (f.offset = off) && decide (f.type = ft)) && (match P.info? f.type with | some i => decide (i.size = sz) | none => false) && fieldsB P fs l
  | _, _ => false
def dkB (P : Program) : TypeDesc → DK → Bool
  | .struct fs, .struct l => fieldsB P fs.toList l
  | .array n e, .arr n' sz => decide (n = n') && (match P.info? e with | some i => decide (i.size = sz) | none => false)
  | .slice e, .slice e' => decide (e = e')
  | .bool, .bool => true
  | .int k, .int k' => decide (k = k')
  | .struct _, .scalar => false
  | .array _ _, .scalar => false
  | _, .scalar => true
  | _, _ => false
def tdB (P : Program) (t : TypeId) (d : TD) : Bool :=
  match P.info? t, P.underlying t with
  | some i, some u => decide (i.size = d.size) && decide (i.bytes = d.bytes) && decide (d.zero.length = d.size) && dkB P u d.dk && (match u with | .array _ e => decide (e = d.el) | _ => true) &&
      (match i.zero with | some z => litsB d.zero z.cells.toList && (match z, d.dk.agg with | .agg _, true => true | .agg _, false => false | _, true => false | _, false => true) | none => false)
  | _, _ => false
structure TOk (P : Program) (t : TypeId) (d : TD) : Prop where
  out : tdB P t d = true
theorem TOk.facts {t : TypeId} {d : TD} (h : TOk P t d) : ∃ i u z, P.info? t = some i ∧ P.underlying t = some u ∧ i.size = d.size ∧ i.bytes = d.bytes ∧ d.zero.length = d.size ∧ dkB P u d.dk = true ∧ i.zero = some z ∧
    litsB d.zero z.cells.toList = true ∧ (d.dk.agg = true → ∃ cs, z = .agg cs) ∧ (d.dk.agg = false → ∀ cs, z ≠ .agg cs) ∧ (∀ n e, u = .array n e → e = d.el) := by
  have := h.out
  unfold tdB at this
  split at this
  · rename_i i u h1 h2
    simp only [Bool.and_eq_true, decide_eq_true_eq] at this
    obtain ⟨⟨⟨⟨⟨a, b⟩, c⟩, d'⟩, el⟩, e⟩ := this
    split at e
    · rename_i z hz
      simp only [Bool.and_eq_true] at e
      refine ⟨i, u, z, h1, h2, a, b, c, d', hz, e.1, fun hg => ?_, fun hg cs hc => ?_, fun n e hu => ?_⟩
      · have := e.2
        rw [hg] at this
        cases z <;> simp at this ⊢
      · subst hc
        have := e.2
        rw [hg] at this
        simp at this
      · subst hu
        simpa using el
    · cases e
  · cases this
/-- what the tables say is so -/
structure Cfg.Ok (C : Cfg) (P : Program) : Prop where
  ty : ∀ t d, C.ty t = some d → TOk P t d
  fn : ∀ f fn, C.fn f = some fn → P.funcs[f]? = some fn
  str : ∀ t, C.strs.contains t = true → P.underlying t = some .string
  eq : ∀ t d, C.ty t = some d → d.plain = true → ∀ (x y : List Sc) (vs us : List Value) (e : X) (ρ : List AV) (β : Mp) (w : World), eqCells x y = some e → RelL (Sc.rel ρ β) x vs → RelL (Sc.rel ρ β) y us → (mapOpt fkOf x).isSome = true → mapOpt fkOf x = mapOpt fkOf d.zero →
    (Op.equal t (.agg vs.toArray) (.agg us.toArray)).run P w = .ok (e.B ρ) w ∧ ∀ op xo yo, (eqGuard op t xo yo (.agg vs.toArray) (.agg us.toArray)).run P w = .ok () w
/-- globals that are entries -/
def GlobOk (C : Cfg) (β : Mp) : Prop := ∀ g k, C.glob g = some k → ∃ b, β k = some b ∧ b.v.addr = some ⟨g, 0, none⟩

theorem constSV_rel {v : Value} {x : SV} (h : constSV v = some x) : x.rel ρ β v := by
  unfold constSV at h
  split at h <;> first | (obtain rfl := Option.some.inj h; rfl) | cases h
/-- the operand's slot stands for what the frame holds -/
def OpdOk (ρ : List AV) (β : Mp) (s : S) (a : Act) (x : Operand) : Prop := ∀ t, x = .tmp t → ∀ sl, s.tmps[t]? = some (some sl) → sl.rel ρ β (a.eval x)
theorem val_rel {s : S} {g : X} {x : Operand} {v : SV} {a : Act} (hf : s.factsOk ρ) (hg : g.B ρ = true) (hgl : GlobOk C β) (hx : OpdOk ρ β s a x) (h : s.val C g x = some v) : v.rel ρ β (a.eval x) := by
  unfold S.val at h
  split at h
  · rename_i sl hsl
    split at h
    · rename_i hh
      obtain rfl := Option.some.inj h
      have hgt := S.holds_B hf hg hh
      unfold S.opd at hsl
      split at hsl
      · rename_i t
        rw [getF_eq] at hsl
        have h2 : s.tmps[t]? = some (some sl) := by
          cases h3 : s.tmps[t]? with
          | none => simp [h3] at hsl
          | some o => simp [h3] at hsl; rw [hsl]
        exact (hx t rfl sl h2).1 hgt
      · simp only [Option.map_eq_some_iff] at hsl
        obtain ⟨y, hy, rfl⟩ := hsl
        exact constSV_rel hy
      · rename_i g'
        simp only [Option.map_eq_some_iff] at hsl
        obtain ⟨k, hk, rfl⟩ := hsl
        obtain ⟨b, hb, ha⟩ := hgl _ _ hk
        exact ⟨⟨g', 0, none⟩, b.v.cap, by simp [SB.at, hb, ha], by simp [X.I, X.den, AV.int], by simp [X.I, X.den, AV.int, Act.eval, Addr.add]⟩
      · obtain rfl := Option.some.inj hsl
        exact ⟨[], [], rfl, trivial, trivial⟩
    · cases h
  · cases h
theorem int_rel {s : S} {g : X} {x : Operand} {k : IntKind} {e : X} {a : Act} (hf : s.factsOk ρ) (hg : g.B ρ = true) (hgl : GlobOk C β) (hx : OpdOk ρ β s a x) (h : s.int C g x = some (k, e)) : a.eval x = .int k (e.I ρ) := by
  unfold S.int at h
  split at h
  · rename_i k' e' hv
    obtain ⟨rfl, rfl⟩ := Prod.mk.inj (Option.some.inj h)
    exact val_rel hf hg hgl hx hv
  · cases h
theorem bool_rel {s : S} {g : X} {x : Operand} {e : X} {a : Act} (hf : s.factsOk ρ) (hg : g.B ρ = true) (hgl : GlobOk C β) (hx : OpdOk ρ β s a x) (h : s.bool C g x = some e) : a.eval x = .bool (e.B ρ) := by
  unfold S.bool at h
  split at h
  · rename_i e' hv
    obtain rfl := Option.some.inj h
    exact val_rel hf hg hgl hx hv
  · cases h

theorem wrap_of_inr {k : IntKind} {z : Int} (h : Vc.inr k z = true) : k.wrap z = z := by
  cases k <;> simp [Vc.inr, IntKind.min, IntKind.max, IntKind.wrap, IntKind.signed, IntKind.bits] at h ⊢ <;> (try split) <;> omega

def upd (β : Mp) (k : Nat) (b : BI) : Mp := fun j => if j = k then some b else β j
theorem upd_same (β : Mp) (k : Nat) (b : BI) : upd β k b k = some b := by simp [upd]
theorem upd_other (β : Mp) {k j : Nat} (b : BI) (h : j ≠ k) : upd β k b j = β j := by simp [upd, h]
theorem ext_upd {k : Nat} (b : BI) (h : β k = none) : Ext β (upd β k b) := fun j x hx => ⟨x, by rw [upd_other]; exact ⟨hx, rfl⟩; intro e; subst e; rw [h] at hx; cases hx⟩
/-- what is known behind an operation that leaves old memory as it is -/
def QPost (ρ : List AV) (β : Mp) (W : Nat → Prop) (w : World) (n : Nat) (v : SV) (add : Option HE) (u : Value) (w' : World) (β' : Mp) (W' : Nat → Prop) : Prop :=
  v.rel ρ β' u ∧ match add with
  | none => w' = w ∧ β' = β ∧ W' = W
  | some e => ∃ b, Below w.heap.size w w' ∧ w'.heap.size = w.heap.size + 1 ∧ b.own = some w.heap.size ∧ β' = upd β n b ∧ W' = (fun r => W r ∨ r = w.heap.size) ∧ ∀ g, EOk ρ β' W' w' b (guarded g e)
def QOk (P : Program) (ρ : List AV) (β : Mp) (W : Nat → Prop) (w : World) (n : Nat) (a : Act) (o : Oper) (v : SV) (add : Option HE) : Prop :=
  ∃ u w' β' W', (execOp a.eval o).run P w = .ok (.value u) w' ∧ QPost ρ β W w n v add u w' β' W'
theorem QOk.same {n : Nat} {a : Act} {o : Oper} {v : SV} {u : Value} (h : (execOp a.eval o).run P w = .ok (.value u) w) (hr : v.rel ρ β u) : QOk P ρ β W w n a o v none :=
  ⟨u, w, β, W, h, hr, rfl, rfl, rfl⟩
/-- a new block of cells -/
theorem place_new (c : Array Value) (t : TypeId) (W : Nat → Prop) (v : BV) (hv : v.cap * v.sz ≤ c.size) :
    place (w.alloc (.cells c t)) (fun r => W r ∨ r = w.heap.size) true ⟨v, some w.heap.size⟩ ⟨w.heap.size, 0, none⟩ := by
  refine ⟨by simp, fun _ => ⟨rfl, rfl, fun j hj => ?_⟩, fun h => by cases h⟩
  have : j < c.size := by simp at hj; omega
  exact ⟨c[j], by simp [this], by simp⟩
theorem add0 (r j : Nat) : (⟨r, 0, none⟩ : Addr).add j = ⟨r, j, none⟩ := by unfold Addr.add; split <;> simp_all
theorem cells_new (cs : List Value) (t : TypeId) {l : List Sc} (hl : RelL (Sc.rel ρ β) l cs) (j : Nat) (c : Sc) (hj : l[j]? = some c) : ∃ v, cellOk (w.alloc (.cells cs.toArray t)) true ((⟨w.heap.size, 0, none⟩ : Addr).add j) v ∧ c.rel ρ β v := by
  obtain ⟨v, h1, h2⟩ := hl.get j c hj
  exact ⟨v, ⟨by rw [add0]; simpa using h1, fun _ => by rw [add0]; simp⟩, h2⟩
theorem EOk_cells_new (g : X) (cs : List Value) (t : TypeId) {l : List Sc} (v : BV) (ha : v.addr = some ⟨w.heap.size, 0, none⟩) (hc : v.cap * v.sz ≤ cs.length) (hl : RelL (Sc.rel ρ β) l cs) :
    EOk ρ β (fun r => W r ∨ r = w.heap.size) (w.alloc (.cells cs.toArray t)) ⟨v, some w.heap.size⟩ (guarded g (ent true (.cells l))) :=
  fun _ => ⟨⟨w.heap.size, 0, none⟩, ha, place_new _ t W v (by simpa using hc), fun j c hj => cells_new cs t hl j c hj⟩
theorem below_alloc (w : World) (o : Obj) : Below w.heap.size w (w.alloc o) := (Below.refl _ _).alloc (Nat.le_refl _) _

theorem boolEq_B (x y : X) : (boolEq x y).B ρ = (x.B ρ == y.B ρ) := by
  unfold boolEq
  split
  · simp [bl_B]
  · rw [bl_B]; cases X.B ρ _ <;> rfl
  · rw [xnot, bl_B]; cases X.B ρ _ <;> rfl
  · rw [xnot, bl_B]; cases X.B ρ _ <;> rfl
  · rw [xor_, xand, xand, xnot, xnot]; cases X.B ρ x <;> cases X.B ρ y <;> rfl

theorem equalIn_bool (w : World) (d : Nat) {t : TypeId} (hu : P.underlying t = some .bool) (a b : Bool) : (Op.equalIn (d + 1) t (.bool a) (.bool b)).run P w = .ok (a == b) w := by
  simp [Op.equalIn, run_underlying hu]
theorem equalIn_slice_nil {e : TypeId} (w : World) (d : Nat) (hu : P.underlying t = some (.slice e)) (q : Option Addr) (n c : Nat) : (Op.equalIn (d + 1) t (.slice q n c) (.slice none 0 0)).run P w = .ok q.isNone w := by
  cases q <;> simp [Op.equalIn, run_underlying hu]
theorem equal_slice_nil {e : TypeId} (w : World) (hu : P.underlying t = some (.slice e)) (q : Option Addr) (n c : Nat) : (Op.equal t (.slice q n c) (.slice none 0 0)).run P w = .ok q.isNone w := equalIn_slice_nil w 9999 hu q n c
theorem slice_dk {d : TD} (h : TOk P t d) {e : TypeId} (hd : d.dk = .slice e) : P.underlying t = some (.slice e) := by
  obtain ⟨i, u, z, _, hu, _, _, _, hdk, _⟩ := h.facts
  rw [hd] at hdk
  cases u <;> simp [dkB] at hdk
  rw [hu, hdk]
theorem nil_eq {e : TypeId} (hu : P.underlying t = some (.slice e)) {op : BinOp} (xo yo : Operand) (q : Option Addr) (n c : Nat) : (op = .eql → ((do eqGuard op t xo yo (.slice q n c) (.slice none 0 0); binOp op t (.slice q n c) (.slice none 0 0)) : Sem Value).run P w = .ok (.bool q.isNone) w) ∧
    (op = .neq → ((do eqGuard op t xo yo (.slice q n c) (.slice none 0 0); binOp op t (.slice q n c) (.slice none 0 0)) : Sem Value).run P w = .ok (.bool (!q.isNone)) w) := by
  have he := fun w => equal_slice_nil (P := P) w hu q n c
  constructor
  · rintro rfl; simp [eqGuard, binOp, he]
  · rintro rfl; simp [eqGuard, binOp, he]
/-- a list that is nil has no elements -/
theorem slc_nil {b : SB} {sz : Nat} {off len : X} {cp : Option X} {v : Value} (h : (Sc0.slc b sz off len cp).rel ρ β v) : ∃ q n c, v = .slice q n c ∧ 0 ≤ len.I ρ ∧ (q.isNone = true → len.I ρ = 0) := by
  obtain ⟨p, c, q, r, _, rfl, ho, hl, hlr, hrm, hpc, hq, hrc, _⟩ := h
  refine ⟨q, _, r, rfl, hl, fun hn => ?_⟩
  have hqn : q = none := Option.isNone_iff_eq_none.1 hn
  rcases hq with hq | hq
  · omega
  · have hp : p = none := by
      cases p with
      | none => rfl
      | some p => rw [hqn] at hq; simp at hq
    have := hpc hp
    omega
def opNeeds (r : R) (ρ : List AV) : Prop := ∀ x ∈ r.needs, x.B ρ = true
theorem opBin_sound (hC : C.Ok P) {op : BinOp} {t : TypeId} {x y : SV} {r : R} (h : opBin C op t x y = some r) (hnd : ∀ x ∈ r.needs, x.B ρ = true) {u v : Value} (hx : x.rel ρ β u) (hy : y.rel ρ β v) (xo yo : Operand) :
    r.add = none ∧ ∃ z, ((do eqGuard op t xo yo u v; binOp op t u v) : Sem Value).run P w = .ok z w ∧ r.v.rel ρ β z := by
  unfold opBin at h
  split at h
  · rename_i k a k' b
    simp only [SV.rel, V1.rel, Sc.rel, Sc0.rel] at hx hy
    subst hx hy
    have hgd : (eqGuard op t xo yo (.int k (a.I ρ)) (.int k' (b.I ρ))).run P w = .ok () w := by
      unfold eqGuard
      cases op <;> simp
    split at h
    · obtain rfl := Option.some.inj h
      have n1 := le_of (hnd (xb .le (.lit 0) b) (by simp [arith, rI]))
      have n2 := lt_of (hnd (xb .lt b (.lit k.bits)) (by simp [arith, rI]))
      have n3 := hnd (mkInr k (xb .shl a b)) (by simp [arith, rI])
      rw [xinr, xshl] at n3
      rw [lit_I] at n1 n2
      refine ⟨rfl, .int k (a.I ρ * 2 ^ (b.I ρ).toNat), ?_, ?_⟩
      · simp only [Sem.run_bind, hgd, Result.andThen_ok]
        simp only [binOp, Op.shift]
        rw [if_neg (by omega), show min (b.I ρ).toNat k.bits = (b.I ρ).toNat from Nat.min_eq_left (by omega)]
        simp [wrap_of_inr n3]
      · show Value.int _ _ = Value.int _ _
        rw [xshl]
    · obtain rfl := Option.some.inj h
      have n1 := le_of (hnd (xb .le (.lit 0) b) (by simp [arith, rI]))
      have n2 := lt_of (hnd (xb .lt b (.lit k.bits)) (by simp [arith, rI]))
      rw [lit_I] at n1 n2
      refine ⟨rfl, .int k ((a.I ρ).fdiv (2 ^ (b.I ρ).toNat)), ?_, ?_⟩
      · simp only [Sem.run_bind, hgd, Result.andThen_ok]
        simp only [binOp, Op.shift]
        rw [if_neg (by omega), show min (b.I ρ).toNat k.bits = (b.I ρ).toNat from Nat.min_eq_left (by omega)]
        simp
      · show Value.int _ _ = Value.int _ _
        rw [xshr]
    · split at h
      · rename_i hk
        subst hk
        split at h
        · obtain rfl := Option.some.inj h
          have n3 := hnd (mkInr k (xb .add a b)) (by simp [arith, rI])
          rw [xinr, xadd] at n3
          exact ⟨rfl, _, by simp only [Sem.run_bind, hgd, Result.andThen_ok]; simp [binOp, Op.intArith, wrap_of_inr n3]; rfl, by show Value.int _ _ = Value.int _ _; rw [xadd]⟩
        · obtain rfl := Option.some.inj h
          have n3 := hnd (mkInr k (xb .sub a b)) (by simp [arith, rI])
          rw [xinr, xsub] at n3
          exact ⟨rfl, _, by simp only [Sem.run_bind, hgd, Result.andThen_ok]; simp [binOp, Op.intArith, wrap_of_inr n3]; rfl, by show Value.int _ _ = Value.int _ _; rw [xsub]⟩
        · obtain rfl := Option.some.inj h
          have n3 := hnd (mkInr k (xb .mul a b)) (by simp [arith, rI])
          rw [xinr, xmul] at n3
          exact ⟨rfl, _, by simp only [Sem.run_bind, hgd, Result.andThen_ok]; simp [binOp, Op.intArith, wrap_of_inr n3]; rfl, by show Value.int _ _ = Value.int _ _; rw [xmul]⟩
        · obtain rfl := Option.some.inj h
          have n3 := hnd (mkInr k (xb .quo a b)) (by simp [arith, rI])
          have n4 := hnd (mkNot (xb .eq b (.lit 0))) (by simp [arith, rI])
          rw [xinr, xquo] at n3
          rw [xnot, xeq, lit_I] at n4
          have n4' : b.I ρ ≠ 0 := by simpa using n4
          exact ⟨rfl, _, by simp only [Sem.run_bind, hgd, Result.andThen_ok]; simp [binOp, Op.intDiv, wrap_of_inr n3, n4']; rfl, by show Value.int _ _ = Value.int _ _; rw [xquo]⟩
        · obtain rfl := Option.some.inj h
          have n4 := hnd (mkNot (xb .eq b (.lit 0))) (by simp [arith, rI])
          rw [xnot, xeq, lit_I] at n4
          have n4' : b.I ρ ≠ 0 := by simpa using n4
          exact ⟨rfl, _, by simp only [Sem.run_bind, hgd, Result.andThen_ok]; simp [binOp, Op.intDiv, n4']; rfl, by show Value.int _ _ = Value.int _ _; rw [xrem]⟩
        · obtain rfl := Option.some.inj h
          exact ⟨rfl, _, by simp only [Sem.run_bind, hgd, Result.andThen_ok]; simp [binOp, Op.intCmp]; rfl, by show Value.bool _ = Value.bool _; rw [xeq]; rfl⟩
        · obtain rfl := Option.some.inj h
          exact ⟨rfl, _, by simp only [Sem.run_bind, hgd, Result.andThen_ok]; simp [binOp, Op.intCmp]; rfl, by show Value.bool _ = Value.bool _; rw [xnot, xeq]; rfl⟩
        · obtain rfl := Option.some.inj h
          exact ⟨rfl, _, by simp only [Sem.run_bind, hgd, Result.andThen_ok]; simp [binOp, Op.intCmp]; rfl, by show Value.bool _ = Value.bool _; rw [xlt]⟩
        · obtain rfl := Option.some.inj h
          exact ⟨rfl, _, by simp only [Sem.run_bind, hgd, Result.andThen_ok]; simp [binOp, Op.intCmp]; rfl, by show Value.bool _ = Value.bool _; rw [xle]⟩
        · obtain rfl := Option.some.inj h
          exact ⟨rfl, _, by simp only [Sem.run_bind, hgd, Result.andThen_ok]; simp [binOp, Op.intCmp]; rfl, by show Value.bool _ = Value.bool _; rw [xlt]⟩
        · obtain rfl := Option.some.inj h
          exact ⟨rfl, _, by simp only [Sem.run_bind, hgd, Result.andThen_ok]; simp [binOp, Op.intCmp]; rfl, by show Value.bool _ = Value.bool _; rw [xle]⟩
        · cases h
      · cases h
  · rename_i a b
    simp only [SV.rel, V1.rel, Sc.rel, Sc0.rel] at hx hy
    subst hx hy
    split at h
    · rename_i sz by_ z el pl htd
      obtain ⟨i, u, zz, _, hu, _, _, _, hdk, _⟩ := (hC.ty _ _ htd).facts
      have hub : u = .bool := by cases u <;> simp [dkB] at hdk ⊢
      subst hub
      have he : ∀ w, (Op.equal t (.bool (a.B ρ)) (.bool (b.B ρ))).run P w = .ok (a.B ρ == b.B ρ) w := fun w => by
        exact equalIn_bool w 9999 hu _ _
      split at h
      · obtain rfl := Option.some.inj h
        refine ⟨rfl, .bool (a.B ρ == b.B ρ), ?_, by show Value.bool _ = Value.bool _; rw [boolEq_B]⟩
        simp [eqGuard, binOp, he]
      · obtain rfl := Option.some.inj h
        refine ⟨rfl, .bool (!(a.B ρ == b.B ρ)), ?_, by show Value.bool _ = Value.bool _; rw [xnot, boolEq_B]⟩
        simp [eqGuard, binOp, he]
      · cases h
    · cases h
  · rename_i b0 sz off n cp
    obtain ⟨q, m, c, rfl, h0, hnil⟩ := slc_nil (show (Sc0.slc b0 sz off (.lit n) cp).rel ρ β u from hx)
    have hy : v = .slice none 0 0 := hy
    subst hy
    split at h
    · rename_i e0 sz0 by_ z el pl htd
      have hu := slice_dk (hC.ty _ _ htd) rfl
      split at h
      · rename_i hn
        have hqn : q.isNone = false := by
          cases hc : q.isNone
          · rfl
          · have := hnil hc; rw [lit_I] at this; omega
        obtain ⟨e1, e2⟩ := nil_eq (w := w) hu (op := op) xo yo q m c
        rw [hqn] at e1 e2
        split at h
        · obtain rfl := Option.some.inj h
          exact ⟨rfl, _, e1 rfl, rfl⟩
        · obtain rfl := Option.some.inj h
          exact ⟨rfl, _, e2 rfl, rfl⟩
        · cases h
      · cases h
    · cases h
  · have hx : u = .slice none 0 0 := hx
    have hy : v = .slice none 0 0 := hy
    subst hx hy
    split at h
    · rename_i e0 sz0 by_ z el pl htd
      have hu := slice_dk (hC.ty _ _ htd) rfl
      obtain ⟨e1, e2⟩ := nil_eq (w := w) hu (op := op) xo yo none 0 0
      split at h
      · obtain rfl := Option.some.inj h
        exact ⟨rfl, _, e1 rfl, rfl⟩
      · obtain rfl := Option.some.inj h
        exact ⟨rfl, _, e2 rfl, rfl⟩
      · cases h
    · cases h
  · rename_i a b
    obtain ⟨us, rfl, hus⟩ := hx
    obtain ⟨vs, rfl, hvs⟩ := hy
    split at h
    · rename_i d hd
      split at h
      · rename_i hpl
        split at h
        · cases h
        · rename_i e he
          obtain ⟨h1, h2⟩ := hC.eq t d hd hpl.1 a b us vs e ρ β w he hus hvs hpl.2.1 hpl.2.2
          split at h
          · obtain rfl := Option.some.inj h
            refine ⟨rfl, .bool (e.B ρ), ?_, rfl⟩
            simp only [Sem.run_bind, h2, Result.andThen_ok]
            simp [binOp, h1]
          · obtain rfl := Option.some.inj h
            refine ⟨rfl, .bool (!e.B ρ), ?_, by show Value.bool _ = Value.bool _; rw [xnot]⟩
            simp only [Sem.run_bind, h2, Result.andThen_ok]
            simp [binOp, h1]
          · cases h
      · cases h
    · cases h
  · cases h

theorem opWrap_sound {op : BinOp} {t : TypeId} {x y : SV} {r : R} (h : opWrap op x y = some r) {u v : Value} (hx : x.rel ρ β u) (hy : y.rel ρ β v) (xo yo : Operand) :
    r.add = none ∧ ∃ z, ((do eqGuard op t xo yo u v; binOp op t u v) : Sem Value).run P w = .ok z w ∧ r.v.rel ρ β z := by
  unfold opWrap at h
  split at h
  · rename_i k a k' b
    simp only [SV.rel, V1.rel, Sc.rel, Sc0.rel] at hx hy
    subst hx hy
    have hgd : (eqGuard op t xo yo (.int k (a.I ρ)) (.int k' (b.I ρ))).run P w = .ok () w := by
      unfold eqGuard
      cases op <;> simp
    split at h
    · rename_i hk
      subst hk
      split at h
      · obtain rfl := Option.some.inj h
        exact ⟨rfl, _, by simp only [Sem.run_bind, hgd, Result.andThen_ok]; simp [binOp, Op.intArith]; rfl, by show Value.int _ _ = Value.int _ _; rw [xwrap, xadd]⟩
      · obtain rfl := Option.some.inj h
        exact ⟨rfl, _, by simp only [Sem.run_bind, hgd, Result.andThen_ok]; simp [binOp, Op.intArith]; rfl, by show Value.int _ _ = Value.int _ _; rw [xwrap, xsub]⟩
      · obtain rfl := Option.some.inj h
        exact ⟨rfl, _, by simp only [Sem.run_bind, hgd, Result.andThen_ok]; simp [binOp, Op.intArith]; rfl, by show Value.int _ _ = Value.int _ _; rw [xwrap, xmul]⟩
      · cases h
    · cases h
  · cases h
theorem isAgg_run (h : TOk P t d) : (isAgg t).run P w = .ok d.dk.agg w := by
  obtain ⟨i, u, z, hi, hu, _, _, _, hdk, _⟩ := h.facts
  unfold isAgg
  simp only [Sem.run_bind, run_underlying hu, Result.andThen_ok]
  cases u <;> cases hd : d.dk <;> simp [dkB, hd, DK.agg] at hdk ⊢
theorem sizeOf_run (h : TOk P t d) : (sizeOf t).run P w = .ok d.size w := by
  obtain ⟨i, u, z, hi, hu, hs, _⟩ := h.facts
  simp [sizeOf, typeInfo, hi, hs]
theorem loadCells_run {p : Addr} : ∀ (n i : Nat) (acc : Array Value) (vs : List Value), vs.length = n → (∀ (j : Nat) (v : Value), vs[j]? = some v → w.cell? (p.add (i + j)) = some v) →
    (loadCellsFrom p i n acc).run P w = .ok (acc ++ vs.toArray) w
  | 0, i, acc, vs, h, _ => by obtain rfl := List.eq_nil_of_length_eq_zero h; simp [loadCellsFrom]
  | n + 1, i, acc, v :: vs, h, hc => by
    have h0 := hc 0 v rfl
    simp only [loadCellsFrom, Sem.run_bind]
    have hl : (load (p.add i)).run P w = .ok v w := by
      have : w.cell? (p.add i) = some v := by simpa using h0
      simp [load, Sem.run, this]
    simp only [hl, Result.andThen_ok]
    rw [loadCells_run n (i + 1) (acc.push v) vs (by simpa using h) fun j u hu => by
      have := hc (j + 1) u (by simpa using hu)
      rw [show i + 1 + j = i + (j + 1) by omega]; exact this]
    simp
theorem loadVar_run (h : TOk P t d) {p : Addr} {vs : List Value} (hl : vs.length = d.size) (hv : Lies w p vs) {cs : List Sc} (hr : RelL (Sc.rel ρ β) cs vs) {x : V1} (hx : v1Of d.dk.agg cs = some x) :
    ∃ u, (loadVar t p).run P w = .ok u w ∧ x.rel ρ β u := by
  unfold v1Of at hx
  split at hx
  · rename_i ha
    obtain rfl := Option.some.inj hx
    refine ⟨.agg vs.toArray, ?_, vs, rfl, hr⟩
    have := loadCells_run (P := P) (w := w) (p := p) vs.length 0 #[] vs rfl (by simpa [Lies] using hv)
    simp [loadVar, isAgg_run h, ha, sizeOf_run h, loadCells, ← hl, this]
  · rename_i ha
    split at hx
    · rename_i c
      obtain rfl := Option.some.inj hx
      cases vs with
      | nil => exact hr.elim
      | cons v vs =>
        cases vs with
        | cons _ _ => exact hr.2.elim
        | nil =>
          refine ⟨v, ?_, hr.1⟩
          have h0 : w.cell? p = some v := by simpa [Addr.add] using hv 0 v rfl
          simp [loadVar, isAgg_run h, ha, load, Sem.run, h0]
    · cases hx
/-- the parts of a composite, evaluated -/
theorem parts_rel {s : S} {g : X} {a : Act} (hf : s.factsOk ρ) (hg : g.B ρ = true) (hgl : GlobOk C β) : ∀ {l : List (Nat × Operand)} {ps : List (Nat × V1)}, partsOf s C g l = some ps → (∀ x ∈ l.map (·.2), OpdOk ρ β s a x) →
    RelL (fun (p : Nat × V1) (q : Nat × Value) => p.1 = q.1 ∧ p.2.rel ρ β q.2) ps (l.map fun x => (x.1, a.eval x.2))
  | [], ps, h, _ => by simp [partsOf] at h; subst h; trivial
  | (i, o) :: l, ps, h, ho => by
    simp only [partsOf] at h
    split at h
    · rename_i x m h1 h2
      obtain rfl := Option.some.inj h
      exact ⟨⟨rfl, val_rel hf hg hgl (ho o (by simp)) h1⟩, parts_rel hf hg hgl h2 fun y hy => ho y (by simp at hy ⊢; exact .inr hy)⟩
    · cases h
theorem cells_len {x : V1} {v : Value} (h : x.rel ρ β v) : x.cells.length = v.cells.size ∧ RelL (Sc.rel ρ β) x.cells v.cells.toList := by
  cases x with
  | sc c =>
    have hv : v.cells = #[v] := by
      cases c with
      | c s => cases s <;> simp only [V1.rel, Sc.rel, Sc0.rel] at h <;> first | (subst h; rfl) | (obtain ⟨p, c, _, _, rfl⟩ := h; rfl) | (obtain ⟨p, c, q, r, _, rfl, _⟩ := h; rfl)
      | fn f a b => obtain ⟨vs, ws, rfl, _⟩ := h; rfl
      | nilf => simp only [V1.rel, Sc.rel] at h; subst h; rfl
    rw [hv]
    exact ⟨rfl, h, trivial⟩
  | agg l =>
    obtain ⟨vs, rfl, h2⟩ := h
    exact ⟨by simpa [V1.cells, Value.cells] using h2.length, by simpa [V1.cells, Value.cells] using h2⟩
theorem foldl_set : ∀ (vs : List Value) (off : Nat) (k : Nat) (cs : Array Value), off + k + vs.length ≤ cs.size →
    ((vs.zipIdx k).foldl (fun cs (x : Value × Nat) => cs.setIfInBounds (off + x.2) x.1) cs).toList = cs.toList.take (off + k) ++ vs ++ cs.toList.drop (off + k + vs.length)
  | [], off, k, cs, _ => by simp
  | v :: vs, off, k, cs, h => by
    simp only [List.zipIdx_cons, List.foldl_cons]
    rw [foldl_set vs off (k + 1) (cs.setIfInBounds (off + k) v) (by simp at h ⊢; omega)]
    simp at h
    have hlt : off + k < cs.size := by omega
    apply List.ext_getElem?
    intro j
    simp only [Array.toList_setIfInBounds, List.getElem?_append, List.length_append, List.length_take, List.length_set, Array.length_toList, List.length_cons, List.getElem?_take, List.getElem?_drop, List.getElem?_set]
    rw [Nat.min_eq_left (show off + (k + 1) ≤ cs.size by omega), Nat.min_eq_left (show off + k ≤ cs.size by omega)]
    by_cases h1 : j < off + k
    · simp [h1, show j < off + (k + 1) by omega, show j < off + (k+1) + vs.length by omega, show j < off + k + (vs.length + 1) by omega, show ¬ off + k = j by omega]
    · by_cases h2 : j = off + k
      · subst h2
        simp [show off + k < off + (k + 1) by omega, show off + k < off + (k + 1) + vs.length by omega, hlt]
      · by_cases h3 : j < off + (k + 1) + vs.length
        · simp [h1, h3, show ¬ j < off + (k + 1) by omega, show j < off + k + (vs.length + 1) by omega]
          obtain ⟨q, hq⟩ : ∃ q, j - (off + k) = q + 1 := ⟨j - (off + k) - 1, by omega⟩
          rw [hq, List.getElem?_cons_succ]
          congr 1; omega
        · simp [h1, h3, show ¬ j < off + (k + 1) by omega, show ¬ j < off + k + (vs.length + 1) by omega]
          rw [if_neg (by omega)]
          congr 1; omega
theorem fill_sound {pl pl' : Nat → Option (Nat × Nat)} (hpl : ∀ i x, pl i = some x → pl' i = some x) : ∀ {ps : List (Nat × V1)} {qs : List (Nat × Value)} {l l' : List Sc} {cs : Array Value},
    fillCells pl l ps = some l' → RelL (fun (p : Nat × V1) (q : Nat × Value) => p.1 = q.1 ∧ p.2.rel ρ β q.2) ps qs → RelL (Sc.rel ρ β) l cs.toList →
    ∃ cs', Instr.fill pl' cs qs = some cs' ∧ RelL (Sc.rel ρ β) l' cs'.toList ∧ cs'.size = cs.size
  | [], [], l, l', cs, h, _, hr => by simp [fillCells] at h; subst h; exact ⟨cs, rfl, hr, rfl⟩
  | (i, x) :: ps, (i', v) :: qs, l, l', cs, h, hp, hr => by
    obtain ⟨⟨hi, hx⟩, hp⟩ := hp
    simp only at hi hx
    subst hi
    simp only [fillCells] at h
    split at h
    · cases h
    · rename_i off size hpi
      split at h
      · rename_i hc
        obtain ⟨h1, h2⟩ := cells_len hx
        have hlen := hr.length
        have e : Instr.fill pl' cs ((i, v) :: qs) = Instr.fill pl' (v.cells.zipIdx.foldl (fun cs (x : Value × Nat) => cs.setIfInBounds (off + x.2) x.1) cs) qs := by
          simp only [Instr.fill, hpl _ _ hpi]
          rw [if_neg]
          simp at hlen
          simp [← h1, hc.1]; omega
        rw [e]
        have hf : (v.cells.zipIdx.foldl (fun cs (x : Value × Nat) => cs.setIfInBounds (off + x.2) x.1) cs).toList = cs.toList.take off ++ v.cells.toList ++ cs.toList.drop (off + v.cells.size) := by
          have := foldl_set v.cells.toList off 0 cs (by simp at hlen ⊢; omega)
          rw [← Array.foldl_toList, Array.toList_zipIdx]
          simpa using this
        obtain ⟨cs', h3, h4, h5⟩ := fill_sound hpl (cs := v.cells.zipIdx.foldl (fun cs (x : Value × Nat) => cs.setIfInBounds (off + x.2) x.1) cs) h hp (by
          rw [hf, ← h1, ← hc.1]
          exact ((hr.take _).append h2).append (by rw [hc.1]; exact hr.drop _))
        refine ⟨cs', h3, h4, ?_⟩
        rw [h5, ← Array.length_toList, hf]
        simp at hlen ⊢; omega
      · cases h
  | [], _ :: _, _, _, _, _, h, _ => h.elim
  | _ :: _, [], _, _, _, _, h, _ => h.elim
end
end Go.Proofs.Ytiiabaklipmbbaa.Vc
