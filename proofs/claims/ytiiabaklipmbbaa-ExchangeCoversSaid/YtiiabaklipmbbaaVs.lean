/- The symbolic executor: each operation that leaves old memory as it is does what the executor says. -/
import Derived.Test.YtiiabaklipmbbaaVq
namespace Go.Proofs.Ytiiabaklipmbbaa.Vc
noncomputable section
open Go Go.RowKit
variable {ρ : List AV} {β β' : Mp} {W W' : Nat → Prop} {w w' : World} {P : Program} {C : Cfg} {t : TypeId} {d : TD}

theorem runv {o : Oper} {a : Act} {m : Sem Value} {u : Value} {w' : World} (h : execOp a.eval o = (do pure (Next.value (← m)))) (hm : m.run P w = .ok u w') : (execOp a.eval o).run P w = .ok (.value u) w' := by
  rw [h]; simp [hm]
theorem fieldsB_get : ∀ {fs : List Field} {l : List (Nat × Nat × Nat)}, fieldsB P fs l = true → ∀ (i : Nat) (x : Nat × Nat × Nat), l[i]? = some x → ∃ f ti, fs[i]? = some f ∧ f.offset = x.1 ∧ P.info? f.type = some ti ∧ ti.size = x.2.1 ∧ f.type = x.2.2
  | [], [], _, i, x, h => by simp at h
  | f :: fs, (off, sz, ft) :: l, hb, i, x, h => by
    simp only [fieldsB, Bool.and_eq_true, decide_eq_true_eq] at hb
    obtain ⟨⟨⟨h1, h1'⟩, h2⟩, h3⟩ := hb
    cases i with
    | zero =>
      simp at h
      subst h
      split at h2
      · rename_i ti hti
        exact ⟨f, ti, rfl, h1, hti, by simpa using h2, h1'⟩
      · cases h2
    | succ i =>
      simp at h
      obtain ⟨g, ti, a, b⟩ := fieldsB_get h3 i x h
      exact ⟨g, ti, by simpa using a, b⟩
  | [], _ :: _, hb, _, _, _ => by simp [fieldsB] at hb
  | _ :: _, [], hb, _, _, _ => by simp [fieldsB] at hb
theorem TOk.struct (h : TOk P t d) {l : List (Nat × Nat × Nat)} (hd : d.dk = .struct l) : ∃ fs, P.underlying t = some (.struct fs) ∧ fieldsB P fs.toList l = true := by
  obtain ⟨i, u, z, hi, hu, _, _, _, hdk, _⟩ := h.facts
  rw [hd] at hdk
  cases u <;> simp [dkB] at hdk
  exact ⟨_, hu, hdk⟩
theorem TOk.arr (h : TOk P t d) {n sz : Nat} (hd : d.dk = .arr n sz) : ∃ e i, P.underlying t = some (.array n e) ∧ P.info? e = some i ∧ i.size = sz ∧ e = d.el := by
  obtain ⟨i, u, z, hi, hu, _, _, _, hdk, _, _, _, _, hel⟩ := h.facts
  rw [hd] at hdk
  cases u <;> simp [dkB] at hdk
  obtain ⟨rfl, h2⟩ := hdk
  split at h2
  · rename_i i hi
    exact ⟨_, i, hu, hi, by simpa using h2, hel _ _ rfl⟩
  · cases h2
theorem TOk.slice (h : TOk P t d) {e : TypeId} (hd : d.dk = .slice e) : P.underlying t = some (.slice e) := by
  obtain ⟨i, u, z, hi, hu, _, _, _, hdk, _⟩ := h.facts
  rw [hd] at hdk
  cases u <;> simp [dkB] at hdk
  subst hdk; exact hu
theorem TOk.zero (h : TOk P t d) : ∃ z, (zeroValue t).run P w = .ok z w ∧ RelL (Sc.rel ρ β) d.zero z.cells.toList ∧ z.cells.size = d.size := by
  obtain ⟨i, u, z, hi, hu, hs, _, hz, hdk, h1, h2, _⟩ := h.facts
  have hr := litsB_rel (ρ := ρ) (β := β) h2
  exact ⟨z, by simp [zeroValue, typeInfo, hi, h1], hr, by have := hr.length; simp at this; omega⟩
theorem info_run {e : TypeId} {i : TypeInfo} (h : P.info? e = some i) : (sizeOf e).run P w = .ok i.size w := by simp [sizeOf, typeInfo, h]

section
variable {s : S} {g : X} {o : Oper} {r : R} {a : Act}

theorem q_pick (hf : s.factsOk ρ) (hg : g.B ρ = true) (hgl : GlobOk C β) (hop : ∀ x ∈ o.op.operands.toList, OpdOk ρ β s a x) {c x y : Operand} (ho : o.op = .pick c x y) (hq : qop C s g o = some r) : QOk P ρ β W w s.heap.length a o r.v r.add := by
  have hrun : ∀ p, a.eval c = .bool p → (execOp a.eval o).run P w = .ok (.value (if p then a.eval x else a.eval y)) w := fun p hp => by
    simp [execOp, ho, hp, asBool]
  simp only [ho, Op.operands] at hop
  have oc := hop c (by simp)
  have ox := hop x (by simp)
  have oy := hop y (by simp)
  rw [qop_eq] at hq
  unfold qopAll at hq
  simp only [ho] at hq
  split at hq
  · rename_i hb
    have := hrun _ (bool_rel hf hg hgl oc hb)
    simp only [Option.map_eq_some_iff] at hq
    obtain ⟨v, hv, rfl⟩ := hq
    exact QOk.same this (by simpa [bl_B] using val_rel hf hg hgl ox hv)
  · rename_i hb
    have := hrun _ (bool_rel hf hg hgl oc hb)
    simp only [Option.map_eq_some_iff] at hq
    obtain ⟨v, hv, rfl⟩ := hq
    exact QOk.same this (by simpa [bl_B] using val_rel hf hg hgl oy hv)
  · rename_i e _ _ hb
    have hr := hrun _ (bool_rel hf hg hgl oc hb)
    split at hq
    · rename_i hh
      have he := S.holds_B hf hg hh
      simp only [Option.map_eq_some_iff] at hq
      obtain ⟨v, hv, rfl⟩ := hq
      rw [he] at hr
      exact QOk.same hr (by simpa using val_rel hf hg hgl ox hv)
    split at hq
    · rename_i hh
      have he := S.holds_B hf hg hh
      rw [xnot] at he
      have he : e.B ρ = false := by simpa using he
      simp only [Option.map_eq_some_iff] at hq
      obtain ⟨v, hv, rfl⟩ := hq
      rw [he] at hr
      exact QOk.same hr (by simpa using val_rel hf hg hgl oy hv)
    split at hq
    · rename_i hh
      have he := S.holds_B hf (show (X.bl true).B ρ = true from rfl) hh
      rw [xnot, xand, xnot, hg] at he
      have he : e.B ρ = true := by simpa using he
      simp only [Option.map_eq_some_iff] at hq
      obtain ⟨v, hv, rfl⟩ := hq
      rw [he] at hr
      exact QOk.same hr (by simpa using val_rel hf (g := xb .and g e) (by rw [xand, he, hg]; rfl) hgl ox hv)
    split at hq
    · rename_i hh
      have he := S.holds_B hf (show (X.bl true).B ρ = true from rfl) hh
      rw [xnot, xand, hg] at he
      have he : e.B ρ = false := by simpa using he
      simp only [Option.map_eq_some_iff] at hq
      obtain ⟨v, hv, rfl⟩ := hq
      rw [he] at hr
      exact QOk.same hr (by simpa using val_rel hf (g := xb .and g (mkNot e)) (by rw [xand, xnot, he, hg]; rfl) hgl oy hv)
    split at hq
    · rename_i vx vy h1 h2
      obtain rfl := Option.some.inj hq
      refine QOk.same hr ?_
      show _ = Value.bool _
      rw [xitb]
      cases he : e.B ρ
      · have := val_rel hf (g := xb .and g (mkNot e)) (by rw [xand, xnot, he, hg]; rfl) hgl oy h2
        exact this
      · have := val_rel hf (g := xb .and g e) (by rw [xand, he, hg]; rfl) hgl ox h1
        exact this
    · rename_i k vx k' vy h1 h2
      split at hq
      · rename_i hk
        subst hk
        obtain rfl := Option.some.inj hq
        refine QOk.same hr ?_
        show _ = Value.int _ _
        rw [xite]
        cases he : e.B ρ
        · have := val_rel hf (g := xb .and g (mkNot e)) (by rw [xand, xnot, he, hg]; rfl) hgl oy h2
          exact this
        · have := val_rel hf (g := xb .and g e) (by rw [xand, he, hg]; rfl) hgl ox h1
          exact this
      · cases hq
    · cases hq
  · cases hq
theorem q_load (hC : C.Ok P) (hf : s.factsOk ρ) (hg : g.B ρ = true) (hgl : GlobOk C β) (hop : ∀ x ∈ o.op.operands.toList, OpdOk ρ β s a x) {t : TypeId} {p : Operand} (ho : o.op = .load t p) (hq : qop C s g o = some r) (hnd : ∀ x ∈ r.needs, x.B ρ = true)
    (hh : ∀ k e bi, s.heap[k]? = some e → β k = some bi → EOk ρ β W w bi e) : QOk P ρ β W w s.heap.length a o r.v r.add := by
  simp only [ho, Op.operands] at hop
  have op := hop p (by simp)
  rw [qop_eq] at hq
  unfold qopAll at hq
  simp only [ho] at hq
  split at hq
  · rename_i b sz i f d hv hd
    split at hq
    · rename_i nd cs hl
      simp only [Option.map_eq_some_iff] at hq
      obtain ⟨x, hx, rfl⟩ := hq
      obtain ⟨q, c, hat, hi, he⟩ := val_rel hf hg hgl op hv
      obtain ⟨vs, h1, h2, h3⟩ := loadAt_sound hf hg hl hnd hh hat hi
      obtain ⟨u, h4, h5⟩ := loadVar_run (hC.ty _ _ hd) h1 h2 h3 hx
      exact QOk.same (runv (m := Instr.loadAt t (a.eval p)) (by simp [execOp, ho]) (by simp [Instr.loadAt, Instr.sureAddr, he, h4])) h5
    · cases hq
  · cases hq
theorem q_binOp (hC : C.Ok P) (hf : s.factsOk ρ) (hg : g.B ρ = true) (hgl : GlobOk C β) (hop : ∀ x ∈ o.op.operands.toList, OpdOk ρ β s a x) {op : BinOp} {t t' : TypeId} {x y : Operand} (ho : o.op = .binOp op t x y t') (hq : qop C s g o = some r) (hnd : ∀ x ∈ r.needs, x.B ρ = true) : QOk P ρ β W w s.heap.length a o r.v r.add := by
  simp only [ho, Op.operands] at hop
  have ox := hop x (by simp)
  have oy := hop y (by simp)
  rw [qop_eq] at hq
  unfold qopAll at hq
  simp only [ho] at hq
  split at hq
  · rename_i u v hu hv
    obtain ⟨h1, z, h2, h3⟩ : r.add = none ∧ ∃ z, ((do eqGuard op t x y (a.eval x) (a.eval y); binOp op t (a.eval x) (a.eval y)) : Sem Value).run P w = .ok z w ∧ r.v.rel ρ β z := by
      split at hq
      · exact opWrap_sound hq (val_rel hf hg hgl ox hu) (val_rel hf hg hgl oy hv) x y
      · exact opBin_sound (w := w) hC hq hnd (val_rel hf hg hgl ox hu) (val_rel hf hg hgl oy hv) x y
    rw [h1]
    exact QOk.same (runv (m := do eqGuard op t x y (a.eval x) (a.eval y); binOp op t (a.eval x) (a.eval y)) (by simp [execOp, ho]) h2) h3
  · cases hq
theorem q_small (hC : C.Ok P) (hf : s.factsOk ρ) (hg : g.B ρ = true) (hgl : GlobOk C β) (hop : ∀ x ∈ o.op.operands.toList, OpdOk ρ β s a x) (hq : qop C s g o = some r) (hnd : ∀ x ∈ r.needs, x.B ρ = true) (hk : match o.op with | .move _ | .assign _ | .unOp .. | .convert .. | .extract .. | .fieldAddr .. | .nilCheck _ => True | _ => False) :
    QOk P ρ β W w s.heap.length a o r.v r.add := by
  rw [qop_eq] at hq
  unfold qopAll at hq
  split at hq
  · -- move
    rename_i x ho
    simp only [ho, Op.operands] at hop
    simp only [Option.map_eq_some_iff] at hq
    obtain ⟨v, hv, rfl⟩ := hq
    exact QOk.same (by simp [execOp, ho]) (val_rel hf hg hgl (hop x (by simp)) hv)
  · rename_i x ho
    simp only [ho, Op.operands] at hop
    simp only [Option.map_eq_some_iff] at hq
    obtain ⟨v, hv, rfl⟩ := hq
    exact QOk.same (by simp [execOp, ho]) (val_rel hf hg hgl (hop x (by simp)) hv)
  · rename_i ho; simp [ho] at hk
  · rename_i ho; simp [ho] at hk
  · -- unOp
    rename_i op t x ho
    simp only [ho, Op.operands] at hop
    have ox := hop x (by simp)
    split at hq
    · rename_i e hv
      obtain rfl := Option.some.inj hq
      have hx := val_rel hf hg hgl ox hv
      have hx : a.eval x = .bool (e.B ρ) := hx
      exact QOk.same (u := .bool (!e.B ρ)) (by simp [execOp, ho, Op.unary, hx]) (by show _ = Value.bool _; rw [xnot])
    · rename_i k e hv
      have hx := val_rel hf hg hgl ox hv
      have hx : a.eval x = .int k (e.I ρ) := hx
      split at hq
      · obtain rfl := Option.some.inj hq
        exact QOk.same (u := .int k (k.wrap (0 - e.I ρ))) (by simp only [execOp, ho, Op.unary, hx, Op.intArith]; simp only [Sem.run_bind, Sem.run_pure, Result.andThen_ok]) (by show _ = Value.int _ _; rw [xwrap, xsub, lit_I])
      obtain rfl := Option.some.inj hq
      have n := hnd (mkInr k (xb .sub (.lit 0) e)) (by simp [arith, rI])
      rw [xinr, xsub, lit_I] at n
      exact QOk.same (u := .int k (0 - e.I ρ)) (by simp only [execOp, ho, Op.unary, hx, Op.intArith]; simp only [Sem.run_bind, Sem.run_pure, Result.andThen_ok, wrap_of_inr n]) (by show _ = Value.int _ _; rw [xsub, lit_I])
    · cases hq
  · -- convert
    rename_i src dst x ho
    simp only [ho, Op.operands] at hop
    have ox := hop x (by simp)
    split at hq
    · rename_i k e d1 k2 sz by_ z el pl hv hd1 hd2
      obtain rfl := Option.some.inj hq
      have hx := int_rel hf hg hgl ox hv
      have n := hnd (mkInr k2 e) (by simp [arith, rI])
      rw [xinr] at n
      obtain ⟨_, u1, _, _, hu1, _⟩ := (hC.ty _ _ hd1).facts
      obtain ⟨_, u2, _, _, hu2, _, _, _, hdk, _⟩ := (hC.ty _ _ hd2).facts
      have hu : u2 = .int k2 := by cases u2 <;> simp [dkB] at hdk ⊢; exact hdk
      subst hu
      refine QOk.same (u := .int k2 (e.I ρ)) ?_ rfl
      refine runv (m := convert src dst (a.eval x)) (by simp [execOp, ho]) ?_
      rw [hx]
      simp only [convert, Sem.run_bind, run_underlying hu1, run_underlying hu2, Result.andThen_ok]
      cases u1 <;> simp [Conv.intToInt, wrap_of_inr n]
    · cases hq
  · -- extract
    rename_i x ix ho
    simp only [ho, Op.operands] at hop
    have ox := hop x (by simp)
    split at hq
    · rename_i l hv
      simp only [Option.map_eq_some_iff] at hq
      obtain ⟨v, hl, rfl⟩ := hq
      obtain ⟨vs, hvs, hr⟩ := val_rel hf hg hgl ox hv
      obtain ⟨u, hu, hr'⟩ := hr.get ix v hl
      exact QOk.same (u := u) (runv (m := Instr.extract (a.eval x) ix) (by simp [execOp, ho]) (by rw [hvs]; simp [Instr.extract, hu])) hr'
    · cases hq
  · rename_i ho; simp [ho] at hk
  · rename_i ho; simp [ho] at hk
  · -- fieldAddr
    rename_i t x f ho
    simp only [ho, Op.operands] at hop
    have ox := hop x (by simp)
    split at hq
    · rename_i b sz i f0 fs size by_ z el pl hv hd
      split at hq
      · rename_i off fsz fty hfs
        split at hq
        · cases hq
        · rename_i hne
          obtain rfl := Option.some.inj hq
          obtain ⟨q, c, hat, hi, he⟩ := val_rel hf hg hgl ox hv
          obtain ⟨fl, hu, hb⟩ := (hC.ty _ _ hd).struct rfl
          obtain ⟨fd, ti, h1, h2, h3, h4, _⟩ := fieldsB_get hb f _ hfs
          simp only at h2 h4
          refine QOk.same (u := .pointer (some (q.add ((i.I ρ).toNat * sz + (f0 + off))))) ?_ ⟨q, c, hat, hi, rfl⟩
          refine runv (m := Instr.fieldAt t (a.eval x) f) (by simp [execOp, ho]) ?_
          have h1' : fl[f]? = some fd := by simpa using h1
          simp only [Instr.fieldAt, Sem.run_bind, run_underlying hu, Result.andThen_ok, h1', Instr.sureAddr, he, Sem.run_pure, fieldPlace, info_run h3]
          rw [if_neg (by omega)]
          simp [add_add, h2, Nat.add_assoc]
      · cases hq
    · cases hq
  · rename_i ho; simp [ho] at hk
  · rename_i ho; simp [ho] at hk
  · -- nilCheck
    rename_i x ho
    simp only [ho, Op.operands] at hop
    have ox := hop x (by simp)
    split at hq
    · rename_i b sz i f hv
      obtain rfl := Option.some.inj hq
      have hx := val_rel hf hg hgl ox hv
      obtain ⟨q, c, hat, hi, he⟩ := id hx
      exact QOk.same (u := a.eval x) (by simp [execOp, ho, he]) hx
    · rename_i f l1 l2 hv
      obtain rfl := Option.some.inj hq
      have hx := val_rel hf hg hgl ox hv
      obtain ⟨vs, ws, he, _⟩ := id hx
      exact QOk.same (u := a.eval x) (by simp [execOp, ho, he]) hx
    · cases hq
  · rename_i ho; simp [ho] at hk
  all_goals (rename_i ho; simp [ho] at hk)
end
end
end Go.Proofs.Ytiiabaklipmbbaa.Vc
