/- The symbolic executor: slices, and all operations that leave old memory as it is in one theorem. -/
import Derived.Test.YtpbpmabnmakdoaaVA
import Derived.Laws.StructEq
import Derived.ChangeKeysEq
import Derived.Laws.IdiomCopy
set_option linter.unusedVariables false
namespace Go.Proofs.Ytpbpmabnmakdoaa.Vc
noncomputable section
open Go Go.RowKit
variable {ρ : List AV} {β β' : Mp} {W W' : Nat → Prop} {w w' : World} {P : Program} {C : Cfg} {t : TypeId} {d : TD}

theorem repCells_get (z : List Sc) : ∀ (n j : Nat), (repCells z n)[j]? = if j < n * z.length then z[j % z.length]? else none
  | 0, j => by simp [repCells]
  | n + 1, j => by
    unfold repCells
    rw [List.getElem?_append]
    split
    · rename_i h
      rw [Nat.mod_eq_of_lt h, if_pos (by rw [Nat.add_mul]; omega)]
    · rename_i h
      rw [repCells_get z n (j - z.length), Nat.add_mul]
      by_cases h2 : j < n * z.length + 1 * z.length
      · rw [if_pos (by omega), if_pos h2]
        congr 1
        rw [Nat.mod_eq_sub_mod (a := j) (by omega)]
      · rw [if_neg (by omega), if_neg h2]
theorem repCells_len (z : List Sc) : ∀ n, (repCells z n).length = n * z.length
  | 0 => by simp [repCells]
  | n + 1 => by simp [repCells, repCells_len z n, Nat.add_mul]; omega
theorem zeros_rel {z : List Sc} {v : Array Value} (hr : RelL (Sc.rel ρ β) z v.toList) (n : Nat) : RelL (Sc.rel ρ β) (repCells z n) ((Array.range (n * v.size)).map (v[· % v.size]!)).toList := by
  have hl := hr.length
  simp at hl
  refine RelL.of_get (by simp [repCells_len, hl]) fun j x y hx hy => ?_
  rw [repCells_get] at hx
  split at hx
  · rename_i hj
    obtain ⟨u, h1, h2⟩ := hr.get _ _ hx
    rw [hl] at hj h1
    have hpos : 0 < v.size := by
      rcases Nat.eq_zero_or_pos v.size with h | h
      · rw [h] at hj; omega
      · exact h
    have : j % v.size < v.size := Nat.mod_lt _ hpos
    simp [hj] at hy
    subst hy
    simp [this] at h1 ⊢
    rw [h1]; exact h2
  · cases hx
theorem slc_new (n len sz : Nat) (hm : len ≤ maxLen) : (SV.v (.sc (.c (.slc (.blk n) sz (.lit 0) (.lit len) none)))).rel ρ (upd β n (newB w.heap.size len sz)) (.slice (some ⟨w.heap.size, 0, none⟩) len len) :=
  ⟨some ⟨w.heap.size, 0, none⟩, len, some ⟨w.heap.size, 0, none⟩, len, by simp [SB.at, upd_same, newB], by simp [X.I, X.den, AV.int], by simp [X.I, X.den, AV.int], by simp [X.I, X.den, AV.int], by simp [X.I, X.den, AV.int], hm,
    by simp, .inr (by simp [X.I, X.den, AV.int, Addr.add]), by simp [X.I, X.den, AV.int], by simp, by simp [X.I, X.den, AV.int]⟩
theorem slc_cap {b : SB} {sz n : Nat} {u : Value} {q : Option Addr} (hu : u = .slice q n n) (h : (SV.v (.sc (.c (.slc b sz (.lit 0) (.lit n) none)))).rel ρ β u) : (SV.v (.sc (.c (.slc b sz (.lit 0) (.lit n) (some (.lit n)))))).rel ρ β u := by
  obtain ⟨p, c, q', r, h1, h2, h3, h4, h5, h6, h7, h8, h9, h10, h11⟩ := h
  refine ⟨p, c, q', r, h1, h2, h3, h4, h5, h6, h7, h8, h9, fun e he => ?_, fun h => (by cases h)⟩
  obtain rfl := Option.some.inj he
  rw [hu] at h2
  injection h2 with _ _ h2
  rw [lit_I, ← h2]
theorem QOk.newSlc {n len sz : Nat} {a : Act} {o : Oper} {z : List Value} {T : TypeId} {l : List Sc} (h : (execOp a.eval o).run P w = .ok (.value (.slice (some ⟨w.heap.size, 0, none⟩) len len)) (w.alloc (.cells z.toArray T)))
    (hr : RelL (Sc.rel ρ (upd β n (newB w.heap.size len sz))) l z) (hc : len * sz ≤ z.length) (hm : len ≤ maxLen) : QOk P ρ β W w n a o (.v (.sc (.c (.slc (.blk n) sz (.lit 0) (.lit len) (some (.lit len)))))) (some (ent true (.cells l))) :=
  ⟨_, _, upd β n (newB w.heap.size len sz), _, h, slc_cap rfl (slc_new n len sz hm), newB w.heap.size len sz, below_alloc _ _, by simp, rfl, rfl, rfl, fun g => EOk_cells_new g z T _ rfl (by simpa [newB] using hc) hr⟩
theorem slc_in {b : SB} {sz : Nat} {off len : X} {cp : Option X} {u : Value} (h : (SV.v (.sc (.c (.slc b sz off len cp)))).rel ρ β u) {i : X} (hi : 0 ≤ i.I ρ) (hlt : i.I ρ < len.I ρ) :
    ∃ p c r, b.at ρ β = some (some p, c) ∧ 0 ≤ off.I ρ ∧ u = .slice (some (p.add ((off.I ρ).toNat * sz))) (len.I ρ).toNat r := by
  obtain ⟨p, c, q, r, h1, h2, h3, h4, h5, h6, h7, h8, h9, h10, h11⟩ := h
  have hr : r ≠ 0 := by omega
  cases p with
  | none => have := h7 rfl; omega
  | some p =>
    rcases h8 with h8 | h8
    · exact absurd h8 hr
    · exact ⟨p, c, r, h1, h3, by rw [h2, h8]; rfl⟩
section
variable {s : S} {g : X} {o : Oper} {r : R} {a : Act}
theorem q_indexAddr (hC : C.Ok P) (hf : s.factsOk ρ) (hg : g.B ρ = true) (hgl : GlobOk C β) (hop : ∀ x ∈ o.op.operands.toList, OpdOk ρ β s a x) {t : TypeId} {x ix : Operand} (ho : o.op = .indexAddr t x ix) (hq : qop C s g o = some r) (hnd : ∀ x ∈ r.needs, x.B ρ = true) : QOk P ρ β W w s.heap.length a o r.v r.add := by
  simp only [ho, Op.operands] at hop
  have ox := hop x (by simp)
  have oi := hop ix (by simp)
  rw [qop_eq] at hq
  unfold qopAll at hq
  simp only [ho] at hq
  split at hq
  · rename_i b sz off len cp k i e size by_ z el pl hv hi htd
    split at hq
    · rename_i d hd
      split at hq
      · rename_i hsz
        obtain rfl := Option.some.inj hq
        have hie := int_rel hf hg hgl oi hi
        have n1 := le_of (hnd (xb .le (.lit 0) i) (by simp [rC]))
        have n2 := lt_of (hnd (xb .lt i len) (by simp [rC]))
        rw [lit_I] at n1
        obtain ⟨p, c, r, hat, h0, he⟩ := slc_in (val_rel hf hg hgl ox hv) n1 n2
        have hu := (hC.ty _ _ htd).slice rfl
        refine QOk.same (u := .pointer (some ((p.add ((off.I ρ).toNat * sz)).add ((i.I ρ).toNat * sz)))) ?_ ⟨p, c, hat, by rw [xadd]; omega, ?_⟩
        · refine runv (m := Instr.indexAt t (a.eval x) (a.eval ix)) (by simp [execOp, ho]) ?_
          have hlen : 0 ≤ i.I ρ ∧ i.I ρ < ((len.I ρ).toNat : Int) := ⟨n1, by omega⟩
          simp only [Instr.indexAt, hie, asIntOf, Sem.run_bind, Sem.run_pure, Result.andThen_ok, run_underlying hu, he]
          rw [if_pos hlen]
          simp [sizeOf_run (hC.ty _ _ hd), hsz]
        · rw [xadd, add_add]
          congr 3
          rw [Int.toNat_add h0 n1, Nat.add_mul]; rfl
      · cases hq
    · cases hq
  · rename_i b sz i0 f0 k i n esz size by_ z el pl hv hi htd
    have hie := int_rel hf hg hgl oi hi
    obtain ⟨p, c, hat, h0, he⟩ := val_rel hf hg hgl ox hv
    obtain ⟨e, ie, hu, hie2, hsz, _⟩ := (hC.ty _ _ htd).arr rfl
    have hrun : ∀ j : Int, 0 ≤ j → j < n → i.I ρ = j → (execOp a.eval o).run P w = .ok (.value (.pointer (some ((p.add ((i0.I ρ).toNat * sz + f0)).add (j.toNat * esz))))) w := fun j j0 j1 hj => by
      refine runv (m := Instr.indexAt t (a.eval x) (a.eval ix)) (by simp [execOp, ho]) ?_
      simp only [Instr.indexAt, hie, asIntOf, Sem.run_bind, Sem.run_pure, Result.andThen_ok, run_underlying hu, he, Instr.sureAddr, hj]
      rw [if_pos ⟨j0, j1⟩]
      simp [info_run hie2, hsz]
    split at hq
    · rename_i cc hc
      obtain rfl := Option.some.inj hq
      have n1 := le_of (hnd (xb .le (.lit 0) i) (by simp [rC]))
      have n2 := lt_of (hnd (xb .lt i (.lit n)) (by simp [rC]))
      rw [lit_I] at n1 n2
      obtain ⟨h1, h2⟩ := constOff_I (ρ := ρ) hc
      refine QOk.same (hrun _ n1 n2 rfl) ⟨p, c, hat, n1, ?_⟩
      rw [add_add, ← h1, Nat.add_comm]
    · split at hq
      · rename_i z'
        split at hq
        · rename_i hz
          obtain rfl := Option.some.inj hq
          refine QOk.same (hrun z' hz.1 hz.2 rfl) ⟨p, c, hat, h0, ?_⟩
          rw [add_add, Nat.add_assoc]
        · cases hq
      · cases hq
  · cases hq
theorem q_index (hC : C.Ok P) (hf : s.factsOk ρ) (hg : g.B ρ = true) (hgl : GlobOk C β) (hop : ∀ x ∈ o.op.operands.toList, OpdOk ρ β s a x) {t : TypeId} {x ix : Operand} (ho : o.op = .index t x ix) (hq : qop C s g o = some r) (hnd : ∀ x ∈ r.needs, x.B ρ = true) : QOk P ρ β W w s.heap.length a o r.v r.add := by
  simp only [ho, Op.operands] at hop
  have ox := hop x (by simp)
  have oi := hop ix (by simp)
  rw [qop_eq] at hq
  unfold qopAll at hq
  simp only [ho] at hq
  split at hq
  · rename_i b
    split at hq
    · rename_i hst
      split at hq
      · rename_i kk z hi
        simp only [Option.map_eq_some_iff] at hq
        obtain ⟨v, hv, rfl⟩ := hq
        have hie := int_rel hf hg hgl oi hi
        rw [lit_I] at hie
        unfold strAt at hv
        split at hv
        · rename_i hz
          obtain rfl := Option.some.inj hv
          refine QOk.same (u := .int .u8 (b[z.toNat]'hz.2).toNat) ?_ rfl
          refine runv (m := Instr.index t (a.eval (.const (.string b))) (a.eval ix)) (by simp [execOp, ho]) ?_
          rw [hie, show a.eval (.const (.string b)) = .string b from rfl, run_index_string (P := P) w t b kk z (hC.str _ hst), dif_pos ⟨hz.1, by have := hz.2; have := hz.1; omega⟩]
        · cases hv
      · cases hq
    · cases hq
  rename_i hxs
  split at hq
  · rename_i l k z n esz size by_ zz e pl hv hi htd
    split at hq
    · rename_i d hd
      split at hq
      · rename_i hc
        simp only [Option.map_eq_some_iff] at hq
        obtain ⟨x', hx', rfl⟩ := hq
        have hie := int_rel hf hg hgl oi hi
        rw [lit_I] at hie
        obtain ⟨vs, he, hr⟩ := val_rel hf hg hgl ox hv
        obtain ⟨e', ie, hu, hie2, hsz, hel⟩ := (hC.ty _ _ htd).arr rfl
        simp only at hel
        subst hel
        obtain ⟨u, h6, h7⟩ := part_run (w := w) (hC.ty _ _ hd) hr hc.2.2.2 hx'
        refine QOk.same (u := u) ?_ h7
        refine runv (m := Instr.index t (a.eval x) (a.eval ix)) (by simp [execOp, ho]) ?_
        simp only [Instr.index, hie, asIntOf, Sem.run_bind, Sem.run_pure, Result.andThen_ok, run_underlying hu, he]
        rw [if_pos ⟨hc.2.1, hc.2.2.1⟩]
        simp [info_run hie2, hsz, h6]
      · cases hq
    · cases hq
  · rename_i l k i n esz size by_ zz e pl hnl hv hi htd
    split at hq
    · rename_i d hd
      split at hq
      · rename_i hc
        split at hq
        · rename_i cs hcs
          simp only [Option.map_eq_some_iff] at hq
          obtain ⟨x', hx', rfl⟩ := hq
          have hie := int_rel hf hg hgl oi hi
          have n1 := le_of (hnd (xb .le (.lit 0) i) (by simp))
          have n2 := lt_of (hnd (xb .lt i (.lit n)) (by simp))
          rw [lit_I] at n1 n2
          obtain ⟨vs, he, hr⟩ := val_rel hf hg hgl ox hv
          obtain ⟨e', ie, hu, hie2, hsz, hel⟩ := (hC.ty _ _ htd).arr rfl
          simp only at hel
          subst hel
          have hvl := hr.length
          obtain ⟨hcl, hcg⟩ := mapOpt_get hcs
          rw [List.length_range] at hcl
          have hidx : (i.I ρ).toNat * esz + esz ≤ n * esz := by
            have : (i.I ρ).toNat + 1 ≤ n := by omega
            have := Nat.mul_le_mul_right esz this
            rw [Nat.add_mul, Nat.one_mul] at this
            exact this
          have hlen : (vs.drop ((i.I ρ).toNat * esz)).length ≥ d.size := by simp; omega
          have hrel : RelL (Sc.rel ρ β) cs ((vs.drop ((i.I ρ).toNat * esz)).take d.size) := by
            refine RelL.of_get (by rw [hcl, List.length_take]; omega) fun j c v hj hvj => ?_
            have hje : j < esz := by rw [← hcl]; exact (List.getElem?_eq_some_iff.1 hj).1
            obtain ⟨y, hy1, hy2⟩ := hcg j j (by simp [hje])
            obtain rfl := Option.some.inj (hy1.symm.trans hj)
            rw [List.getElem?_take] at hvj
            split at hvj
            · rw [List.getElem?_drop] at hvj
              split at hy2
              · rename_i hev
                have ht : (i.I ρ).toNat < (every esz j n l).length := by rw [hev]; omega
                have hgt := every_get esz _ _ _ _ ht
                obtain ⟨x, hx⟩ : ∃ x, (every esz j n l)[(i.I ρ).toNat]? = some x := ⟨_, List.getElem?_eq_getElem ht⟩
                rw [hx] at hgt
                obtain ⟨u, hu1, hu2⟩ := hr.get _ x hgt.symm
                have : u = v := by
                  rw [show j + (i.I ρ).toNat * esz = (i.I ρ).toNat * esz + j by omega] at hu1
                  exact Option.some.inj (hu1.symm.trans hvj)
                subst this
                exact sel_rel _ 0 _ hy2 _ x u hx (by simp; omega) hu2
              · cases hy2
            · cases hvj
          obtain ⟨u, h6, h7⟩ := part_run2 (w := w) (hC.ty _ _ hd) (cs := vs) (off := (i.I ρ).toNat * esz) (by omega) hrel hx'
          refine QOk.same (u := u) ?_ h7
          refine runv (m := Instr.index t (a.eval x) (a.eval ix)) (by simp [execOp, ho]) ?_
          simp only [Instr.index, hie, asIntOf, Sem.run_bind, Sem.run_pure, Result.andThen_ok, run_underlying hu, he]
          rw [if_pos ⟨n1, n2⟩]
          simp [info_run hie2, hsz, h6]
        · cases hq
      · cases hq
    · cases hq
  · cases hq
theorem q_buildSlice (hC : C.Ok P) (hf : s.factsOk ρ) (hg : g.B ρ = true) (hgl : GlobOk C β) (hop : ∀ x ∈ o.op.operands.toList, OpdOk ρ β s a x) {t : TypeId} {n : Nat} {parts : Array (Nat × Operand)} (ho : o.op = .buildSlice t n parts) (hnew : r.add.isSome → β s.heap.length = none) (hq : qop C s g o = some r) : QOk P ρ β W w s.heap.length a o r.v r.add := by
  simp only [ho, Op.operands] at hop
  rw [qop_eq] at hq
  unfold qopAll at hq
  simp only [ho] at hq
  split at hq
  · rename_i e sz by_ z el pl ps htd hps
    split at hq
    · rename_i d hd
      split at hq
      · rename_i hc
        simp only [Option.map_eq_some_iff] at hq
        obtain ⟨l, hl, rfl⟩ := hq
        replace hnew := hnew rfl
        have hp := parts_rel hf hg hgl (a := a) hps (by simpa using hop)
        have hx := ext_upd (newB w.heap.size n d.size) hnew
        have hp' := hp.mono fun (x : Nat × V1) y h => (⟨h.1, V1.rel_ext hx h.2⟩ : x.1 = y.1 ∧ x.2.rel ρ (upd β s.heap.length (newB w.heap.size n d.size)) y.2)
        obtain ⟨zv, hz, hr, hs⟩ := (hC.ty _ _ hd).zero (w := w) (ρ := ρ) (β := upd β s.heap.length (newB w.heap.size n d.size))
        have hu := (hC.ty _ _ htd).slice rfl
        have hzr := zeros_rel hr n
        obtain ⟨cs', h3, h4, h5⟩ := fill_sound (pl' := fun i => some (i * d.size, d.size)) (fun i x h => h) hl hp' hzr
        have hsz : cs'.size = n * d.size := by rw [h5]; simp [hs]
        refine QOk.newSlc (z := cs'.toList) (T := e) ?_ h4 (by simp [hsz]) (by have := hc.2; unfold maxLen; omega)
        refine runv (m := Instr.buildSlice t n (parts.map fun (i, x) => (i, a.eval x))) (by simp [execOp, ho]) ?_
        have hpl : (parts.map fun (i, x) => (i, a.eval x)).toList = parts.toList.map fun x => (x.1, a.eval x.2) := by simp
        simp only [Instr.buildSlice, Sem.run_bind, run_underlying hu, Result.andThen_ok, sizeOf_run (hC.ty _ _ hd)]
        rw [if_neg (by omega)]
        rw [hpl]
        by_cases h0 : n * d.size = 0
        · have e0 : ∀ f : Nat → Value, (Array.range 0).map f = (Array.range (n * zv.cells.size)).map (zv.cells[· % zv.cells.size]!) := by
            intro f; rw [hs, h0]; simp
          simp only [h0, if_true, Sem.run_bind, Sem.run_pure, Result.andThen_ok]
          rw [e0, h3]
          simp [newRow_run]
        · simp only [h0, if_false, Sem.run_bind, hz, Sem.run_pure, Result.andThen_ok]
          rw [← hs] at h3 ⊢
          rw [h3]
          simp [newRow_run]
      · cases hq
    · cases hq
  · cases hq
theorem run_call_builtin (hC : C.Ok P) (hf : s.factsOk ρ) (hg : g.B ρ = true) (hgl : GlobOk C β) (hop : ∀ x ∈ o.op.operands.toList, OpdOk ρ β s a x) {bt : Builtin} {args : Array Operand} {ts : Array TypeId} (ho : o.op = .call { callee := .builtin bt, args := args, argTypes := ts }) :
    execOp a.eval o = builtin bt ts o.type (args.map fun | .const _ => true | _ => false) (args.map a.eval) := by
  have _ := @hC
  have _ := @hf
  have _ := @hg
  have _ := @hgl
  have _ := @hop
  simp only [execOp, ho, resolve, invoke]
  rfl
theorem q_len (hC : C.Ok P) (hf : s.factsOk ρ) (hg : g.B ρ = true) (hgl : GlobOk C β) (hop : ∀ x ∈ o.op.operands.toList, OpdOk ρ β s a x) {args : Array Operand} {ts : Array TypeId} (ho : o.op = .call { callee := .builtin .len, args := args, argTypes := ts }) (hq : qop C s g o = some r) : QOk P ρ β W w s.heap.length a o r.v r.add := by
  have hrun := run_call_builtin (a := a) hC hf hg hgl hop ho
  simp only [ho, Op.operands, Call.operands] at hop
  rw [qop_eq] at hq
  unfold qopAll at hq
  simp only [ho] at hq
  split at hq
  · rename_i x t hx ht
    have hx' : args = #[x] := Array.toList_inj.1 hx
    have ht' : ts = #[t] := Array.toList_inj.1 ht
    subst hx' ht'
    have ox := hop x (by simp)
    split at hq
    · rename_i b sz off len cp e size by_ z el pl hv htd
      obtain rfl := Option.some.inj hq
      obtain ⟨p, c, q, r, h1, h2, h3, h4, h5⟩ := val_rel hf hg hgl ox hv
      have hu := (hC.ty _ _ htd).slice rfl
      refine QOk.same (u := .int .i64 (len.I ρ)) ?_ rfl
      rw [hrun]
      simp [builtin, Builtin.len_, run_underlying hu, h2, goInt]
      omega
    · rename_i e size by_ z el pl hv htd
      obtain rfl := Option.some.inj hq
      have hv' : a.eval x = .slice none 0 0 := val_rel hf hg hgl ox hv
      have hu := (hC.ty _ _ htd).slice rfl
      refine QOk.same (u := .int .i64 0) ?_ rfl
      rw [hrun]
      simp [builtin, Builtin.len_, run_underlying hu, hv', goInt]
    · cases hq
  · cases hq
theorem foldM2_min {f : Value → Value → Sem Value} {bo : Bin} (hfd : ∀ k x y w, (f (.int k x) (.int k y)).run P w = .ok (.int k (bo.den (.i x) (.i y)).int) w) (hxb : ∀ x y : X, (xb bo x y).I ρ = (bo.den (.i (x.I ρ)) (.i (y.I ρ))).int) :
    ∀ {l : List SV} {vs : List Value} {k : IntKind} {e : X} {k' : IntKind} {e' : X}, foldM2 bo k e l = some (k', e') → RelL (SV.rel ρ β) l vs → (vs.foldlM f (.int k (e.I ρ))).run P w = .ok (.int k' (e'.I ρ)) w
  | [], [], k, e, k', e', h, _ => by simp [foldM2] at h; obtain ⟨rfl, rfl⟩ := h; simp
  | x :: l, v :: vs, k, e, k', e', h, hr => by
    unfold foldM2 at h
    split at h
    · rename_i heq; cases heq
    · rename_i k2 e2 l2 heq
      obtain ⟨rfl, rfl⟩ := List.cons.inj heq
      split at h
      · rename_i hk
        subst hk
        have hv : v = .int k (e2.I ρ) := hr.1
        subst hv
        simp only [List.foldlM_cons, Sem.run_bind, hfd, Result.andThen_ok]
        have := foldM2_min hfd hxb h hr.2
        rw [hxb] at this
        exact this
      · cases h
    · cases h
  | [], _ :: _, _, _, _, _, _, h => h.elim
  | _ :: _, [], _, _, _, _, _, h => h.elim
theorem q_minmax (hC : C.Ok P) (hf : s.factsOk ρ) (hg : g.B ρ = true) (hgl : GlobOk C β) (hop : ∀ x ∈ o.op.operands.toList, OpdOk ρ β s a x) {bt : Builtin} {args : Array Operand} {ts : Array TypeId} (hb : bt = .min ∨ bt = .max) (ho : o.op = .call { callee := .builtin bt, args := args, argTypes := ts }) (hq : qop C s g o = some r) : QOk P ρ β W w s.heap.length a o r.v r.add := by
  have hrun := run_call_builtin (a := a) hC hf hg hgl hop ho
  simp only [ho, Op.operands, Call.operands] at hop
  have key : ∀ (bo : Bin) (f : Value → Value → Sem Value) (vs : List SV) (k : IntKind) (e : X), (∀ k x y w, (f (.int k x) (.int k y)).run P w = .ok (.int k (bo.den (.i x) (.i y)).int) w) → (∀ x y : X, (xb bo x y).I ρ = (bo.den (.i (x.I ρ)) (.i (y.I ρ))).int) →
      (mapOpt (s.val C g) args.toList).bind (foldMM bo) = some (k, e) → (match (args.toList.map a.eval) with | [] => stuck "" | x :: rest => rest.foldlM f x : Sem Value).run P w = .ok (.int k (e.I ρ)) w := by
    intro bo f vs k e hfd hxb hm
    simp only [Option.bind_eq_some_iff] at hm
    obtain ⟨m, h1, h2⟩ := hm
    have hr := vals_rel hf hg hgl (a := a) h1 fun x hx => hop x (by simp [hx])
    unfold foldMM at h2
    split at h2
    · rename_i k0 e0 l
      cases hl : args.toList.map a.eval with
      | nil => rw [hl] at hr; exact hr.elim
      | cons v vs =>
        rw [hl] at hr
        have hv : v = .int k0 (e0.I ρ) := hr.1
        subst hv
        exact foldM2_min hfd hxb h2 hr.2
    · cases h2
  rw [qop_eq] at hq
  unfold qopAll at hq
  rcases hb with rfl | rfl
  · simp only [ho] at hq
    split at hq
    · rename_i k e hm
      obtain rfl := Option.some.inj hq
      have := key .min Builtin.min2 [] k e (fun k x y w => by simp [Builtin.min2, Bin.den, AV.int]; omega) (fun x y => xmin x y) hm
      refine QOk.same (u := .int k (e.I ρ)) ?_ rfl
      rw [hrun]
      simp only [builtin, Builtin.min_, Sem.run_bind]
      have e2 : (args.map a.eval).toList = args.toList.map a.eval := by simp
      rw [e2]
      cases hl : args.toList.map a.eval with
      | nil => rw [hl] at this; simp [stuck, Sem.run] at this
      | cons v vs => rw [hl] at this; simp only at this ⊢; rw [this]; simp
    · cases hq
  · simp only [ho] at hq
    split at hq
    · rename_i k e hm
      obtain rfl := Option.some.inj hq
      have := key .max Builtin.max2 [] k e (fun k x y w => by simp [Builtin.max2, Bin.den, AV.int]; omega) (fun x y => xmax x y) hm
      refine QOk.same (u := .int k (e.I ρ)) ?_ rfl
      rw [hrun]
      simp only [builtin, Builtin.max_, Sem.run_bind]
      have e2 : (args.map a.eval).toList = args.toList.map a.eval := by simp
      rw [e2]
      cases hl : args.toList.map a.eval with
      | nil => rw [hl] at this; simp [stuck, Sem.run] at this
      | cons v vs => rw [hl] at this; simp only at this ⊢; rw [this]; simp
    · cases hq
theorem q_slice (hC : C.Ok P) (hf : s.factsOk ρ) (hg : g.B ρ = true) (hgl : GlobOk C β) (hop : ∀ x ∈ o.op.operands.toList, OpdOk ρ β s a x) {t : TypeId} {x : Operand} {lo hi mx : Option Operand} (ho : o.op = .slice t x lo hi mx) (hq : qop C s g o = some r) (hnd : ∀ x ∈ r.needs, x.B ρ = true) : QOk P ρ β W w s.heap.length a o r.v r.add := by
  simp only [ho, Op.operands] at hop
  have ox := hop x (by simp)
  have olo : ∀ y, lo = some y → OpdOk ρ β s a y := fun y hy => hop y (by simp [hy])
  have ohi : ∀ y, hi = some y → OpdOk ρ β s a y := fun y hy => hop y (by simp [hy])
  have omx : ∀ y, mx = some y → OpdOk ρ β s a y := fun y hy => hop y (by simp [hy])
  have bound : ∀ (y : Option Operand) (d : X) (z : X), (∀ v, y = some v → OpdOk ρ β s a v) → (match y with | none => some d | some o => (s.int C g o).map fun x => x.2) = some z → (y = none ∧ z = d) ∨ ∃ v k, y = some v ∧ a.eval v = .int k (z.I ρ) := by
    intro y d z hy h
    cases y with
    | none => simp at h; exact .inl ⟨rfl, h.symm⟩
    | some v =>
      simp only [Option.map_eq_some_iff] at h
      obtain ⟨⟨k, e⟩, h1, h2⟩ := h
      simp only at h2
      subst h2
      exact .inr ⟨v, k, rfl, int_rel hf hg hgl (hy v rfl) h1⟩
  rw [qop_eq] at hq
  unfold qopAll at hq
  simp only [ho] at hq
  split at hq
  · rename_i b sz off len cp e size by_ z el pl hv htd
    have hrel := val_rel hf hg hgl ox hv
    have hu := (hC.ty _ _ htd).slice rfl
    split at hq
    · rename_i d hd
      split at hq
      · rename_i hc
        obtain ⟨p, c, q, r0, h1, h2, h3, h4, h5, h6, h7, h8, h9, h10, h11⟩ := hrel
        -- what the run gives, of the three bounds
        have hrun : ∀ (l h m : Nat), (Instr.sliceBounds true (len.I ρ).toNat r0 (lo.map a.eval) (hi.map a.eval) (mx.map a.eval)).run P w = .ok (l, h, m) w →
            (execOp a.eval o).run P w = .ok (.value (.slice (if m = l then q else q.map (·.add (l * d.size))) (h - l) (m - l))) w := fun l h m hb => by
          refine runv (m := Instr.sliceAt t (a.eval x) (lo.map a.eval) (hi.map a.eval) (mx.map a.eval)) (by simp [execOp, ho]) ?_
          simp only [Instr.sliceAt, Sem.run_bind, run_underlying hu, Result.andThen_ok, Instr.slice, h2, hb, sizeOf_run (hC.ty _ _ hd), Sem.run_pure]
        have hadd : ∀ (l : Nat) (m : Nat), l ≤ m → m ≤ r0 → (m - l = 0 ∨ (if m = l then q else q.map (·.add (l * d.size))) = p.map (·.add (((off.I ρ).toNat + l) * sz))) := fun l m hlm hmr => by
          by_cases he : m = l
          · exact .inl (by omega)
          · refine .inr ?_
            rw [if_neg he]
            rcases h8 with h8 | h8
            · omega
            · rw [h8, hc.1]
              cases p with
              | none => rfl
              | some p => simp [add_add, Nat.add_mul]
        split at hq
        · rename_i l h hl hh hm
          obtain rfl := Option.some.inj hq
          have hmn : mx = none := by
            cases mx with
            | none => rfl
            | some y => simp only [Option.map_eq_some_iff] at hm; obtain ⟨_, _, h⟩ := hm; cases h
          subst hmn
          have n1 := le_of (hnd (xb .le (.lit 0) l) (by simp [rC]))
          have n2 := le_of (hnd (xb .le l h) (by simp [rC]))
          have n3 := le_of (hnd (xb .le h len) (by simp [rC]))
          rw [lit_I] at n1
          have hb : (Instr.sliceBounds true (len.I ρ).toNat r0 (lo.map a.eval) (hi.map a.eval) none).run P w = .ok ((l.I ρ).toNat, (h.I ρ).toNat, r0) w := by
            rcases bound hi len h ohi hh with ⟨rfl, rfl⟩ | ⟨v, k, rfl, hv'⟩
            · rcases bound lo (.lit 0) l olo hl with ⟨rfl, rfl⟩ | ⟨v2, k2, rfl, hv2⟩
              · simp [Instr.sliceBounds, lit_I]
              · simp [Instr.sliceBounds, hv2, run_sliceBound (P := P) w k2 (l.I ρ) (h.I ρ).toNat .sliceB n1 (by omega)]
            · rcases bound lo (.lit 0) l olo hl with ⟨rfl, rfl⟩ | ⟨v2, k2, rfl, hv2⟩
              · simp [Instr.sliceBounds, hv', run_sliceBound (P := P) w k (h.I ρ) r0 .sliceAcap (by omega) (by omega), lit_I]
              · simp [Instr.sliceBounds, hv', hv2, run_sliceBound (P := P) w k (h.I ρ) r0 .sliceAcap (by omega) (by omega), run_sliceBound (P := P) w k2 (l.I ρ) (h.I ρ).toNat .sliceB n1 (by omega)]
          refine QOk.same (hrun _ _ _ hb) ?_
          refine ⟨p, c, (if r0 = (l.I ρ).toNat then q else q.map (·.add ((l.I ρ).toNat * d.size))), r0 - (l.I ρ).toNat, h1, ?_, by rw [xadd]; omega, by rw [xsub]; omega, by rw [xsub]; omega, by omega, h7, ?_, by rw [xadd]; omega, ?_, ?_⟩
          · rw [xsub]; congr 1; omega
          · rw [xadd, Int.toNat_add h3 n1]; exact hadd _ _ (by omega) (Nat.le_refl _)
          · intro e' he'
            cases cp with
            | none => cases he'
            | some c0 =>
              obtain rfl := Option.some.inj he'
              rw [xsub]
              have := h10 c0 rfl
              omega
          · intro hn
            cases cp with
            | some c0 => cases hn
            | none => rw [xadd]; have := h11 rfl; omega
        · rename_i l h m hl hh hm
          obtain rfl := Option.some.inj hq
          have n1 := le_of (hnd (xb .le (.lit 0) l) (by simp [rC]))
          have n2 := le_of (hnd (xb .le l h) (by simp [rC]))
          have n3 := le_of (hnd (xb .le h m) (by simp [rC]))
          have n4 := le_of (hnd (xb .le m len) (by simp [rC]))
          rw [lit_I] at n1
          cases mx with
          | none => simp at hm
          | some vm =>
            simp only [Option.map_eq_some_iff] at hm
            obtain ⟨⟨km, em⟩, hm1, hm2⟩ := hm
            simp only at hm2
            obtain rfl : em = m := Option.some.inj hm2
            have hvm := int_rel hf hg hgl (omx vm rfl) hm1
            rcases bound hi len h ohi hh with ⟨rfl, rfl⟩ | ⟨v, k, rfl, hv'⟩
            · simp at hc
            · have hb : (Instr.sliceBounds true (len.I ρ).toNat r0 (lo.map a.eval) (some (a.eval v)) (some (a.eval vm))).run P w = .ok ((l.I ρ).toNat, (h.I ρ).toNat, (em.I ρ).toNat) w := by
                rcases bound lo (.lit 0) l olo hl with ⟨rfl, rfl⟩ | ⟨v2, k2, rfl, hv2⟩
                · simp [Instr.sliceBounds, hv', hvm, run_sliceBound (P := P) w km (em.I ρ) r0 .slice3Acap (by omega) (by omega), run_sliceBound (P := P) w k (h.I ρ) (em.I ρ).toNat .slice3B (by omega) (by omega), lit_I]
                · simp [Instr.sliceBounds, hv', hvm, hv2, run_sliceBound (P := P) w km (em.I ρ) r0 .slice3Acap (by omega) (by omega), run_sliceBound (P := P) w k (h.I ρ) (em.I ρ).toNat .slice3B (by omega) (by omega), run_sliceBound (P := P) w k2 (l.I ρ) (h.I ρ).toNat .slice3C n1 (by omega)]
              refine QOk.same (hrun _ _ _ hb) ?_
              refine ⟨p, c, (if (em.I ρ).toNat = (l.I ρ).toNat then q else q.map (·.add ((l.I ρ).toNat * d.size))), (em.I ρ).toNat - (l.I ρ).toNat, h1, ?_, by rw [xadd]; omega, by rw [xsub]; omega, by rw [xsub]; omega, by omega, h7, ?_, by rw [xadd]; omega, ?_, by simp⟩
              · rw [xsub]; congr 1; omega
              · rw [xadd, Int.toNat_add h3 n1]; exact hadd _ _ (by omega) (by omega)
              · intro e' he'
                obtain rfl := Option.some.inj he'
                rw [xsub]; omega
        · cases hq
      · cases hq
    · cases hq
  · rename_i e size by_ z el pl hv htd
    have hrel : a.eval x = .slice none 0 0 := val_rel hf hg hgl ox hv
    have hu := (hC.ty _ _ htd).slice rfl
    split at hq
    · rename_i l h d hl hh hd
      obtain rfl := Option.some.inj hq
      have n1 := hnd (xb .eq l (.lit 0)) (by simp [rC])
      have n2 := hnd (xb .eq h (.lit 0)) (by simp [rC])
      rw [xeq, lit_I] at n1 n2
      have n1 : l.I ρ = 0 := by simpa using n1
      have n2 : h.I ρ = 0 := by simpa using n2
      have hb : (Instr.sliceBounds true 0 0 (lo.map a.eval) (hi.map a.eval) none).run P w = .ok (0, 0, 0) w := by
        rcases bound hi (.lit 0) h ohi hh with ⟨rfl, rfl⟩ | ⟨v, k, rfl, hv'⟩
        · rcases bound lo (.lit 0) l olo hl with ⟨rfl, rfl⟩ | ⟨v2, k2, rfl, hv2⟩
          · simp [Instr.sliceBounds]
          · simp [Instr.sliceBounds, hv2, n1, run_sliceBound (P := P) w k2 0 0 .sliceB (by omega) (by omega)]
        · rcases bound lo (.lit 0) l olo hl with ⟨rfl, rfl⟩ | ⟨v2, k2, rfl, hv2⟩
          · simp [Instr.sliceBounds, hv', n2, run_sliceBound (P := P) w k 0 0 .sliceAcap (by omega) (by omega)]
          · simp [Instr.sliceBounds, hv', hv2, n1, n2, run_sliceBound (P := P) w k 0 0 .sliceAcap (by omega) (by omega), run_sliceBound (P := P) w k2 0 0 .sliceB (by omega) (by omega)]
      refine QOk.same (u := .slice none 0 0) (runv (m := Instr.sliceAt t (a.eval x) (lo.map a.eval) (hi.map a.eval) ((none : Option Operand).map a.eval)) (by simp [execOp, ho]) ?_) rfl
      simp only [Instr.sliceAt, Sem.run_bind, run_underlying hu, Result.andThen_ok, Instr.slice, hrel, Option.map_none, hb, sizeOf_run (hC.ty _ _ hd), Sem.run_pure]
      simp
    · cases hq
  · cases hq
theorem zerosB_get {l : List Sc} (h : zerosB l = true) {f : Nat} {sc : Sc} (hs : l[f]? = some sc) {k : FK} (hk : fkOf sc = some k) {v : Value} (hr : sc.rel ρ β v) : v = k.val 0 := by
  have h1 := List.all_eq_true.1 h sc (List.mem_of_getElem? hs)
  split at h1
  · rename_i q
    simp only [fkOf] at hk
    obtain rfl := Option.some.inj hk
    exact hr
  · simp only [fkOf] at hk
    obtain rfl := Option.some.inj hk
    have hr : v = .bool false := hr
    rw [hr]; rfl
  · cases h1
theorem q_makeSlice (hC : C.Ok P) (hf : s.factsOk ρ) (hg : g.B ρ = true) (hgl : GlobOk C β) (hop : ∀ x ∈ o.op.operands.toList, OpdOk ρ β s a x) {t : TypeId} {xl xc : Operand} (ho : o.op = .makeSlice t xl xc) (hnew : r.add.isSome → β s.heap.length = none) (hq : qop C s g o = some r) (hnd : ∀ x ∈ r.needs, x.B ρ = true) : QOk P ρ β W w s.heap.length a o r.v r.add := by
  simp only [ho, Op.operands] at hop
  have ol := hop xl (by simp)
  have oc := hop xc (by simp)
  rw [qop_eq] at hq
  unfold qopAll at hq
  simp only [ho] at hq
  split at hq
  · rename_i e sz by_ z el pl kl l kc c htd hl hc
    split at hq
    · rename_i hlc
      subst hlc
      have el := int_rel hf hg hgl ol hl
      have ec := int_rel hf hg hgl oc hc
      have hu := (hC.ty _ _ htd).slice rfl
      split at hq
      · rename_i d hd
        obtain ⟨ie, ue, zz, hie, _, his, hib, hzl0, _⟩ := (hC.ty _ _ hd).facts
        -- the run, for a length n that is not too large
        have hrun : ∀ (n : Nat) (β' : Mp), l.I ρ = n → n * d.bytes ≤ 2 ^ 47 → n ≤ 2 ^ 47 → ∃ zv : Array Value, (Instr.makeSlice t (a.eval xl) (a.eval xc)).run P w = .ok (.slice (some ⟨w.heap.size, 0, none⟩) n n) (w.alloc (.cells ((Array.range (n * d.size)).map (zv[· % zv.size]!)) e)) ∧ zv.size = d.size ∧ RelL (Sc.rel ρ β') d.zero zv.toList := by
          intro n β' hn hb hle
          obtain ⟨zv, hz, hr, hs⟩ := (hC.ty _ _ hd).zero (w := w) (ρ := ρ) (β := β')
          have hw : IntKind.i64.wrap (n : Int) = n := wrap_of_inr (by simp [Vc.inr, IntKind.min, IntKind.max, IntKind.signed, IntKind.bits]; omega)
          refine ⟨zv.cells, ?_, hs, hr⟩
          have hb' : ¬ ((d.bytes : Int) * (n : Int) > 2 ^ 48) := by
            have : (d.bytes : Int) * (n : Int) = ((n * d.bytes : Nat) : Int) := by rw [Int.mul_comm]; simp
            rw [this]; omega
          have hroom : (askRoom (n * d.bytes)).run P w = .ok () w := by unfold askRoom roomBytes; rw [if_neg (by omega)]; rfl
          have hti : (typeInfo e).run P w = .ok ie w := by simp [typeInfo, hie]
          have h1 : (decide ((n : Int) < 0) || decide ((d.bytes : Int) * (n : Int) > 2 ^ 48)) = false := by simp; omega
          simp only [Instr.makeSlice, el, ec, asInt, asIntOf, Sem.run_bind, Sem.run_pure, Result.andThen_ok, run_underlying hu, hn, hw, hti, hib, h1]
          rw [if_neg (by simp)]
          simp only [Int.toNat_natCast, Sem.run_bind, Sem.run_pure, Result.andThen_ok, hroom, sizeOf_run (hC.ty _ _ hd)]
          have e0 : n * d.size = 0 → ∀ f g : Nat → Value, (Array.range (n * d.size)).map f = (Array.range (n * d.size)).map g := fun h f g => by rw [h]; simp
          by_cases h0 : n * d.size = 0
          · rw [if_pos h0]
            simp only [Sem.run_bind, Sem.run_pure, Result.andThen_ok, newRow_run]
            rw [e0 h0 _ (zv.cells[· % zv.cells.size]!)]
          · rw [if_neg h0]
            simp only [Sem.run_bind, hz, Sem.run_pure, Result.andThen_ok, newRow_run]
        split at hq
        · rename_i n hcl
          split at hq
          · rename_i hn
            obtain rfl := Option.some.inj hq
            obtain ⟨hn0, hn1, hn2⟩ := hn
            obtain ⟨m, rfl⟩ := Int.eq_ofNat_of_zero_le hn0
            have hb : m * d.bytes ≤ 2 ^ 47 := by exact_mod_cast hn2
            obtain ⟨zv, h1, h2, h3⟩ := hrun m (upd β s.heap.length (newB w.heap.size m d.size)) (lit_I _) hb (by omega)
            have hr := zeros_rel h3 m
            rw [h2] at hr h1
            obtain ⟨z, hz⟩ : ∃ z : List Value, ((Array.range (m * d.size)).map (zv[· % d.size]!)) = z.toArray := ⟨_, (Array.toArray_toList).symm⟩
            have hzl : z.length = m * d.size := by have := congrArg Array.size hz; simpa using this.symm
            rw [hz] at h1 hr
            have hm : ((m : Int)).toNat = m := Int.toNat_natCast m
            rw [hm]
            exact QOk.newSlc (z := z) (T := e) (runv (m := Instr.makeSlice t (a.eval xl) (a.eval xc)) (by simp [execOp, ho]) h1) hr (by rw [hzl]; exact Nat.le_refl _) (by unfold maxLen; omega)
          · cases hq
        · rename_i hcl
          split at hq
          · rename_i hby
            split at hq
            · rename_i sh hsh
              obtain rfl := Option.some.inj hq
              have n1 := le_of (hnd (xb .le (.lit 0) l) (by simp))
              have n2 := le_of (hnd (xb .le (xb .mul l (.lit d.bytes)) (.lit (2 ^ 47))) (by simp))
              rw [lit_I] at n1
              rw [xmul, lit_I, lit_I] at n2
              obtain ⟨n, hn⟩ := Int.eq_ofNat_of_zero_le n1
              have hb : n * d.bytes ≤ 2 ^ 47 := by rw [hn] at n2; exact_mod_cast n2
              have hle : n ≤ 2 ^ 47 := Nat.le_trans (Nat.le_mul_of_pos_right n hby.1) hb
              obtain ⟨zv, h1, h2, h3⟩ := hrun n (upd β s.heap.length (newB w.heap.size n d.size)) hn hb hle
              have hlen := (mapOpt_get hsh).1
              have hshd : sh.length = d.size := by rw [hlen, hzl0]
              have hnI : (l.I ρ).toNat = n := by omega
              refine ⟨_, _, upd β s.heap.length (newB w.heap.size n d.size), _, runv (m := Instr.makeSlice t (a.eval xl) (a.eval xc)) (by simp [execOp, ho]) h1, ?_, newB w.heap.size n d.size, below_alloc _ _, by simp, rfl, rfl, rfl, ?_⟩
              · refine ⟨some ⟨w.heap.size, 0, none⟩, n, some ⟨w.heap.size, 0, none⟩, n, by simp [SB.at, upd_same, newB], by rw [hnI], by rw [lit_I]; exact Int.le_refl _, n1, by omega, by unfold maxLen; omega, by simp, .inr (by rw [lit_I]; simp [Addr.add]), by rw [lit_I]; simp, by simp, by rw [lit_I]; simp⟩
              · intro g' _
                refine ⟨n1, by simp [newB], by simp [newB, hshd], .inr (.inr ⟨⟨w.heap.size, 0, none⟩, rfl, place_new _ e W _ (by simp [newB]), by rw [hnI]; exact Nat.le_refl _, fun i f k i0 i1 hk => ?_⟩)⟩
                have hf' : f < d.zero.length := by rw [← hlen]; exact (List.getElem?_eq_some_iff.1 hk).1
                obtain ⟨y, hy1, hy2⟩ := (mapOpt_get hsh).2 f d.zero[f] (List.getElem?_eq_getElem hf')
                obtain rfl := Option.some.inj (hy1.symm.trans hk)
                have hidx : i.toNat * d.size + f < n * d.size := by
                  have : i.toNat + 1 ≤ n := by omega
                  have := Nat.mul_le_mul_right d.size this
                  rw [Nat.add_mul, Nat.one_mul] at this
                  omega
                have hz := zeros_rel h3 n
                rw [h2] at hz
                obtain ⟨v, hv1, hv2⟩ := hz.get (i.toNat * d.size + f) d.zero[f] (by
                  rw [repCells_get, if_pos (by rw [hzl0]; exact hidx), hzl0, Nat.mul_comm i.toNat, Nat.mul_add_mod, Nat.mod_eq_of_lt (by omega)]
                  exact List.getElem?_eq_getElem hf')
                have hval := zerosB_get hby.2 (List.getElem?_eq_getElem hf') hy2 hv2
                refine ⟨?_, fun _ => by rw [add0]; simp⟩
                rw [add0, hshd, h2]
                subst hval
                have hv1' : ((Array.range (n * d.size)).map (zv[· % d.size]!))[i.toNat * d.size + f]? = some (y.val 0) := by
                  rw [← Array.getElem?_toList]; exact hv1
                show _ = some (y.val 0)
                simpa using hv1'
            · cases hq
          · cases hq
      · cases hq
    · cases hq
  · cases hq
theorem qop_sound (hC : C.Ok P) (hf : s.factsOk ρ) (hg : g.B ρ = true) (hgl : GlobOk C β) (hop : ∀ x ∈ o.op.operands.toList, OpdOk ρ β s a x) (hnew : r.add.isSome → β s.heap.length = none) (hq : qop C s g o = some r) (hnd : ∀ x ∈ r.needs, x.B ρ = true)
    (hh : ∀ k e bi, s.heap[k]? = some e → β k = some bi → EOk ρ β W w bi e) : QOk P ρ β W w s.heap.length a o r.v r.add := by
  cases ho : o.op with
  | move x => exact q_small hC hf hg hgl hop hq hnd (by simp [ho])
  | assign x => exact q_small hC hf hg hgl hop hq hnd (by simp [ho])
  | unOp _ _ x => exact q_small hC hf hg hgl hop hq hnd (by simp [ho])
  | convert _ _ x => exact q_small hC hf hg hgl hop hq hnd (by simp [ho])
  | extract x _ => exact q_small hC hf hg hgl hop hq hnd (by simp [ho])
  | fieldAddr _ _ _ => exact q_small hC hf hg hgl hop hq hnd (by simp [ho])
  | nilCheck _ => exact q_small hC hf hg hgl hop hq hnd (by simp [ho])
  | pick c x y => exact q_pick hf hg hgl hop ho hq
  | load t p => exact q_load hC hf hg hgl hop ho hq hnd hh
  | binOp op t x y t' => exact q_binOp hC hf hg hgl hop ho hq hnd
  | makeFunc f x y => exact q_makeFunc hf hg hgl hop ho hq
  | field t x f => exact q_field hC hf hg hgl hop ho hq
  | alloc t => exact q_alloc hC hf hg hgl hop ho hnew hq
  | box t x => exact q_box hC hf hg hgl hop ho hnew hq
  | build t ps => exact q_build hC hf hg hgl hop ho hq
  | indexAddr t x i => exact q_indexAddr hC hf hg hgl hop ho hq hnd
  | index t x i => exact q_index hC hf hg hgl hop ho hq hnd
  | makeSlice t l c => exact q_makeSlice hC hf hg hgl hop ho hnew hq hnd
  | buildSlice t n ps => exact q_buildSlice hC hf hg hgl hop ho hnew hq
  | slice t x lo hi mx => exact q_slice hC hf hg hgl hop ho hq hnd
  | call c =>
    obtain ⟨cl, args, ts⟩ := c
    cases cl with
    | builtin bt =>
      cases bt with
      | len => exact q_len hC hf hg hgl hop ho hq
      | min => exact q_minmax hC hf hg hgl hop (.inl rfl) ho hq
      | max => exact q_minmax hC hf hg hgl hop (.inr rfl) ho hq
      | _ => simp [qop, qCall, ho] at hq
    | _ => simp [qop, qCall, ho] at hq
  | _ => simp [qop, qCall, ho] at hq
end
end
end Go.Proofs.Ytpbpmabnmakdoaa.Vc
/- The symbolic executor: '==' on structs and arrays whose cells are numbers and truth values. -/
namespace Go.Proofs.Ytpbpmabnmakdoaa.Vc
noncomputable section
open Go Go.RowKit
variable {ρ : List AV} {β β' : Mp} {w w' : World} {P : Program}

noncomputable def eqV (vs us : List Value) : Bool := @decide (vs = us) (Classical.propDecidable _)
theorem eqV_iff {vs us : List Value} : eqV vs us = true ↔ vs = us := by unfold eqV; exact @decide_eq_true_iff _ (Classical.propDecidable _)
theorem eqV_congr {a b c d : List Value} (h : a = b ↔ c = d) : eqV a b = eqV c d := by rw [Bool.eq_iff_iff, eqV_iff, eqV_iff]; exact h
theorem eqV_of {a b : List Value} {p : Bool} (h : p = true ↔ a = b) : eqV a b = p := by rw [Bool.eq_iff_iff, eqV_iff]; exact h.symm
theorem eqV_self (a : List Value) : eqV a a = true := eqV_iff.2 rfl
theorem eqV_ne {a b : List Value} (h : a ≠ b) : eqV a b = false := by
  cases hc : eqV a b
  · rfl
  · exact absurd (eqV_iff.1 hc) h
theorem infoRun {e : TypeId} {i : TypeInfo} (h : P.info? e = some i) : (sizeOf e).run P w = .ok i.size w := by simp [sizeOf, typeInfo, h]

/-- the kinds of a type's cells, if all are numbers and truth values and lie side by side -/
def kindsF (K : TypeId → Option (List FK)) (P : Program) : Nat → List Field → Option (List FK)
  | _, [] => some []
  | off, f :: fs => match K f.type, P.info? f.type with
    | some ks, some i => if f.name ≠ "_" ∧ f.offset = off ∧ i.size = ks.length then (kindsF K P (off + ks.length) fs).map (ks ++ ·) else none
    | _, _ => none
def kindsT (P : Program) : Nat → TypeId → Option (List FK)
  | 0, _ => none
  | d + 1, t => match P.underlying t with
    | some .bool => some [.bool]
    | some (.int k) => some [.int k]
    | some (.struct fs) => if P.stoodInHeld t then none else kindsF (kindsT P d) P 0 fs.toList
    | some (.array n e) => match kindsT P d e, P.info? e with
      | some ks, some i => if i.size = ks.length then some (List.replicate n ks).flatten else none
      | _, _ => none
    | _ => none
def fitB : FK → Value → Prop
  | .int k, v => ∃ z, v = .int k z
  | .bool, v => ∃ p, v = .bool p
def aggT (P : Program) (t : TypeId) : Bool := match P.underlying t with | some (.struct _) | some (.array ..) => true | _ => false
/-- a value of type t with these cells -/
def shapeT (P : Program) (t : TypeId) (vs : List Value) (v : Value) : Prop := if aggT P t then v = .agg vs.toArray else vs = [v]
def EqT (P : Program) (d : Nat) (t : TypeId) (ks : List FK) : Prop :=
  ∀ (w : World) (vs us : List Value) (v u : Value), RelL fitB ks vs → RelL fitB ks us → shapeT P t vs v → shapeT P t us u → (Op.equalIn d t v u).run P w = .ok (eqV vs us) w
theorem isAgg_of {t : TypeId} {u : TypeDesc} (hu : P.underlying t = some u) : (isAgg t).run P w = .ok (aggT P t) w := by
  unfold isAgg aggT
  simp only [Sem.run_bind, run_underlying hu, Result.andThen_ok, hu]
  cases u <;> simp
theorem part_shape {t : TypeId} {ks : List FK} {i : TypeInfo} {off : Nat} {vs : List Value} {u : TypeDesc} (hu : P.underlying t = some u) (hi : P.info? t = some i) (hsz : i.size = ks.length) (hone : aggT P t = false → ks.length = 1) (hl : off + ks.length ≤ vs.length) :
    ∃ v, (part t vs.toArray off).run P w = .ok v w ∧ shapeT P t ((vs.drop off).take ks.length) v := by
  unfold part shapeT
  simp only [Sem.run_bind, isAgg_of hu, Result.andThen_ok]
  cases h : aggT P t
  · have h1 := hone h
    simp only [Bool.false_eq_true, if_false]
    have hlt : off < vs.length := by omega
    refine ⟨vs[off], by simp [hlt], ?_⟩
    rw [h1, List.drop_eq_getElem_cons hlt]; rfl
  · simp only [if_true, Sem.run_bind, infoRun hi, Result.andThen_ok, Sem.run_pure]
    refine ⟨_, rfl, ?_⟩
    rw [hsz]
    simp
theorem drop_take_eq {vs us : List Value} {n : Nat} : (vs.take n = us.take n ∧ vs.drop n = us.drop n) ↔ vs = us := by
  constructor
  · intro ⟨h1, h2⟩
    rw [← List.take_append_drop n vs, ← List.take_append_drop n us, h1, h2]
  · rintro rfl; exact ⟨rfl, rfl⟩
theorem RelL.split {α β : Type} {r : α → β → Prop} {a b : List α} {l : List β} (h : RelL r (a ++ b) l) : RelL r a (l.take a.length) ∧ RelL r b (l.drop a.length) := by
  have h1 := h.take a.length
  have h2 := h.drop a.length
  simp at h1 h2
  exact ⟨h1, h2⟩
theorem drop_eq {α : Type} (l : List α) (a b : Nat) : (l.drop a).drop b = l.drop (a + b) := by simp
theorem eqFields_run {d : Nat} {K : TypeId → Option (List FK)} (hK : ∀ t ks, K t = some ks → EqT P d t ks ∧ (aggT P t = false → ks.length = 1) ∧ ∃ u, P.underlying t = some u) {vs us : List Value} : ∀ (fs : List Field) (off : Nat) (ks : List FK), kindsF K P off fs = some ks →
    ∀ w, RelL fitB ks (vs.drop off) → RelL fitB ks (us.drop off) → off ≤ vs.length → off ≤ us.length → (Op.eqFields d vs.toArray us.toArray fs).run P w = .ok (eqV (vs.drop off) (us.drop off)) w
  | [], off, ks, h, w, hv, hu, hlv, hlu => by
    simp only [kindsF] at h
    obtain rfl := Option.some.inj h
    have h1 := hv.length
    have h2 := hu.length
    rw [List.eq_nil_of_length_eq_zero h1.symm, List.eq_nil_of_length_eq_zero h2.symm]
    simp [Op.eqFields, eqV_self]
  | f :: fs, off, ks, h, w, hv, hu, hlv, hlu => by
    simp only [kindsF] at h
    split at h
    · rename_i k1 i hk1 hi
      split at h
      · rename_i hc
        obtain ⟨hn, ho, hsz⟩ := hc
        simp only [Option.map_eq_some_iff] at h
        obtain ⟨k2, hk2, rfl⟩ := h
        obtain ⟨hE, hone, u0, hu0⟩ := hK _ _ hk1
        obtain ⟨v1, v2⟩ := hv.split
        obtain ⟨u1, u2⟩ := hu.split
        have lv := hv.length
        have lu := hu.length
        simp only [List.length_append, List.length_drop] at lv lu
        obtain ⟨a, pa, sa⟩ := part_shape (w := w) (vs := vs) (off := off) hu0 hi hsz hone (by omega)
        obtain ⟨b, pb, sb⟩ := part_shape (w := w) (vs := us) (off := off) hu0 hi hsz hone (by omega)
        have he := hE w _ _ a b v1 u1 sa sb
        have ih := eqFields_run hK fs (off + k1.length) k2 hk2 w (by rw [← drop_eq]; exact v2) (by rw [← drop_eq]; exact u2) (by omega) (by omega)
        unfold Op.eqFields
        rw [if_pos hn]
        simp only [Sem.run_bind, ho, pa, pb, he, Result.andThen_ok]
        have hdt := drop_take_eq (vs := vs.drop off) (us := us.drop off) (n := k1.length)
        rw [drop_eq, drop_eq] at hdt
        by_cases h1 : (vs.drop off).take k1.length = (us.drop off).take k1.length
        · simp only [eqV_iff.2 h1, Bool.not_true, Bool.false_eq_true, if_false, ih]
          rw [eqV_congr (show _ ↔ _ from ⟨fun h2 => hdt.1 ⟨h1, h2⟩, fun h2 => (hdt.2 h2).2⟩)]
        · simp only [eqV_ne h1, Bool.not_false, if_true, Sem.run_pure]
          have : ¬ vs.drop off = us.drop off := fun h2 => h1 (hdt.2 h2).1
          rw [eqV_ne this]
      · cases h
    · cases h
theorem flat_len {α : Type} (ks : List α) : ∀ n, (List.replicate n ks).flatten.length = n * ks.length
  | 0 => by simp
  | n + 1 => by rw [List.replicate_succ, List.flatten_cons, List.length_append, flat_len ks n, Nat.succ_mul]; omega
theorem eqItems_run {d : Nat} {e : TypeId} {ks : List FK} (hE : EqT P d e ks) (hone : aggT P e = false → ks.length = 1) {u0 : TypeDesc} (hu0 : P.underlying e = some u0) {i0 : TypeInfo} (hi : P.info? e = some i0) (hsz : i0.size = ks.length) {vs us : List Value} :
    ∀ (n i : Nat), ∀ w, RelL fitB (List.replicate n ks).flatten (vs.drop (i * ks.length)) → RelL fitB (List.replicate n ks).flatten (us.drop (i * ks.length)) → i * ks.length ≤ vs.length → i * ks.length ≤ us.length →
      (Op.eqItems d e ks.length vs.toArray us.toArray (List.range' i n)).run P w = .ok (eqV (vs.drop (i * ks.length)) (us.drop (i * ks.length))) w
  | 0, i, w, hv, hu, hlv, hlu => by
    have h1 := hv.length
    have h2 := hu.length
    simp only [List.replicate_zero, List.flatten_nil, List.length_nil] at h1 h2
    rw [List.eq_nil_of_length_eq_zero h1.symm, List.eq_nil_of_length_eq_zero h2.symm]
    simp [Op.eqItems, eqV_self]
  | n + 1, i, w, hv, hu, hlv, hlu => by
    rw [List.replicate_succ, List.flatten_cons] at hv hu
    obtain ⟨v1, v2⟩ := hv.split
    obtain ⟨u1, u2⟩ := hu.split
    have lv := hv.length
    have lu := hu.length
    simp only [List.length_append, List.length_drop] at lv lu
    obtain ⟨a, pa, sa⟩ := part_shape (w := w) (vs := vs) (off := i * ks.length) hu0 hi hsz hone (by omega)
    obtain ⟨b, pb, sb⟩ := part_shape (w := w) (vs := us) (off := i * ks.length) hu0 hi hsz hone (by omega)
    have he := hE w _ _ a b v1 u1 sa sb
    have ei : i * ks.length + ks.length = (i + 1) * ks.length := by rw [Nat.add_mul, Nat.one_mul]
    have ih := eqItems_run hE hone hu0 hi hsz n (i + 1) w (by rw [← ei, ← drop_eq]; exact v2) (by rw [← ei, ← drop_eq]; exact u2) (by omega) (by omega)
    rw [List.range'_succ]
    unfold Op.eqItems
    simp only [Sem.run_bind, pa, pb, he, Result.andThen_ok]
    have hdt := drop_take_eq (vs := vs.drop (i * ks.length)) (us := us.drop (i * ks.length)) (n := ks.length)
    rw [drop_eq, drop_eq, ei] at hdt
    by_cases h1 : (vs.drop (i * ks.length)).take ks.length = (us.drop (i * ks.length)).take ks.length
    · simp only [eqV_iff.2 h1, Bool.not_true, Bool.false_eq_true, if_false, ih]
      rw [eqV_congr (show _ ↔ _ from ⟨fun h2 => hdt.1 ⟨h1, h2⟩, fun h2 => (hdt.2 h2).2⟩)]
    · simp only [eqV_ne h1, Bool.not_false, if_true, Sem.run_pure]
      have : ¬ vs.drop (i * ks.length) = us.drop (i * ks.length) := fun h2 => h1 (hdt.2 h2).1
      rw [eqV_ne this]
theorem kindsT_run : ∀ (m d : Nat) (t : TypeId) (ks : List FK), kindsT P m t = some ks → EqT P (d + m) t ks ∧ (aggT P t = false → ks.length = 1) ∧ ∃ u, P.underlying t = some u
  | 0, _, _, _, h => by simp [kindsT] at h
  | m + 1, d, t, ks, h => by
    simp only [kindsT] at h
    split at h
    · rename_i hu
      obtain rfl := Option.some.inj h
      refine ⟨fun w vs us v u hv hu' sv su => ?_, fun _ => rfl, _, hu⟩
      have ha : aggT P t = false := by simp [aggT, hu]
      simp only [shapeT, ha, Bool.false_eq_true, if_false] at sv su
      subst sv su
      obtain ⟨a, rfl⟩ := hv.1
      obtain ⟨b, rfl⟩ := hu'.1
      rw [← Nat.add_assoc, equalIn_bool w (d + m) hu]
      rw [eqV_of (p := a == b) (by simp)]
    · rename_i k hu
      obtain rfl := Option.some.inj h
      refine ⟨fun w vs us v u hv hu' sv su => ?_, fun _ => rfl, _, hu⟩
      have ha : aggT P t = false := by simp [aggT, hu]
      simp only [shapeT, ha, Bool.false_eq_true, if_false] at sv su
      subst sv su
      obtain ⟨a, rfl⟩ := hv.1
      obtain ⟨b, rfl⟩ := hu'.1
      rw [← Nat.add_assoc, run_equalIn_int w (d + m) t k k a b hu]
      rw [eqV_of (p := a == b) (by simp)]
    · rename_i fs hu
      split at h
      · cases h
      · rename_i hst
        have ha : aggT P t = true := by simp [aggT, hu]
        have hfs : P.fieldsOf t = fs := by simp [Program.fieldsOf, hu]
        refine ⟨fun w vs us v u hv hu' sv su => ?_, fun h => (by rw [ha] at h; cases h), _, hu⟩
        simp only [shapeT, ha, if_true] at sv su
        subst sv su
        rw [← Nat.add_assoc, run_equalIn_struct w (d + m) t _ _ (by rw [hfs]; exact hu) (by simpa using hst), hfs]
        have := eqFields_run (P := P) (d := d + m) (K := kindsT P m) (fun t ks h => kindsT_run m d t ks h) (vs := vs) (us := us) fs.toList 0 ks h w (by simpa using hv) (by simpa using hu') (Nat.zero_le _) (Nat.zero_le _)
        simpa using this
    · rename_i n e hu
      split at h
      · rename_i k1 i hk hi
        split at h
        · rename_i hsz
          obtain rfl := Option.some.inj h
          have ha : aggT P t = true := by simp [aggT, hu]
          obtain ⟨hE, hone, u0, hu0⟩ := kindsT_run m d e k1 hk
          refine ⟨fun w vs us v u hv hu' sv su => ?_, fun h => (by rw [ha] at h; cases h), _, hu⟩
          simp only [shapeT, ha, if_true] at sv su
          subst sv su
          have hc : P.cellsOf e = k1.length := by simp [Program.cellsOf, hi, hsz]
          rw [← Nat.add_assoc, run_equalIn_array w (d + m) _ _ hu hi, hc, List.range_eq_range']
          have := eqItems_run hE hone hu0 hi hsz n 0 w (vs := vs) (us := us) (by simpa using hv) (by simpa using hu') (by simp) (by simp)
          simpa using this
        · cases h
      · cases h
    · cases h
theorem fit_of {l : List Sc} {ks : List FK} {vs : List Value} (h : mapOpt fkOf l = some ks) (hr : RelL (Sc.rel ρ β) l vs) : RelL fitB ks vs := by
  induction l generalizing ks vs with
  | nil =>
    simp [mapOpt] at h; subst h
    cases vs with
    | nil => trivial
    | cons _ _ => exact hr.elim
  | cons x l ih =>
    cases vs with
    | nil => exact hr.elim
    | cons v vs =>
      simp only [mapOpt] at h
      split at h
      · rename_i y m hy hm
        obtain rfl := Option.some.inj h
        refine ⟨?_, ih hm hr.2⟩
        have h1 := hr.1
        unfold fkOf at hy
        split at hy
        · obtain rfl := Option.some.inj hy; exact ⟨_, h1⟩
        · obtain rfl := Option.some.inj hy; exact ⟨_, h1⟩
        · cases hy
      · cases h
theorem eqCells_val : ∀ {x y : List Sc} {vs us : List Value} {e : X}, eqCells x y = some e → RelL (Sc.rel ρ β) x vs → RelL (Sc.rel ρ β) y us → e.B ρ = eqV vs us ∧ mapOpt fkOf y = mapOpt fkOf x
  | [], [], vs, us, e, h, hx, hy => by
    simp only [eqCells] at h
    obtain rfl := Option.some.inj h
    cases vs with
    | nil => cases us with
      | nil => exact ⟨(eqV_self _).symm, rfl⟩
      | cons _ _ => exact hy.elim
    | cons _ _ => exact hx.elim
  | .c (.int k a) :: l, .c (.int k' b) :: l', v :: vs, u :: us, e, h, hx, hy => by
    simp only [eqCells] at h
    split at h
    · rename_i hk
      subst hk
      simp only [Option.map_eq_some_iff] at h
      obtain ⟨e', he', rfl⟩ := h
      obtain ⟨h1, h2⟩ := eqCells_val he' hx.2 hy.2
      have e1 : v = .int k (a.I ρ) := hx.1
      have e2 : u = .int k (b.I ρ) := hy.1
      subst e1 e2
      refine ⟨?_, by simp only [mapOpt, fkOf, h2]⟩
      rw [xand, xeq, h1, Bool.eq_iff_iff]
      simp [eqV_iff]
    · cases h
  | .c (.bool a) :: l, .c (.bool b) :: l', v :: vs, u :: us, e, h, hx, hy => by
    simp only [eqCells, Option.map_eq_some_iff] at h
    obtain ⟨e', he', rfl⟩ := h
    obtain ⟨h1, h2⟩ := eqCells_val he' hx.2 hy.2
    have e1 : v = .bool (a.B ρ) := hx.1
    have e2 : u = .bool (b.B ρ) := hy.1
    subst e1 e2
    refine ⟨?_, by simp only [mapOpt, fkOf, h2]⟩
    rw [xand, xor_, xand, xand, xnot, xnot, h1, Bool.eq_iff_iff]
    simp only [Bool.and_eq_true, eqV_iff, List.cons.injEq, Value.bool.injEq]
    cases a.B ρ <;> cases b.B ρ <;> simp
  | [], _ :: _, _, _, _, h, _, _ => by simp [eqCells] at h
  | _ :: _, [], _, _, _, h, _, _ => by simp [eqCells] at h
  | .c (.int ..) :: _, .c (.bool _) :: _, _, _, _, h, _, _ | .c (.int ..) :: _, .c (.ptr ..) :: _, _, _, _, h, _, _ | .c (.int ..) :: _, .c .nilp :: _, _, _, _, h, _, _ | .c (.int ..) :: _, .c (.slc ..) :: _, _, _, _, h, _, _
  | .c (.int ..) :: _, .c .nils :: _, _, _, _, h, _, _ | .c (.int ..) :: _, .fn .. :: _, _, _, _, h, _, _ | .c (.int ..) :: _, .nilf :: _, _, _, _, h, _, _
  | .c (.bool _) :: _, .c (.int ..) :: _, _, _, _, h, _, _ | .c (.bool _) :: _, .c (.ptr ..) :: _, _, _, _, h, _, _ | .c (.bool _) :: _, .c .nilp :: _, _, _, _, h, _, _ | .c (.bool _) :: _, .c (.slc ..) :: _, _, _, _, h, _, _
  | .c (.bool _) :: _, .c .nils :: _, _, _, _, h, _, _ | .c (.bool _) :: _, .fn .. :: _, _, _, _, h, _, _ | .c (.bool _) :: _, .nilf :: _, _, _, _, h, _, _
  | .c (.ptr ..) :: _, _ :: _, _, _, _, h, _, _ | .c .nilp :: _, _ :: _, _, _, _, h, _, _ | .c (.slc ..) :: _, _ :: _, _, _, _, h, _, _ | .c .nils :: _, _ :: _, _, _, _, h, _, _ | .fn .. :: _, _ :: _, _, _, _, h, _, _ | .nilf :: _, _ :: _, _, _, _, h, _, _ => by simp [eqCells] at h
  | .c (.int ..) :: _, .c (.int ..) :: _, [], _, _, _, hx, _ => hx.elim
  | .c (.int ..) :: _, .c (.int ..) :: _, _ :: _, [], _, _, _, hy => hy.elim
  | .c (.bool _) :: _, .c (.bool _) :: _, [], _, _, _, hx, _ => hx.elim
  | .c (.bool _) :: _, .c (.bool _) :: _, _ :: _, [], _, _, _, hy => hy.elim
/-- what a table's row marked 'plain' is held to -/
def plainB (P : Program) (t : TypeId) (d : TD) : Bool := decide (kindsT P 20 t = mapOpt fkOf d.zero) && aggT P t && !P.eqGuardType P.depth t
theorem plain_eq {t : TypeId} {d : TD} (h : plainB P t d = true) (x y : List Sc) (vs us : List Value) (e : X) (ρ : List AV) (β : Mp) (w : World) (he : eqCells x y = some e) (hx : RelL (Sc.rel ρ β) x vs) (hy : RelL (Sc.rel ρ β) y us) (h1 : (mapOpt fkOf x).isSome = true) (h2 : mapOpt fkOf x = mapOpt fkOf d.zero) :
    (Op.equal t (.agg vs.toArray) (.agg us.toArray)).run P w = .ok (e.B ρ) w ∧ ∀ op xo yo, (eqGuard op t xo yo (.agg vs.toArray) (.agg us.toArray)).run P w = .ok () w := by
  simp only [plainB, Bool.and_eq_true, decide_eq_true_eq, Bool.not_eq_true'] at h
  obtain ⟨⟨hk, ha⟩, hg⟩ := h
  obtain ⟨ks, hks⟩ := Option.isSome_iff_exists.1 h1
  obtain ⟨e1, e2⟩ := eqCells_val he hx hy
  obtain ⟨hE, _, _⟩ := kindsT_run (P := P) 20 9980 t ks (by rw [hk, ← h2, hks])
  refine ⟨?_, fun op xo yo => run_eqGuard_agg w op t xo yo _ _ hg⟩
  rw [e1]
  exact hE w vs us _ _ (fit_of hks hx) (fit_of (by rw [e2]; exact hks) hy) (by simp [shapeT, ha]) (by simp [shapeT, ha])
end
end Go.Proofs.Ytpbpmabnmakdoaa.Vc
/- The symbolic executor: renaming. -/
namespace Go.Proofs.Ytpbpmabnmakdoaa.Vc
noncomputable section
open Go Go.RowKit
variable {ρ ρ' : List AV} {β β' : Mp} {W W' : Nat → Prop} {w w' : World} {P : Program} {C : Cfg}

theorem X.sub_den {N : Nat} {σ : Nat → X} (h : ∀ n, n < N → (σ n).den ρ' = ρ.getD n (.i 0)) : ∀ {x y : X}, x.sub N σ = some y → y.den ρ' = x.den ρ := by
  intro x
  induction x with
  | var n =>
    intro y hy
    simp only [X.sub] at hy
    split at hy
    · rename_i hn; obtain rfl := Option.some.inj hy; exact h n hn
    · cases hy
  | lit | bl | zeros => intro y hy; simp only [X.sub] at hy; obtain rfl := Option.some.inj hy; rfl
  | bin o a b ha hb | shift a b ha hb | row a b ha hb | mlen a b ha hb | get a b f ha hb =>
    intro y hy
    simp only [X.sub] at hy
    split at hy
    · rename_i h1 h2; obtain rfl := Option.some.inj hy; simp [X.den, ha h1, hb h2]
    · cases hy
  | not a ha | inr k a ha | wrap k a ha =>
    intro y hy
    simp only [X.sub] at hy
    split at hy
    · rename_i h1; obtain rfl := Option.some.inj hy; simp [X.den, ha h1]
    · cases hy
  | ite a b c ha hb hc | app a b c ha hb hc | set a b f c ha hb hc =>
    intro y hy
    simp only [X.sub] at hy
    split at hy
    · rename_i h1 h2 h3; obtain rfl := Option.some.inj hy; simp [X.den, ha h1, hb h2, hc h3]
    · cases hy
  | setrow a b c d ha hb hc hd =>
    intro y hy
    simp only [X.sub] at hy
    split at hy
    · rename_i h1 h2 h3 h4; obtain rfl := Option.some.inj hy; simp [X.den, ha h1, hb h2, hc h3, hd h4]
    · cases hy
theorem X.sub_id {N : Nat} : ∀ {x y : X}, x.sub N .var = some y → y = x := by
  intro x
  induction x with
  | var n =>
    intro y hy
    simp only [X.sub] at hy
    split at hy
    · obtain rfl := Option.some.inj hy; rfl
    · cases hy
  | lit | bl | zeros => intro y hy; simp only [X.sub] at hy; obtain rfl := Option.some.inj hy; rfl
  | bin o a b ha hb | shift a b ha hb | row a b ha hb | mlen a b ha hb | get a b f ha hb =>
    intro y hy
    simp only [X.sub] at hy
    split at hy
    · rename_i h1 h2; obtain rfl := Option.some.inj hy; rw [ha h1, hb h2]
    · cases hy
  | not a ha | inr k a ha | wrap k a ha =>
    intro y hy
    simp only [X.sub] at hy
    split at hy
    · rename_i h1; obtain rfl := Option.some.inj hy; rw [ha h1]
    · cases hy
  | ite a b c ha hb hc | app a b c ha hb hc | set a b f c ha hb hc =>
    intro y hy
    simp only [X.sub] at hy
    split at hy
    · rename_i h1 h2 h3; obtain rfl := Option.some.inj hy; rw [ha h1, hb h2, hc h3]
    · cases hy
  | setrow a b c d ha hb hc hd =>
    intro y hy
    simp only [X.sub] at hy
    split at hy
    · rename_i h1 h2 h3 h4; obtain rfl := Option.some.inj hy; rw [ha h1, hb h2, hc h3, hd h4]
    · cases hy

/-- R's names stand for the same: ρ, β (old names) and ρ', β' (new names) -/
structure Ren.Ok (R : Ren) (ρ : List AV) (β : Mp) (ρ' : List AV) (β' : Mp) : Prop where
  x : ∀ n, n < R.N → (R.σ n).den ρ' = ρ.getD n (.i 0)
  b : ∀ k, k < R.K → (β k).map (·.v) = (β' (R.r k)).map (·.v)
variable {R : Ren}
theorem SB.sub_at (h : R.Ok ρ β ρ' β') {b c : SB} (hs : b.sub R = some c) : c.at ρ' β' = b.at ρ β := by
  cases b with
  | blk k =>
    simp only [SB.sub] at hs
    split at hs
    · rename_i hk
      obtain rfl := Option.some.inj hs
      have := h.b k hk
      simp only [SB.at]
      cases h1 : β k <;> cases h2 : β' (R.r k) <;> simp [h1, h2] at this ⊢
      rw [this]; exact ⟨rfl, rfl⟩
    · cases hs
  | row k i =>
    simp only [SB.sub] at hs
    split at hs
    · rename_i hk
      split at hs
      · rename_i j hj
        obtain rfl := Option.some.inj hs
        have := h.b k hk
        have hi := X.sub_den h.x hj
        simp only [SB.at, X.I, hi]
        cases h1 : β k <;> cases h2 : β' (R.r k) <;> simp [h1, h2] at this ⊢
        rw [this]; exact ⟨rfl, rfl⟩
      · cases hs
    · cases hs
theorem Sc0.sub_rel (h : R.Ok ρ β ρ' β') {s t : Sc0} (hs : s.sub R = some t) (v : Value) : t.rel ρ' β' v ↔ s.rel ρ β v := by
  cases s with
  | int k e =>
    simp only [Sc0.sub] at hs
    split at hs
    · rename_i e' he; obtain rfl := Option.some.inj hs; simp only [Sc0.rel, X.I, X.sub_den h.x he]
    · cases hs
  | bool e =>
    simp only [Sc0.sub] at hs
    split at hs
    · rename_i e' he; obtain rfl := Option.some.inj hs; simp only [Sc0.rel, X.B, X.sub_den h.x he]
    · cases hs
  | ptr b sz i f =>
    simp only [Sc0.sub] at hs
    split at hs
    · rename_i b' i' hb hi; obtain rfl := Option.some.inj hs; simp only [Sc0.rel, X.I, X.sub_den h.x hi, SB.sub_at h hb]
    · cases hs
  | nilp => simp only [Sc0.sub] at hs; obtain rfl := Option.some.inj hs; exact Iff.rfl
  | nils => simp only [Sc0.sub] at hs; obtain rfl := Option.some.inj hs; exact Iff.rfl
  | slc b sz off len cp =>
    cases cp with
    | none =>
      simp only [Sc0.sub] at hs
      split at hs
      · rename_i b' o' l' hb ho hl; obtain rfl := Option.some.inj hs; simp only [Sc0.rel, X.I, X.sub_den h.x ho, X.sub_den h.x hl, SB.sub_at h hb]; simp
      · cases hs
    | some c =>
      simp only [Sc0.sub] at hs
      split at hs
      · rename_i b' o' l' c' hb ho hl hc; obtain rfl := Option.some.inj hs; simp only [Sc0.rel, X.I, X.sub_den h.x ho, X.sub_den h.x hl, SB.sub_at h hb]; simp [X.sub_den h.x hc]
      · cases hs
theorem mapOpt_relL {α γ : Type} {f : α → Option α} {r r' : α → γ → Prop} (hf : ∀ x y, f x = some y → ∀ v, r' y v ↔ r x v) : ∀ {l m : List α}, mapOpt f l = some m → ∀ vs, RelL r' m vs ↔ RelL r l vs
  | [], m, h, vs => by simp [mapOpt] at h; subst h; cases vs <;> exact Iff.rfl
  | x :: l, m, h, vs => by
    simp only [mapOpt] at h
    split at h
    · rename_i y m' h1 h2
      obtain rfl := Option.some.inj h
      cases vs with
      | nil => exact Iff.rfl
      | cons v vs => simp only [RelL, hf x y h1 v, mapOpt_relL hf h2 vs]
    · cases h
theorem Sc.sub_rel (h : R.Ok ρ β ρ' β') {s t : Sc} (hs : s.sub R = some t) (v : Value) : t.rel ρ' β' v ↔ s.rel ρ β v := by
  cases s with
  | c s =>
    simp only [Sc.sub] at hs
    split at hs
    · rename_i s' he; obtain rfl := Option.some.inj hs; exact Sc0.sub_rel h he v
    · cases hs
  | fn f a b =>
    simp only [Sc.sub] at hs
    split at hs
    · rename_i a' b' ha hb
      obtain rfl := Option.some.inj hs
      simp only [Sc.rel]
      simp only [mapOpt_relL (fun x y hxy v => Sc0.sub_rel h hxy v) ha, mapOpt_relL (fun x y hxy v => Sc0.sub_rel h hxy v) hb]
    · cases hs
  | nilf => simp only [Sc.sub] at hs; obtain rfl := Option.some.inj hs; exact Iff.rfl
theorem V1.sub_rel (h : R.Ok ρ β ρ' β') {s t : V1} (hs : s.sub R = some t) (v : Value) : t.rel ρ' β' v ↔ s.rel ρ β v := by
  cases s with
  | sc s =>
    simp only [V1.sub] at hs
    split at hs
    · rename_i s' he; obtain rfl := Option.some.inj hs; exact Sc.sub_rel h he v
    · cases hs
  | agg l =>
    simp only [V1.sub] at hs
    split at hs
    · rename_i l' hl
      obtain rfl := Option.some.inj hs
      simp only [V1.rel, mapOpt_relL (fun x y hxy v => Sc.sub_rel h hxy v) hl]
    · cases hs
theorem SV.sub_rel (h : R.Ok ρ β ρ' β') {s t : SV} (hs : s.sub R = some t) (v : Value) : t.rel ρ' β' v ↔ s.rel ρ β v := by
  cases s with
  | v s =>
    simp only [SV.sub] at hs
    split at hs
    · rename_i s' he; obtain rfl := Option.some.inj hs; exact V1.sub_rel h he v
    · cases hs
  | tup l =>
    simp only [SV.sub] at hs
    split at hs
    · rename_i l' hl
      obtain rfl := Option.some.inj hs
      simp only [SV.rel, mapOpt_relL (fun x y hxy v => V1.sub_rel h hxy v) hl]
    · cases hs
  | undef => simp only [SV.sub] at hs; obtain rfl := Option.some.inj hs; exact Iff.rfl
theorem Slot.sub_rel (h : R.Ok ρ β ρ' β') {s t : Slot} (hs : s.sub R = some t) (v : Value) : t.rel ρ' β' v ↔ s.rel ρ β v := by
  simp only [Slot.sub] at hs
  split at hs
  · rename_i g' v' hg hv
    obtain rfl := Option.some.inj hs
    simp only [Slot.rel, X.B, X.sub_den h.x hg, SV.sub_rel h hv]
  · cases hs
theorem HE.sub_ok (h : R.Ok ρ β ρ' β') {e f : HE} (hs : e.sub R = some f) (b : BI) : EOk ρ' β' W w b f ↔ EOk ρ β W w b e := by
  simp only [HE.sub] at hs
  split at hs
  · rename_i bd gd hb hgd
    obtain rfl := Option.some.inj hs
    obtain ⟨own, body, eg⟩ := e
    simp only at hb hgd ⊢
    have hgB : gd.B ρ' = eg.B ρ := by simp only [X.B, X.sub_den h.x hgd]
    unfold EOk
    simp only [hgB]
    refine forall_congr' fun _ => ?_
    cases body with
    | cells l =>
      simp only [Body.sub] at hb
      split at hb
      · rename_i l' hl
        obtain rfl := Option.some.inj hb
        obtain ⟨hlen, hget⟩ := mapOpt_get hl
        simp only
        constructor
        · rintro ⟨p, h1, h2, h3⟩
          refine ⟨p, h1, h2, fun j c hj => ?_⟩
          obtain ⟨y, hy, hs⟩ := hget j c hj
          obtain ⟨v, h4, h5⟩ := h3 j y hy
          exact ⟨v, h4, (Sc.sub_rel h hs v).1 h5⟩
        · rintro ⟨p, h1, h2, h3⟩
          refine ⟨p, h1, h2, fun j c hj => ?_⟩
          have hjl : j < l.length := by rw [← hlen]; exact (List.getElem?_eq_some_iff.1 hj).1
          obtain ⟨y, hy, hs⟩ := hget j l[j] (by simp [hjl])
          obtain rfl := Option.some.inj (hy.symm.trans hj)
          obtain ⟨v, h4, h5⟩ := h3 j l[j] (by simp [hjl])
          exact ⟨v, h4, (Sc.sub_rel h hs v).2 h5⟩
      · cases hb
    | arr sh a n =>
      simp only [Body.sub] at hb
      split at hb
      · rename_i a' n' ha hn
        obtain rfl := Option.some.inj hb
        simp only [X.I, X.sub_den h.x ha, X.sub_den h.x hn]
      · cases hb
    | mat sh a n =>
      simp only [Body.sub] at hb
      split at hb
      · rename_i a' n' ha hn
        obtain rfl := Option.some.inj hb
        simp only [X.I, X.sub_den h.x ha, X.sub_den h.x hn]
      · cases hb
    | mo sh kr n =>
      simp only [Body.sub] at hb
      split at hb
      · rename_i hkr
        split at hb
        · rename_i n' hn
          obtain rfl := Option.some.inj hb
          have hv := h.b kr hkr
          have key : ∀ (p : BV → Prop), (∃ br, β' (R.r kr) = some br ∧ p br.v) ↔ ∃ br, β kr = some br ∧ p br.v := fun p => by
            cases h1 : β kr <;> cases h2 : β' (R.r kr) <;> simp [h1, h2] at hv ⊢
            rw [hv]
          simp only [X.I, X.sub_den h.x hn]
          refine and_congr Iff.rfl (and_congr Iff.rfl (and_congr Iff.rfl (or_congr Iff.rfl (exists_congr fun p => and_congr Iff.rfl (and_congr Iff.rfl (and_congr Iff.rfl (forall_congr' fun i => forall_congr' fun _ => forall_congr' fun _ => ?_)))))))
          exact key fun v => cellOk w own (p.add i.toNat) (.slice (v.rows i) (v.lens i).toNat (v.caps i))
        · cases hb
      · cases hb
    | rw sh a n =>
      simp only [Body.sub] at hb
      split at hb
      · rename_i a' n' ha hn
        obtain rfl := Option.some.inj hb
        simp only [X.I, X.sub_den h.x ha, X.sub_den h.x hn]
      · cases hb
    | rh sh a n i =>
      simp only [Body.sub] at hb
      split at hb
      · rename_i a' n' i' ha hn hi
        obtain rfl := Option.some.inj hb
        simp only [X.I, X.sub_den h.x ha, X.sub_den h.x hn, X.sub_den h.x hi]
      · cases hb
    | gone => simp only [Body.sub] at hb; obtain rfl := Option.some.inj hb; exact Iff.rfl
  · cases hs
/-! the identity -/
def idR (N K : Nat) : Ren := ⟨N, .var, K, id⟩
variable {N K : Nat}
theorem mapOpt_id {α : Type} {f : α → Option α} (hf : ∀ x y, f x = some y → y = x) : ∀ {l m : List α}, mapOpt f l = some m → m = l
  | [], m, h => by simp [mapOpt] at h; exact h
  | x :: l, m, h => by
    simp only [mapOpt] at h
    split at h
    · rename_i y m' h1 h2
      obtain rfl := Option.some.inj h
      rw [hf x y h1, mapOpt_id hf h2]
    · cases h
theorem SB.sub_id {b c : SB} (h : b.sub (idR N K) = some c) : c = b := by
  cases b with
  | blk k =>
    by_cases hk : k < K
    · simp [SB.sub, idR, hk] at h; exact h.symm
    · simp [SB.sub, idR, hk] at h
  | row k i =>
    by_cases hk : k < K
    · simp only [SB.sub, idR, hk, if_true] at h
      split at h
      · rename_i j hj; obtain rfl := Option.some.inj h; rw [X.sub_id hj]; rfl
      · cases h
    · simp [SB.sub, idR, hk] at h
theorem Sc0.sub_id {s t : Sc0} (h : s.sub (idR N K) = some t) : t = s := by
  cases s with
  | int k e =>
      simp only [Sc0.sub] at h
      split at h
      · rename_i e' he; obtain rfl := Option.some.inj h; rw [X.sub_id he]
      · cases h
  | bool e =>
      simp only [Sc0.sub] at h
      split at h
      · rename_i e' he; obtain rfl := Option.some.inj h; rw [X.sub_id he]
      · cases h
  | ptr b sz i f =>
      simp only [Sc0.sub] at h
      split at h
      · rename_i e1 e2 he1 he2; obtain rfl := Option.some.inj h; rw [X.sub_id he2, SB.sub_id he1]
      · cases h
  | nilp => simp only [Sc0.sub] at h; obtain rfl := Option.some.inj h; rfl
  | nils => simp only [Sc0.sub] at h; obtain rfl := Option.some.inj h; rfl
  | slc b sz off len cp =>
    cases cp with
    | none =>
        simp only [Sc0.sub] at h
        split at h
        · rename_i e1 e2 e3 he1 he2 he3; obtain rfl := Option.some.inj h; rw [X.sub_id he2, X.sub_id he3, SB.sub_id he1]
        · cases h
    | some c =>
        simp only [Sc0.sub] at h
        split at h
        · rename_i e1 e2 e3 e4 he1 he2 he3 he4; obtain rfl := Option.some.inj h; rw [X.sub_id he2, X.sub_id he3, X.sub_id he4, SB.sub_id he1]
        · cases h
theorem Sc.sub_id {s t : Sc} (h : s.sub (idR N K) = some t) : t = s := by
  cases s with
  | c s =>
      simp only [Sc.sub] at h
      split at h
      · rename_i e' he; obtain rfl := Option.some.inj h; rw [Sc0.sub_id he]
      · cases h
  | fn f a b =>
    simp only [Sc.sub] at h
    split at h
    · rename_i a' b' ha hb; obtain rfl := Option.some.inj h
      rw [mapOpt_id (fun x y => Sc0.sub_id) ha, mapOpt_id (fun x y => Sc0.sub_id) hb]
    · cases h
  | nilf => simp only [Sc.sub] at h; obtain rfl := Option.some.inj h; rfl
theorem V1.sub_id {s t : V1} (h : s.sub (idR N K) = some t) : t = s := by
  cases s with
  | sc s =>
      simp only [V1.sub] at h
      split at h
      · rename_i e' he; obtain rfl := Option.some.inj h; rw [Sc.sub_id he]
      · cases h
  | agg l =>
      simp only [V1.sub] at h
      split at h
      · rename_i e' he; obtain rfl := Option.some.inj h; rw [mapOpt_id (fun x y => Sc.sub_id) he]
      · cases h
theorem SV.sub_id {s t : SV} (h : s.sub (idR N K) = some t) : t = s := by
  cases s with
  | v s =>
      simp only [SV.sub] at h
      split at h
      · rename_i e' he; obtain rfl := Option.some.inj h; rw [V1.sub_id he]
      · cases h
  | tup l =>
      simp only [SV.sub] at h
      split at h
      · rename_i e' he; obtain rfl := Option.some.inj h; rw [mapOpt_id (fun x y => V1.sub_id) he]
      · cases h
  | undef => simp only [SV.sub] at h; obtain rfl := Option.some.inj h; rfl
theorem Slot.sub_id {s t : Slot} (h : s.sub (idR N K) = some t) : t = s := by
  simp only [Slot.sub] at h
  split at h
  · rename_i g v hg hv; obtain rfl := Option.some.inj h; rw [X.sub_id hg, SV.sub_id hv]
  · cases h
theorem optSub_id {s t : Option Slot} (h : optSub (idR N K) s = some t) : t = s := by
  cases s with
  | none => simp only [optSub] at h; obtain rfl := Option.some.inj h; rfl
  | some s =>
      simp only [optSub] at h
      split at h
      · rename_i e' he; obtain rfl := Option.some.inj h; rw [Slot.sub_id he]
      · cases h
theorem HE.sub_id {e f : HE} (h : e.sub (idR N K) = some f) : f = e := by
  simp only [HE.sub] at h
  split at h
  · rename_i b g hb hg; obtain rfl := Option.some.inj h; rw [X.sub_id hg]
    obtain ⟨own, body, eg⟩ := e
    simp only at hb ⊢
    cases body with
    | cells l =>
      simp only [Body.sub] at hb
      split at hb
      · rename_i e' he; obtain rfl := Option.some.inj hb; rw [mapOpt_id (fun x y => Sc.sub_id) he]
      · cases hb
    | arr sh a n =>
      simp only [Body.sub] at hb
      split at hb
      · rename_i e1 e2 he1 he2; obtain rfl := Option.some.inj hb; rw [X.sub_id he1, X.sub_id he2]
      · cases hb
    | mat sh a n =>
      simp only [Body.sub] at hb
      split at hb
      · rename_i e1 e2 he1 he2; obtain rfl := Option.some.inj hb; rw [X.sub_id he1, X.sub_id he2]
      · cases hb
    | mo sh kr n =>
      simp only [Body.sub] at hb
      split at hb
      · split at hb
        · rename_i e1 he1; obtain rfl := Option.some.inj hb; rw [X.sub_id he1]; rfl
        · cases hb
      · cases hb
    | rw sh a n =>
      simp only [Body.sub] at hb
      split at hb
      · rename_i e1 e2 he1 he2; obtain rfl := Option.some.inj hb; rw [X.sub_id he1, X.sub_id he2]
      · cases hb
    | rh sh a n i =>
      simp only [Body.sub] at hb
      split at hb
      · rename_i e1 e2 e3 he1 he2 he3; obtain rfl := Option.some.inj hb; rw [X.sub_id he1, X.sub_id he2, X.sub_id he3]
      · cases hb
    | gone => simp only [Body.sub] at hb; obtain rfl := Option.some.inj hb; rfl
  · cases h
/-- every variable and entry that the state names is there -/
structure Scoped (N K : Nat) (s : S) : Prop where
  tmps : ∀ (t : Nat) sl, s.tmps[t]? = some (some sl) → sl.sub (idR N K) = some sl
  heap : ∀ (k : Nat) e, s.heap[k]? = some e → e.sub (idR N K) = some e
  facts : ∀ x ∈ s.facts, x.sub N .var = some x
/-! names that are there, by their bounds -/
theorem X.sub_ub {N : Nat} : ∀ {x : X}, x.ub ≤ N → x.sub N .var = some x := by
  intro x
  induction x with
  | var n =>
    intro h
    have h : n + 1 ≤ N := h
    simp only [X.sub]
    rw [if_pos (by omega)]
  | lit | bl | zeros => intro _; rfl
  | bin o a b ha hb | shift a b ha hb | row a b ha hb | mlen a b ha hb | get a b f ha hb =>
    intro h
    have h : maxF a.ub b.ub ≤ N := h
    have h := maxF_le h
    simp only [X.sub, ha h.1, hb h.2]
  | not a ha | inr k a ha | wrap k a ha =>
    intro h
    have h : a.ub ≤ N := h
    simp only [X.sub, ha h]
  | ite a b c ha hb hc | app a b c ha hb hc | set a b f c ha hb hc =>
    intro h
    have h : maxF a.ub (maxF b.ub c.ub) ≤ N := h
    have h1 := maxF_le h
    have h2 := maxF_le h1.2
    simp only [X.sub, ha h1.1, hb h2.1, hc h2.2]
  | setrow a b c d ha hb hc hd =>
    intro h
    have h : maxF a.ub (maxF b.ub (maxF c.ub d.ub)) ≤ N := h
    have h1 := maxF_le h
    have h2 := maxF_le h1.2
    have h3 := maxF_le h2.2
    simp only [X.sub, ha h1.1, hb h2.1, hc h3.1, hd h3.2]
theorem mapOpt_ok {α : Type} {f : α → Option α} : ∀ {l : List α}, (∀ x ∈ l, f x = some x) → mapOpt f l = some l
  | [], _ => rfl
  | x :: l, h => by
    simp only [mapOpt, h x (List.mem_cons_self ..), mapOpt_ok fun y hy => h y (List.mem_cons_of_mem _ hy)]
theorem SB.sub_ok {b : SB} (hv : b.vb ≤ N) (he : b.eb ≤ K) : b.sub (idR N K) = some b := by
  cases b with
  | blk k =>
    have he : k + 1 ≤ K := he
    show (if k < K then some (SB.blk (id k)) else none) = _
    rw [if_pos (by omega)]; rfl
  | row k i =>
    have he : k + 1 ≤ K := he
    have hv : i.ub ≤ N := hv
    show (if k < K then match i.sub N .var with | some i => some (SB.row (id k) i) | none => none else none) = _
    rw [if_pos (by omega), X.sub_ub hv]; rfl
theorem Sc0.sub_ok {s : Sc0} (hv : s.vb ≤ N) (he : s.eb ≤ K) : s.sub (idR N K) = some s := by
  cases s with
  | int k e => have hv : e.ub ≤ N := hv; simp only [Sc0.sub, idR, X.sub_ub hv]
  | bool e => have hv : e.ub ≤ N := hv; simp only [Sc0.sub, idR, X.sub_ub hv]
  | ptr b sz i f =>
    have hv : maxF b.vb i.ub ≤ N := hv
    have hv := maxF_le hv
    have he : b.eb ≤ K := he
    have h1 := SB.sub_ok hv.1 he
    have h2 := X.sub_ub hv.2
    simp only [Sc0.sub, h1, show (idR N K).N = N from rfl, show (idR N K).σ = X.var from rfl, h2]
  | nilp => rfl
  | nils => rfl
  | slc b sz off len cp =>
    have he : b.eb ≤ K := he
    cases cp with
    | none =>
      have hv : maxF b.vb (maxF off.ub len.ub) ≤ N := hv
      have h1 := maxF_le hv
      have h2 := maxF_le h1.2
      simp only [Sc0.sub, SB.sub_ok h1.1 he, show (idR N K).N = N from rfl, show (idR N K).σ = X.var from rfl, X.sub_ub h2.1, X.sub_ub h2.2]
    | some c =>
      have hv : maxF b.vb (maxF off.ub (maxF len.ub c.ub)) ≤ N := hv
      have h1 := maxF_le hv
      have h2 := maxF_le h1.2
      have h3 := maxF_le h2.2
      simp only [Sc0.sub, SB.sub_ok h1.1 he, show (idR N K).N = N from rfl, show (idR N K).σ = X.var from rfl, X.sub_ub h2.1, X.sub_ub h3.1, X.sub_ub h3.2]
theorem Sc.sub_ok {s : Sc} (hv : s.vb ≤ N) (he : s.eb ≤ K) : s.sub (idR N K) = some s := by
  cases s with
  | c s =>
    have hv : s.vb ≤ N := hv
    have he : s.eb ≤ K := he
    simp only [Sc.sub, Sc0.sub_ok hv he]
  | fn f a b =>
    have hv : maxF (maxL Sc0.vb a) (maxL Sc0.vb b) ≤ N := hv
    have he : maxF (maxL Sc0.eb a) (maxL Sc0.eb b) ≤ K := he
    have hv := maxF_le hv
    have he := maxF_le he
    simp only [Sc.sub, mapOpt_ok fun x hx => Sc0.sub_ok (maxL_le hv.1 x hx) (maxL_le he.1 x hx), mapOpt_ok fun x hx => Sc0.sub_ok (maxL_le hv.2 x hx) (maxL_le he.2 x hx)]
  | nilf => rfl
theorem V1.sub_ok {s : V1} (hv : s.vb ≤ N) (he : s.eb ≤ K) : s.sub (idR N K) = some s := by
  cases s with
  | sc s =>
    have hv : s.vb ≤ N := hv
    have he : s.eb ≤ K := he
    simp only [V1.sub, Sc.sub_ok hv he]
  | agg l =>
    have hv : maxL Sc.vb l ≤ N := hv
    have he : maxL Sc.eb l ≤ K := he
    simp only [V1.sub, mapOpt_ok fun x hx => Sc.sub_ok (maxL_le hv x hx) (maxL_le he x hx)]
theorem SV.sub_ok {s : SV} (hv : s.vb ≤ N) (he : s.eb ≤ K) : s.sub (idR N K) = some s := by
  cases s with
  | v s =>
    have hv : s.vb ≤ N := hv
    have he : s.eb ≤ K := he
    simp only [SV.sub, V1.sub_ok hv he]
  | tup l =>
    have hv : maxL V1.vb l ≤ N := hv
    have he : maxL V1.eb l ≤ K := he
    simp only [SV.sub, mapOpt_ok fun x hx => V1.sub_ok (maxL_le hv x hx) (maxL_le he x hx)]
  | undef => rfl
theorem Slot.sub_ok {s : Slot} (hv : s.vb ≤ N) (he : s.eb ≤ K) : s.sub (idR N K) = some s := by
  have hv : maxF s.g.ub s.v.vb ≤ N := hv
  have hv := maxF_le hv
  have he : s.v.eb ≤ K := he
  simp only [Slot.sub, show (idR N K).N = N from rfl, show (idR N K).σ = X.var from rfl, X.sub_ub hv.1, SV.sub_ok hv.2 he]
theorem HE.sub_same {e : HE} (hv : e.vb ≤ N) (he : e.eb ≤ K) : e.sub (idR N K) = some e := by
  obtain ⟨own, body, g⟩ := e
  have hv : maxF body.vb g.ub ≤ N := hv
  have hv := maxF_le hv
  have he : body.eb ≤ K := he
  have hb : body.sub (idR N K) = some body := by
    have hv := hv.1
    cases body with
    | cells l =>
      have hv : maxL Sc.vb l ≤ N := hv
      have he : maxL Sc.eb l ≤ K := he
      simp only [Body.sub, mapOpt_ok fun x hx => Sc.sub_ok (maxL_le hv x hx) (maxL_le he x hx)]
    | arr sh a n | mat sh a n | rw sh a n =>
      have hv : maxF a.ub n.ub ≤ N := hv
      have hv := maxF_le hv
      simp only [Body.sub, show (idR N K).N = N from rfl, show (idR N K).σ = X.var from rfl, X.sub_ub hv.1, X.sub_ub hv.2]
    | mo sh k n =>
      have hv : n.ub ≤ N := hv
      have he : k + 1 ≤ K := he
      simp only [Body.sub, show (idR N K).N = N from rfl, show (idR N K).σ = X.var from rfl, X.sub_ub hv]
      rw [if_pos (show k < (idR N K).K from he)]; rfl
    | rh sh a n i =>
      have hv : maxF a.ub (maxF n.ub i.ub) ≤ N := hv
      have h1 := maxF_le hv
      have h2 := maxF_le h1.2
      simp only [Body.sub, show (idR N K).N = N from rfl, show (idR N K).σ = X.var from rfl, X.sub_ub h1.1, X.sub_ub h2.1, X.sub_ub h2.2]
    | gone => rfl
  simp only [HE.sub, hb, show (idR N K).N = N from rfl, show (idR N K).σ = X.var from rfl, X.sub_ub hv.2]
theorem C8.vb_le {c : C8} {n : Nat} (h : c.vb ≤ n) : ∀ x ∈ c.toL, optVb x ≤ n := by
  have h0 := maxF_le h
  have h1 := maxF_le h0.2
  have h2 := maxF_le h1.2
  have h3 := maxF_le h2.2
  have h4 := maxF_le h3.2
  have h5 := maxF_le h4.2
  have h6 := maxF_le h5.2
  intro x hx
  simp only [C8.toL, List.mem_cons, List.not_mem_nil, or_false] at hx
  rcases hx with rfl | rfl | rfl | rfl | rfl | rfl | rfl | rfl
  · exact h0.1
  · exact h1.1
  · exact h2.1
  · exact h3.1
  · exact h4.1
  · exact h5.1
  · exact h6.1
  · exact h6.2
theorem C8.eb_le {c : C8} {n : Nat} (h : c.eb ≤ n) : ∀ x ∈ c.toL, optEb x ≤ n := by
  have h0 := maxF_le h
  have h1 := maxF_le h0.2
  have h2 := maxF_le h1.2
  have h3 := maxF_le h2.2
  have h4 := maxF_le h3.2
  have h5 := maxF_le h4.2
  have h6 := maxF_le h5.2
  intro x hx
  simp only [C8.toL, List.mem_cons, List.not_mem_nil, or_false] at hx
  rcases hx with rfl | rfl | rfl | rfl | rfl | rfl | rfl | rfl
  · exact h0.1
  · exact h1.1
  · exact h2.1
  · exact h3.1
  · exact h4.1
  · exact h5.1
  · exact h6.1
  · exact h6.2
theorem TM.mem_chunk {t : TM} {i : Nat} {x : Option Slot} (h : t[i]? = some x) : ∃ c ∈ t.cs, x ∈ c.toL := by
  rw [TM.getElem?_eq] at h
  have h1 := List.mem_of_getElem? h
  have h2 := List.mem_of_mem_take h1
  exact List.mem_flatMap.1 h2
theorem S.okN_scoped {s : S} (h : s.okN N K = true) : Scoped N K s := by
  have h1 := andF_true h
  have h2 := andF_true h1.2
  have h3 := andF_true h2.2
  have h4 := andF_true h3.2
  have e1 := Nat.le_of_ble_eq_true h1.1
  have e2 := Nat.le_of_ble_eq_true h2.1
  have e3 := Nat.le_of_ble_eq_true h3.1
  have e4 := Nat.le_of_ble_eq_true h4.1
  have e5 := Nat.le_of_ble_eq_true h4.2
  refine ⟨fun t sl ht => ?_, fun k e hk => ?_, fun x hx => X.sub_ub (maxL_le e5 x hx)⟩
  · obtain ⟨c, hc, hx⟩ := TM.mem_chunk ht
    exact Slot.sub_ok (C8.vb_le (maxL_le e1 c hc) _ hx) (C8.eb_le (maxL_le e2 c hc) _ hx)
  · have hm := List.mem_of_getElem? hk
    exact HE.sub_same (maxL_le e3 e hm) (maxL_le e4 e hm)
theorem S.more_eq {s s' : S} {ks : List VK} (h : s.more ks = some s') : s' = { s with ks := s.ks ++ ks } ∧ Scoped s.ks.length s.heap.length s := by
  unfold S.more at h
  split at h
  · rename_i hok
    exact ⟨(Option.some.inj h).symm, S.okN_scoped hok⟩
  · cases h
theorem idR_ok {δ : List AV} (hN : N ≤ ρ.length) (hb : ∀ k, k < K → (β k).map (·.v) = (β' k).map (·.v)) : (idR N K).Ok ρ β (ρ ++ δ) β' :=
  ⟨fun n hn => by
    have : n < ρ.length := Nat.lt_of_lt_of_le hn hN
    simp [idR, X.den, List.getD_eq_getElem?_getD, List.getElem?_append_left this], hb⟩
end
end Go.Proofs.Ytpbpmabnmakdoaa.Vc
/- The symbolic executor: states; one step in the order of the text. -/
namespace Go.Proofs.Ytpbpmabnmakdoaa.Vc
noncomputable section
open Go Go.RowKit
variable {ρ ρ' : List AV} {β β' : Mp} {W W' : Nat → Prop} {w w' : World} {P : Program} {C : Cfg}

def KT (ks : List VK) (ρ : List AV) : Prop := ρ.length = ks.length ∧ ∀ (i : Nat) k, ks[i]? = some k → k.fix (ρ.getD i (.i 0)) = ρ.getD i (.i 0)
theorem VK.fix_fix (k : VK) (v : AV) : k.fix (k.fix v) = k.fix v := by cases k <;> rfl
theorem fixL_len : ∀ (ks : List VK) (vs : List AV), (fixL ks vs).length = ks.length
  | [], _ => rfl
  | k :: ks, [] => by simp [fixL, fixL_len ks []]
  | k :: ks, v :: vs => by simp [fixL, fixL_len ks vs]
theorem fixL_KT : ∀ (ks : List VK) (vs : List AV), KT ks (fixL ks vs)
  | [], vs => ⟨by cases vs <;> rfl, fun i k h => by simp at h⟩
  | k :: ks, vs => by
    refine ⟨fixL_len _ _, fun i k' h => ?_⟩
    cases vs with
    | nil =>
      cases i with
      | zero => simp at h; subst h; simp [fixL, VK.fix_fix]
      | succ i => simp at h; have := (fixL_KT ks []).2 i k' h; simpa [fixL] using this
    | cons v vs =>
      cases i with
      | zero => simp at h; subst h; simp [fixL, VK.fix_fix]
      | succ i => simp at h; have := (fixL_KT ks vs).2 i k' h; simpa [fixL] using this
theorem KT.append {a b : List VK} {ρ δ : List AV} (h : KT a ρ) (h' : KT b δ) : KT (a ++ b) (ρ ++ δ) := by
  refine ⟨by simp [h.1, h'.1], fun i k hk => ?_⟩
  rw [List.getElem?_append] at hk
  split at hk
  · rename_i hlt
    have := h.2 i k hk
    rw [← h.1] at hlt
    simp only [List.getD_eq_getElem?_getD, List.getElem?_append_left hlt] at this ⊢
    exact this
  · rename_i hge
    have := h'.2 _ k hk
    have hge' : ρ.length ≤ i := by rw [h.1]; omega
    simp only [List.getD_eq_getElem?_getD, List.getElem?_append_right hge', h.1] at this ⊢
    exact this
/-- the memory, with the entries that β knows -/
structure PMem (C : Cfg) (B : Nat) (w0 : World) (ρ : List AV) (β : Mp) (W : Nat → Prop) (H : Nat → Option HE) (w : World) : Prop where
  below : Below B w0 w
  size : B ≤ w.heap.size
  wlo : ∀ r, W r → B ≤ r ∧ r < w.heap.size
  heap : ∀ k e b, H k = some e → β k = some b → EOk ρ β W w b e
  dist : ∀ k k' b b' r, β k = some b → β k' = some b' → b.own r → b'.own r → k = k'
  own : ∀ k b r, β k = some b → b.own r → W r
  glob : GlobOk C β
def S.H (s : S) : Nat → Option HE := fun k => s.heap[k]?
structure Mem (C : Cfg) (B : Nat) (w0 : World) (ρ : List AV) (β : Mp) (W : Nat → Prop) (s : S) (w : World) : Prop extends PMem C B w0 ρ β W s.H w where
  all : ∀ k, k < s.heap.length → ∃ b, β k = some b
  top : ∀ k, s.heap.length ≤ k → β k = none
  facts : s.factsOk ρ
  kt : KT s.ks ρ
def Fr (ρ : List AV) (β : Mp) (s : S) (a : Act) : Prop := a.tmps.size = s.tmps.length ∧ ∀ (t : Nat) sl, s.tmps[t]? = some (some sl) → sl.rel ρ β (a.tmps.getD t Go.undef)
/-- a later state: names stand for what they stood for -/
structure Later (ρ : List AV) (β : Mp) (s : S) (ρ' : List AV) (β' : Mp) (s' : S) : Prop where
  env : ∃ δ, ρ' = ρ ++ δ
  ks : ∃ d, s'.ks = s.ks ++ d
  len : s.heap.length ≤ s'.heap.length
  map : ∀ k b, k < s.heap.length → β k = some b → ∃ b', β' k = some b' ∧ b'.v = b.v
theorem Later.refl (ρ : List AV) (β : Mp) (s : S) : Later ρ β s ρ β s := ⟨⟨[], by simp⟩, ⟨[], by simp⟩, Nat.le_refl _, fun k b _ h => ⟨b, h, rfl⟩⟩
theorem Later.trans {ρ1 ρ2 ρ3 : List AV} {β1 β2 β3 : Mp} {s1 s2 s3 : S} (h : Later ρ1 β1 s1 ρ2 β2 s2) (k : Later ρ2 β2 s2 ρ3 β3 s3) : Later ρ1 β1 s1 ρ3 β3 s3 := by
  obtain ⟨⟨d1, e1⟩, ⟨k1, f1⟩, l1, m1⟩ := h
  obtain ⟨⟨d2, e2⟩, ⟨k2, f2⟩, l2, m2⟩ := k
  refine ⟨⟨d1 ++ d2, by rw [e2, e1, List.append_assoc]⟩, ⟨k1 ++ k2, by rw [f2, f1, List.append_assoc]⟩, Nat.le_trans l1 l2, fun i b hi hb => ?_⟩
  obtain ⟨b', hb', e⟩ := m1 i b hi hb
  obtain ⟨b'', hb'', e'⟩ := m2 i b' (by omega) hb'
  exact ⟨b'', hb'', e'.trans e⟩

/-- guards: what the symbolic state says is what the frame says -/
theorem guard_sound {s : S} {ops : Array Oper} {o : Oper} {g : X} {a : Act} (h : guardOf s ops o = some g)
    (hx : ∀ j b t, o.guard = some (j, b) → (ops[j]?).bind (·.dst) = some t → ∀ sl, s.tmps[t]? = some (some sl) → sl.rel ρ β (a.tmps.getD t Go.undef) ∧ t < a.tmps.size) :
    Region.wanted o (yielded ops a.tmps) = g.B ρ := by
  unfold guardOf at h
  unfold Region.wanted
  split at h
  · rename_i hg
    obtain rfl := Option.some.inj h
    rw [hg]; rfl
  · rename_i j b hg
    rw [hg]
    split at h
    · rename_i t ht
      have hx' := hx j b t hg ht
      have hyB : ∀ p, a.tmps[t]? = some (.bool p) → yielded ops a.tmps j = some p := fun p h => by simp [yielded, ht, h]
      have hyU : a.tmps[t]? = some Go.undef → yielded ops a.tmps j = none := fun h => by simp [yielded, ht, h, Go.undef]
      split at h
      · rename_i g0 e hsl
        obtain rfl := Option.some.inj h
        have h2 : s.tmps[t]? = some (some ⟨g0, .v (.sc (.c (.bool e)))⟩) := by
          cases h3 : s.tmps[t]? with
          | none => simp [h3] at hsl
          | some o => simp [h3] at hsl; rw [hsl]
        obtain ⟨hr, hlt⟩ := hx' _ h2
        have hgd : a.tmps.getD t Go.undef = a.tmps[t] := by simp [hlt]
        simp only
        rw [xand]
        rw [hgd] at hr
        cases hg0 : g0.B ρ
        · have := hr.2 hg0
          rw [hyU (by rw [Array.getElem?_eq_getElem hlt, this])]
          rfl
        · have h5 : a.tmps[t] = .bool (e.B ρ) := hr.1 hg0
          rw [hyB (e.B ρ) (by rw [Array.getElem?_eq_getElem hlt, h5])]
          cases b
          · simp only [Bool.false_eq_true, if_false, Bool.true_and]
            rw [xnot]
            cases e.B ρ <;> rfl
          · simp only [if_true, Bool.true_and]
            cases e.B ρ <;> rfl
      · rename_i g0 hsl
        obtain rfl := Option.some.inj h
        have h2 : s.tmps[t]? = some (some ⟨g0, .undef⟩) := by
          cases h3 : s.tmps[t]? with
          | none => simp [h3] at hsl
          | some o => simp [h3] at hsl; rw [hsl]
        obtain ⟨hr, hlt⟩ := hx' _ h2
        have hgd : a.tmps.getD t Go.undef = a.tmps[t] := by simp [hlt]
        rw [hgd] at hr
        have h5 : a.tmps[t] = Go.undef := by
          cases hg0 : g0.B ρ
          · exact hr.2 hg0
          · exact hr.1 hg0
        simp only
        rw [hyU (by rw [Array.getElem?_eq_getElem hlt, h5])]
        rfl
      · cases h
    · cases h
theorem getD_put {a : Act} {d : Option Nat} {v : Value} {t : Nat} : (a.put d v).tmps.getD t Go.undef = if d = some t ∧ t < a.tmps.size then v else a.tmps.getD t Go.undef := by
  cases d with
  | none => simp [Act.put]
  | some d =>
    simp only [Act.put, Array.getD_eq_getD_getElem?, Array.getElem?_setIfInBounds]
    by_cases h : d = t
    · subst h
      by_cases h2 : d < a.tmps.size
      · simp [h2]
      · simp [h2]
    · simp [h]
theorem size_put {a : Act} {d : Option Nat} {v : Value} : (a.put d v).tmps.size = a.tmps.size := by cases d <;> simp [Act.put]
theorem put_tmps (s : S) (d : Option Nat) (sl : Slot) (t : Nat) : (s.put d sl).tmps[t]? = if d = some t ∧ t < s.tmps.length then some (some sl) else s.tmps[t]? := by
  cases d with
  | none => simp [S.put]
  | some d =>
    show (s.tmps.set d (some sl))[t]? = _
    rw [TM.set_get]
    simp
theorem put_len (s : S) (d : Option Nat) (sl : Slot) : (s.put d sl).tmps.length = s.tmps.length := by
  cases d with
  | none => rfl
  | some d => exact TM.set_len _ _ _
theorem Fr.put {s : S} {a : Act} (h : Fr ρ β s a) {d : Option Nat} {sl : Slot} {v : Value} (hv : sl.rel ρ β v) : Fr ρ β (s.put d sl) (a.put d v) := by
  refine ⟨by rw [size_put, put_len]; exact h.1, fun t sl' ht => ?_⟩
  rw [put_tmps] at ht
  rw [getD_put]
  split at ht
  · rename_i hc
    rw [if_pos ⟨hc.1, by rw [h.1]; exact hc.2⟩]
    obtain rfl := Option.some.inj (Option.some.inj ht)
    exact hv
  · rename_i hc
    rw [if_neg (fun hh => hc ⟨hh.1, by rw [← h.1]; exact hh.2⟩)]
    exact h.2 t sl' ht
theorem Fr.ext {s s' : S} {a : Act} (hx : Ext β β') (h : Fr ρ β s a) (ht : s'.tmps = s.tmps) : Fr ρ β' s' a := ⟨by rw [ht]; exact h.1, fun t sl hs => Slot.rel_ext hx (h.2 t sl (by rw [← ht]; exact hs))⟩
theorem needAll_den {Γ : FuncId → Con} {Q : List AV → Prop} {ctx : List (List AV → Prop)} {t : Tree} : ∀ {l : List X}, (needAll l t).den Γ Q ρ ctx → (∀ x ∈ l, x.B ρ = true) ∧ t.den Γ Q ρ ctx
  | [], h => ⟨fun _ hx => (by cases hx), h⟩
  | x :: l, h => by
    obtain ⟨h1, h2⟩ := h
    obtain ⟨h3, h4⟩ := needAll_den (l := l) h2
    exact ⟨fun y hy => by rcases List.mem_cons.1 hy with rfl | hy; exact h1; exact h3 y hy, h4⟩
theorem assumeAll_den {Γ : FuncId → Con} {Q : List AV → Prop} {ctx : List (List AV → Prop)} {t : Tree} : ∀ {l : List X}, (assumeAll l t).den Γ Q ρ ctx → (∀ x ∈ l, x.B ρ = true) → t.den Γ Q ρ ctx
  | [], h, _ => h
  | x :: l, h, hl => assumeAll_den (l := l) (h (hl x (by simp))) fun y hy => hl y (by simp [hy])
theorem with_ok {s : S} {l : List X} (hf : s.factsOk ρ) (hl : ∀ x ∈ l, x.B ρ = true) : (s.with l).factsOk ρ := by
  intro x hx
  simp only [S.with, appQ_eq, forceL_eq, List.mem_append] at hx
  rcases hx with hx | hx
  · exact hl x hx
  · exact hf x hx
/-- needs under a guard -/
theorem needs_guard {s : S} {g : X} {l : List X} (hf : s.factsOk ρ) (hg : g.B ρ = true) (h : ∀ x ∈ (l.filter fun x => !s.holds g x).map (imp g), x.B ρ = true) : ∀ x ∈ l, x.B ρ = true := by
  intro x hx
  by_cases hh : s.holds g x = true
  · exact S.holds_B hf hg hh
  · have := h (imp g x) (List.mem_map.2 ⟨x, List.mem_filter.2 ⟨hx, by simpa using hh⟩, rfl⟩)
    rw [ximp, hg] at this
    simpa using this
/-- a new block beside what is there -/
theorem PMem.add {B : Nat} {w0 : World} {H : Nat → Option HE} (m : PMem C B w0 ρ β W H w) {n : Nat} {b : BI} (hn : β n = none) (hb : Below w.heap.size w w') (hsz : w'.heap.size = w.heap.size + 1)
    (ho : b.own = (· = w.heap.size)) (he : ∀ e, H n = some e → EOk ρ (upd β n b) (fun r => W r ∨ r = w.heap.size) w' b e) : PMem C B w0 ρ (upd β n b) (fun r => W r ∨ r = w.heap.size) H w' := by
  have hx := ext_upd b hn
  refine ⟨m.below.trans (hb.mono m.size), by have := m.size; omega, fun r hr => ?_, fun k e b' hk hb' => ?_, fun k k' b1 b2 r h1 h2 o1 o2 => ?_, fun k b1 r h1 o1 => ?_, fun g k hg => ?_⟩
  · rcases hr with hr | rfl
    · have := m.wlo r hr; omega
    · exact ⟨m.size, by omega⟩
  · by_cases hkn : k = n
    · subst hkn
      rw [upd_same] at hb'
      obtain rfl := Option.some.inj hb'
      exact he e hk
    · rw [upd_other _ _ hkn] at hb'
      exact (m.heap k e b' hk hb').below hb (fun r hr => by rcases hr with hr | rfl; exact .inl hr; exact .inr (Nat.le_refl _)) hx
  · by_cases e1 : k = n
    · by_cases e2 : k' = n
      · rw [e1, e2]
      · rw [e1, upd_same] at h1
        obtain rfl := Option.some.inj h1
        rw [upd_other _ _ e2] at h2
        rw [ho] at o1
        obtain rfl := o1
        have := m.wlo _ (m.own k' b2 _ h2 o2)
        omega
    · rw [upd_other _ _ e1] at h1
      by_cases e2 : k' = n
      · rw [e2, upd_same] at h2
        obtain rfl := Option.some.inj h2
        rw [ho] at o2
        obtain rfl := o2
        have := m.wlo _ (m.own k b1 _ h1 o1)
        omega
      · rw [upd_other _ _ e2] at h2
        exact m.dist k k' b1 b2 r h1 h2 o1 o2
  · by_cases e1 : k = n
    · rw [e1, upd_same] at h1
      obtain rfl := Option.some.inj h1
      rw [ho] at o1
      obtain rfl := o1
      exact .inr rfl
    · rw [upd_other _ _ e1] at h1
      exact .inl (m.own k b1 r h1 o1)
  · obtain ⟨b1, h1, h2⟩ := m.glob g k hg
    obtain ⟨b2, h3, h4⟩ := hx k b1 h1
    exact ⟨b2, h3, by rw [h4]; exact h2⟩
/-- old memory as it was -/
theorem PMem.later {B : Nat} {w0 : World} {H : Nat → Option HE} (m : PMem C B w0 ρ β W H w) (hb : Below w.heap.size w w') : PMem C B w0 ρ β W H w' :=
  ⟨m.below.trans (hb.mono m.size), Nat.le_trans m.size hb.size, fun r hr => ⟨(m.wlo r hr).1, Nat.lt_of_lt_of_le (m.wlo r hr).2 hb.size⟩, fun k e b hk hb' => (m.heap k e b hk hb').below hb (fun r hr => .inl hr) (Ext.refl _), m.dist, m.own, m.glob⟩
end
end Go.Proofs.Ytpbpmabnmakdoaa.Vc
/- The symbolic executor: one step in the order of the text, carried through. -/
namespace Go.Proofs.Ytpbpmabnmakdoaa.Vc
noncomputable section
open Go Go.RowKit
variable {ρ ρ' : List AV} {β β' : Mp} {W W' : Nat → Prop} {w w' : World} {P : Program} {C : Cfg} {B : Nat} {w0 : World}

theorem Mem.put {s : S} (m : Mem C B w0 ρ β W s w) (d : Option Nat) (sl : Slot) : Mem C B w0 ρ β W (s.put d sl) w := by
  cases d with
  | none => exact m
  | some d => exact { toPMem := m.toPMem, all := m.all, top := m.top, facts := m.facts, kt := m.kt }
theorem Mem.with {s : S} (m : Mem C B w0 ρ β W s w) {l : List X} (hl : ∀ x ∈ l, x.B ρ = true) : Mem C B w0 ρ β W (s.with l) w :=
  { toPMem := m.toPMem, all := m.all, top := m.top, facts := with_ok m.facts hl, kt := m.kt }
theorem Later.put {s : S} {ρ' : List AV} {β' : Mp} {s' : S} (h : Later ρ β s ρ' β' s') (d : Option Nat) (sl : Slot) : Later ρ β s ρ' β' (s'.put d sl) := by
  cases d with
  | none => exact h
  | some d => exact ⟨h.env, h.ks, h.len, h.map⟩
theorem Later.with {s : S} {ρ' : List AV} {β' : Mp} {s' : S} (h : Later ρ β s ρ' β' s') (l : List X) : Later ρ β s ρ' β' (s'.with l) := ⟨h.env, h.ks, h.len, h.map⟩
theorem Later.of_ext {s s' : S} (h : Ext β β') (hk : s'.ks = s.ks) (hl : s.heap.length ≤ s'.heap.length) : Later ρ β s ρ β' s' := ⟨⟨[], by simp⟩, ⟨[], by simp [hk]⟩, hl, fun k b _ hb => h k b hb⟩
/-- an entry that is not there -/
theorem PMem.addNone {H : Nat → Option HE} (m : PMem C B w0 ρ β W H w) {n : Nat} {b : BI} (hn : β n = none) (ho : b.own = noOwn) (he : ∀ e, H n = some e → EOk ρ (upd β n b) W w b e) : PMem C B w0 ρ (upd β n b) W H w := by
  have hx := ext_upd b hn
  refine ⟨m.below, m.size, m.wlo, fun k e b' hk hb' => ?_, fun k k' b1 b2 r h1 h2 o1 o2 => ?_, fun k b1 r h1 o1 => ?_, fun g k hg => ?_⟩
  · by_cases hkn : k = n
    · subst hkn
      rw [upd_same] at hb'
      obtain rfl := Option.some.inj hb'
      exact he e hk
    · rw [upd_other _ _ hkn] at hb'
      exact (m.heap k e b' hk hb').below (Below.refl _ _) (fun r hr => .inl hr) hx
  · by_cases e1 : k = n
    · rw [e1, upd_same] at h1
      obtain rfl := Option.some.inj h1
      rw [ho] at o1; cases o1
    · by_cases e2 : k' = n
      · rw [e2, upd_same] at h2
        obtain rfl := Option.some.inj h2
        rw [ho] at o2; cases o2
      · rw [upd_other _ _ e1] at h1
        rw [upd_other _ _ e2] at h2
        exact m.dist k k' b1 b2 r h1 h2 o1 o2
  · by_cases e1 : k = n
    · rw [e1, upd_same] at h1
      obtain rfl := Option.some.inj h1
      rw [ho] at o1; cases o1
    · rw [upd_other _ _ e1] at h1
      exact m.own k b1 r h1 o1
  · obtain ⟨b1, h1, h2⟩ := m.glob g k hg
    obtain ⟨b2, h3, h4⟩ := hx k b1 h1
    exact ⟨b2, h3, by rw [h4]; exact h2⟩
/-- one entry more -/
theorem Mem.add {s : S} (m : Mem C B w0 ρ β W s w) {e : HE} {b : BI} {W' : Nat → Prop} {w' : World} (hp : PMem C B w0 ρ (upd β s.heap.length b) W' (s.add e).H w') : Mem C B w0 ρ (upd β s.heap.length b) W' (s.add e) w' where
  toPMem := hp
  all := fun k hk => by
    by_cases h : k = s.heap.length
    · exact ⟨b, by rw [h, upd_same]⟩
    · rw [upd_other _ _ h]; exact m.all k (by simp [S.add_eq] at hk; omega)
  top := fun k hk => by
    simp [S.add_eq] at hk
    rw [upd_other _ _ (by omega)]
    exact m.top k (by omega)
  facts := m.facts
  kt := m.kt
/-- the memory's entries under a heap that has one more -/
theorem PMem.grow {s : S} (m : PMem C B w0 ρ β W s.H w) {e : HE} (hn : β s.heap.length = none) : PMem C B w0 ρ β W (s.add e).H w :=
  { m with
    heap := fun k e' b hk hb => by
      have hkl : k < s.heap.length := by
        rcases Nat.lt_or_ge k s.heap.length with h | h
        · exact h
        · simp only [S.H, S.add_eq] at hk
          by_cases h2 : k = s.heap.length
          · rw [h2, hn] at hb; cases hb
          · rw [List.getElem?_eq_none (by simp; omega)] at hk; cases hk
      exact m.heap k e' b (by simpa [S.H, S.add_eq, List.getElem?_append_left hkl] using hk) hb }
theorem opd_of_fr {s : S} {a : Act} (fr : Fr ρ β s a) (x : Operand) : OpdOk ρ β s a x := fun t ht sl hs => by subst ht; exact fr.2 t sl hs
theorem H_new (s : S) (e : HE) : (s.add e).H s.heap.length = some e := by simp [S.H, S.add_eq]

section
variable {Γ : FuncId → Con} {Qd : List AV → Prop} {ctx : List (List AV → Prop)} {s : S} {a : Act} {ops : Array Oper} {o : Oper} {K : S → Tree} {K' : Act → World → Prop} {Q : Exit → Act → World → Prop}
/-- what is asked of whatever comes behind -/
def Onw (C : Cfg) (B : Nat) (w0 : World) (Γ : FuncId → Con) (Qd : List AV → Prop) (ctx : List (List AV → Prop)) (ρ : List AV) (β : Mp) (s : S) (ds : List Deferred) (K : S → Tree) (K' : Act → World → Prop) : Prop :=
  ∀ ρ' β' W' s' a' w' ctx', (∃ d, ctx' = ctx ++ d) → ctx'.length = s'.lvl → Mem C B w0 ρ' β' W' s' w' → Fr ρ' β' s' a' → Later ρ β s ρ' β' s' → a'.defers = ds → (K s').den Γ Qd ρ' ctx' → K' a' w'
theorem put_defers (a : Act) (d : Option Nat) (v : Value) : (a.put d v).defers = a.defers := by cases d <;> rfl
theorem put_lvl (s : S) (d : Option Nat) (sl : Slot) : (s.put d sl).lvl = s.lvl := by cases d <;> rfl
theorem put_heap (s : S) (d : Option Nat) (sl : Slot) : (s.put d sl).heap = s.heap := by cases d <;> rfl
theorem put_ks (s : S) (d : Option Nat) (sl : Slot) : (s.put d sl).ks = s.ks := by cases d <;> rfl
/-- the frame's part of an operation that leaves old memory as it is -/
theorem qop_seq (hC : C.Ok P) (hlv : ctx.length = s.lvl) {g : X} {r : R} (hq : qop C s g o = some r) (m : Mem C B w0 ρ β W s w) (fr : Fr ρ β s a) (hgs : guardOf s ops o = some g ∨ (guardOf s ops o).map (fun g => g.B ρ) = some true ∧ g = .bl true)
    (hden : (needAll ((r.needs.filter fun x => !s.holds g x).map (imp g)) (K (((addE s g r.add).with ((r.needs.filter fun x => !s.holds g x).map (imp g))).put o.dst { g := g, v := r.v }))).den Γ Qd ρ ctx)
    (hK : Onw C B w0 Γ Qd ctx ρ β s a.defers K K') :
    if Region.wanted o (yielded ops a.tmps) then o.wp P a w K' Q else K' (a.put o.dst Go.undef) w := by
  have hw : Region.wanted o (yielded ops a.tmps) = g.B ρ := by
    have hx : ∀ j b t, o.guard = some (j, b) → (ops[j]?).bind (·.dst) = some t → ∀ sl, s.tmps[t]? = some (some sl) → sl.rel ρ β (a.tmps.getD t Go.undef) ∧ t < a.tmps.size :=
      fun j b t _ _ sl hs => ⟨fr.2 t sl hs, by rw [fr.1]; exact TM.lt_of_get hs⟩
    rcases hgs with h | ⟨h, rfl⟩
    · exact guard_sound h hx
    · cases hgo : guardOf s ops o with
      | none => rw [hgo] at h; cases h
      | some g' => rw [hgo] at h; rw [guard_sound hgo hx]; exact Option.some.inj h
  obtain ⟨hnd, hd⟩ := needAll_den hden
  rw [hw]
  cases hg : g.B ρ
  · -- passed over
    simp only [Bool.false_eq_true, if_false]
    cases hadd : r.add with
    | none =>
      rw [hadd] at hd
      exact hK ρ β W _ _ w ctx ⟨[], by simp⟩ (by rw [put_lvl]; exact hlv) ((m.with hnd).put _ _) (Fr.put (s := s.with _) ⟨fr.1, fr.2⟩ ⟨fun h => (by rw [hg] at h; cases h), fun _ => rfl⟩) (((Later.refl ρ β s).with _).put _ _) (put_defers _ _ _) hd
    | some e =>
      rw [hadd] at hd
      have hn := m.top s.heap.length (Nat.le_refl _)
      let b : BI := ⟨⟨none, 0, 0, fun _ => none, fun _ => 0, fun _ => 0⟩, noOwn⟩
      have hp : PMem C B w0 ρ (upd β s.heap.length b) W (s.add (guarded g e)).H w := (m.toPMem.grow hn).addNone hn rfl (fun e' he' => by
        rw [H_new] at he'
        obtain rfl := Option.some.inj he'
        intro hgt
        simp only [guarded] at hgt
        rw [hg] at hgt; cases hgt)
      have hm := m.add hp
      refine hK ρ _ W _ _ w ctx ⟨[], by simp⟩ (by rw [put_lvl]; exact hlv) ((hm.with (l := (r.needs.filter fun x => !s.holds g x).map (imp g)) hnd).put o.dst ⟨g, r.v⟩) (Fr.put (s := (s.add (guarded g e)).with _) (Fr.ext (ext_upd b hn) fr rfl) ⟨fun h => (by rw [hg] at h; cases h), fun _ => rfl⟩) (((Later.of_ext (s := s) (s' := s.add (guarded g e)) (ext_upd b hn) rfl (by simp [S.add_eq])).with _).put _ _) (put_defers _ _ _) hd
  · -- carried out
    simp only [if_true]
    have hf := m.facts
    obtain ⟨u, w', β', W', hrun, hrel, hpost⟩ := qop_sound (W := W) (w := w) (a := a) hC hf hg m.glob (fun x _ => opd_of_fr fr x) (fun _ => m.top _ (Nat.le_refl _)) hq (needs_guard hf hg hnd) (fun k e bi hk hb => m.heap k e bi hk hb)
    unfold Oper.wp
    rw [hrun, Oper.upon_value]
    cases hadd : r.add with
    | none =>
      rw [hadd] at hd hpost
      obtain ⟨rfl, rfl, rfl⟩ := hpost
      exact hK ρ β' W' _ _ w' ctx ⟨[], by simp⟩ (by rw [put_lvl]; exact hlv) ((m.with hnd).put _ _) (Fr.put (s := s.with _) ⟨fr.1, fr.2⟩ ⟨fun _ => hrel, fun h => (by rw [hg] at h; cases h)⟩) (((Later.refl ρ β' s).with _).put _ _) (put_defers _ _ _) hd
    | some e =>
      rw [hadd] at hd hpost
      obtain ⟨b, hb, hsz, ho, rfl, rfl, he⟩ := hpost
      have hn := m.top s.heap.length (Nat.le_refl _)
      have hp : PMem C B w0 ρ (upd β s.heap.length b) (fun r => W r ∨ r = w.heap.size) (s.add (guarded g e)).H w' := (m.toPMem.grow hn).add hn hb hsz ho (fun e' he' => by
        rw [H_new] at he'
        obtain rfl := Option.some.inj he'
        exact he g)
      have hm := m.add hp
      exact hK ρ _ _ _ _ w' ctx ⟨[], by simp⟩ (by rw [put_lvl]; exact hlv) ((hm.with (l := (r.needs.filter fun x => !s.holds g x).map (imp g)) hnd).put o.dst ⟨g, r.v⟩) (Fr.put (s := (s.add (guarded g e)).with _) (Fr.ext (ext_upd b hn) fr rfl) ⟨fun _ => hrel, fun h => (by rw [hg] at h; cases h)⟩) (((Later.of_ext (s := s) (s' := s.add (guarded g e)) (ext_upd b hn) rfl (by simp [S.add_eq])).with _).put _ _) (put_defers _ _ _) hd
end
end
end Go.Proofs.Ytpbpmabnmakdoaa.Vc
/- The symbolic executor: contracts: what is read, what is given. -/
namespace Go.Proofs.Ytpbpmabnmakdoaa.Vc
noncomputable section
open Go Go.RowKit
variable {ρ ρ' : List AV} {β β' : Mp} {W W' : Nat → Prop} {w w' : World} {P : Program} {C : Cfg} {B : Nat} {w0 : World}

theorem setAll_sound {sh : List FK} {i : X} : ∀ {l : List Sc} {f : Nat} {a a' : X}, setAll sh a i f l = some a' →
    (∀ j g, ¬ (j = i.I ρ ∧ f ≤ g ∧ g < f + l.length) → (a'.den ρ).fn j g = (a.den ρ).fn j g) ∧
    ∀ (q : Nat) c, l[q]? = some c → ∃ k, sh[f + q]? = some k ∧ ∀ v, c.rel ρ β v → v = k.val ((a'.den ρ).fn (i.I ρ) (f + q))
  | [], f, a, a', h => by simp only [setAll] at h; obtain rfl := Option.some.inj h; exact ⟨fun _ _ _ => rfl, fun q c hq => by simp at hq⟩
  | c0 :: l, f, a, a', h => by
    -- one cell set, then the others
    have key : ∀ (e : X) (k : FK), sh[f]? = some k → setAll sh (.set a i f e) i (f + 1) l = some a' → (∀ v, c0.rel ρ β v → v = k.val (e.I ρ)) →
        (∀ j g, ¬ (j = i.I ρ ∧ f ≤ g ∧ g < f + (c0 :: l).length) → (a'.den ρ).fn j g = (a.den ρ).fn j g) ∧
        ∀ (q : Nat) c, (c0 :: l)[q]? = some c → ∃ k, sh[f + q]? = some k ∧ ∀ v, c.rel ρ β v → v = k.val ((a'.den ρ).fn (i.I ρ) (f + q)) := by
      intro e k hk hs hv
      obtain ⟨h1, h2⟩ := setAll_sound hs
      refine ⟨fun j g hn => ?_, fun q c hq => ?_⟩
      · rw [h1 j g (fun hh => hn ⟨hh.1, by omega, by simp; omega⟩)]
        show (if _ then _ else _) = _
        rw [if_neg]
        exact fun hh => hn ⟨hh.1, by omega, by simp; omega⟩
      · cases q with
        | zero =>
          simp at hq
          subst hq
          refine ⟨k, hk, fun v hr => ?_⟩
          rw [hv v hr, Nat.add_zero, h1 _ _ (by omega)]
          show _ = FK.val k (if _ then _ else _)
          rw [if_pos ⟨rfl, rfl⟩]
        | succ q =>
          obtain ⟨k', hk', hv'⟩ := h2 q c (by simpa using hq)
          exact ⟨k', by rw [← hk']; congr 1; omega, fun v hr => by rw [hv' v hr]; congr 2; omega⟩
    unfold setAll at h
    split at h
    · rename_i heq; cases heq
    · rename_i k e l' heq
      obtain ⟨rfl, rfl⟩ := List.cons.inj heq
      split at h
      · rename_i k' hk'
        split at h
        · rename_i hkk
          subst hkk
          exact key e _ hk' h (fun v hr => hr)
        · cases h
      · cases h
    · rename_i e l' heq
      obtain ⟨rfl, rfl⟩ := List.cons.inj heq
      split at h
      · rename_i hk'
        refine key _ _ hk' h (fun v hr => ?_)
        have hr' : v = .bool (e.B ρ) := hr
        rw [hr', xite, lit_I, lit_I]
        cases e.B ρ <;> rfl
      · cases h
    · cases h
theorem rowsOf_sound {sh : List FK} (hsh : 0 < sh.length) : ∀ (n : Nat) {l : List Sc} {j : Nat} {a a' : X}, rowsOf sh a l j n = some a' → n * sh.length ≤ l.length →
    (∀ (r : Int) g, ¬ ((j : Int) ≤ r ∧ r < j + n) → (a'.den ρ).fn r g = (a.den ρ).fn r g) ∧
    ∀ (r f : Nat) c k, r < n → f < sh.length → l[r * sh.length + f]? = some c → sh[f]? = some k → ∀ v, c.rel ρ β v → v = k.val ((a'.den ρ).fn ((j + r : Nat) : Int) f)
  | 0, l, j, a, a', h, _ => by simp only [rowsOf] at h; obtain rfl := Option.some.inj h; exact ⟨fun _ _ _ => rfl, fun r f c k hr => by omega⟩
  | n + 1, l, j, a, a', h, hl => by
    simp only [rowsOf] at h
    split at h
    · rename_i a1 h1
      obtain ⟨s1, s2⟩ := setAll_sound (ρ := ρ) (β := β) h1
      obtain ⟨r1, r2⟩ := rowsOf_sound hsh n h (by rw [List.length_drop]; rw [Nat.add_mul] at hl; omega)
      rw [lit_I] at s1 s2
      refine ⟨fun r g hn => ?_, fun r f c k hr hf hc hk v hv => ?_⟩
      · rw [r1 r g (by omega), s1 r g (by rintro ⟨h2, _⟩; omega)]
      · cases r with
        | zero =>
          obtain ⟨k', hk', hv'⟩ := s2 f c (by rw [List.getElem?_take, if_pos hf]; simpa using hc)
          simp only [Nat.zero_add] at hk'
          obtain rfl := Option.some.inj (hk'.symm.trans hk)
          rw [hv' v hv, r1 _ _ (by omega)]
          simp
        | succ r =>
          have := r2 r f c k (by omega) hf (by rw [List.getElem?_drop]; rw [← hc]; congr 1; rw [Nat.add_mul]; omega) hk v hv
          rw [this]; congr 2; omega
    · cases h
theorem arrOf_sound {s : S} {g : X} {sh : List FK} {b : SB} {a n : X} {nd : List X} (hf : s.factsOk ρ) (hg : g.B ρ = true) (h : s.arrOf g sh b = some (a, n, nd)) (hnd : ∀ x ∈ nd, x.B ρ = true)
    (hh : ∀ k e bi, s.heap[k]? = some e → β k = some bi → EOk ρ β W w bi e) {p : Option Addr} {c : Nat} (hat : b.at ρ β = some (p, c)) :
    0 ≤ n.I ρ ∧ ∀ (i : Int) f k, 0 ≤ i → i < n.I ρ → sh[f]? = some k → ∃ q, p = some q ∧ q.block < w.heap.size ∧ w.cell? (q.add (i.toNat * sh.length + f)) = some (k.val ((a.den ρ).fn i f)) := by
  cases b with
  | blk k =>
    simp only [S.arrOf] at h
    simp only [SB.at, Option.map_eq_some_iff] at hat
    obtain ⟨bi, hb, he⟩ := hat
    obtain ⟨hr, _⟩ := Prod.mk.inj he
    split at h
    · rename_i own sh' a' n' eg hk
      obtain ⟨hk, hgt⟩ := body_sound hf hg hk
      split at h
      · rename_i hsh
        subst hsh
        obtain ⟨rfl, h2⟩ := Prod.mk.inj (Option.some.inj h)
        obtain ⟨rfl, rfl⟩ := Prod.mk.inj h2
        obtain ⟨h0, _, _, h1⟩ := hh k _ bi hk hb hgt
        refine ⟨h0, fun i f kk i0 i1 hkk => ?_⟩
        rcases h1 with ⟨h1, _⟩ | ⟨h1, _⟩ | ⟨q, h1, h2, h3, h4⟩
        · omega
        · omega
        · exact ⟨q, by rw [← hr]; exact h1, h2.1, (h4 i f kk i0 i1 hkk).1⟩
      · cases h
    · rename_i own l eg hk
      obtain ⟨hk, hgt⟩ := body_sound hf hg hk
      split at h
      · rename_i hpos
        simp only [Option.map_eq_some_iff] at h
        obtain ⟨a', ha, h2⟩ := h
        obtain ⟨rfl, h3⟩ := Prod.mk.inj h2
        obtain ⟨rfl, rfl⟩ := Prod.mk.inj h3
        obtain ⟨q, h1, h2, h3⟩ := hh k _ bi hk hb hgt
        have hle : l.length / sh.length * sh.length ≤ l.length := Nat.div_mul_le_self _ _
        obtain ⟨_, hget⟩ := rowsOf_sound (ρ := ρ) (β := β) hpos _ ha hle
        refine ⟨by rw [lit_I]; exact Int.natCast_nonneg _, fun i f kk i0 i1 hkk => ⟨q, by rw [← hr]; exact h1, h2.1, ?_⟩⟩
        rw [lit_I] at i1
        have hfl : f < sh.length := (List.getElem?_eq_some_iff.1 hkk).1
        have hidx : i.toNat * sh.length + f < l.length := by
          have : i.toNat + 1 ≤ l.length / sh.length := by omega
          have := Nat.mul_le_mul_right sh.length this
          rw [Nat.add_mul] at this
          omega
        obtain ⟨v, hv1, hv2⟩ := h3 _ _ (List.getElem?_eq_getElem hidx)
        have := hget i.toNat f _ kk (by omega) hfl (List.getElem?_eq_getElem hidx) hkk v hv2
        rw [hv1.1, this]
        congr 3
        omega
      · cases h
    · cases h
  | row k r =>
    simp only [S.arrOf] at h
    simp only [SB.at, Option.map_eq_some_iff] at hat
    obtain ⟨bi, hb, he⟩ := hat
    obtain ⟨hr, _⟩ := Prod.mk.inj he
    split at h
    · rename_i own sh' m n' eg hk
      obtain ⟨hk, hgt⟩ := body_sound hf hg hk
      split at h
      · rename_i hsh
        subst hsh
        obtain ⟨rfl, h2⟩ := Prod.mk.inj (Option.some.inj h)
        obtain ⟨rfl, rfl⟩ := Prod.mk.inj h2
        have n1 := le_of (hnd (xb .le (.lit 0) r) (by simp))
        have n2 := lt_of (hnd (xb .lt r n') (by simp))
        rw [lit_I] at n1
        obtain ⟨h0, _, h1⟩ := hh k _ bi hk hb hgt
        rcases h1 with h1 | ⟨q, _, _, h3⟩
        · omega
        · obtain ⟨a1, a2, a3, a4, a5, a6⟩ := h3 (r.I ρ) n1 n2
          refine ⟨a1, fun i f kk i0 i1 hkk => ?_⟩
          have i1' : i < (m.den ρ).mlen (r.I ρ) := i1
          rcases a6 with a6 | ⟨q', b1, b2, _, b4⟩
          · omega
          · exact ⟨q', by rw [← hr]; exact b1, b2, b4 i f kk i0 i1' hkk⟩
      · cases h
    · rename_i own sh' m n' eg hk
      obtain ⟨hk, hgt⟩ := body_sound hf hg hk
      split at h
      · rename_i hsh
        subst hsh
        obtain ⟨rfl, h2⟩ := Prod.mk.inj (Option.some.inj h)
        obtain ⟨rfl, rfl⟩ := Prod.mk.inj h2
        have n1 := le_of (hnd (xb .le (.lit 0) r) (by simp))
        have n2 := lt_of (hnd (xb .lt r n') (by simp))
        rw [lit_I] at n1
        have hrow := (hh k _ bi hk hb hgt).1 (r.I ρ) n1 n2 trivial
        rw [mkLen_I]
        refine ⟨hrow.1, fun i f kk i0 i1 hkk => ?_⟩
        cases hq : bi.v.rows (r.I ρ) with
        | none =>
          obtain ⟨_, _, c2, _, c4, _⟩ := hrow
          have := c4 hq
          omega
        | some q =>
          obtain ⟨b1, b2⟩ := hrow.read hq i0 i1 hkk
          exact ⟨q, by rw [← hr, hq], b1, by rw [mkRow_fn]; exact b2.1⟩
      · cases h
    · cases h

/-! what a contract's arguments read as -/
def RdSc (w : World) : Sh0 → Value → List AV → Prop
  | .int k, v, l => ∃ z, v = .int k z ∧ l = [.i z]
  | .bool, v, l => ∃ p, v = .bool p ∧ l = [.b p]
  | .slc sh, v, l => ∃ (q : Option Addr) (n c : Nat) (f : Int → Nat → Int), v = .slice q n c ∧ n ≤ c ∧ c ≤ maxLen ∧ (q = none → c = 0) ∧ l = [.a f, .i (n : Int)] ∧
      ∀ (i : Int) f' k, 0 ≤ i → i < n → sh[f']? = some k → ∃ p, q = some p ∧ p.block < w.heap.size ∧ w.cell? (p.add (i.toNat * sh.length + f')) = some (k.val (f i f'))
  | .mat sh, v, l => ∃ (q : Option Addr) (n c : Nat) (g : Int → Int) (f : Int → Int → Nat → Int) (rows : Int → Option Addr) (caps : Int → Nat), v = .slice q n c ∧ n ≤ c ∧ c ≤ maxLen ∧ (q = none → c = 0) ∧ l = [.m g f, .i (n : Int)] ∧
      ∀ (i : Int), 0 ≤ i → i < n → ∃ p, q = some p ∧ p.block < w.heap.size ∧ 0 ≤ g i ∧ (g i).toNat ≤ caps i ∧ caps i ≤ maxLen ∧ (rows i = none → caps i = 0) ∧
        w.cell? (p.add i.toNat) = some (.slice (rows i) (g i).toNat (caps i)) ∧
        (g i = 0 ∨ ∃ q, rows i = some q ∧ q.block < w.heap.size ∧ ∀ (j : Int) f' k, 0 ≤ j → j < g i → sh[f']? = some k → w.cell? (q.add (j.toNat * sh.length + f')) = some (k.val (f i j f')))
def RdL (w : World) : List Sh0 → List Value → List AV → Prop
  | [], [], l => l = []
  | h :: hs, v :: vs, l => ∃ a b, l = a ++ b ∧ RdSc w h v a ∧ RdL w hs vs b
  | _, _, _ => False
def RdV (w : World) (h : Sh) (v : Value) (l : List AV) : Prop :=
  if h.agg then ∃ vs : List Value, v = .agg vs.toArray ∧ RdL w h.l vs l else RdL w h.l [v] l
def RdA (w : World) : List Sh → List Value → List AV → Prop
  | [], [], l => l = []
  | h :: hs, v :: vs, l => ∃ a b, l = a ++ b ∧ RdV w h v a ∧ RdA w hs vs b
  | _, _, _ => False
theorem fixL_append : ∀ (a b : List VK) (x y : List AV), x.length = a.length → fixL (a ++ b) (x ++ y) = fixL a x ++ fixL b y
  | [], b, [], y, _ => rfl
  | k :: a, b, v :: x, y, h => by simp [fixL, fixL_append a b x y (by simpa using h)]
  | [], _, _ :: _, _, h => by simp at h
  | _ :: _, _, [], _, h => by simp at h
section
variable {s : S} {g : X}
theorem argS_sound (hf : s.factsOk ρ) (hg : g.B ρ = true) (hh : ∀ k e bi, s.heap[k]? = some e → β k = some bi → EOk ρ β W w bi e) {sh : List FK} {c : Sc} {nd : List X} {a n : X} (ha : argS s g sh c = some (nd, a, n)) (hnd : ∀ x ∈ nd, x.B ρ = true) {v : Value} (hv : c.rel ρ β v) : RdSc w (.slc sh) v [.a (a.den ρ).fn, .i (n.I ρ)] := by
  unfold argS at ha
  split at ha
  · rename_i b sz off len cp
    split at ha
    · rename_i hsz
      simp only [Option.map_eq_some_iff] at ha
      obtain ⟨⟨a, n, nd'⟩, h1, h2⟩ := ha
      simp only at h2
      obtain ⟨rfl, h3⟩ := Prod.mk.inj h2
      obtain ⟨rfl, rfl⟩ := Prod.mk.inj h3
      obtain ⟨p, c, q, r, hat, hve, h3, h4, h5, h6, h7, h8, h9, _⟩ := hv
      obtain ⟨n0, hget⟩ := arrOf_sound hf hg h1 (fun x hx => hnd x (by simp [hx])) hh hat
      have hle : off.I ρ + len.I ρ ≤ n.I ρ := by
        by_cases hc : off = .lit 0 ∧ len = n
        · obtain ⟨rfl, rfl⟩ := hc; rw [lit_I]; omega
        · have := le_of (hnd (xb .le (xb .add off len) n) (by simp [hc]))
          rw [xadd] at this; exact this
      refine ⟨q, (len.I ρ).toNat, r, ((mkShift a off).den ρ).fn, hve, h5, h6, ?_, ?_, ?_⟩
      · intro hq
        rcases h8 with h8 | h8
        · exact h8
        · subst hq
          cases p with
          | none => have := h7 rfl; omega
          | some p => cases h8
      · congr 3; omega
      · intro i f' k i0 i1 hk
        rcases h8 with h8 | h8
        · omega
        · obtain ⟨p', hp', hb, hc⟩ := hget (i + off.I ρ) f' k (by omega) (by omega) hk
          subst hp'
          refine ⟨_, h8, by rw [add_block]; exact hb, ?_⟩
          have hm : ((mkShift a off).den ρ).fn i f' = (a.den ρ).fn (i + off.I ρ) f' := by
            unfold mkShift
            split
            · rw [lit_I, Int.add_zero]
            · rfl
          rw [hm, ← hc, add_add]
          congr 2
          rw [hsz, Int.toNat_add i0 h3, Nat.add_mul]
          omega
    · cases ha
  · obtain ⟨rfl, h3⟩ := Prod.mk.inj (Option.some.inj ha)
    obtain ⟨rfl, rfl⟩ := Prod.mk.inj h3
    exact ⟨none, 0, 0, fun _ _ => 0, hv, Nat.le_refl _, by unfold maxLen; omega, fun _ => rfl, rfl, fun i f k i0 i1 => by omega⟩
  · cases ha
theorem matOf_sound (hf : s.factsOk ρ) (hg : g.B ρ = true) (hh : ∀ k e bi, s.heap[k]? = some e → β k = some bi → EOk ρ β W w bi e) {sh : List FK} : ∀ {l : List Sc} {j : Nat} {m m' : X} {nd : List X}, matOf s g sh j l m = some (nd, m') → (∀ x ∈ nd, x.B ρ = true) → ∀ {vs : Nat → Value}, (∀ (i : Nat) c, l[i]? = some c → c.rel ρ β (vs i)) →
    (∀ i : Int, i < j → (m'.den ρ).mlen i = (m.den ρ).mlen i ∧ (m'.den ρ).mfn i = (m.den ρ).mfn i) ∧
    ∀ i : Nat, i < l.length → RdSc w (.slc sh) (vs i) [.a ((m'.den ρ).mfn ((j + i : Nat) : Int)), .i ((m'.den ρ).mlen ((j + i : Nat) : Int))]
  | [], j, m, m', nd, h, _, vs, _ => by
    simp only [matOf] at h
    obtain ⟨_, rfl⟩ := Prod.mk.inj (Option.some.inj h)
    exact ⟨fun _ _ => ⟨rfl, rfl⟩, fun i hi => by simp at hi⟩
  | c :: l, j, m, m', nd, h, hnd, vs, hvs => by
    simp only [matOf] at h
    split at h
    · rename_i r hr
      split at h
      · rename_i q hq
        obtain ⟨rfl, rfl⟩ := Prod.mk.inj (Option.some.inj h)
        obtain ⟨ih1, ih2⟩ := matOf_sound hf hg hh (l := l) (m' := q.2) hq (fun x hx => hnd x (by simp [hx])) (vs := fun i => vs (i + 1)) fun i c hc => hvs (i + 1) c (by simpa using hc)
        have h0 := argS_sound hf hg hh (a := r.2.1) (n := r.2.2) hr (fun x hx => hnd x (by simp [hx])) (hvs 0 c rfl)
        have e1 : ∀ i : Int, ((X.setrow m (.lit (j : Int)) r.2.1 r.2.2).den ρ).mlen i = if i = j then r.2.2.I ρ else (m.den ρ).mlen i := fun i => rfl
        have e2 : ∀ i : Int, ((X.setrow m (.lit (j : Int)) r.2.1 r.2.2).den ρ).mfn i = if i = j then (r.2.1.den ρ).fn else (m.den ρ).mfn i := fun i => rfl
        refine ⟨fun i hi => ?_, fun i hi => ?_⟩
        · obtain ⟨a1, a2⟩ := ih1 i (by omega)
          rw [a1, a2, e1, e2, if_neg (by omega), if_neg (by omega)]
          exact ⟨rfl, rfl⟩
        · cases i with
          | zero =>
            obtain ⟨a1, a2⟩ := ih1 (j : Int) (by omega)
            rw [Nat.add_zero, a1, a2, e1, e2, if_pos rfl, if_pos rfl]
            exact h0
          | succ i =>
            have := ih2 i (by simpa using hi)
            rw [show j + (i + 1) = j + 1 + i by omega]
            exact this
      · cases h
    · cases h
theorem argOf_sound (hf : s.factsOk ρ) (hg : g.B ρ = true) (hh : ∀ k e bi, s.heap[k]? = some e → β k = some bi → EOk ρ β W w bi e) {h : Sh0} {c : Sc} {nd xs : List X} (ha : argOf s g h c = some (nd, xs)) (hnd : ∀ x ∈ nd, x.B ρ = true) {v : Value} (hv : c.rel ρ β v) : xs.length = h.ks.length ∧ RdSc w h v (fixL h.ks (xs.map (X.den ρ))) := by
  unfold argOf at ha
  split at ha
  · split at ha
    · rename_i hk; subst hk
      obtain ⟨rfl, rfl⟩ := Prod.mk.inj (Option.some.inj ha)
      exact ⟨rfl, _, hv, rfl⟩
    · cases ha
  · obtain ⟨rfl, rfl⟩ := Prod.mk.inj (Option.some.inj ha)
    exact ⟨rfl, _, hv, rfl⟩
  · rename_i sh b sz off len cp
    split at ha
    · rename_i hsz
      simp only [Option.map_eq_some_iff] at ha
      obtain ⟨⟨a, n, nd'⟩, h1, h2⟩ := ha
      simp only at h2
      obtain ⟨rfl, rfl⟩ := Prod.mk.inj h2
      obtain ⟨p, c, q, r, hat, hve, h3, h4, h5, h6, h7, h8, h9, _⟩ := hv
      obtain ⟨n0, hget⟩ := arrOf_sound hf hg h1 (fun x hx => hnd x (by simp [hx])) hh hat
      have hle : off.I ρ + len.I ρ ≤ n.I ρ := by
        by_cases hc : off = .lit 0 ∧ len = n
        · obtain ⟨rfl, rfl⟩ := hc; rw [lit_I]; omega
        · have := le_of (hnd (xb .le (xb .add off len) n) (by simp [hc]))
          rw [xadd] at this; exact this
      refine ⟨rfl, q, (len.I ρ).toNat, r, ((mkShift a off).den ρ).fn, hve, h5, h6, ?_, ?_, ?_⟩
      · intro hq
        rcases h8 with h8 | h8
        · exact h8
        · subst hq
          cases p with
          | none => have := h7 rfl; omega
          | some p => cases h8
      · show [AV.a _, AV.i (len.I ρ)] = _
        congr 3; omega
      · intro i f' k i0 i1 hk
        rcases h8 with h8 | h8
        · omega
        · obtain ⟨p', hp', hb, hc⟩ := hget (i + off.I ρ) f' k (by omega) (by omega) hk
          subst hp'
          refine ⟨_, h8, by rw [add_block]; exact hb, ?_⟩
          have hm : ((mkShift a off).den ρ).fn i f' = (a.den ρ).fn (i + off.I ρ) f' := by
            unfold mkShift
            split
            · rw [lit_I, Int.add_zero]
            · rfl
          rw [hm, ← hc, add_add]
          congr 2
          rw [hsz, Int.toNat_add i0 h3, Nat.add_mul]
          omega
    · cases ha
  · obtain ⟨rfl, rfl⟩ := Prod.mk.inj (Option.some.inj ha)
    exact ⟨rfl, none, 0, 0, fun _ _ => 0, hv, Nat.le_refl _, by unfold maxLen; omega, fun _ => rfl, rfl, fun i f k i0 i1 => by omega⟩
  · rename_i sh k sz len cp
    split at ha
    · rename_i own sh' m n eg hk
      obtain ⟨hk, hgt⟩ := body_sound hf hg hk
      split at ha
      · rename_i hc
        obtain ⟨rfl, rfl, rfl⟩ := hc
        obtain ⟨rfl, rfl⟩ := Prod.mk.inj (Option.some.inj ha)
        obtain ⟨p, c, q, r, hat, hve, h3, h4, h5, h6, h7, h8, h9, _⟩ := hv
        simp only [SB.at, Option.map_eq_some_iff] at hat
        obtain ⟨bi, hb, he⟩ := hat
        obtain ⟨hr, _⟩ := Prod.mk.inj he
        obtain ⟨n0, _, h1⟩ := hh k _ bi hk hb hgt
        refine ⟨rfl, q, (len.I ρ).toNat, r, (m.den ρ).mlen, (m.den ρ).mfn, bi.v.rows, bi.v.caps, hve, h5, h6, ?_, ?_, ?_⟩
        · intro hq
          rcases h8 with h8 | h8
          · exact h8
          · subst hq
            cases p with
            | none => have := h7 rfl; omega
            | some p => cases h8
        · show [AV.m _ _, AV.i (len.I ρ)] = _
          congr 3; omega
        · intro i i0 i1
          rcases h8 with h8 | h8
          · omega
          · rcases h1 with h1 | ⟨p', hp', hpl, hrow⟩
            · omega
            · obtain ⟨a1, a2, a3, a4, a5, a6⟩ := hrow i i0 (by omega)
              rw [hr] at hp'
              subst hp'
              refine ⟨p', by rw [h8, lit_I]; simp [Addr.add], hpl.1, a1, a2, a3, a4, a5, ?_⟩
              rcases a6 with a6 | ⟨q', b1, b2, _, b4⟩
              · exact .inl a6
              · exact .inr ⟨q', b1, b2, b4⟩
      · cases ha
    · rename_i own sh' kr n eg hk
      obtain ⟨hk, hgt⟩ := body_sound hf hg hk
      split at ha
      · rename_i own' sh2 m n' eg' hkr
        obtain ⟨hkr, hgr⟩ := body_sound hf hg hkr
        split at ha
        · rename_i hc
          obtain ⟨rfl, rfl, rfl, rfl, rfl⟩ := hc
          obtain ⟨rfl, rfl⟩ := Prod.mk.inj (Option.some.inj ha)
          obtain ⟨p, c, q, r, hat, hve, h3, h4, h5, h6, h7, h8, h9, _⟩ := hv
          simp only [SB.at, Option.map_eq_some_iff] at hat
          obtain ⟨bi, hb, he⟩ := hat
          obtain ⟨hr, hcap⟩ := Prod.mk.inj he
          obtain ⟨h0, h00, _, h1⟩ := hh k _ bi hk hb hgt
          obtain ⟨bR, hbR⟩ : ∃ br : BI, (∀ b', β kr = some b' → b' = br) := by
            cases h : β kr with
            | none => exact ⟨bi, fun b' h' => by cases h'⟩
            | some b' => exact ⟨b', fun b2 h' => (Option.some.inj h').symm⟩
          refine ⟨rfl, q, (len.I ρ).toNat, r, (m.den ρ).mlen, (m.den ρ).mfn, bR.v.rows, bR.v.caps, hve, h5, h6, ?_, ?_, ?_⟩
          · intro hq
            rcases h8 with h8 | h8
            · exact h8
            · subst hq
              cases p with
              | none => have := h7 rfl; omega
              | some p => cases h8
          · show [AV.m _ _, AV.i (len.I ρ)] = _
            congr 3; omega
          · intro i i0 i1
            rcases h8 with h8 | h8
            · omega
            · rcases h1 with ⟨h1, _⟩ | ⟨p', hp', hpl, _, hrow⟩
              · omega
              · obtain ⟨br, b1, b2⟩ := hrow i i0 (by omega)
                obtain rfl := hbR br b1
                have hrw := (hh kr _ br hkr b1 hgr).1 i i0 (by omega) trivial
                obtain ⟨c0, c1, c2, c3, c4, c5⟩ := hrw
                rw [hr] at hp'
                subst hp'
                refine ⟨p', by rw [h8, lit_I]; simp [Addr.add], hpl.1, c0, c2, c3, c4, by rw [c1]; exact b2.1, ?_⟩
                by_cases hz : (m.den ρ).mlen i = 0
                · exact .inl hz
                · rcases c5 with c5 | c5 | ⟨q', d1, d2, _, _, d5⟩
                  · omega
                  · omega
                  · exact .inr ⟨q', d1, d2, fun j f' k' j0 j1 hk' => (d5 j f' k' j0 j1 hk').1⟩
        · cases ha
      · cases ha
    · rename_i own' l eg hk
      obtain ⟨hk, hgt⟩ := body_sound hf hg hk
      split at ha
      · rename_i hc
        obtain ⟨rfl, rfl, hpos⟩ := hc
        simp only [Option.map_eq_some_iff] at ha
        obtain ⟨q0, hm, h2⟩ := ha
        obtain ⟨rfl, rfl⟩ := Prod.mk.inj h2
        obtain ⟨p, c, q, r, hat, hve, h3, h4, h5, h6, h7, h8, h9, _⟩ := hv
        simp only [SB.at, Option.map_eq_some_iff] at hat
        obtain ⟨bi, hb, he⟩ := hat
        obtain ⟨hr, hcap⟩ := Prod.mk.inj he
        obtain ⟨pp, e1, e2, e3⟩ := hh k _ bi hk hb hgt
        have hvs : ∀ i : Nat, ∃ v, ∀ c, l[i]? = some c → cellOk w own' (pp.add i) v ∧ c.rel ρ β v := fun i => by
          cases hli : l[i]? with
          | none => exact ⟨.nilFunc, fun c hc => by cases hc⟩
          | some c =>
            obtain ⟨v, hv⟩ := e3 i c hli
            exact ⟨v, fun c' hc' => by obtain rfl := Option.some.inj hc'; exact hv⟩
        obtain ⟨vs, hvs⟩ := Classical.axiomOfChoice hvs
        obtain ⟨_, hrow⟩ := matOf_sound hf hg hh (m' := q0.2) hm hnd (vs := vs) fun i c hc => (hvs i c hc).2
        have hex : ∀ i : Nat, ∃ x : Option Addr × Nat, i < l.length → vs i = .slice x.1 ((q0.2.den ρ).mlen (i : Int)).toNat x.2 ∧ 0 ≤ (q0.2.den ρ).mlen (i : Int) ∧ ((q0.2.den ρ).mlen (i : Int)).toNat ≤ x.2 ∧ x.2 ≤ maxLen ∧ (x.1 = none → x.2 = 0) ∧
            ∀ (j : Int) f' kk, 0 ≤ j → j < (q0.2.den ρ).mlen (i : Int) → sh[f']? = some kk → ∃ p, x.1 = some p ∧ p.block < w.heap.size ∧ w.cell? (p.add (j.toNat * sh.length + f')) = some (kk.val ((q0.2.den ρ).mfn (i : Int) j f')) := fun i => by
          by_cases hi : i < l.length
          · obtain ⟨qa, n1, c1, f1, g1, g2, g3, g4, g5, g6⟩ := hrow i hi
            simp only [List.cons.injEq, and_true, AV.a.injEq, AV.i.injEq, Nat.zero_add] at g5
            obtain ⟨rfl, g7⟩ := g5
            refine ⟨(qa, c1), fun _ => ?_⟩
            rw [g7, Int.toNat_natCast]
            exact ⟨g1, by omega, g2, g3, g4, g6⟩
          · exact ⟨(none, 0), fun h => absurd h hi⟩
        obtain ⟨rc, hrc⟩ := Classical.axiomOfChoice hex
        rw [lit_I] at h4 h8
        refine ⟨rfl, q, ((X.lit (l.length : Int)).I ρ).toNat, r, (q0.2.den ρ).mlen, (q0.2.den ρ).mfn, fun i => (rc i.toNat).1, fun i => (rc i.toNat).2, hve, h5, h6, ?_, ?_, ?_⟩
        · intro hq
          rcases h8 with h8 | h8
          · exact h8
          · subst hq
            cases p with
            | none => have := h7 rfl; omega
            | some p => cases h8
        · show [AV.m _ _, AV.i ((X.lit (l.length : Int)).I ρ)] = _
          rw [lit_I]; congr 3
        · intro i i0 i1
          rw [lit_I] at i1
          have hil : i.toNat < l.length := by omega
          rcases h8 with h8 | h8
          · rw [h8] at h5; rw [lit_I] at h5; omega
          · rw [hr] at e1
            subst e1
            have e0 : ((i.toNat : Nat) : Int) = i := by omega
            obtain ⟨d1, d2, d3, d4, d5, d6⟩ := hrc i.toNat hil
            rw [e0] at d1 d2 d3 d6
            have hcl := (hvs i.toNat _ (List.getElem?_eq_getElem hil)).1.1
            rw [d1] at hcl
            refine ⟨pp, by rw [h8]; simp [Addr.add], e2.1, d2, d3, d4, d5, hcl, ?_⟩
            by_cases hz : (q0.2.den ρ).mlen i = 0
            · exact .inl hz
            · right
              cases hp0 : (rc i.toNat).1 with
              | none => have := d5 hp0; omega
              | some q1 =>
                have hne : sh ≠ [] ∨ sh = [] := by cases sh <;> simp
                rcases hne with hne | hne
                · obtain ⟨k0, hk0⟩ : ∃ k0, sh[0]? = some k0 := by cases sh with
                    | nil => exact absurd rfl hne
                    | cons k0 _ => exact ⟨k0, rfl⟩
                  obtain ⟨p1, f1, f2, _⟩ := d6 0 0 k0 (by omega) (by omega) hk0
                  rw [hp0] at f1
                  obtain rfl := Option.some.inj f1
                  refine ⟨_, hp0, f2, fun j f' kk j0 j1 hkk => ?_⟩
                  obtain ⟨p2, f3, _, f4⟩ := d6 j f' kk j0 j1 hkk
                  rw [hp0] at f3
                  obtain rfl := Option.some.inj f3
                  exact f4
                · rw [hne] at hpos; cases hpos
      · cases ha
    · cases ha
  · obtain ⟨rfl, rfl⟩ := Prod.mk.inj (Option.some.inj ha)
    exact ⟨rfl, none, 0, 0, fun _ => 0, fun _ _ _ => 0, fun _ => none, fun _ => 0, hv, Nat.le_refl _, by unfold maxLen; omega, fun _ => rfl, rfl, fun i i0 i1 => by omega⟩
  · cases ha
theorem argsOf_sound (hf : s.factsOk ρ) (hg : g.B ρ = true) (hh : ∀ k e bi, s.heap[k]? = some e → β k = some bi → EOk ρ β W w bi e) : ∀ {hs : List Sh0} {cs : List Sc} {nd xs : List X}, argsOf s g hs cs = some (nd, xs) → (∀ x ∈ nd, x.B ρ = true) → ∀ {vs : List Value}, RelL (Sc.rel ρ β) cs vs → xs.length = (shKs hs).length ∧ RdL w hs vs (fixL (shKs hs) (xs.map (X.den ρ)))
  | [], [], nd, xs, ha, _, vs, hr => by
    simp only [argsOf] at ha
    obtain ⟨rfl, rfl⟩ := Prod.mk.inj (Option.some.inj ha)
    cases vs with
    | nil => exact ⟨rfl, rfl⟩
    | cons _ _ => exact hr.elim
  | h :: hs, c :: cs, nd, xs, ha, hnd, vs, hr => by
    simp only [argsOf] at ha
    split at ha
    · rename_i a b h1 h2
      obtain ⟨rfl, rfl⟩ := Prod.mk.inj (Option.some.inj ha)
      cases vs with
      | nil => exact hr.elim
      | cons v vs =>
        obtain ⟨l1, r1⟩ := argOf_sound hf hg hh h1 (fun x hx => hnd x (by simp [hx])) hr.1
        obtain ⟨l2, r2⟩ := argsOf_sound hf hg hh h2 (fun x hx => hnd x (by simp [hx])) hr.2
        refine ⟨by simp [shKs, l1]; simpa [shKs] using l2, _, _, ?_, r1, r2⟩
        simp only [shKs, List.flatMap_cons, List.map_append]
        exact fixL_append _ _ _ _ (by simpa using l1)
    · cases ha
  | [], _ :: _, _, _, ha, _, _, _ => by simp [argsOf] at ha
  | _ :: _, [], _, _, ha, _, _, _ => by simp [argsOf] at ha
theorem argV_sound (hf : s.factsOk ρ) (hg : g.B ρ = true) (hh : ∀ k e bi, s.heap[k]? = some e → β k = some bi → EOk ρ β W w bi e) {h : Sh} {x : V1} {nd xs : List X} (ha : argV s g h x = some (nd, xs)) (hnd : ∀ x ∈ nd, x.B ρ = true) {v : Value} (hv : x.rel ρ β v) : xs.length = (shKs h.l).length ∧ RdV w h v (fixL (shKs h.l) (xs.map (X.den ρ))) := by
  unfold RdV
  cases x with
  | agg l =>
    simp only [argV] at ha
    split at ha
    · rename_i hag
      obtain ⟨vs, rfl, hr⟩ := hv
      obtain ⟨h1, h2⟩ := argsOf_sound hf hg hh ha hnd hr
      exact ⟨h1, by rw [if_pos hag]; exact ⟨vs, rfl, h2⟩⟩
    · cases ha
  | sc c =>
    simp only [argV] at ha
    split at ha
    · cases ha
    · rename_i hag
      obtain ⟨h1, h2⟩ := argsOf_sound hf hg hh ha hnd (vs := [v]) ⟨hv, trivial⟩
      exact ⟨h1, by rw [if_neg hag]; exact h2⟩
theorem argsL_sound (hf : s.factsOk ρ) (hg : g.B ρ = true) (hh : ∀ k e bi, s.heap[k]? = some e → β k = some bi → EOk ρ β W w bi e) : ∀ {hs : List Sh} {cs : List SV} {nd xs : List X}, argsL s g hs cs = some (nd, xs) → (∀ x ∈ nd, x.B ρ = true) → ∀ {vs : List Value}, RelL (SV.rel ρ β) cs vs → xs.length = (insKs hs).length ∧ RdA w hs vs (fixL (insKs hs) (xs.map (X.den ρ)))
  | [], [], nd, xs, ha, _, vs, hr => by
    simp only [argsL] at ha
    obtain ⟨rfl, rfl⟩ := Prod.mk.inj (Option.some.inj ha)
    cases vs with
    | nil => exact ⟨rfl, rfl⟩
    | cons _ _ => exact hr.elim
  | h :: hs, c :: cs, nd, xs, ha, hnd, vs, hr => by
    cases c with
    | v x =>
      simp only [argsL] at ha
      split at ha
      · rename_i a b h1 h2
        obtain ⟨rfl, rfl⟩ := Prod.mk.inj (Option.some.inj ha)
        cases vs with
        | nil => exact hr.elim
        | cons v vs =>
          obtain ⟨l1, r1⟩ := argV_sound hf hg hh h1 (fun x hx => hnd x (by simp [hx])) hr.1
          obtain ⟨l2, r2⟩ := argsL_sound hf hg hh h2 (fun x hx => hnd x (by simp [hx])) hr.2
          refine ⟨by simp [insKs, l1]; simpa [insKs] using l2, _, _, ?_, r1, r2⟩
          simp only [insKs, List.flatMap_cons, List.map_append]
          exact fixL_append _ _ _ _ (by simpa using l1)
      · cases ha
    | _ => simp [argsL] at ha
  | [], _ :: _, _, _, ha, _, _, _ => by simp [argsL] at ha
  | _ :: _, [], _, _, ha, _, _, _ => by simp [argsL] at ha
end
end
end Go.Proofs.Ytpbpmabnmakdoaa.Vc
/- The symbolic executor: calls by contract. -/
namespace Go.Proofs.Ytpbpmabnmakdoaa.Vc
noncomputable section
open Go Go.RowKit
variable {ρ ρ' : List AV} {β β' : Mp} {W W' : Nat → Prop} {w w' : World} {P : Program} {C : Cfg} {B : Nat} {w0 : World}

/-- more variables -/
theorem Mem.more {s s' : S} {ks : List VK} {δ : List AV} (m : Mem C B w0 ρ β W s w) (h : s.more ks = some s') (hk : KT ks δ) : s' = { s with ks := s.ks ++ ks } ∧ Mem C B w0 (ρ ++ δ) β W s' w := by
  obtain ⟨rfl, sc⟩ := S.more_eq h
  have hok : (idR s.ks.length s.heap.length).Ok ρ β (ρ ++ δ) β := idR_ok (by rw [m.kt.1]; exact Nat.le_refl _) fun _ _ => rfl
  refine ⟨rfl, ⟨⟨m.below, m.size, m.wlo, fun k e b hk hb => ?_, m.dist, m.own, m.glob⟩, m.all, m.top, fun x hx => ?_, m.kt.append hk⟩⟩
  · exact (HE.sub_ok hok (sc.heap k e hk) b).2 (m.heap k e b hk hb)
  · have := X.sub_den hok.x (sc.facts x hx)
    show (x.den _).bool = true
    rw [this]; exact m.facts x hx
theorem Fr.more {s s' : S} {ks : List VK} {δ : List AV} {a : Act} (m : Mem C B w0 ρ β W s w) (h : s.more ks = some s') (fr : Fr ρ β s a) : Fr (ρ ++ δ) β s' a := by
  obtain ⟨rfl, sc⟩ := S.more_eq h
  have hok : (idR s.ks.length s.heap.length).Ok ρ β (ρ ++ δ) β := idR_ok (by rw [m.kt.1]; exact Nat.le_refl _) fun _ _ => rfl
  exact ⟨fr.1, fun t sl ht => (Slot.sub_rel hok (sc.tmps t sl ht) _).2 (fr.2 t sl ht)⟩

/-! what a contract gives -/
def GvSc (N : Nat) (w : World) : Sh0 → Value → List AV → List Nat → Prop
  | .int k, v, l, os => ∃ z, v = .int k z ∧ l = [.i z] ∧ os = []
  | .bool, v, l, os => ∃ p, v = .bool p ∧ l = [.b p] ∧ os = []
  | .slc sh, v, l, os => ∃ (q : Option Addr) (n c : Nat) (f : Int → Nat → Int), v = .slice q n c ∧ n ≤ c ∧ c ≤ maxLen ∧ (q = none → c = 0) ∧ l = [.a f, .i (n : Int)] ∧
      ((n = 0 ∧ c = 0 ∧ os = []) ∨ ∃ r, q = some ⟨r, 0, none⟩ ∧ N ≤ r ∧ r < w.heap.size ∧ os = [r] ∧ (∀ j, j < c * sh.length → ∃ u, w.cell? ⟨r, j, none⟩ = some u ∧ w.frozen? ⟨r, j, none⟩ = false) ∧
        ∀ (i : Int) f' k, 0 ≤ i → i < n → sh[f']? = some k → cellOk w true ⟨r, i.toNat * sh.length + f', none⟩ (k.val (f i f')))
  | .mat sh, v, l, os => ∃ (n : Nat) (g : Int → Int) (f : Int → Int → Nat → Int) (bo br : BI) (o1 o2 : List Nat), v = .slice bo.v.addr n bo.v.cap ∧ n ≤ bo.v.cap ∧ bo.v.cap ≤ maxLen ∧ (bo.v.addr = none → bo.v.cap = 0) ∧ l = [.m g f, .i (n : Int)] ∧ bo.v.sz = 1 ∧
      os = o1 ++ o2 ∧ (∀ r, bo.own r → r ∈ o1) ∧ (∀ r, br.own r → r ∈ o2) ∧ (∀ r ∈ os, N ≤ r ∧ r < w.heap.size) ∧
      ((n = 0 ∧ bo.v.cap = 0 ∧ bo.own = noOwn) ∨ ∃ p, bo.v.addr = some p ∧ place w (fun _ => False) true bo p ∧ ∀ i, 0 ≤ i → i < (n : Int) → cellOk w true (p.add i.toNat) (.slice (br.v.rows i) (br.v.lens i).toNat (br.v.caps i))) ∧
      RowsOk w (fun _ => False) true br sh (.m g f) n fun _ => True
def GvL (N : Nat) (w : World) : List Sh0 → List Value → List AV → List Nat → Prop
  | [], [], l, os => l = [] ∧ os = []
  | h :: hs, v :: vs, l, os => ∃ a b o1 o2, l = a ++ b ∧ os = o1 ++ o2 ∧ GvSc N w h v a o1 ∧ GvL N w hs vs b o2
  | _, _, _, _ => False
def GvV (N : Nat) (w : World) (h : Sh) (v : Value) (l : List AV) (os : List Nat) : Prop :=
  if h.agg then ∃ vs : List Value, v = .agg vs.toArray ∧ GvL N w h.l vs l os else ∃ x, h.l = [x] ∧ GvL N w h.l [v] l os
def GvA (N : Nat) (w : World) : List Sh → List Value → List AV → List Nat → Prop
  | [], [], l, os => l = [] ∧ os = []
  | h :: hs, v :: vs, l, os => ∃ a b o1 o2, l = a ++ b ∧ os = o1 ++ o2 ∧ GvV N w h v a o1 ∧ GvA N w hs vs b o2
  | _, _, _, _ => False
def tupOf : List Value → Value
  | [x] => x
  | l => .tuple l.toArray
def Gv (N : Nat) (w : World) (outs : List Sh) (v : Value) (l : List AV) : Prop := ∃ vs os, v = tupOf vs ∧ GvA N w outs vs l os ∧ os.Nodup
/-- the function keeps the contract, in the worlds that G admits -/
def MeetsG (P : Program) (G : World → Prop) (con : Con) (f : FuncId) (sig : CSig) : Prop :=
  ∀ (args : List Value) avs w, G w → RdA w sig.ins args avs → con.pre avs → Calls P f args.toArray w fun e w' => ∃ v, e = .returned v ∧ Below w.heap.size w w' ∧ Gv w.heap.size w' sig.outs v (con.out avs)

abbrev Meets (P : Program) (con : Con) (f : FuncId) (sig : CSig) : Prop := MeetsG P (fun _ => True) con f sig
/-- what the new entries stand for -/
structure News (w : World) (N : Nat) (bs : List BI) (os : List Nat) : Prop where
  own : ∀ (j : Nat) b r, bs[j]? = some b → b.own r → r ∈ os
  dist : os.Nodup → ∀ (j j' : Nat) b b' r, bs[j]? = some b → bs[j']? = some b' → b.own r → b'.own r → j = j'
  lo : ∀ r ∈ os, N ≤ r ∧ r < w.heap.size
theorem News.nil (w : World) (N : Nat) : News w N [] [] := ⟨fun j b r h => by simp at h, fun _ j j' b b' r h => by simp at h, fun r h => by cases h⟩
theorem News.append {N : Nat} {b1 b2 : List BI} {o1 o2 : List Nat} (h : News w N b1 o1) (k : News w N b2 o2) : News w N (b1 ++ b2) (o1 ++ o2) := by
  refine ⟨fun j b r hb ho => ?_, fun hn j j' b b' r hb hb' ho ho' => ?_, fun r hr => ?_⟩
  · rw [List.getElem?_append] at hb
    split at hb
    · exact List.mem_append.2 (.inl (h.own _ _ _ hb ho))
    · exact List.mem_append.2 (.inr (k.own _ _ _ hb ho))
  · rw [List.nodup_append] at hn
    obtain ⟨n1, n2, n3⟩ := hn
    rw [List.getElem?_append] at hb hb'
    split at hb
    · split at hb'
      · exact h.dist n1 _ _ _ _ _ hb hb' ho ho'
      · exact absurd rfl (n3 r (h.own _ _ _ hb ho) r (k.own _ _ _ hb' ho'))
    · split at hb'
      · exact absurd rfl (n3 r (h.own _ _ _ hb' ho') r (k.own _ _ _ hb ho))
      · have := k.dist n2 _ _ _ _ _ hb hb' ho ho'
        omega
  · rcases List.mem_append.1 hr with hr | hr
    · exact h.lo r hr
    · exact k.lo r hr
/-- a piece of the variables -/
def Piece (ρ : List AV) (n : Nat) (l : List AV) : Prop := ∀ (i : Nat) v, l[i]? = some v → ρ.getD (n + i) (.i 0) = v
theorem Piece.left {n : Nat} {a b : List AV} (h : Piece ρ n (a ++ b)) : Piece ρ n a := fun i v hv => h i v (by rw [List.getElem?_append_left (List.getElem?_eq_some_iff.1 hv).1]; exact hv)
theorem Piece.right {n : Nat} {a b : List AV} (h : Piece ρ n (a ++ b)) : Piece ρ (n + a.length) b := fun i v hv => by
  have := h (a.length + i) v (by rw [List.getElem?_append_right (by omega)]; simpa using hv)
  rw [Nat.add_assoc]; exact this
/-- entries from k on -/
def Maps (β : Mp) (k : Nat) (bs : List BI) : Prop := ∀ (j : Nat) b, bs[j]? = some b → β (k + j) = some b
theorem Maps.left {k : Nat} {a b : List BI} (h : Maps β k (a ++ b)) : Maps β k a := fun i v hv => h i v (by rw [List.getElem?_append_left (List.getElem?_eq_some_iff.1 hv).1]; exact hv)
theorem Maps.right {k : Nat} {a b : List BI} (h : Maps β k (a ++ b)) : Maps β (k + a.length) b := fun i v hv => by
  have := h (a.length + i) v (by rw [List.getElem?_append_right (by omega)]; simpa using hv)
  rw [Nat.add_assoc]; exact this
/-- what is claimed of new entries -/
def EOks (ρ : List AV) (w : World) (k : Nat) (es : List HE) (bs : List BI) : Prop := ∀ (j : Nat) e b, es[j]? = some e → bs[j]? = some b → ∀ g β W, Maps β k bs → EOk ρ β W w b (guarded g e)
theorem EOks.append {es es' : List HE} {bs bs' : List BI} (hl : es.length = bs.length) {n : Nat} (h : EOks ρ w n es bs) (k : EOks ρ w (n + bs.length) es' bs') : EOks ρ w n (es ++ es') (bs ++ bs') := by
  intro j e b he hb g β W hm
  rw [List.getElem?_append] at he hb
  split at he
  · rw [if_pos (by omega)] at hb
    exact h j e b he hb g β W hm.left
  · rw [if_neg (by omega)] at hb
    rw [hl] at he
    exact k _ e b he hb g β W hm.right
structure OutOk (ρ : List AV) (w : World) (N n k : Nat) (cs : List Sc) (es : List HE) (ks : List VK) (vs : List Value) (l : List AV) (os : List Nat) (bs : List BI) : Prop where
  len : l.length = ks.length
  fix : fixL ks l = l
  elen : es.length = bs.length
  news : News w N bs os
  oks : EOks ρ w k es bs
  rel : ∀ β, Maps β k bs → RelL (Sc.rel ρ β) cs vs
theorem outOf_sound {N : Nat} : ∀ {hs : List Sh0} {vs : List Value} {l : List AV} {os : List Nat} (n k : Nat), GvL N w hs vs l os → Piece ρ n l → ∃ bs, OutOk ρ w N n k (outOf n k hs).1 (outOf n k hs).2.1 (outOf n k hs).2.2 vs l os bs
  | [], [], l, os, n, k, h, _ => by
    obtain ⟨rfl, rfl⟩ := h
    exact ⟨[], rfl, rfl, rfl, News.nil _ _, fun j e b he => by simp [outOf] at he, fun _ _ => trivial⟩
  | hd :: hs, v :: vs, l, os, n, k, h, hp => by
    obtain ⟨a, b, o1, o2, rfl, rfl, h1, h2⟩ := h
    cases hd with
    | int kd =>
      obtain ⟨z, rfl, rfl, rfl⟩ := h1
      obtain ⟨bs, q⟩ := outOf_sound (n + 1) k h2 hp.right
      refine ⟨bs, by simp [outOf, q.len], by simp [outOf, fixL, VK.fix, AV.int, q.fix], q.elen, q.news, q.oks, fun β hm => ⟨?_, q.rel β hm⟩⟩
      show Value.int kd z = Value.int kd _
      have := hp 0 (.i z) rfl
      simp only [X.I, X.den]
      rw [Nat.add_zero] at this
      rw [this]; rfl
    | bool =>
      obtain ⟨p, rfl, rfl, rfl⟩ := h1
      obtain ⟨bs, q⟩ := outOf_sound (n + 1) k h2 hp.right
      refine ⟨bs, by simp [outOf, q.len], by simp [outOf, fixL, VK.fix, AV.bool, q.fix], q.elen, q.news, q.oks, fun β hm => ⟨?_, q.rel β hm⟩⟩
      show Value.bool p = Value.bool _
      have := hp 0 (.b p) rfl
      simp only [X.B, X.den]
      rw [Nat.add_zero] at this
      rw [this]; rfl
    | slc sh =>
      obtain ⟨q0, m, c, f, rfl, hmc, hcm, hq, rfl, hown⟩ := h1
      obtain ⟨bs, q⟩ := outOf_sound (n + 2) (k + 1) h2 hp.right
      have e1 : ρ.getD n (.i 0) = .a f := hp 0 _ rfl
      have e2 : ρ.getD (n + 1) (.i 0) = .i (m : Int) := hp 1 _ rfl
      have i1 : (X.var (n + 1)).I ρ = m := by simp only [X.I, X.den, e2, AV.int]
      have f1 : ((X.var n).den ρ).fn = f := by simp only [X.den, e1, AV.fn]
      let b0 : BI := ⟨⟨q0, c, sh.length, fun _ => none, fun _ => 0, fun _ => 0⟩, (· ∈ o1)⟩
      have hnews : News w N [b0] o1 := by
        rcases hown with ⟨_, _, rfl⟩ | ⟨r, _, hr1, hr2, rfl, _⟩
        · exact ⟨fun j b r hb ho => by cases j with | zero => simp at hb; subst hb; cases ho | succ j => simp at hb, fun _ j j' b b' r hb hb' _ _ => by cases j <;> cases j' <;> simp at hb hb' ⊢, fun r h => by cases h⟩
        · refine ⟨fun j b r' hb ho => ?_, fun _ j j' b b' r hb hb' _ _ => by cases j <;> cases j' <;> simp at hb hb' ⊢, fun r' h => by simp at h; subst h; exact ⟨hr1, hr2⟩⟩
          cases j with
          | zero =>
            simp at hb
            subst hb
            exact ho
          | succ j => simp at hb
      refine ⟨b0 :: bs, by simp [outOf, q.len], by simp [outOf, fixL, VK.fix, AV.int, AV.fn, q.fix], by simp [outOf, q.elen], hnews.append q.news, ?_, fun β hm => ⟨?_, q.rel β (Maps.right (a := [b0]) hm)⟩⟩
      · refine EOks.append (es := [_]) (bs := [b0]) rfl (fun j e b he hb g β W _ => ?_) q.oks
        cases j with
        | succ j => simp at he
        | zero =>
          simp at he hb
          subst he hb
          intro _
          refine ⟨by rw [i1]; omega, fun h => hq h, rfl, ?_⟩
          rcases hown with ⟨hm0, hc0, rfl⟩ | ⟨r, hr0, hr1, hr2, rfl, hcell, hval⟩
          · exact .inl ⟨by rw [i1, hm0]; rfl, hc0, funext fun r => propext ⟨fun h => (by cases h), fun h => h.elim⟩⟩
          · refine .inr (.inr ⟨⟨r, 0, none⟩, hr0, ⟨hr2, fun _ => ⟨rfl, List.mem_singleton.2 rfl, fun j hj => hcell j hj⟩, fun h => by cases h⟩, by rw [i1]; simpa using hmc, fun i f' kk i0 i1' hk => ?_⟩)
            rw [i1] at i1'
            rw [add0, f1]
            exact hval i f' kk i0 i1' hk
      · refine ⟨q0, c, q0, c, ?_, by rw [i1]; simp, by rw [lit_I]; exact Int.le_refl _, by rw [i1]; omega, by rw [i1]; simpa using hmc, hcm, hq, .inr ?_, by rw [lit_I]; simp, by simp, by rw [lit_I]; simp⟩
        · have := hm 0 b0 rfl
          simp only [SB.at]
          rw [Nat.add_zero] at this
          rw [this]; rfl
        · rw [lit_I]; cases q0 <;> simp [Addr.add]
    | mat sh =>
      obtain ⟨m, g, f, bo, br, p1, p2, rfl, hmc, hcm, hq, rfl, hsz, rfl, ho1, ho2, hlo, hout, hrows⟩ := h1
      obtain ⟨bs, q⟩ := outOf_sound (n + 2) (k + 2) h2 hp.right
      have e1 : ρ.getD n (.i 0) = .m g f := hp 0 _ rfl
      have e2 : ρ.getD (n + 1) (.i 0) = .i (m : Int) := hp 1 _ rfl
      have i1 : (X.var (n + 1)).I ρ = m := by simp only [X.I, X.den, e2, AV.int]
      have f1 : (X.var n).den ρ = .m g f := by simp only [X.den, e1]
      have hnews : News w N [bo, br] (p1 ++ p2) := by
        refine ⟨fun j b r hb ho => ?_, fun hn j j' b b' r hb hb' ho ho' => ?_, hlo⟩
        · match j, hb with
          | 0, hb => simp at hb; subst hb; exact List.mem_append.2 (.inl (ho1 r ho))
          | 1, hb => simp at hb; subst hb; exact List.mem_append.2 (.inr (ho2 r ho))
          | j + 2, hb => simp at hb
        · have hne : ∀ r, bo.own r → br.own r → False := fun r h1 h2 => (List.nodup_append.1 hn).2.2 r (ho1 r h1) r (ho2 r h2) rfl
          match j, j', hb, hb' with
          | 0, 0, _, _ => rfl
          | 1, 1, _, _ => rfl
          | 0, 1, hb, hb' => simp at hb hb'; subst hb hb'; exact (hne r ho ho').elim
          | 1, 0, hb, hb' => simp at hb hb'; subst hb hb'; exact (hne r ho' ho).elim
          | j + 2, _, hb, _ => simp at hb
          | _, j + 2, _, hb' => simp at hb'
      refine ⟨bo :: br :: bs, by simp [outOf, q.len], by simp [outOf, fixL, VK.fix, AV.int, AV.mlen, AV.mfn, q.fix], by simp [outOf, q.elen], hnews.append q.news, ?_, fun β hm => ⟨?_, q.rel β (Maps.right (a := [bo, br]) hm)⟩⟩
      · refine EOks.append (es := [_, _]) (bs := [bo, br]) rfl (fun j e b he hb gd β W hm => ?_) q.oks
        match j, he, hb with
        | 0, he, hb =>
          simp at he hb
          subst he hb
          intro _
          refine ⟨by rw [i1]; omega, hq, hsz, ?_⟩
          rcases hout with ⟨h1, h2, h3⟩ | ⟨p, h1, h2, h3⟩
          · exact .inl ⟨by rw [i1, h1]; rfl, h2, h3⟩
          · refine .inr ⟨p, h1, ⟨h2.1, h2.2.1, fun h => (by cases h)⟩, by rw [i1]; simpa using hmc, fun i i0 i1' => ⟨br, hm 1 br rfl, h3 i i0 (by rw [i1] at i1'; exact i1')⟩⟩
        | 1, he, hb =>
          simp at he hb
          subst he hb
          intro _
          show RowsOk _ _ _ _ _ _ _ _
          rw [i1, f1]
          refine ⟨fun i a1 a2 a3 => ?_, hrows.2⟩
          obtain ⟨c1, c2, c3, c4, c5, c6⟩ := hrows.1 i a1 a2 a3
          refine ⟨c1, c2, c3, c4, c5, ?_⟩
          rcases c6 with c6 | c6 | ⟨q, d1, d2, d3, d4, d5⟩
          · exact .inl c6
          · exact .inr (.inl c6)
          · exact .inr (.inr ⟨q, d1, d2, d3, fun h => (by cases h), d5⟩)
        | j + 2, he, _ => simp at he
      · refine ⟨bo.v.addr, bo.v.cap, bo.v.addr, bo.v.cap, ?_, by rw [i1]; simp, by rw [lit_I]; exact Int.le_refl _, by rw [i1]; omega, by rw [i1]; simpa using hmc, hcm, hq, .inr ?_, by rw [lit_I]; simp, by simp, by rw [lit_I]; simp⟩
        · have := hm 0 bo rfl
          simp only [SB.at]
          rw [Nat.add_zero] at this
          rw [this]; rfl
        · rw [lit_I]; cases bo.v.addr <;> simp [Addr.add]
  | [], _ :: _, _, _, _, _, h, _ => h.elim
  | _ :: _, [], _, _, _, _, h, _ => h.elim
theorem outsL_sound {N : Nat} : ∀ {hs : List Sh} {vs : List Value} {l : List AV} {os : List Nat} (n k : Nat), GvA N w hs vs l os → Piece ρ n l →
    ∃ bs, l.length = (outsL n k hs).2.2.length ∧ fixL (outsL n k hs).2.2 l = l ∧ (outsL n k hs).2.1.length = bs.length ∧ News w N bs os ∧ EOks ρ w k (outsL n k hs).2.1 bs ∧ ∀ β, Maps β k bs → RelL (V1.rel ρ β) (outsL n k hs).1 vs
  | [], [], l, os, n, k, h, _ => by
    obtain ⟨rfl, rfl⟩ := h
    exact ⟨[], rfl, rfl, rfl, News.nil _ _, fun j e b he => by simp [outsL] at he, fun _ _ => trivial⟩
  | hd :: hs, v :: vs, l, os, n, k, h, hp => by
    obtain ⟨a, b, o1, o2, rfl, rfl, h1, h2⟩ := h
    have key : ∃ bs, ∃ us, OutOk ρ w N n k (outOf n k hd.l).1 (outOf n k hd.l).2.1 (outOf n k hd.l).2.2 us a o1 bs ∧ ∀ β, RelL (Sc.rel ρ β) (outOf n k hd.l).1 us → (v1Sh hd.agg (outOf n k hd.l).1).rel ρ β v := by
      unfold GvV at h1
      split at h1
      · rename_i hag
        obtain ⟨us, rfl, hg⟩ := h1
        obtain ⟨bs, q⟩ := outOf_sound n k hg hp.left
        exact ⟨bs, us, q, fun β hr => by rw [show hd.agg = true from hag]; exact ⟨us, rfl, hr⟩⟩
      · rename_i hag
        obtain ⟨x, hx, hg⟩ := h1
        obtain ⟨bs, q⟩ := outOf_sound n k hg hp.left
        refine ⟨bs, [v], q, fun β hr => ?_⟩
        rw [Bool.eq_false_iff.2 hag]
        cases hc : (outOf n k hd.l).1 with
        | nil => rw [hc] at hr; exact hr.elim
        | cons c cs =>
          rw [hc] at hr
          cases cs with
          | nil => exact hr.1
          | cons _ _ => exact hr.2.elim
    obtain ⟨bs, us, q, hv⟩ := key
    obtain ⟨bs', q1, q2, q3, q4, q5, q6⟩ := outsL_sound (n + (outOf n k hd.l).2.2.length) (k + (outOf n k hd.l).2.1.length) h2 (by rw [← q.len]; exact hp.right)
    refine ⟨bs ++ bs', by simp [outsL, q.len, q1], ?_, by simp only [outsL, List.length_append, q3]; rw [q.elen], q.news.append q4, EOks.append q.elen q.oks (by rw [← q.elen]; exact q5), fun β hm => ⟨hv β (q.rel β hm.left), q6 β (by rw [q.elen]; exact hm.right)⟩⟩
    simp only [outsL]
    rw [fixL_append _ _ _ _ q.len, q.fix, q2]
  | [], _ :: _, _, _, _, _, h, _ => h.elim
  | _ :: _, [], _, _, _, _, h, _ => h.elim
theorem outOf_len : ∀ (hs : List Sh0) (n k : Nat), (outOf n k hs).2.1.length = (outOf 0 0 hs).2.1.length ∧ (outOf n k hs).2.2 = (outOf 0 0 hs).2.2
  | [], _, _ => ⟨rfl, rfl⟩
  | .int kd :: l, n, k => by
    have a := outOf_len l (n + 1) k; have b := outOf_len l (0 + 1) 0
    simp [outOf, a.1, b.1, a.2, b.2]
  | .bool :: l, n, k => by
    have a := outOf_len l (n + 1) k; have b := outOf_len l (0 + 1) 0
    simp [outOf, a.1, b.1, a.2, b.2]
  | .slc sh :: l, n, k => by
    have a := outOf_len l (n + 2) (k + 1); have b := outOf_len l (0 + 2) (0 + 1)
    simp [outOf, a.1, b.1, a.2, b.2]
  | .mat sh :: l, n, k => by
    have a := outOf_len l (n + 2) (k + 2); have b := outOf_len l (0 + 2) (0 + 2)
    simp only [Nat.zero_add] at b
    simp [outOf, a.1, b.1, a.2, b.2]
/-- entries from k on -/
def app (β : Mp) (k : Nat) (bs : List BI) : Mp := fun j => if j < k then β j else bs[j - k]?
theorem app_maps (β : Mp) (k : Nat) (bs : List BI) : Maps (app β k bs) k bs := fun j b hb => by
  simp only [app]; rw [if_neg (by omega)]; rw [← hb]; congr 1; omega
theorem app_ext {k : Nat} (bs : List BI) (h : ∀ j, k ≤ j → β j = none) : Ext β (app β k bs) := fun j b hb => by
  have : j < k := by
    rcases Nat.lt_or_ge j k with h' | h'
    · exact h'
    · rw [h j h'] at hb; cases hb
  exact ⟨b, by simp only [app]; rw [if_pos this]; exact hb, rfl⟩
/-- more entries -/
theorem Mem.many {s : S} (m : Mem C B w0 ρ β W s w) {es : List HE} {bs : List BI} {os : List Nat} (hb : Below w.heap.size w w') (hl : es.length = bs.length) (hn : News w' w.heap.size bs os) (hd : os.Nodup)
    (he : ∀ (j : Nat) e b, es[j]? = some e → bs[j]? = some b → EOk ρ (app β s.heap.length bs) (fun r => W r ∨ r ∈ os) w' b e) :
    Mem C B w0 ρ (app β s.heap.length bs) (fun r => W r ∨ r ∈ os) { s with heap := s.heap ++ es } w' := by
  have hx := app_ext (β := β) bs m.top
  have lt : ∀ j b, β j = some b → j < s.heap.length := fun j b h => by
    rcases Nat.lt_or_ge j s.heap.length with h' | h'
    · exact h'
    · rw [m.top j h'] at h; cases h
  refine ⟨⟨m.below.trans (hb.mono m.size), Nat.le_trans m.size hb.size, fun r hr => ?_, fun k e b hk hb' => ?_, fun k k' b1 b2 r h1 h2 o1 o2 => ?_, fun k b r h1 o1 => ?_, fun g k hg => ?_⟩, fun k hk => ?_, fun k hk => ?_, m.facts, m.kt⟩
  · rcases hr with hr | hr
    · have := m.wlo r hr; have := hb.size; omega
    · have := hn.lo r hr; have := m.size; omega
  · by_cases h : k < s.heap.length
    · simp only [app, if_pos h] at hb'
      have hk' : s.heap[k]? = some e := by simpa [S.H, List.getElem?_append_left h] using hk
      exact (m.heap k e b hk' hb').below hb (fun r hr => by rcases hr with hr | hr; exact .inl hr; exact .inr (hn.lo r hr).1) hx
    · simp only [app, if_neg h] at hb'
      refine he (k - s.heap.length) e b ?_ hb'
      simpa [S.H, List.getElem?_append_right (Nat.le_of_not_lt h)] using hk
  · by_cases e1 : k < s.heap.length
    · simp only [app, if_pos e1] at h1
      by_cases e2 : k' < s.heap.length
      · simp only [app, if_pos e2] at h2
        exact m.dist k k' b1 b2 r h1 h2 o1 o2
      · simp only [app, if_neg e2] at h2
        have := m.wlo r (m.own k b1 r h1 o1)
        have := (hn.lo r (hn.own _ _ _ h2 o2)).1
        omega
    · simp only [app, if_neg e1] at h1
      by_cases e2 : k' < s.heap.length
      · simp only [app, if_pos e2] at h2
        have := m.wlo r (m.own k' b2 r h2 o2)
        have := (hn.lo r (hn.own _ _ _ h1 o1)).1
        omega
      · simp only [app, if_neg e2] at h2
        have := hn.dist hd _ _ _ _ _ h1 h2 o1 o2
        omega
  · by_cases e1 : k < s.heap.length
    · simp only [app, if_pos e1] at h1
      exact .inl (m.own k b r h1 o1)
    · simp only [app, if_neg e1] at h1
      exact .inr (hn.own _ _ _ h1 o1)
  · obtain ⟨b1, h1, h2⟩ := m.glob g k hg
    obtain ⟨b2, h3, h4⟩ := hx k b1 h1
    exact ⟨b2, h3, by rw [h4]; exact h2⟩
  · by_cases h : k < s.heap.length
    · obtain ⟨b, hb'⟩ := m.all k h
      exact ⟨b, by simp only [app, if_pos h]; exact hb'⟩
    · simp only [List.length_append] at hk
      exact ⟨bs[k - s.heap.length]'(by omega), by simp only [app, if_neg h]; exact List.getElem?_eq_getElem _⟩
  · simp only [List.length_append] at hk
    simp only [app]
    rw [if_neg (by omega)]
    exact List.getElem?_eq_none (by omega)
end
end Go.Proofs.Ytpbpmabnmakdoaa.Vc
/- The symbolic executor: a call by contract, and a step that writes, in the order of the text. -/
namespace Go.Proofs.Ytpbpmabnmakdoaa.Vc
noncomputable section
open Go Go.RowKit
variable {ρ ρ' : List AV} {β β' : Mp} {W W' : Nat → Prop} {w w' : World} {P : Program} {C : Cfg} {B : Nat} {w0 : World}

theorem knownT_mem {x : X} : ∀ {n : Nat} {l : List C8}, x ∈ knownT n l → ∃ sl ∈ (TM.all l).take n, x ∈ knownSl sl
  | _, [], h => by simp [knownT] at h
  | n, c :: l, h => by
    have e : TM.all (c :: l) = c.toL ++ TM.all l := rfl
    simp only [knownT] at h
    rw [e, List.take_append]
    split at h
    · rename_i h8
      rcases List.mem_append.1 h with h | h
      · obtain ⟨sl, h1, h2⟩ := List.mem_flatMap.1 h
        exact ⟨sl, List.mem_append_left _ (by rw [List.take_of_length_le (by rw [C8.len8]; exact h8)]; exact h1), h2⟩
      · obtain ⟨sl, h1, h2⟩ := knownT_mem h
        exact ⟨sl, List.mem_append_right _ (by rw [C8.len8]; exact h1), h2⟩
    · obtain ⟨sl, h1, h2⟩ := List.mem_flatMap.1 h
      exact ⟨sl, List.mem_append_left _ h1, h2⟩
/-- what a state tells holds -/
theorem known_sound {s : S} (m : Mem C B w0 ρ β W s w) {a : Act} (fr : Fr ρ β s a) : ∀ x ∈ s.known, x.B ρ = true := by
  have hsc : ∀ (c : Sc) v, c.rel ρ β v → ∀ x ∈ knownSc c, x.B ρ = true := by
    intro c v hv x hx
    unfold knownSc at hx
    split at hx
    · obtain ⟨p, c, q, r, h1, h2, h3, h4, h5, h6, _⟩ := hv
      simp at hx
      rcases hx with rfl | rfl | rfl
      · rw [xle, lit_I]; simpa using h3
      · rw [xle, lit_I]; simpa using h4
      · rw [xle, lit_I]
        unfold maxLen at h6
        simp only [decide_eq_true_eq]
        omega
    · obtain ⟨p, c, h1, h2, _⟩ := hv
      simp at hx
      subst hx
      rw [xle, lit_I]; simpa using h2
    · cases hx
  intro x hx
  simp only [S.known, List.mem_append, List.mem_flatMap] at hx
  rcases hx with ⟨e, he, hx⟩ | hx
  · obtain ⟨k, hk, rfl⟩ := List.getElem_of_mem he
    obtain ⟨b, hb⟩ := m.all k hk
    have hE := m.heap k _ b (List.getElem?_eq_getElem hk) hb
    split at hx
    · cases hx
    · rename_i hg
      have hgt : (s.heap[k].g).B ρ = true := by
        have : s.heap[k].g = .bl true := by simpa using hg
        rw [this]; rfl
      have hE := hE hgt
      split at hx
      · rename_i hbd
        rw [hbd] at hE
        simp at hx; subst hx
        rw [xle, lit_I]; simpa using hE.1
      · rename_i hbd
        rw [hbd] at hE
        simp at hx; subst hx
        rw [xle, lit_I]; simpa using hE.1
      · rename_i hbd
        rw [hbd] at hE
        simp at hx; subst hx
        rw [xle, lit_I]; simpa using hE.1
      · rename_i l hbd
        rw [hbd] at hE
        obtain ⟨p, _, _, h3⟩ := hE
        simp only [List.mem_flatMap] at hx
        obtain ⟨c, hc, hx⟩ := hx
        obtain ⟨j, hj, rfl⟩ := List.getElem_of_mem hc
        obtain ⟨v, _, hv⟩ := h3 j _ (List.getElem?_eq_getElem hj)
        exact hsc _ v hv x hx
      all_goals cases hx
  · obtain ⟨sl, hs, hx⟩ := knownT_mem hx
    have hs : sl ∈ s.tmps.toL := hs
    obtain ⟨t, ht, rfl⟩ := List.getElem_of_mem hs
    unfold knownSl at hx
    split at hx
    · rename_i c heq
      have := fr.2 t _ ((TM.getElem?_eq _ _).trans ((List.getElem?_eq_getElem ht).trans (by rw [heq])))
      exact hsc c _ (this.1 rfl) x hx
    · cases hx
theorem news_sound {s : S} (m : Mem C B w0 ρ β W s w) {a : Act} (fr : Fr ρ β s a) : ∀ x ∈ s.news, x.B ρ = true := by
  intro x hx
  simp only [S.news, List.mem_eraseDups, List.mem_filter] at hx
  exact known_sound m fr x hx.1
theorem newsC_sound {s : S} (m : Mem C B w0 ρ β W s w) {a : Act} (fr : Fr ρ β s a) : ∀ x ∈ s.newsC C, x.B ρ = true := by
  unfold S.newsC
  split
  · exact news_sound m fr
  · intro x hx; cases hx
theorem repl_get {α : Type} {n : Nat} {x y : α} {j : Nat} (h : (List.replicate n x)[j]? = some y) : y = x := by
  rw [List.getElem?_replicate] at h
  split at h
  · exact (Option.some.inj h).symm
  · cases h
/-- what the contracts say is so -/
def ConsG (P : Program) (G : World → Prop) (C : Cfg) (Γ : FuncId → Con) : Prop := ∀ f sig, C.con f = some sig → MeetsG P G (Γ f) f sig ∧ ∃ fn, P.funcs[f]? = some fn ∧ fn.body.isNone = false ∧ (fn.name == "runtime.NumGoroutine") = false
abbrev ConsOk (P : Program) (C : Cfg) (Γ : FuncId → Con) (B : Nat) (w0 : World) : Prop := ConsG P (fun w => Below B w0 w) C Γ
theorem retV_rel {vs : List V1} {us : List Value} (h : RelL (V1.rel ρ β) vs us) (hl : vs.length ≠ 0 → True) : (retV vs).rel ρ β (tupOf us) := by
  cases vs with
  | nil =>
    cases us with
    | nil => exact ⟨[], rfl, trivial⟩
    | cons _ _ => exact h.elim
  | cons v vs =>
    cases us with
    | nil => exact h.elim
    | cons u us =>
      cases vs with
      | nil =>
        cases us with
        | nil => exact h.1
        | cons _ _ => exact h.2.elim
      | cons v' vs =>
        cases us with
        | nil => exact h.2.elim
        | cons u' us => exact ⟨u :: u' :: us, rfl, h⟩
section
variable {Γ : FuncId → Con} {Qd : List AV → Prop} {ctx : List (List AV → Prop)} {s : S} {a : Act} {ops : Array Oper} {o : Oper} {K : S → Tree} {K' : Act → World → Prop} {Q : Exit → Act → World → Prop}
theorem caps_relL {l : List Sc0} {vs : List Value} (h : RelL (Sc0.rel ρ β) l vs) : RelL (SV.rel ρ β) (l.map fun c => SV.v (.sc (.c c))) vs := by
  induction l generalizing vs with
  | nil => cases vs with
    | nil => trivial
    | cons _ _ => exact h.elim
  | cons c l ih => cases vs with
    | nil => exact h.elim
    | cons v vs => exact ⟨h.1, ih h.2⟩
/-- how a call of a function value begins -/
theorem run_call {f : Operand} {args : Array Operand} {ts : Array TypeId} {fid : FuncId} {vs ws : List Value} {fn : Func} (ho : o.op = .call { callee := .value f, args := args, argTypes := ts }) (hv : a.eval f = .func (.func fid) vs.toArray ws.toArray)
    (hf : P.funcs[fid]? = some fn) (hb : fn.body.isNone = false) (hn : (fn.name == "runtime.NumGoroutine") = false) :
    (execOp a.eval o).run P w = .ok (.enter fid (vs ++ args.toList.map a.eval ++ ws).toArray) w := by
  have hn' : fn.name ≠ "runtime.NumGoroutine" := by simpa using hn
  have hb' : fn.body ≠ none := fun h => by rw [h] at hb; cases hb
  simp [execOp, ho, resolve, Deferred.ofValue, hv, invoke, callFunc, hf, hb', hn', program, Sem.run]
theorem call_seq (hC : C.Ok P) (hlv : ctx.length = s.lvl) (hΓ : ConsOk P C Γ B w0) {g : X} {st : St} (hq : callStep C s g o = some st) (m : Mem C B w0 ρ β W s w) (fr : Fr ρ β s a) (hgs : guardOf s ops o = some g ∨ (guardOf s ops o).map (fun g => g.B ρ) = some true ∧ g = .bl true)
    (hden : (st.emit K).den Γ Qd ρ ctx) (hK : Onw C B w0 Γ Qd ctx ρ β s a.defers K K') :
    if Region.wanted o (yielded ops a.tmps) then o.wp P a w K' Q else K' (a.put o.dst Go.undef) w := by
  have hw : Region.wanted o (yielded ops a.tmps) = g.B ρ := by
    have hx : ∀ j b t, o.guard = some (j, b) → (ops[j]?).bind (·.dst) = some t → ∀ sl, s.tmps[t]? = some (some sl) → sl.rel ρ β (a.tmps.getD t Go.undef) ∧ t < a.tmps.size :=
      fun j b t _ _ sl hs => ⟨fr.2 t sl hs, by rw [fr.1]; exact TM.lt_of_get hs⟩
    rcases hgs with h | ⟨h, rfl⟩
    · exact guard_sound h hx
    · cases hgo : guardOf s ops o with
      | none => rw [hgo] at h; cases h
      | some g' => rw [hgo] at h; rw [guard_sound hgo hx]; exact Option.some.inj h
  unfold callStep at hq
  split at hq
  · rename_i f args ts ho
    split at hq
    · rename_i fid first caps vs hv hvs
      split at hq
      · rename_i sig hsig
        split at hq
        · rename_i nd0 xs hxs
          simp only at hq
          split at hq
          · rename_i s' g' hmore hg'
            obtain rfl := Option.some.inj hq
            simp only [St.emit] at hden
            obtain ⟨hnd, hpre, hd⟩ := needAll_den hden
            -- the state with the facts, under the results' variables
            have m1 : Mem C B w0 ρ β W (s.with ((nd0.filter fun x => !s.holds g x).map (imp g))) w := m.with hnd
            have fr1 : Fr ρ β (s.with ((nd0.filter fun x => !s.holds g x).map (imp g))) a := ⟨fr.1, fr.2⟩
            generalize hdl : fixL (outsL s.ks.length s.heap.length sig.outs).2.2 ((Γ fid).out (fixL (insKs sig.ins) (xs.map (X.den ρ)))) = δ at hd
            have hkt : KT (outsL s.ks.length s.heap.length sig.outs).2.2 δ := by rw [← hdl]; exact fixL_KT _ _
            obtain ⟨rfl, m2⟩ := m1.more hmore hkt
            have fr2 := Fr.more (δ := δ) m1 hmore fr1
            have hgg : g'.B (ρ ++ δ) = g.B ρ := by
              have := X.sub_den (ρ' := ρ ++ δ) (ρ := ρ) (N := s.ks.length) (σ := .var) (fun n hn => by
                have : n < ρ.length := by rw [m.kt.1]; exact hn
                simp [X.den, List.getD_eq_getElem?_getD, List.getElem?_append_left this]) hg'
              simp only [X.B, this]
            have hon : ∀ (β' : Mp) (W' : Nat → Prop) (w' : World) (u : Value), Mem C B w0 (ρ ++ δ) β' W' { (s.with ((nd0.filter fun x => !s.holds g x).map (imp g))) with ks := s.ks ++ (outsL s.ks.length s.heap.length sig.outs).2.2, heap := s.heap ++ (outsL s.ks.length s.heap.length sig.outs).2.1.map (guarded g') } w' →
                Ext β β' → (Slot.mk g' (retV (outsL s.ks.length s.heap.length sig.outs).1)).rel (ρ ++ δ) β' u → K' (a.put o.dst u) w' := by
              intro β' W' w' u hm hx hu
              have fr3 : Fr (ρ ++ δ) β' { (s.with ((nd0.filter fun x => !s.holds g x).map (imp g))) with ks := s.ks ++ (outsL s.ks.length s.heap.length sig.outs).2.2, heap := s.heap ++ (outsL s.ks.length s.heap.length sig.outs).2.1.map (guarded g') } a := Fr.ext hx fr2 rfl
              have m4 := hm.put o.dst ⟨g', retV (outsL s.ks.length s.heap.length sig.outs).1⟩
              have fr4 := fr3.put (d := o.dst) hu
              have hnews := news_sound m4 fr4
              have hd' := assumeAll_den hd hnews
              refine hK (ρ ++ δ) β' W' _ _ w' ctx ⟨[], by simp⟩ (by show ctx.length = (S.put _ _ _).lvl; rw [put_lvl]; exact hlv) (m4.with hnews) ⟨fr4.1, fr4.2⟩ ?_ (put_defers _ _ _) hd'
              have hl : Later ρ β s (ρ ++ δ) β' { (s.with ((nd0.filter fun x => !s.holds g x).map (imp g))) with ks := s.ks ++ (outsL s.ks.length s.heap.length sig.outs).2.2, heap := s.heap ++ (outsL s.ks.length s.heap.length sig.outs).2.1.map (guarded g') } :=
                ⟨⟨δ, rfl⟩, ⟨_, rfl⟩, by simp, fun k b _ hb => hx k b hb⟩
              exact (hl.put _ _).with _
            rw [hw]
            cases hgB : g.B ρ
            · -- passed over
              simp only [Bool.false_eq_true, if_false]
              let bs : List BI := List.replicate (outsL s.ks.length s.heap.length sig.outs).2.1.length ⟨⟨none, 0, 0, fun _ => none, fun _ => 0, fun _ => 0⟩, noOwn⟩
              have hm3 := m2.many (w' := w) (es := (outsL s.ks.length s.heap.length sig.outs).2.1.map (guarded g')) (bs := bs) (os := []) (Below.refl _ _) (by simp [bs])
                ⟨fun j b r hb ho => (by rw [repl_get hb] at ho; cases ho), fun _ j j' b b' r hb _ ho _ => (by rw [repl_get hb] at ho; cases ho), fun r h => (by cases h)⟩ List.nodup_nil
                (fun j e b he hb => by
                  simp only [List.getElem?_map, Option.map_eq_some_iff] at he
                  obtain ⟨e0, _, rfl⟩ := he
                  intro hgt
                  simp only [guarded] at hgt
                  rw [hgg, hgB] at hgt; cases hgt)
              refine hon _ _ w Go.undef hm3 (app_ext bs m.top) ⟨fun h => ?_, fun _ => rfl⟩
              rw [hgg, hgB] at h; cases h
            · -- carried out
              simp only [if_true]
              have hf := m.facts
              have hrel := val_rel hf hgB m.glob (opd_of_fr fr f) hv
              obtain ⟨us1, us2, hfe, hr1, hr2⟩ := hrel
              have hrv := vals_rel (C := C) (s := s) (a := a) hf hgB m.glob hvs (fun x _ => opd_of_fr fr x)
              have hall := ((caps_relL hr1).append hrv).append (caps_relL hr2)
              obtain ⟨hmeets, fn, hfn, hbody, hname⟩ := hΓ fid sig hsig
              have hneeds := needs_guard hf hgB hnd
              obtain ⟨hxl, hrd⟩ := argsL_sound hf hgB (fun k e bi hk hb => m.heap k e bi hk hb) hxs hneeds hall
              have hcall := hmeets _ _ w m.below hrd (hpre (by simpa [X.B] using hgB))
              unfold Oper.wp
              rw [run_call ho hfe hfn hbody hname, Oper.upon_enter]
              refine hcall.mono fun e w' he => ?_
              obtain ⟨v, rfl, hb, us, os, rfl, hgv, hnod⟩ := he
              -- the results' variables
              have hpc : Piece (ρ ++ (Γ fid).out (fixL (insKs sig.ins) (xs.map (X.den ρ)))) s.ks.length ((Γ fid).out (fixL (insKs sig.ins) (xs.map (X.den ρ)))) := fun i v hv => by
                rw [← m.kt.1, List.getD_eq_getElem?_getD, List.getElem?_append_right (by omega)]
                simp [hv]
              obtain ⟨bs, _, hfx, hel, hnw, hok, hrl⟩ := outsL_sound (w := w') (N := w.heap.size) s.ks.length s.heap.length hgv hpc
              have hdd : δ = (Γ fid).out (fixL (insKs sig.ins) (xs.map (X.den ρ))) := by rw [← hdl]; exact hfx
              rw [← hdd] at hok hrl
              have hm3 := m2.many (w' := w') (es := (outsL s.ks.length s.heap.length sig.outs).2.1.map (guarded g')) (bs := bs) (os := os) hb (by simpa using hel) hnw hnod
                (fun j e b he hb => by
                  simp only [List.getElem?_map, Option.map_eq_some_iff] at he
                  obtain ⟨e0, he0, rfl⟩ := he
                  exact hok j e0 b he0 hb g' _ _ (app_maps _ _ _))
              refine hon _ _ w' _ hm3 (app_ext bs m.top) ⟨fun _ => ?_, fun h => ?_⟩
              · exact retV_rel (hrl _ (app_maps _ _ _)) (fun _ => trivial)
              · rw [hgg, hgB] at h; cases h
          · cases hq
        · cases hq
      · cases hq
    · cases hq
  · cases hq
end
end
end Go.Proofs.Ytpbpmabnmakdoaa.Vc
/- The symbolic executor: stores. -/
namespace Go.Proofs.Ytpbpmabnmakdoaa.Vc
noncomputable section
open Go Go.RowKit
variable {ρ ρ' : List AV} {β β' : Mp} {W W' : Nat → Prop} {w w' : World} {P : Program} {C : Cfg} {B : Nat} {w0 : World}

/-- only block r was written -/
structure But (r : Nat) (w w' : World) : Prop where
  size : w.heap.size ≤ w'.heap.size
  cell : ∀ p v, w.cell? p = some v → p.block ≠ r → w'.cell? p = some v
  froz : ∀ p v, w.cell? p = some v → w.frozen? p = false → w'.frozen? p = false
theorem cellOk.but {r : Nat} (h : But r w w') {own : Bool} {p : Addr} {v : Value} (hc : cellOk w own p v) (hp : p.block ≠ r) : cellOk w' own p v := ⟨h.cell _ _ hc.1 hp, fun ho => h.froz _ _ hc.1 (hc.2 ho)⟩
theorem place.but {r : Nat} (h : But r w w') {own : Bool} {b : BI} {p : Addr} (hp : place w W own b p) (hr : p.block ≠ r) : place w' W own b p := by
  obtain ⟨h1, h2, h3⟩ := hp
  refine ⟨Nat.lt_of_lt_of_le h1 h.size, fun ho => ?_, h3⟩
  obtain ⟨a, c, d⟩ := h2 ho
  refine ⟨a, c, fun j hj => ?_⟩
  obtain ⟨v, e, f⟩ := d j hj
  exact ⟨v, h.cell _ _ e hr, h.froz _ _ e f⟩
theorem rowOk.but {r : Nat} (h : But r w w') (hW : W r) {own : Bool} {b : BI} (ho : ¬ b.own r) {sh : List FK} {i len : Int} {f : Int → Nat → Int} (hr : rowOk w W own b sh i len f) : rowOk w' W own b sh i len f := by
  obtain ⟨h0, h1, h2, h3, h4, h5⟩ := hr
  refine ⟨h0, h1, h2, h3, h4, ?_⟩
  rcases h5 with h5 | h5 | ⟨q, a1, a2, a3, a4, a5⟩
  · exact .inl h5
  · exact .inr (.inl h5)
  · have hne : q.block ≠ r := fun hq => by
      cases own with
      | true => exact ho (by rw [← hq]; exact (a3 rfl).2.1)
      | false => exact a4 rfl (by rw [hq]; exact hW)
    refine .inr (.inr ⟨q, a1, Nat.lt_of_lt_of_le a2 h.size, fun hh => ?_, a4, fun j g k b1 b2 b3 => (a5 j g k b1 b2 b3).but h (by rw [add_block]; exact hne)⟩)
    obtain ⟨c1, c2, c3⟩ := a3 hh
    refine ⟨c1, c2, fun j hj => ?_⟩
    obtain ⟨v, d1, d2⟩ := c3 j hj
    exact ⟨v, h.cell _ _ d1 hne, h.froz _ _ d1 d2⟩
theorem EOk.but {r : Nat} (h : But r w w') (hW : W r) {b : BI} {e : HE} (ho : ¬ b.own r) (he : EOk ρ β W w b e) : EOk ρ β W w' b e := by
  have hpl : ∀ own p, place w W own b p → p.block ≠ r := fun own p hp hr => by
    cases own with
    | true => exact ho (by rw [← hr]; exact (hp.2.1 rfl).2.1)
    | false => exact hp.2.2 rfl (by rw [hr]; exact hW)
  unfold EOk at *
  intro hgt
  replace he := he hgt
  split
  · trivial
  · rename_i l hl
    simp only [hl] at he
    obtain ⟨p, h1, h2, h3⟩ := he
    refine ⟨p, h1, h2.but h (hpl _ _ h2), fun j c hj => ?_⟩
    obtain ⟨v, h4, h5⟩ := h3 j c hj
    exact ⟨v, h4.but h (by rw [add_block]; exact hpl _ _ h2), h5⟩
  · rename_i sh a n hl
    simp only [hl] at he
    obtain ⟨h0, h00, hs, h1⟩ := he
    refine ⟨h0, h00, hs, ?_⟩
    rcases h1 with h1 | h1 | ⟨p, h1, h2, h3, h4⟩
    · exact .inl h1
    · exact .inr (.inl h1)
    · exact .inr (.inr ⟨p, h1, h2.but h (hpl _ _ h2), h3, fun i f k a1 a2 a3 => (h4 i f k a1 a2 a3).but h (by rw [add_block]; exact hpl _ _ h2)⟩)
  · rename_i sh m n hl
    simp only [hl] at he
    obtain ⟨h0, h00, h1⟩ := he
    refine ⟨h0, h00, ?_⟩
    rcases h1 with h1 | ⟨p, h1, h2, h3⟩
    · exact .inl h1
    · refine .inr ⟨p, h1, h2.but h (hpl _ _ h2), fun i a1 a2 => ?_⟩
      obtain ⟨b1, b2, b3, b4, b5, b6⟩ := h3 i a1 a2
      refine ⟨b1, b2, b3, b4, h.cell _ _ b5 (by rw [add_block]; exact hpl _ _ h2), ?_⟩
      rcases b6 with b6 | ⟨q, c1, c2, c3, c4⟩
      · exact .inl b6
      · exact .inr ⟨q, c1, Nat.lt_of_lt_of_le c2 h.size, c3, fun j f k d1 d2 d3 => h.cell _ _ (c4 j f k d1 d2 d3) (by rw [add_block]; intro hq; rw [hq] at c3; exact c3 hW)⟩
  · rename_i sh kr n hl
    simp only [hl] at he
    obtain ⟨h0, h00, hs, h1⟩ := he
    refine ⟨h0, h00, hs, ?_⟩
    rcases h1 with h1 | ⟨p, h1, h2, h3, h4⟩
    · exact .inl h1
    · refine .inr ⟨p, h1, h2.but h (hpl _ _ h2), h3, fun i a1 a2 => ?_⟩
      obtain ⟨br, b1, b2⟩ := h4 i a1 a2
      exact ⟨br, b1, b2.but h (by rw [add_block]; exact hpl _ _ h2)⟩
  · rename_i sh m n hl
    simp only [hl] at he
    exact ⟨fun i a1 a2 a3 => (he.1 i a1 a2 a3).but h hW ho, he.2⟩
  · rename_i sh m n i hl
    simp only [hl] at he
    exact ⟨fun i a1 a2 a3 => (he.1 i a1 a2 a3).but h hW ho, he.2⟩
theorem size_setCells (b : Nat) : ∀ (vs : List Value) (o : Nat) (w : World), (w.setCells b o vs).heap.size = w.heap.size
  | [], _, _ => rfl
  | v :: vs, o, w => by rw [World.setCells, size_setCells b vs]; simp [World.setCell]
theorem but_setCells (w : World) (r o : Nat) (vs : List Value) : But r w (w.setCells r o vs) :=
  ⟨by rw [size_setCells]; exact Nat.le_refl _, fun p v h hp => by rw [World.cell?_setCells_out r vs o w p (fun h' => absurd h' hp)]; exact h, fun p v h hf => by rw [World.frozen?_setCells]; exact hf⟩
theorem below_setCells (w : World) (r : Nat) {B : Nat} (hB : B ≤ r) : ∀ (vs : List Value) (o : Nat) (w : World), Below B w (w.setCells r o vs)
  | [], _, w => Below.refl _ _
  | v :: vs, o, w => by rw [World.setCells]; exact ((Below.refl _ _).setCell (p := ⟨r, o, none⟩) hB v).trans (below_setCells w r hB vs (o + 1) _)
theorem one_of_rel {c : Sc} {v : Value} (h : c.rel ρ β v) : v.oneCell' = true := by
  cases c with
  | c s => cases s <;> simp only [Sc.rel, Sc0.rel] at h <;> first | (subst h; rfl) | (obtain ⟨p, c, _, _, rfl⟩ := h; rfl) | (obtain ⟨p, c, q, r, _, rfl, _⟩ := h; rfl)
  | fn f a b => obtain ⟨vs, ws, rfl, _⟩ := h; rfl
  | nilf => simp only [Sc.rel] at h; subst h; rfl
theorem all_one {cs : List Sc} {vs : List Value} (h : RelL (Sc.rel ρ β) cs vs) : ∀ v ∈ vs, v.oneCell' = true := by
  intro v hv
  obtain ⟨j, hj, rfl⟩ := List.getElem_of_mem hv
  obtain ⟨y, hy, hr⟩ := h.get j (cs[j]'(by rw [h.length]; exact hj)) (List.getElem?_eq_getElem _)
  obtain rfl := Option.some.inj (hy.symm.trans (List.getElem?_eq_getElem hj))
  exact one_of_rel hr
theorem mergeSc_rel {e : X} {v c r : Sc} (h : mergeSc e v c = some r) {u : Value} : (e.B ρ = true → v.rel ρ β u → r.rel ρ β u) ∧ (e.B ρ = false → c.rel ρ β u → r.rel ρ β u) := by
  unfold mergeSc at h
  split at h
  · rename_i hvc
    obtain rfl := Option.some.inj h
    exact ⟨fun _ hr => by rw [← hvc]; exact hr, fun _ hr => hr⟩
  · split at h
    · split at h
      · rename_i k x k' y hk
        subst hk
        obtain rfl := Option.some.inj h
        refine ⟨fun he hr => ?_, fun he hr => ?_⟩
        · show u = _
          rw [xite, he, if_pos rfl]; exact hr
        · show u = _
          rw [xite, he, if_neg (by simp)]; exact hr
      · cases h
    · rename_i x y
      obtain rfl := Option.some.inj h
      refine ⟨fun he hr => ?_, fun he hr => ?_⟩
      · show u = _
        rw [xitb, he, if_pos rfl]; exact hr
      · show u = _
        rw [xitb, he, if_neg (by simp)]; exact hr
    · cases h
/-- a store into literal cells -/
theorem store_cells {bi : BI} {l l' : List Sc} {c : Nat} (he : EOk ρ β W w bi (ent true (.cells l))) {p : Addr} (hp : bi.v.addr = some p) {vs : List Value} (hle : c + vs.length ≤ l.length)
    (hin0 : ∀ j cc u, l'[j]? = some cc → c ≤ j → vs[j - c]? = some u → cc.rel ρ β u) (hout : ∀ j cc, l'[j]? = some cc → ¬ (c ≤ j ∧ j < c + vs.length) → ∃ c0, l[j]? = some c0 ∧ ∀ u, c0.rel ρ β u → cc.rel ρ β u) :
    p = ⟨p.block, 0, none⟩ ∧ bi.own p.block ∧ (∀ j, j < vs.length → (w.cell? ⟨p.block, c + j, none⟩).isSome = true) ∧ (∀ j, j < vs.length → w.frozen? ⟨p.block, c + j, none⟩ = false) ∧
      EOk ρ β W (w.setCells p.block c vs) bi (ent true (.cells l')) := by
  have he := he rfl
  obtain ⟨q, h1, h2, h3⟩ := he
  obtain rfl : p = q := by rw [hp] at h1; exact Option.some.inj h1
  obtain ⟨hpe, hown, hroom⟩ := h2.2.1 rfl
  have hcell : ∀ j, j < l.length → ∃ v, w.cell? ⟨p.block, j, none⟩ = some v ∧ w.frozen? ⟨p.block, j, none⟩ = false := fun j hj => by
    obtain ⟨v, h4, _⟩ := h3 j _ (List.getElem?_eq_getElem hj)
    rw [hpe, add0] at h4
    exact ⟨v, h4.1, h4.2 rfl⟩
  have hin : ∀ j, j < vs.length → (w.cell? ⟨p.block, c + j, none⟩).isSome = true := fun j hj => by
    obtain ⟨v, hv, _⟩ := hcell (c + j) (by omega)
    rw [hv]; rfl
  refine ⟨hpe, hown, hin, fun j hj => by obtain ⟨v, _, hv⟩ := hcell (c + j) (by omega); exact hv, fun _ => ?_⟩
  refine ⟨p, hp, ⟨by rw [size_setCells]; exact h2.1, fun _ => ⟨hpe, hown, fun j hj => ?_⟩, fun hh => by cases hh⟩, fun j cc hj => ?_⟩
  · obtain ⟨v, hv1, hv2⟩ := hroom j hj
    rw [World.frozen?_setCells]
    by_cases hb : c ≤ j ∧ j < c + vs.length
    · have := World.cell?_setCells_in p.block vs c w hin (j - c) (by omega)
      rw [show c + (j - c) = j by omega] at this
      exact ⟨_, this, hv2⟩
    · rw [World.cell?_setCells_out p.block vs c w _ (fun _ _ => by simp; omega)]
      exact ⟨v, hv1, hv2⟩
  · rw [hpe, add0]
    by_cases hb : c ≤ j ∧ j < c + vs.length
    · have hin' := World.cell?_setCells_in p.block vs c w hin (j - c) (by omega)
      rw [show c + (j - c) = j by omega] at hin'
      refine ⟨_, ⟨hin', fun _ => ?_⟩, hin0 j cc _ hj hb.1 (List.getElem?_eq_getElem _)⟩
      rw [World.frozen?_setCells]
      obtain ⟨v, _, hv⟩ := hcell j (by omega)
      exact hv
    · obtain ⟨c0, hlj, himp⟩ := hout j cc hj hb
      obtain ⟨v, h4, h5⟩ := h3 j c0 hlj
      rw [hpe, add0] at h4
      refine ⟨v, ⟨?_, fun _ => ?_⟩, himp v h5⟩
      · rw [World.cell?_setCells_out p.block vs c w _ (fun _ _ => by simp; omega)]; exact h4.1
      · rw [World.frozen?_setCells]; exact h4.2 rfl
/-- the entry behind a store: where it lies, what was there, what is there -/
theorem store_body {bi : BI} {bd bd' : Body} {sz : Nat} {i : X} {f : Nat} {cs : List Sc} {nd : List X} (h : bd.store sz i f cs = some (nd, bd')) (hnd : ∀ x ∈ nd, x.B ρ = true) (he : EOk ρ β W w bi (ent true bd)) {p : Addr} (hp : bi.v.addr = some p) (hi : 0 ≤ i.I ρ)
    {vs : List Value} (hvs : RelL (Sc.rel ρ β) cs vs) (hne : vs ≠ []) :
    p = ⟨p.block, 0, none⟩ ∧ bi.own p.block ∧ (∀ j, j < vs.length → (w.cell? ⟨p.block, (i.I ρ).toNat * sz + f + j, none⟩).isSome = true) ∧ (∀ j, j < vs.length → w.frozen? ⟨p.block, (i.I ρ).toNat * sz + f + j, none⟩ = false) ∧
      EOk ρ β W (w.setCells p.block ((i.I ρ).toNat * sz + f) vs) bi (ent true bd') := by
  have he0 := he
  have he := he rfl
  have hlen := hvs.length
  cases bd with
  | cells l =>
    simp only [Body.store] at h
    split at h
    · rename_i c hc
      rw [storeC_eq] at h
      split at h
      · rename_i hle
        obtain ⟨rfl, rfl⟩ := Prod.mk.inj (Option.some.inj h)
        obtain ⟨hcI, _⟩ := constOff_I (ρ := ρ) hc
        obtain ⟨q, h1, h2, h3⟩ := he
        obtain rfl : p = q := by rw [hp] at h1; exact Option.some.inj h1
        obtain ⟨hpe, hown, hroom⟩ := h2.2.1 rfl
        have hcell : ∀ j, j < l.length → ∃ v, w.cell? ⟨p.block, j, none⟩ = some v ∧ w.frozen? ⟨p.block, j, none⟩ = false ∧ (l[j]?).all (fun c => True) := fun j hj => by
          obtain ⟨v, h4, _⟩ := h3 j _ (List.getElem?_eq_getElem hj)
          rw [hpe, add0] at h4
          exact ⟨v, h4.1, h4.2 rfl, by simp⟩
        rw [← hcI]
        have hin : ∀ j, j < vs.length → (w.cell? ⟨p.block, c + j, none⟩).isSome = true := fun j hj => by
          obtain ⟨v, hv, _⟩ := hcell (c + j) (by omega)
          rw [hv]; rfl
        refine ⟨hpe, hown, hin, fun j hj => by obtain ⟨v, _, hv, _⟩ := hcell (c + j) (by omega); exact hv, fun _ => ?_⟩
        refine ⟨p, hp, ⟨by rw [size_setCells]; exact h2.1, fun _ => ⟨hpe, hown, fun j hj => ?_⟩, fun hh => by cases hh⟩, fun j cc hj => ?_⟩
        · obtain ⟨v, hv1, hv2⟩ := hroom j hj
          rw [World.frozen?_setCells]
          by_cases hb : c ≤ j ∧ j < c + vs.length
          · have := World.cell?_setCells_in p.block vs c w hin (j - c) (by omega)
            rw [show c + (j - c) = j by omega] at this
            exact ⟨_, this, hv2⟩
          · rw [World.cell?_setCells_out p.block vs c w _ (fun _ _ => by simp; omega)]
            exact ⟨v, hv1, hv2⟩
        · unfold setCells at hj
          rw [hpe, add0]
          by_cases hb : c ≤ j ∧ j < c + vs.length
          · have hin' := World.cell?_setCells_in p.block vs c w hin (j - c) (by omega)
            rw [show c + (j - c) = j by omega] at hin'
            have hcs : cs[j - c]? = some cc := by
              rw [List.append_assoc, List.getElem?_append_right (by simp; omega), List.getElem?_append_left (by simp; omega)] at hj
              rw [← hj]; congr 1; simp; omega
            obtain ⟨u, hu, hr⟩ := hvs.get _ _ hcs
            have : vs[j - c]'(by omega) = u := by rw [List.getElem?_eq_getElem (by omega)] at hu; exact Option.some.inj hu
            refine ⟨u, ⟨by rw [hin', this], fun _ => ?_⟩, hr⟩
            rw [World.frozen?_setCells]
            obtain ⟨v, _, hv, _⟩ := hcell j (by omega)
            exact hv
          · have hlj : l[j]? = some cc := by
              by_cases hb1 : j < c
              · rw [List.append_assoc, List.getElem?_append_left (by simp; omega), List.getElem?_take, if_pos hb1] at hj
                exact hj
              · rw [List.getElem?_append_right (by simp; omega), List.getElem?_drop] at hj
                rw [← hj]; congr 1; simp; omega
            obtain ⟨v, h4, h5⟩ := h3 j cc hlj
            rw [hpe, add0] at h4
            refine ⟨v, ⟨?_, fun _ => ?_⟩, h5⟩
            · rw [World.cell?_setCells_out p.block vs c w _ (fun _ _ => by simp; omega)]; exact h4.1
            · rw [World.frozen?_setCells]; exact h4.2 rfl
      · cases h
    · split at h
      · rename_i hc
        obtain ⟨c1, c2, c3⟩ := hc
        simp only [Option.map_eq_some_iff] at h
        obtain ⟨l', hl', h2⟩ := h
        obtain ⟨rfl, rfl⟩ := Prod.mk.inj h2
        have n2 := lt_of (hnd (xb .lt i (.lit ((l.length - f - cs.length) / sz + 1 : Nat))) (by simp))
        rw [lit_I] at n2
        obtain ⟨m, hm⟩ := Int.eq_ofNat_of_zero_le hi
        have hmt : (i.I ρ).toNat = m := by omega
        rw [hmt]
        have hms : m * sz ≤ l.length - f - cs.length := by
          have h1 : m ≤ (l.length - f - cs.length) / sz := by omega
          exact Nat.le_trans (Nat.mul_le_mul_right sz h1) (Nat.div_mul_le_self _ _)
        have hget := mapOpt_get hl'
        have key : ∀ j cc, l'[j]? = some cc → ∃ c0, l[j]? = some c0 ∧ putSel sz f i cs (c0, j) = some cc := fun j cc hj => by
          have hjl : j < l.length := by
            have := (List.getElem?_eq_some_iff.1 hj).1
            rw [hget.1] at this; simpa using this
          obtain ⟨y, hy1, hy2⟩ := hget.2 j (l[j], j) (by simp [hjl])
          obtain rfl := Option.some.inj (hy1.symm.trans hj)
          exact ⟨l[j], List.getElem?_eq_getElem hjl, hy2⟩
        refine store_cells he0 hp (by omega) (fun j cc u hj hcj hu => ?_) (fun j cc hj hb => ?_)
        · obtain ⟨c0, hc0, hput⟩ := key j cc hj
          have hjv : j - (m * sz + f) < vs.length := (List.getElem?_eq_some_iff.1 hu).1
          have hdm : (j - f) % sz = j - (m * sz + f) ∧ (j - f) / sz = m := by
            have : j - f = (j - (m * sz + f)) + sz * m := by rw [Nat.mul_comm sz m]; omega
            rw [this, Nat.add_mul_mod_self_left, Nat.add_mul_div_left _ _ (by omega), Nat.mod_eq_of_lt (by omega), Nat.div_eq_of_lt (by omega)]
            exact ⟨rfl, by omega⟩
          simp only [putSel] at hput
          rw [if_pos (by omega), hdm.1, hdm.2] at hput
          obtain ⟨u', hu', hr⟩ := hvs.get (j - (m * sz + f)) (cs[j - (m * sz + f)]'(by omega)) (List.getElem?_eq_getElem _)
          obtain rfl := Option.some.inj (hu'.symm.trans hu)
          rw [List.getElem?_eq_getElem (by omega)] at hput
          exact (mergeSc_rel hput).1 (by rw [xeq, lit_I, hm]; simp) hr
        · obtain ⟨c0, hc0, hput⟩ := key j cc hj
          refine ⟨c0, hc0, fun u hr => ?_⟩
          simp only [putSel] at hput
          split at hput
          · rename_i hfj
            split at hput
            · rename_i v hv
              refine (mergeSc_rel hput).2 ?_ hr
              have hjv : (j - f) % sz < cs.length := (List.getElem?_eq_some_iff.1 hv).1
              rw [xeq, lit_I, hm]
              simp only [decide_eq_false_iff_not]
              intro hh
              have hh : m = (j - f) / sz := by exact_mod_cast hh
              have hd := Nat.div_add_mod (j - f) sz
              rw [← hh, Nat.mul_comm] at hd
              omega
            · obtain rfl := Option.some.inj hput
              exact hr
          · obtain rfl := Option.some.inj hput
            exact hr
      · cases h
  | arr sh a m =>
    simp only [Body.store] at h
    split at h
    · rename_i hc
      obtain ⟨rfl, hfl⟩ := hc
      simp only [Option.map_eq_some_iff] at h
      obtain ⟨a', ha, h2⟩ := h
      obtain ⟨rfl, rfl⟩ := Prod.mk.inj h2
      have n2 := lt_of (hnd (xb .lt i m) (by simp))
      obtain ⟨h0, h00, hs, h1⟩ := he
      obtain ⟨s1, s2⟩ := setAll_sound (ρ := ρ) (β := β) ha
      rcases h1 with ⟨h1, _⟩ | ⟨h1, _⟩ | ⟨q, h1, h2, h3, h4⟩
      · omega
      · omega
      · obtain rfl : p = q := by rw [hp] at h1; exact Option.some.inj h1
        obtain ⟨hpe, hown, hroom⟩ := h2.2.1 rfl
        have hpos : 0 < vs.length := List.length_pos_iff.2 hne
        have hidx : (i.I ρ).toNat * sh.length + f + vs.length ≤ bi.v.cap * bi.v.sz := by
          rw [hs]
          have : (i.I ρ).toNat + 1 ≤ bi.v.cap := by omega
          have := Nat.mul_le_mul_right sh.length this
          rw [Nat.add_mul] at this
          omega
        have hin : ∀ j, j < vs.length → (w.cell? ⟨p.block, (i.I ρ).toNat * sh.length + f + j, none⟩).isSome = true := fun j hj => by
          obtain ⟨v, hv, _⟩ := hroom _ (show (i.I ρ).toNat * sh.length + f + j < bi.v.cap * bi.v.sz by omega)
          rw [hv]; rfl
        refine ⟨hpe, hown, hin, fun j hj => by obtain ⟨v, _, hv⟩ := hroom _ (show (i.I ρ).toNat * sh.length + f + j < bi.v.cap * bi.v.sz by omega); exact hv, fun _ => ⟨h0, h00, hs, .inr (.inr ⟨p, hp, ⟨by rw [size_setCells]; exact h2.1, fun _ => ⟨hpe, hown, fun j hj => ?_⟩, fun hh => by cases hh⟩, h3, fun r g k r0 r1 hk => ?_⟩)⟩⟩
        · obtain ⟨v, hv1, hv2⟩ := hroom j hj
          rw [World.frozen?_setCells]
          by_cases hb : (i.I ρ).toNat * sh.length + f ≤ j ∧ j < (i.I ρ).toNat * sh.length + f + vs.length
          · have := World.cell?_setCells_in p.block vs _ w hin (j - ((i.I ρ).toNat * sh.length + f)) (by omega)
            rw [show (i.I ρ).toNat * sh.length + f + (j - ((i.I ρ).toNat * sh.length + f)) = j by omega] at this
            exact ⟨_, this, hv2⟩
          · rw [World.cell?_setCells_out p.block vs _ w _ (fun _ _ => by simp; omega)]
            exact ⟨v, hv1, hv2⟩
        · have hgl : g < sh.length := (List.getElem?_eq_some_iff.1 hk).1
          have hold := h4 r g k r0 r1 hk
          rw [hpe, add0] at hold ⊢
          by_cases hb : r = i.I ρ ∧ f ≤ g ∧ g < f + cs.length
          · obtain ⟨rfl, hb1, hb2⟩ := hb
            have hin' := World.cell?_setCells_in p.block vs _ w hin (g - f) (by omega)
            rw [show (i.I ρ).toNat * sh.length + f + (g - f) = (i.I ρ).toNat * sh.length + g by omega] at hin'
            obtain ⟨k', hk', hv'⟩ := s2 (g - f) cs[g - f] (List.getElem?_eq_getElem (by omega))
            rw [show f + (g - f) = g by omega] at hk' hv'
            obtain rfl := Option.some.inj (hk'.symm.trans hk)
            obtain ⟨u, hu, hr⟩ := hvs.get _ _ (List.getElem?_eq_getElem (show g - f < cs.length by omega))
            have : vs[g - f]'(by omega) = u := by rw [List.getElem?_eq_getElem (by omega)] at hu; exact Option.some.inj hu
            refine ⟨by rw [hin', this, hv' u hr], fun _ => ?_⟩
            rw [World.frozen?_setCells]; exact hold.2 rfl
          · rw [s1 r g hb]
            refine ⟨?_, fun _ => by rw [World.frozen?_setCells]; exact hold.2 rfl⟩
            rw [World.cell?_setCells_out p.block vs _ w _ (fun _ _ => ?_)]
            · exact hold.1
            · simp only
              by_cases hri : r = i.I ρ
              · subst hri
                by_cases hgf : g < f
                · left; omega
                · right; have : ¬ g < f + cs.length := fun hh => hb ⟨rfl, by omega, hh⟩; omega
              · rcases Int.lt_or_gt_of_ne hri with hlt | hgt
                · left
                  have : r.toNat + 1 ≤ (i.I ρ).toNat := by omega
                  have := Nat.mul_le_mul_right sh.length this
                  rw [Nat.add_mul] at this
                  omega
                · right
                  have : (i.I ρ).toNat + 1 ≤ r.toNat := by omega
                  have := Nat.mul_le_mul_right sh.length this
                  rw [Nat.add_mul] at this
                  omega
    · cases h
  | _ => simp [Body.store] at h
end
end Go.Proofs.Ytpbpmabnmakdoaa.Vc
/- The symbolic executor: a step that writes, carried through. -/
namespace Go.Proofs.Ytpbpmabnmakdoaa.Vc
noncomputable section
open Go Go.RowKit
variable {ρ ρ' : List AV} {β β' : Mp} {W W' : Nat → Prop} {w w' : World} {P : Program} {C : Cfg} {B : Nat} {w0 : World}

theorem storeVar_run {t : TypeId} {d : TD} (h : TOk P t d) {p : Addr} {v : Value} (hsz : v.cells.size = d.size) {o : Nat} (hp : p = ⟨p.block, o, none⟩)
    (hc : ∀ j, j < v.cells.toList.length → (w.cell? ⟨p.block, o + j, none⟩).isSome = true) (hf : ∀ j, j < v.cells.toList.length → w.frozen? ⟨p.block, o + j, none⟩ = false) (h1 : ∀ u ∈ v.cells.toList, u.oneCell' = true) :
    (storeVar t p v).run P w = .ok () (w.setCells p.block o v.cells.toList) := by
  unfold storeVar
  simp only [Sem.run_bind, sizeOf_run h, Result.andThen_ok]
  rw [if_neg (by simp [hsz])]
  have := run_storeCells_cells (P := P) p.block o v.cells.toList 0 w (by simpa using hc) (by simpa using hf) h1
  rw [hp]
  simpa using this
section
variable {Γ : FuncId → Con} {Qd : List AV → Prop} {ctx : List (List AV → Prop)} {s : S} {a : Act} {ops : Array Oper} {o : Oper} {K : S → Tree} {K' : Act → World → Prop} {Q : Exit → Act → World → Prop}
/-- the memory behind a write to one of our own blocks -/
theorem Mem.write {k : Nat} {e : HE} {bi : BI} {r : Nat} {bd : Body} (m : Mem C B w0 ρ β W s w) (hk : s.heap[k]? = some e) (hb : β k = some bi) (ho : bi.own r) (hbut : But r w w') (hbel : Below B w w') (hsz : w'.heap.size = w.heap.size)
    (he : EOk ρ β W w' bi (ent true bd)) : Mem C B w0 ρ β W (s.setBody k bd) w' := by
  have hW := m.own k bi r hb ho
  have hkl : k < s.heap.length := (List.getElem?_eq_some_iff.1 hk).1
  refine ⟨⟨m.below.trans hbel, by rw [hsz]; exact m.size, fun r hr => by rw [hsz]; exact m.wlo r hr, fun k' e' b' hk' hb' => ?_, m.dist, m.own, m.glob⟩, fun k' hk' => m.all k' (by simpa [S.setBody, setF_eq] using hk'), fun k' hk' => m.top k' (by simpa [S.setBody, setF_eq] using hk'), m.facts, m.kt⟩
  simp only [S.H, S.setBody, setF_eq, List.getElem?_set] at hk'
  split at hk'
  · rename_i heq
    subst heq
    obtain rfl := Option.some.inj hk'
    obtain rfl := Option.some.inj (hb'.symm.trans hb)
    exact he
  · rename_i hne
    refine (m.heap k' e' b' hk' hb').but hbut hW (fun ho' => hne ?_)
    exact (m.dist k' k b' bi r hb' hb ho' ho).symm
theorem PMem.write {H : Nat → Option HE} {k : Nat} {bi : BI} {r : Nat} {bd : Body} (m : PMem C B w0 ρ β W H w) (hb : β k = some bi) (ho : bi.own r) (hbut : But r w w') (hbel : Below B w w') (hsz : w'.heap.size = w.heap.size)
    (he : EOk ρ β W w' bi (ent true bd)) : PMem C B w0 ρ β W (fun j => if j = k then some (ent true bd) else H j) w' := by
  have hW := m.own k bi r hb ho
  refine ⟨m.below.trans hbel, by rw [hsz]; exact m.size, fun r hr => by rw [hsz]; exact m.wlo r hr, fun k' e' b' hk' hb' => ?_, m.dist, m.own, m.glob⟩
  split at hk'
  · rename_i heq
    subst heq
    obtain rfl := Option.some.inj hk'
    obtain rfl := Option.some.inj (hb'.symm.trans hb)
    exact he
  · rename_i hne
    refine (m.heap k' e' b' hk' hb').but hbut hW (fun ho' => hne ?_)
    exact m.dist k' k b' bi r hb' hb ho' ho
/-- the memory is asked of those entries alone that are known -/
theorem PMem.congr {H H' : Nat → Option HE} (m : PMem C B w0 ρ β W H w) (h : ∀ k b, β k = some b → H' k = H k) : PMem C B w0 ρ β W H' w :=
  ⟨m.below, m.size, m.wlo, fun k e b hk hb => m.heap k e b (by rw [← h k b hb]; exact hk) hb, m.dist, m.own, m.glob⟩
theorem setBody_tmps (s : S) (k : Nat) (b : Body) : (s.setBody k b).tmps = s.tmps := rfl
theorem store_any (hC : C.Ok P) {t : TypeId} {p x : Operand} (ho : o.op = .store t p x) {nd : List X} {s' : S} (hq : estep C s o = some (nd, s')) {H : Nat → Option HE} (m : PMem C B w0 ρ β W H w) (hf : s.factsOk ρ)
    (hh : ∀ k e b, s.heap[k]? = some e → β k = some b → EOk ρ β W w b e) (hop : ∀ x ∈ o.op.operands.toList, OpdOk ρ β s a x) (hnd : ∀ x ∈ nd, x.B ρ = true) :
    Region.wanted o (yielded ops a.tmps) = true ∧ ∃ w' k bd, (execOp a.eval o).run P w = .ok .skip w' ∧ s' = (s.setBody k bd).put o.dst ⟨.bl true, .undef⟩ ∧ (∃ e, s.heap[k]? = some e ∧ e.body ≠ .gone) ∧ PMem C B w0 ρ β W (fun j => if j = k then some (ent true bd) else H j) w' := by
  unfold estep at hq
  split at hq
  · cases hq
  · rename_i hgd
    have hgd' : o.guard = none := by simpa using hgd
    refine ⟨by simp [Region.wanted, hgd'], ?_⟩
    rw [ho] at hop
    simp only [ho] at hq
    split at hq
    · rename_i b sz i f v d hp hx hd
      split at hq
      · rename_i hlen
        split at hq
        · rename_i nd' s1 hs
          obtain ⟨rfl, rfl⟩ := Prod.mk.inj (Option.some.inj hq)
          have tt : (X.bl true).B ρ = true := rfl
          obtain ⟨q, c, hat, hi, hpe⟩ := val_rel hf tt m.glob (hop p (by simp [Op.operands])) hp
          have hxr := val_rel hf tt m.glob (hop x (by simp [Op.operands])) hx
          obtain ⟨hl, hcs⟩ := cells_len (β := β) hxr
          cases b with
          | row _ _ => simp [S.storeAt] at hs
          | blk k =>
            simp only [S.storeAt] at hs
            split at hs
            · rename_i bd eg hk
              obtain ⟨hk, hgt⟩ := body_sound hf tt hk
              simp only [Option.map_eq_some_iff] at hs
              obtain ⟨⟨nd2, bd'⟩, hst, h2⟩ := hs
              obtain ⟨rfl, rfl⟩ := Prod.mk.inj h2
              simp only [SB.at, Option.map_eq_some_iff] at hat
              obtain ⟨bi, hb, he⟩ := hat
              obtain ⟨hadr, _⟩ := Prod.mk.inj he
              have hE : EOk ρ β W w bi (ent true bd) := fun _ => (hh k ⟨true, bd, eg⟩ bi hk hb) hgt
              have hne : (a.eval x).cells.toList ≠ [] := fun h => by
                have h0 : (a.eval x).cells.size = 0 := by have := congrArg List.length h; simpa using this
                omega
              obtain ⟨s1, s2, s3, s4, s5⟩ := store_body hst hnd hE hadr hi hcs hne
              have hplace : q.add ((i.I ρ).toNat * sz + f) = ⟨q.block, (i.I ρ).toNat * sz + f, none⟩ := by rw [s1, add0]
              have hrun := storeVar_run (P := P) (w := w) (hC.ty _ _ hd) (p := q.add ((i.I ρ).toNat * sz + f)) (v := a.eval x) (o := (i.I ρ).toNat * sz + f) (by rw [← hl]; exact hlen.1) (by rw [hplace]) (by rw [add_block]; exact s3) (by rw [add_block]; exact s4) (all_one hcs)
              rw [add_block] at hrun
              refine ⟨_, k, bd', ?_, rfl, ⟨_, hk, fun h => ?_⟩, m.write hb s2 (but_setCells w q.block _ _) (below_setCells w q.block ?_ _ _ w) (size_setCells _ _ _ _) s5⟩
              · simp only [execOp, ho, Instr.storeAt, hpe, Instr.sureAddr, Sem.run_bind, Sem.run_pure, Result.andThen_ok, hrun]
              · have h : bd = .gone := h
                rw [h] at hst; simp [Body.store] at hst
              · exact (m.wlo _ (m.own k bi _ hb s2)).1
            · cases hs
        · cases hq
      · cases hq
    · cases hq
theorem store_seq (hC : C.Ok P) {t : TypeId} {p x : Operand} (ho : o.op = .store t p x) {nd : List X} {s' : S} (hq : estep C s o = some (nd, s')) (m : Mem C B w0 ρ β W s w) (fr : Fr ρ β s a) (hnd : ∀ x ∈ nd, x.B ρ = true) :
    Region.wanted o (yielded ops a.tmps) = true ∧ ∃ w', (execOp a.eval o).run P w = .ok .skip w' ∧ Mem C B w0 ρ β W s' w' ∧ Fr ρ β s' (a.put o.dst Go.undef) ∧ Later ρ β s ρ β s' ∧ s'.lvl = s.lvl := by
  unfold estep at hq
  split at hq
  · cases hq
  · rename_i hgd
    have hgd' : o.guard = none := by simpa using hgd
    refine ⟨by simp [Region.wanted, hgd'], ?_⟩
    simp only [ho] at hq
    split at hq
    · rename_i b sz i f v d hp hx hd
      split at hq
      · rename_i hlen
        split at hq
        · rename_i nd' s1 hs
          obtain ⟨rfl, rfl⟩ := Prod.mk.inj (Option.some.inj hq)
          have hf := m.facts
          have tt : (X.bl true).B ρ = true := rfl
          obtain ⟨q, c, hat, hi, hpe⟩ := val_rel hf tt m.glob (opd_of_fr fr p) hp
          have hxr := val_rel hf tt m.glob (opd_of_fr fr x) hx
          obtain ⟨hl, hcs⟩ := cells_len (β := β) hxr
          cases b with
          | row _ _ => simp [S.storeAt] at hs
          | blk k =>
            simp only [S.storeAt] at hs
            split at hs
            · rename_i bd eg hk
              obtain ⟨hk, hgt⟩ := body_sound hf tt hk
              simp only [Option.map_eq_some_iff] at hs
              obtain ⟨⟨nd2, bd'⟩, hst, h2⟩ := hs
              obtain ⟨rfl, rfl⟩ := Prod.mk.inj h2
              simp only [SB.at, Option.map_eq_some_iff] at hat
              obtain ⟨bi, hb, he⟩ := hat
              obtain ⟨hadr, _⟩ := Prod.mk.inj he
              have hE : EOk ρ β W w bi (ent true bd) := fun _ => (m.heap k ⟨true, bd, eg⟩ bi hk hb) hgt
              have hne : (a.eval x).cells.toList ≠ [] := fun h => by
                have h0 : (a.eval x).cells.size = 0 := by have := congrArg List.length h; simpa using this
                omega
              obtain ⟨s1, s2, s3, s4, s5⟩ := store_body hst hnd hE hadr hi hcs hne
              have hplace : q.add ((i.I ρ).toNat * sz + f) = ⟨q.block, (i.I ρ).toNat * sz + f, none⟩ := by rw [s1, add0]
              have hrun := storeVar_run (P := P) (w := w) (hC.ty _ _ hd) (p := q.add ((i.I ρ).toNat * sz + f)) (v := a.eval x) (o := (i.I ρ).toNat * sz + f) (by rw [← hl]; exact hlen.1) (by rw [hplace]) (by rw [add_block]; exact s3) (by rw [add_block]; exact s4) (all_one hcs)
              rw [add_block] at hrun
              refine ⟨_, ?_, Mem.put (m.write hk hb s2 (but_setCells w q.block _ _) (below_setCells w q.block ?_ _ _ w) (size_setCells _ _ _ _) s5) _ _, Fr.put (s := s.setBody k bd') ⟨fr.1, fr.2⟩ ⟨fun _ => rfl, fun _ => rfl⟩, ?_, ?_⟩
              · simp only [execOp, ho, Instr.storeAt, hpe, Instr.sureAddr, Sem.run_bind, Sem.run_pure, Result.andThen_ok, hrun]
              · exact (m.wlo _ (m.own k bi _ hb s2)).1
              · exact Later.put ⟨⟨[], by simp⟩, ⟨[], by simp [S.setBody, setF_eq]⟩, by simp [S.setBody, setF_eq], fun k b _ h => ⟨b, h, rfl⟩⟩ _ _
              · rw [put_lvl]; rfl
            · cases hs
        · cases hq
      · cases hq
    · cases hq
end
end
end Go.Proofs.Ytpbpmabnmakdoaa.Vc
