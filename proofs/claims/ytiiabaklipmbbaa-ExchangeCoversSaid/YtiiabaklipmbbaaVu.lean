/- The symbolic executor: slices, and all operations that leave old memory as it is in one theorem. -/
import Derived.Test.YtiiabaklipmbbaaVt
namespace Go.Proofs.Ytiiabaklipmbbaa.Vc
noncomputable section
open Go Go.RowKit
variable {ρ : List AV} {β β' : Mp} {W W' : Nat → Prop} {w w' : World} {P : Program} {C : Cfg} {t : TypeId} {d : TD}

theorem repCells_get (z : List Sc) : ∀ (n j : Nat), (repCells z n)[j]? = if j < n * z.length then z[j % z.length]? else none
  | 0, j => by simp [repCells]
  | n + 1, j => by
    unfold repCells
    rw [List.getElem?_append]
    split
    · rename_i h
      rw [Nat.mod_eq_of_lt h, if_pos (by rw [Nat.add_mul]; omega)]
    · rename_i h
      rw [repCells_get z n (j - z.length), Nat.add_mul]
      by_cases h2 : j < n * z.length + 1 * z.length
      · rw [if_pos (by omega), if_pos h2]
        congr 1
        rw [Nat.mod_eq_sub_mod (a := j) (by omega)]
      · rw [if_neg (by omega), if_neg h2]
theorem repCells_len (z : List Sc) : ∀ n, (repCells z n).length = n * z.length
  | 0 => by simp [repCells]
  | n + 1 => by simp [repCells, repCells_len z n, Nat.add_mul]; omega
theorem zeros_rel {z : List Sc} {v : Array Value} (hr : RelL (Sc.rel ρ β) z v.toList) (n : Nat) : RelL (Sc.rel ρ β) (repCells z n) ((Array.range (n * v.size)).map (v[· % v.size]!)).toList := by
  have hl := hr.length
  simp at hl
  refine RelL.of_get (by simp [repCells_len, hl]) fun j x y hx hy => ?_
  rw [repCells_get] at hx
  split at hx
  · rename_i hj
    obtain ⟨u, h1, h2⟩ := hr.get _ _ hx
    rw [hl] at hj h1
    have hpos : 0 < v.size := by
      rcases Nat.eq_zero_or_pos v.size with h | h
      · rw [h] at hj; omega
      · exact h
    have : j % v.size < v.size := Nat.mod_lt _ hpos
    simp [hj] at hy
    subst hy
    simp [this] at h1 ⊢
    rw [h1]; exact h2
  · cases hx
theorem slc_new (n len sz : Nat) (hm : len ≤ maxLen) : (SV.v (.sc (.c (.slc (.blk n) sz (.lit 0) (.lit len) none)))).rel ρ (upd β n (newB w.heap.size len sz)) (.slice (some ⟨w.heap.size, 0, none⟩) len len) :=
  ⟨some ⟨w.heap.size, 0, none⟩, len, some ⟨w.heap.size, 0, none⟩, len, by simp [SB.at, upd_same, newB], by simp [X.I, X.den, AV.int], by simp [X.I, X.den, AV.int], by simp [X.I, X.den, AV.int], by simp [X.I, X.den, AV.int], hm,
    by simp, .inr (by simp [X.I, X.den, AV.int, Addr.add]), by simp [X.I, X.den, AV.int], by simp, by simp [X.I, X.den, AV.int]⟩
theorem slc_cap {b : SB} {sz n : Nat} {u : Value} {q : Option Addr} (hu : u = .slice q n n) (h : (SV.v (.sc (.c (.slc b sz (.lit 0) (.lit n) none)))).rel ρ β u) : (SV.v (.sc (.c (.slc b sz (.lit 0) (.lit n) (some (.lit n)))))).rel ρ β u := by
  obtain ⟨p, c, q', r, h1, h2, h3, h4, h5, h6, h7, h8, h9, h10, h11⟩ := h
  refine ⟨p, c, q', r, h1, h2, h3, h4, h5, h6, h7, h8, h9, fun e he => ?_, fun h => (by cases h)⟩
  obtain rfl := Option.some.inj he
  rw [hu] at h2
  injection h2 with _ _ h2
  rw [lit_I, ← h2]
theorem QOk.newSlc {n len sz : Nat} {a : Act} {o : Oper} {z : List Value} {T : TypeId} {l : List Sc} (h : (execOp a.eval o).run P w = .ok (.value (.slice (some ⟨w.heap.size, 0, none⟩) len len)) (w.alloc (.cells z.toArray T)))
    (hr : RelL (Sc.rel ρ (upd β n (newB w.heap.size len sz))) l z) (hc : len * sz ≤ z.length) (hm : len ≤ maxLen) : QOk P ρ β W w n a o (.v (.sc (.c (.slc (.blk n) sz (.lit 0) (.lit len) (some (.lit len)))))) (some (ent true (.cells l))) :=
  ⟨_, _, upd β n (newB w.heap.size len sz), _, h, slc_cap rfl (slc_new n len sz hm), newB w.heap.size len sz, below_alloc _ _, by simp, rfl, rfl, rfl, fun g => EOk_cells_new g z T _ rfl (by simpa [newB] using hc) hr⟩
theorem slc_in {b : SB} {sz : Nat} {off len : X} {cp : Option X} {u : Value} (h : (SV.v (.sc (.c (.slc b sz off len cp)))).rel ρ β u) {i : X} (hi : 0 ≤ i.I ρ) (hlt : i.I ρ < len.I ρ) :
    ∃ p c r, b.at ρ β = some (some p, c) ∧ 0 ≤ off.I ρ ∧ u = .slice (some (p.add ((off.I ρ).toNat * sz))) (len.I ρ).toNat r := by
  obtain ⟨p, c, q, r, h1, h2, h3, h4, h5, h6, h7, h8, h9, h10, h11⟩ := h
  have hr : r ≠ 0 := by omega
  cases p with
  | none => have := h7 rfl; omega
  | some p =>
    rcases h8 with h8 | h8
    · exact absurd h8 hr
    · exact ⟨p, c, r, h1, h3, by rw [h2, h8]; rfl⟩
section
variable {s : S} {g : X} {o : Oper} {r : R} {a : Act}
theorem q_indexAddr (hC : C.Ok P) (hf : s.factsOk ρ) (hg : g.B ρ = true) (hgl : GlobOk C β) (hop : ∀ x ∈ o.op.operands.toList, OpdOk ρ β s a x) {t : TypeId} {x ix : Operand} (ho : o.op = .indexAddr t x ix) (hq : qop C s g o = some r) (hnd : ∀ x ∈ r.needs, x.B ρ = true) : QOk P ρ β W w s.heap.length a o r.v r.add := by
  simp only [ho, Op.operands] at hop
  have ox := hop x (by simp)
  have oi := hop ix (by simp)
  rw [qop_eq] at hq
  unfold qopAll at hq
  simp only [ho] at hq
  split at hq
  · rename_i b sz off len cp k i e size by_ z el pl hv hi htd
    split at hq
    · rename_i d hd
      split at hq
      · rename_i hsz
        obtain rfl := Option.some.inj hq
        have hie := int_rel hf hg hgl oi hi
        have n1 := le_of (hnd (xb .le (.lit 0) i) (by simp [rC]))
        have n2 := lt_of (hnd (xb .lt i len) (by simp [rC]))
        rw [lit_I] at n1
        obtain ⟨p, c, r, hat, h0, he⟩ := slc_in (val_rel hf hg hgl ox hv) n1 n2
        have hu := (hC.ty _ _ htd).slice rfl
        refine QOk.same (u := .pointer (some ((p.add ((off.I ρ).toNat * sz)).add ((i.I ρ).toNat * sz)))) ?_ ⟨p, c, hat, by rw [xadd]; omega, ?_⟩
        · refine runv (m := Instr.indexAt t (a.eval x) (a.eval ix)) (by simp [execOp, ho]) ?_
          have hlen : 0 ≤ i.I ρ ∧ i.I ρ < ((len.I ρ).toNat : Int) := ⟨n1, by omega⟩
          simp only [Instr.indexAt, hie, asIntOf, Sem.run_bind, Sem.run_pure, Result.andThen_ok, run_underlying hu, he]
          rw [if_pos hlen]
          simp [sizeOf_run (hC.ty _ _ hd), hsz]
        · rw [xadd, add_add]
          congr 3
          rw [Int.toNat_add h0 n1, Nat.add_mul]; rfl
      · cases hq
    · cases hq
  · rename_i b sz i0 f0 k i n esz size by_ z el pl hv hi htd
    have hie := int_rel hf hg hgl oi hi
    obtain ⟨p, c, hat, h0, he⟩ := val_rel hf hg hgl ox hv
    obtain ⟨e, ie, hu, hie2, hsz, _⟩ := (hC.ty _ _ htd).arr rfl
    have hrun : ∀ j : Int, 0 ≤ j → j < n → i.I ρ = j → (execOp a.eval o).run P w = .ok (.value (.pointer (some ((p.add ((i0.I ρ).toNat * sz + f0)).add (j.toNat * esz))))) w := fun j j0 j1 hj => by
      refine runv (m := Instr.indexAt t (a.eval x) (a.eval ix)) (by simp [execOp, ho]) ?_
      simp only [Instr.indexAt, hie, asIntOf, Sem.run_bind, Sem.run_pure, Result.andThen_ok, run_underlying hu, he, Instr.sureAddr, hj]
      rw [if_pos ⟨j0, j1⟩]
      simp [info_run hie2, hsz]
    split at hq
    · rename_i cc hc
      obtain rfl := Option.some.inj hq
      have n1 := le_of (hnd (xb .le (.lit 0) i) (by simp [rC]))
      have n2 := lt_of (hnd (xb .lt i (.lit n)) (by simp [rC]))
      rw [lit_I] at n1 n2
      obtain ⟨h1, h2⟩ := constOff_I (ρ := ρ) hc
      refine QOk.same (hrun _ n1 n2 rfl) ⟨p, c, hat, n1, ?_⟩
      rw [add_add, ← h1, Nat.add_comm]
    · split at hq
      · rename_i z'
        split at hq
        · rename_i hz
          obtain rfl := Option.some.inj hq
          refine QOk.same (hrun z' hz.1 hz.2 rfl) ⟨p, c, hat, h0, ?_⟩
          rw [add_add, Nat.add_assoc]
        · cases hq
      · cases hq
  · cases hq
theorem q_index (hC : C.Ok P) (hf : s.factsOk ρ) (hg : g.B ρ = true) (hgl : GlobOk C β) (hop : ∀ x ∈ o.op.operands.toList, OpdOk ρ β s a x) {t : TypeId} {x ix : Operand} (ho : o.op = .index t x ix) (hq : qop C s g o = some r) (hnd : ∀ x ∈ r.needs, x.B ρ = true) : QOk P ρ β W w s.heap.length a o r.v r.add := by
  simp only [ho, Op.operands] at hop
  have ox := hop x (by simp)
  have oi := hop ix (by simp)
  rw [qop_eq] at hq
  unfold qopAll at hq
  simp only [ho] at hq
  split at hq
  · rename_i b
    split at hq
    · rename_i hst
      split at hq
      · rename_i kk z hi
        simp only [Option.map_eq_some_iff] at hq
        obtain ⟨v, hv, rfl⟩ := hq
        have hie := int_rel hf hg hgl oi hi
        rw [lit_I] at hie
        unfold strAt at hv
        split at hv
        · rename_i hz
          obtain rfl := Option.some.inj hv
          refine QOk.same (u := .int .u8 (b[z.toNat]'hz.2).toNat) ?_ rfl
          refine runv (m := Instr.index t (a.eval (.const (.string b))) (a.eval ix)) (by simp [execOp, ho]) ?_
          rw [hie, show a.eval (.const (.string b)) = .string b from rfl, run_index_string (P := P) w t b kk z (hC.str _ hst), dif_pos ⟨hz.1, by have := hz.2; have := hz.1; omega⟩]
        · cases hv
      · cases hq
    · cases hq
  rename_i hxs
  split at hq
  · rename_i l k z n esz size by_ zz e pl hv hi htd
    split at hq
    · rename_i d hd
      split at hq
      · rename_i hc
        simp only [Option.map_eq_some_iff] at hq
        obtain ⟨x', hx', rfl⟩ := hq
        have hie := int_rel hf hg hgl oi hi
        rw [lit_I] at hie
        obtain ⟨vs, he, hr⟩ := val_rel hf hg hgl ox hv
        obtain ⟨e', ie, hu, hie2, hsz, hel⟩ := (hC.ty _ _ htd).arr rfl
        simp only at hel
        subst hel
        obtain ⟨u, h6, h7⟩ := part_run (w := w) (hC.ty _ _ hd) hr hc.2.2.2 hx'
        refine QOk.same (u := u) ?_ h7
        refine runv (m := Instr.index t (a.eval x) (a.eval ix)) (by simp [execOp, ho]) ?_
        simp only [Instr.index, hie, asIntOf, Sem.run_bind, Sem.run_pure, Result.andThen_ok, run_underlying hu, he]
        rw [if_pos ⟨hc.2.1, hc.2.2.1⟩]
        simp [info_run hie2, hsz, h6]
      · cases hq
    · cases hq
  · rename_i l k i n esz size by_ zz e pl hnl hv hi htd
    split at hq
    · rename_i d hd
      split at hq
      · rename_i hc
        split at hq
        · rename_i cs hcs
          simp only [Option.map_eq_some_iff] at hq
          obtain ⟨x', hx', rfl⟩ := hq
          have hie := int_rel hf hg hgl oi hi
          have n1 := le_of (hnd (xb .le (.lit 0) i) (by simp))
          have n2 := lt_of (hnd (xb .lt i (.lit n)) (by simp))
          rw [lit_I] at n1 n2
          obtain ⟨vs, he, hr⟩ := val_rel hf hg hgl ox hv
          obtain ⟨e', ie, hu, hie2, hsz, hel⟩ := (hC.ty _ _ htd).arr rfl
          simp only at hel
          subst hel
          have hvl := hr.length
          obtain ⟨hcl, hcg⟩ := mapOpt_get hcs
          rw [List.length_range] at hcl
          have hidx : (i.I ρ).toNat * esz + esz ≤ n * esz := by
            have : (i.I ρ).toNat + 1 ≤ n := by omega
            have := Nat.mul_le_mul_right esz this
            rw [Nat.add_mul, Nat.one_mul] at this
            exact this
          have hlen : (vs.drop ((i.I ρ).toNat * esz)).length ≥ d.size := by simp; omega
          have hrel : RelL (Sc.rel ρ β) cs ((vs.drop ((i.I ρ).toNat * esz)).take d.size) := by
            refine RelL.of_get (by rw [hcl, List.length_take]; omega) fun j c v hj hvj => ?_
            have hje : j < esz := by rw [← hcl]; exact (List.getElem?_eq_some_iff.1 hj).1
            obtain ⟨y, hy1, hy2⟩ := hcg j j (by simp [hje])
            obtain rfl := Option.some.inj (hy1.symm.trans hj)
            rw [List.getElem?_take] at hvj
            split at hvj
            · rw [List.getElem?_drop] at hvj
              split at hy2
              · rename_i hev
                have ht : (i.I ρ).toNat < (every esz j n l).length := by rw [hev]; omega
                have hgt := every_get esz _ _ _ _ ht
                obtain ⟨x, hx⟩ : ∃ x, (every esz j n l)[(i.I ρ).toNat]? = some x := ⟨_, List.getElem?_eq_getElem ht⟩
                rw [hx] at hgt
                obtain ⟨u, hu1, hu2⟩ := hr.get _ x hgt.symm
                have : u = v := by
                  rw [show j + (i.I ρ).toNat * esz = (i.I ρ).toNat * esz + j by omega] at hu1
                  exact Option.some.inj (hu1.symm.trans hvj)
                subst this
                exact sel_rel _ 0 _ hy2 _ x u hx (by simp; omega) hu2
              · cases hy2
            · cases hvj
          obtain ⟨u, h6, h7⟩ := part_run2 (w := w) (hC.ty _ _ hd) (cs := vs) (off := (i.I ρ).toNat * esz) (by omega) hrel hx'
          refine QOk.same (u := u) ?_ h7
          refine runv (m := Instr.index t (a.eval x) (a.eval ix)) (by simp [execOp, ho]) ?_
          simp only [Instr.index, hie, asIntOf, Sem.run_bind, Sem.run_pure, Result.andThen_ok, run_underlying hu, he]
          rw [if_pos ⟨n1, n2⟩]
          simp [info_run hie2, hsz, h6]
        · cases hq
      · cases hq
    · cases hq
  · cases hq
theorem q_buildSlice (hC : C.Ok P) (hf : s.factsOk ρ) (hg : g.B ρ = true) (hgl : GlobOk C β) (hop : ∀ x ∈ o.op.operands.toList, OpdOk ρ β s a x) {t : TypeId} {n : Nat} {parts : Array (Nat × Operand)} (ho : o.op = .buildSlice t n parts) (hnew : r.add.isSome → β s.heap.length = none) (hq : qop C s g o = some r) : QOk P ρ β W w s.heap.length a o r.v r.add := by
  simp only [ho, Op.operands] at hop
  rw [qop_eq] at hq
  unfold qopAll at hq
  simp only [ho] at hq
  split at hq
  · rename_i e sz by_ z el pl ps htd hps
    split at hq
    · rename_i d hd
      split at hq
      · rename_i hc
        simp only [Option.map_eq_some_iff] at hq
        obtain ⟨l, hl, rfl⟩ := hq
        replace hnew := hnew rfl
        have hp := parts_rel hf hg hgl (a := a) hps (by simpa using hop)
        have hx := ext_upd (newB w.heap.size n d.size) hnew
        have hp' := hp.mono fun (x : Nat × V1) y h => (⟨h.1, V1.rel_ext hx h.2⟩ : x.1 = y.1 ∧ x.2.rel ρ (upd β s.heap.length (newB w.heap.size n d.size)) y.2)
        obtain ⟨zv, hz, hr, hs⟩ := (hC.ty _ _ hd).zero (w := w) (ρ := ρ) (β := upd β s.heap.length (newB w.heap.size n d.size))
        have hu := (hC.ty _ _ htd).slice rfl
        have hzr := zeros_rel hr n
        obtain ⟨cs', h3, h4, h5⟩ := fill_sound (pl' := fun i => some (i * d.size, d.size)) (fun i x h => h) hl hp' hzr
        have hsz : cs'.size = n * d.size := by rw [h5]; simp [hs]
        refine QOk.newSlc (z := cs'.toList) (T := e) ?_ h4 (by simp [hsz]) (by have := hc.2; unfold maxLen; omega)
        refine runv (m := Instr.buildSlice t n (parts.map fun (i, x) => (i, a.eval x))) (by simp [execOp, ho]) ?_
        have hpl : (parts.map fun (i, x) => (i, a.eval x)).toList = parts.toList.map fun x => (x.1, a.eval x.2) := by simp
        simp only [Instr.buildSlice, Sem.run_bind, run_underlying hu, Result.andThen_ok, sizeOf_run (hC.ty _ _ hd)]
        rw [if_neg (by omega)]
        rw [hpl]
        by_cases h0 : n * d.size = 0
        · have e0 : ∀ f : Nat → Value, (Array.range 0).map f = (Array.range (n * zv.cells.size)).map (zv.cells[· % zv.cells.size]!) := by
            intro f; rw [hs, h0]; simp
          simp only [h0, if_true, Sem.run_bind, Sem.run_pure, Result.andThen_ok]
          rw [e0, h3]
          simp [newRow_run]
        · simp only [h0, if_false, Sem.run_bind, hz, Sem.run_pure, Result.andThen_ok]
          rw [← hs] at h3 ⊢
          rw [h3]
          simp [newRow_run]
      · cases hq
    · cases hq
  · cases hq
theorem run_call_builtin (hC : C.Ok P) (hf : s.factsOk ρ) (hg : g.B ρ = true) (hgl : GlobOk C β) (hop : ∀ x ∈ o.op.operands.toList, OpdOk ρ β s a x) {bt : Builtin} {args : Array Operand} {ts : Array TypeId} (ho : o.op = .call { callee := .builtin bt, args := args, argTypes := ts }) :
    execOp a.eval o = builtin bt ts o.type (args.map fun | .const _ => true | _ => false) (args.map a.eval) := by
  have _ := @hC
  have _ := @hf
  have _ := @hg
  have _ := @hgl
  have _ := @hop
  simp only [execOp, ho, resolve, invoke]
  rfl
theorem q_len (hC : C.Ok P) (hf : s.factsOk ρ) (hg : g.B ρ = true) (hgl : GlobOk C β) (hop : ∀ x ∈ o.op.operands.toList, OpdOk ρ β s a x) {args : Array Operand} {ts : Array TypeId} (ho : o.op = .call { callee := .builtin .len, args := args, argTypes := ts }) (hq : qop C s g o = some r) : QOk P ρ β W w s.heap.length a o r.v r.add := by
  have hrun := run_call_builtin (a := a) hC hf hg hgl hop ho
  simp only [ho, Op.operands, Call.operands] at hop
  rw [qop_eq] at hq
  unfold qopAll at hq
  simp only [ho] at hq
  split at hq
  · rename_i x t hx ht
    have hx' : args = #[x] := Array.toList_inj.1 hx
    have ht' : ts = #[t] := Array.toList_inj.1 ht
    subst hx' ht'
    have ox := hop x (by simp)
    split at hq
    · rename_i b sz off len cp e size by_ z el pl hv htd
      obtain rfl := Option.some.inj hq
      obtain ⟨p, c, q, r, h1, h2, h3, h4, h5⟩ := val_rel hf hg hgl ox hv
      have hu := (hC.ty _ _ htd).slice rfl
      refine QOk.same (u := .int .i64 (len.I ρ)) ?_ rfl
      rw [hrun]
      simp [builtin, Builtin.len_, run_underlying hu, h2, goInt]
      omega
    · rename_i e size by_ z el pl hv htd
      obtain rfl := Option.some.inj hq
      have hv' : a.eval x = .slice none 0 0 := val_rel hf hg hgl ox hv
      have hu := (hC.ty _ _ htd).slice rfl
      refine QOk.same (u := .int .i64 0) ?_ rfl
      rw [hrun]
      simp [builtin, Builtin.len_, run_underlying hu, hv', goInt]
    · cases hq
  · cases hq
theorem foldM2_min {f : Value → Value → Sem Value} {bo : Bin} (hfd : ∀ k x y w, (f (.int k x) (.int k y)).run P w = .ok (.int k (bo.den (.i x) (.i y)).int) w) (hxb : ∀ x y : X, (xb bo x y).I ρ = (bo.den (.i (x.I ρ)) (.i (y.I ρ))).int) :
    ∀ {l : List SV} {vs : List Value} {k : IntKind} {e : X} {k' : IntKind} {e' : X}, foldM2 bo k e l = some (k', e') → RelL (SV.rel ρ β) l vs → (vs.foldlM f (.int k (e.I ρ))).run P w = .ok (.int k' (e'.I ρ)) w
  | [], [], k, e, k', e', h, _ => by simp [foldM2] at h; obtain ⟨rfl, rfl⟩ := h; simp
  | x :: l, v :: vs, k, e, k', e', h, hr => by
    unfold foldM2 at h
    split at h
    · rename_i heq; cases heq
    · rename_i k2 e2 l2 heq
      obtain ⟨rfl, rfl⟩ := List.cons.inj heq
      split at h
      · rename_i hk
        subst hk
        have hv : v = .int k (e2.I ρ) := hr.1
        subst hv
        simp only [List.foldlM_cons, Sem.run_bind, hfd, Result.andThen_ok]
        have := foldM2_min hfd hxb h hr.2
        rw [hxb] at this
        exact this
      · cases h
    · cases h
  | [], _ :: _, _, _, _, _, _, h => h.elim
  | _ :: _, [], _, _, _, _, _, h => h.elim
theorem q_minmax (hC : C.Ok P) (hf : s.factsOk ρ) (hg : g.B ρ = true) (hgl : GlobOk C β) (hop : ∀ x ∈ o.op.operands.toList, OpdOk ρ β s a x) {bt : Builtin} {args : Array Operand} {ts : Array TypeId} (hb : bt = .min ∨ bt = .max) (ho : o.op = .call { callee := .builtin bt, args := args, argTypes := ts }) (hq : qop C s g o = some r) : QOk P ρ β W w s.heap.length a o r.v r.add := by
  have hrun := run_call_builtin (a := a) hC hf hg hgl hop ho
  simp only [ho, Op.operands, Call.operands] at hop
  have key : ∀ (bo : Bin) (f : Value → Value → Sem Value) (vs : List SV) (k : IntKind) (e : X), (∀ k x y w, (f (.int k x) (.int k y)).run P w = .ok (.int k (bo.den (.i x) (.i y)).int) w) → (∀ x y : X, (xb bo x y).I ρ = (bo.den (.i (x.I ρ)) (.i (y.I ρ))).int) →
      (mapOpt (s.val C g) args.toList).bind (foldMM bo) = some (k, e) → (match (args.toList.map a.eval) with | [] => stuck "" | x :: rest => rest.foldlM f x : Sem Value).run P w = .ok (.int k (e.I ρ)) w := by
    intro bo f vs k e hfd hxb hm
    simp only [Option.bind_eq_some_iff] at hm
    obtain ⟨m, h1, h2⟩ := hm
    have hr := vals_rel hf hg hgl (a := a) h1 fun x hx => hop x (by simp [hx])
    unfold foldMM at h2
    split at h2
    · rename_i k0 e0 l
      cases hl : args.toList.map a.eval with
      | nil => rw [hl] at hr; exact hr.elim
      | cons v vs =>
        rw [hl] at hr
        have hv : v = .int k0 (e0.I ρ) := hr.1
        subst hv
        exact foldM2_min hfd hxb h2 hr.2
    · cases h2
  rw [qop_eq] at hq
  unfold qopAll at hq
  rcases hb with rfl | rfl
  · simp only [ho] at hq
    split at hq
    · rename_i k e hm
      obtain rfl := Option.some.inj hq
      have := key .min Builtin.min2 [] k e (fun k x y w => by simp [Builtin.min2, Bin.den, AV.int]; omega) (fun x y => xmin x y) hm
      refine QOk.same (u := .int k (e.I ρ)) ?_ rfl
      rw [hrun]
      simp only [builtin, Builtin.min_, Sem.run_bind]
      have e2 : (args.map a.eval).toList = args.toList.map a.eval := by simp
      rw [e2]
      cases hl : args.toList.map a.eval with
      | nil => rw [hl] at this; simp [stuck, Sem.run] at this
      | cons v vs => rw [hl] at this; simp only at this ⊢; rw [this]; simp
    · cases hq
  · simp only [ho] at hq
    split at hq
    · rename_i k e hm
      obtain rfl := Option.some.inj hq
      have := key .max Builtin.max2 [] k e (fun k x y w => by simp [Builtin.max2, Bin.den, AV.int]; omega) (fun x y => xmax x y) hm
      refine QOk.same (u := .int k (e.I ρ)) ?_ rfl
      rw [hrun]
      simp only [builtin, Builtin.max_, Sem.run_bind]
      have e2 : (args.map a.eval).toList = args.toList.map a.eval := by simp
      rw [e2]
      cases hl : args.toList.map a.eval with
      | nil => rw [hl] at this; simp [stuck, Sem.run] at this
      | cons v vs => rw [hl] at this; simp only at this ⊢; rw [this]; simp
    · cases hq
theorem q_slice (hC : C.Ok P) (hf : s.factsOk ρ) (hg : g.B ρ = true) (hgl : GlobOk C β) (hop : ∀ x ∈ o.op.operands.toList, OpdOk ρ β s a x) {t : TypeId} {x : Operand} {lo hi mx : Option Operand} (ho : o.op = .slice t x lo hi mx) (hq : qop C s g o = some r) (hnd : ∀ x ∈ r.needs, x.B ρ = true) : QOk P ρ β W w s.heap.length a o r.v r.add := by
  simp only [ho, Op.operands] at hop
  have ox := hop x (by simp)
  have olo : ∀ y, lo = some y → OpdOk ρ β s a y := fun y hy => hop y (by simp [hy])
  have ohi : ∀ y, hi = some y → OpdOk ρ β s a y := fun y hy => hop y (by simp [hy])
  have omx : ∀ y, mx = some y → OpdOk ρ β s a y := fun y hy => hop y (by simp [hy])
  have bound : ∀ (y : Option Operand) (d : X) (z : X), (∀ v, y = some v → OpdOk ρ β s a v) → (match y with | none => some d | some o => (s.int C g o).map fun x => x.2) = some z → (y = none ∧ z = d) ∨ ∃ v k, y = some v ∧ a.eval v = .int k (z.I ρ) := by
    intro y d z hy h
    cases y with
    | none => simp at h; exact .inl ⟨rfl, h.symm⟩
    | some v =>
      simp only [Option.map_eq_some_iff] at h
      obtain ⟨⟨k, e⟩, h1, h2⟩ := h
      simp only at h2
      subst h2
      exact .inr ⟨v, k, rfl, int_rel hf hg hgl (hy v rfl) h1⟩
  rw [qop_eq] at hq
  unfold qopAll at hq
  simp only [ho] at hq
  split at hq
  · rename_i b sz off len cp e size by_ z el pl hv htd
    have hrel := val_rel hf hg hgl ox hv
    have hu := (hC.ty _ _ htd).slice rfl
    split at hq
    · rename_i d hd
      split at hq
      · rename_i hc
        obtain ⟨p, c, q, r0, h1, h2, h3, h4, h5, h6, h7, h8, h9, h10, h11⟩ := hrel
        -- what the run gives, of the three bounds
        have hrun : ∀ (l h m : Nat), (Instr.sliceBounds true (len.I ρ).toNat r0 (lo.map a.eval) (hi.map a.eval) (mx.map a.eval)).run P w = .ok (l, h, m) w →
            (execOp a.eval o).run P w = .ok (.value (.slice (if m = l then q else q.map (·.add (l * d.size))) (h - l) (m - l))) w := fun l h m hb => by
          refine runv (m := Instr.sliceAt t (a.eval x) (lo.map a.eval) (hi.map a.eval) (mx.map a.eval)) (by simp [execOp, ho]) ?_
          simp only [Instr.sliceAt, Sem.run_bind, run_underlying hu, Result.andThen_ok, Instr.slice, h2, hb, sizeOf_run (hC.ty _ _ hd), Sem.run_pure]
        have hadd : ∀ (l : Nat) (m : Nat), l ≤ m → m ≤ r0 → (m - l = 0 ∨ (if m = l then q else q.map (·.add (l * d.size))) = p.map (·.add (((off.I ρ).toNat + l) * sz))) := fun l m hlm hmr => by
          by_cases he : m = l
          · exact .inl (by omega)
          · refine .inr ?_
            rw [if_neg he]
            rcases h8 with h8 | h8
            · omega
            · rw [h8, hc.1]
              cases p with
              | none => rfl
              | some p => simp [add_add, Nat.add_mul]
        split at hq
        · rename_i l h hl hh hm
          obtain rfl := Option.some.inj hq
          have hmn : mx = none := by
            cases mx with
            | none => rfl
            | some y => simp only [Option.map_eq_some_iff] at hm; obtain ⟨_, _, h⟩ := hm; cases h
          subst hmn
          have n1 := le_of (hnd (xb .le (.lit 0) l) (by simp [rC]))
          have n2 := le_of (hnd (xb .le l h) (by simp [rC]))
          have n3 := le_of (hnd (xb .le h len) (by simp [rC]))
          rw [lit_I] at n1
          have hb : (Instr.sliceBounds true (len.I ρ).toNat r0 (lo.map a.eval) (hi.map a.eval) none).run P w = .ok ((l.I ρ).toNat, (h.I ρ).toNat, r0) w := by
            rcases bound hi len h ohi hh with ⟨rfl, rfl⟩ | ⟨v, k, rfl, hv'⟩
            · rcases bound lo (.lit 0) l olo hl with ⟨rfl, rfl⟩ | ⟨v2, k2, rfl, hv2⟩
              · simp [Instr.sliceBounds, lit_I]
              · simp [Instr.sliceBounds, hv2, run_sliceBound (P := P) w k2 (l.I ρ) (h.I ρ).toNat .sliceB n1 (by omega)]
            · rcases bound lo (.lit 0) l olo hl with ⟨rfl, rfl⟩ | ⟨v2, k2, rfl, hv2⟩
              · simp [Instr.sliceBounds, hv', run_sliceBound (P := P) w k (h.I ρ) r0 .sliceAcap (by omega) (by omega), lit_I]
              · simp [Instr.sliceBounds, hv', hv2, run_sliceBound (P := P) w k (h.I ρ) r0 .sliceAcap (by omega) (by omega), run_sliceBound (P := P) w k2 (l.I ρ) (h.I ρ).toNat .sliceB n1 (by omega)]
          refine QOk.same (hrun _ _ _ hb) ?_
          refine ⟨p, c, (if r0 = (l.I ρ).toNat then q else q.map (·.add ((l.I ρ).toNat * d.size))), r0 - (l.I ρ).toNat, h1, ?_, by rw [xadd]; omega, by rw [xsub]; omega, by rw [xsub]; omega, by omega, h7, ?_, by rw [xadd]; omega, ?_, ?_⟩
          · rw [xsub]; congr 1; omega
          · rw [xadd, Int.toNat_add h3 n1]; exact hadd _ _ (by omega) (Nat.le_refl _)
          · intro e' he'
            cases cp with
            | none => cases he'
            | some c0 =>
              obtain rfl := Option.some.inj he'
              rw [xsub]
              have := h10 c0 rfl
              omega
          · intro hn
            cases cp with
            | some c0 => cases hn
            | none => rw [xadd]; have := h11 rfl; omega
        · rename_i l h m hl hh hm
          obtain rfl := Option.some.inj hq
          have n1 := le_of (hnd (xb .le (.lit 0) l) (by simp [rC]))
          have n2 := le_of (hnd (xb .le l h) (by simp [rC]))
          have n3 := le_of (hnd (xb .le h m) (by simp [rC]))
          have n4 := le_of (hnd (xb .le m len) (by simp [rC]))
          rw [lit_I] at n1
          cases mx with
          | none => simp at hm
          | some vm =>
            simp only [Option.map_eq_some_iff] at hm
            obtain ⟨⟨km, em⟩, hm1, hm2⟩ := hm
            simp only at hm2
            obtain rfl : em = m := Option.some.inj hm2
            have hvm := int_rel hf hg hgl (omx vm rfl) hm1
            rcases bound hi len h ohi hh with ⟨rfl, rfl⟩ | ⟨v, k, rfl, hv'⟩
            · simp at hc
            · have hb : (Instr.sliceBounds true (len.I ρ).toNat r0 (lo.map a.eval) (some (a.eval v)) (some (a.eval vm))).run P w = .ok ((l.I ρ).toNat, (h.I ρ).toNat, (em.I ρ).toNat) w := by
                rcases bound lo (.lit 0) l olo hl with ⟨rfl, rfl⟩ | ⟨v2, k2, rfl, hv2⟩
                · simp [Instr.sliceBounds, hv', hvm, run_sliceBound (P := P) w km (em.I ρ) r0 .slice3Acap (by omega) (by omega), run_sliceBound (P := P) w k (h.I ρ) (em.I ρ).toNat .slice3B (by omega) (by omega), lit_I]
                · simp [Instr.sliceBounds, hv', hvm, hv2, run_sliceBound (P := P) w km (em.I ρ) r0 .slice3Acap (by omega) (by omega), run_sliceBound (P := P) w k (h.I ρ) (em.I ρ).toNat .slice3B (by omega) (by omega), run_sliceBound (P := P) w k2 (l.I ρ) (h.I ρ).toNat .slice3C n1 (by omega)]
              refine QOk.same (hrun _ _ _ hb) ?_
              refine ⟨p, c, (if (em.I ρ).toNat = (l.I ρ).toNat then q else q.map (·.add ((l.I ρ).toNat * d.size))), (em.I ρ).toNat - (l.I ρ).toNat, h1, ?_, by rw [xadd]; omega, by rw [xsub]; omega, by rw [xsub]; omega, by omega, h7, ?_, by rw [xadd]; omega, ?_, by simp⟩
              · rw [xsub]; congr 1; omega
              · rw [xadd, Int.toNat_add h3 n1]; exact hadd _ _ (by omega) (by omega)
              · intro e' he'
                obtain rfl := Option.some.inj he'
                rw [xsub]; omega
        · cases hq
      · cases hq
    · cases hq
  · rename_i e size by_ z el pl hv htd
    have hrel : a.eval x = .slice none 0 0 := val_rel hf hg hgl ox hv
    have hu := (hC.ty _ _ htd).slice rfl
    split at hq
    · rename_i l h d hl hh hd
      obtain rfl := Option.some.inj hq
      have n1 := hnd (xb .eq l (.lit 0)) (by simp [rC])
      have n2 := hnd (xb .eq h (.lit 0)) (by simp [rC])
      rw [xeq, lit_I] at n1 n2
      have n1 : l.I ρ = 0 := by simpa using n1
      have n2 : h.I ρ = 0 := by simpa using n2
      have hb : (Instr.sliceBounds true 0 0 (lo.map a.eval) (hi.map a.eval) none).run P w = .ok (0, 0, 0) w := by
        rcases bound hi (.lit 0) h ohi hh with ⟨rfl, rfl⟩ | ⟨v, k, rfl, hv'⟩
        · rcases bound lo (.lit 0) l olo hl with ⟨rfl, rfl⟩ | ⟨v2, k2, rfl, hv2⟩
          · simp [Instr.sliceBounds]
          · simp [Instr.sliceBounds, hv2, n1, run_sliceBound (P := P) w k2 0 0 .sliceB (by omega) (by omega)]
        · rcases bound lo (.lit 0) l olo hl with ⟨rfl, rfl⟩ | ⟨v2, k2, rfl, hv2⟩
          · simp [Instr.sliceBounds, hv', n2, run_sliceBound (P := P) w k 0 0 .sliceAcap (by omega) (by omega)]
          · simp [Instr.sliceBounds, hv', hv2, n1, n2, run_sliceBound (P := P) w k 0 0 .sliceAcap (by omega) (by omega), run_sliceBound (P := P) w k2 0 0 .sliceB (by omega) (by omega)]
      refine QOk.same (u := .slice none 0 0) (runv (m := Instr.sliceAt t (a.eval x) (lo.map a.eval) (hi.map a.eval) ((none : Option Operand).map a.eval)) (by simp [execOp, ho]) ?_) rfl
      simp only [Instr.sliceAt, Sem.run_bind, run_underlying hu, Result.andThen_ok, Instr.slice, hrel, Option.map_none, hb, sizeOf_run (hC.ty _ _ hd), Sem.run_pure]
      simp
    · cases hq
  · cases hq
theorem zerosB_get {l : List Sc} (h : zerosB l = true) {f : Nat} {sc : Sc} (hs : l[f]? = some sc) {k : FK} (hk : fkOf sc = some k) {v : Value} (hr : sc.rel ρ β v) : v = k.val 0 := by
  have h1 := List.all_eq_true.1 h sc (List.mem_of_getElem? hs)
  split at h1
  · rename_i q
    simp only [fkOf] at hk
    obtain rfl := Option.some.inj hk
    exact hr
  · simp only [fkOf] at hk
    obtain rfl := Option.some.inj hk
    have hr : v = .bool false := hr
    rw [hr]; rfl
  · cases h1
theorem q_makeSlice (hC : C.Ok P) (hf : s.factsOk ρ) (hg : g.B ρ = true) (hgl : GlobOk C β) (hop : ∀ x ∈ o.op.operands.toList, OpdOk ρ β s a x) {t : TypeId} {xl xc : Operand} (ho : o.op = .makeSlice t xl xc) (hnew : r.add.isSome → β s.heap.length = none) (hq : qop C s g o = some r) (hnd : ∀ x ∈ r.needs, x.B ρ = true) : QOk P ρ β W w s.heap.length a o r.v r.add := by
  simp only [ho, Op.operands] at hop
  have ol := hop xl (by simp)
  have oc := hop xc (by simp)
  rw [qop_eq] at hq
  unfold qopAll at hq
  simp only [ho] at hq
  split at hq
  · rename_i e sz by_ z el pl kl l kc c htd hl hc
    split at hq
    · rename_i hlc
      subst hlc
      have el := int_rel hf hg hgl ol hl
      have ec := int_rel hf hg hgl oc hc
      have hu := (hC.ty _ _ htd).slice rfl
      split at hq
      · rename_i d hd
        obtain ⟨ie, ue, zz, hie, _, his, hib, hzl0, _⟩ := (hC.ty _ _ hd).facts
        -- the run, for a length n that is not too large
        have hrun : ∀ (n : Nat) (β' : Mp), l.I ρ = n → n * d.bytes ≤ 2 ^ 47 → n ≤ 2 ^ 47 → ∃ zv : Array Value, (Instr.makeSlice t (a.eval xl) (a.eval xc)).run P w = .ok (.slice (some ⟨w.heap.size, 0, none⟩) n n) (w.alloc (.cells ((Array.range (n * d.size)).map (zv[· % zv.size]!)) e)) ∧ zv.size = d.size ∧ RelL (Sc.rel ρ β') d.zero zv.toList := by
          intro n β' hn hb hle
          obtain ⟨zv, hz, hr, hs⟩ := (hC.ty _ _ hd).zero (w := w) (ρ := ρ) (β := β')
          have hw : IntKind.i64.wrap (n : Int) = n := wrap_of_inr (by simp [Vc.inr, IntKind.min, IntKind.max, IntKind.signed, IntKind.bits]; omega)
          refine ⟨zv.cells, ?_, hs, hr⟩
          have hb' : ¬ ((d.bytes : Int) * (n : Int) > 2 ^ 48) := by
            have : (d.bytes : Int) * (n : Int) = ((n * d.bytes : Nat) : Int) := by rw [Int.mul_comm]; simp
            rw [this]; omega
          have hroom : (askRoom (n * d.bytes)).run P w = .ok () w := by unfold askRoom roomBytes; rw [if_neg (by omega)]; rfl
          have hti : (typeInfo e).run P w = .ok ie w := by simp [typeInfo, hie]
          have h1 : (decide ((n : Int) < 0) || decide ((d.bytes : Int) * (n : Int) > 2 ^ 48)) = false := by simp; omega
          simp only [Instr.makeSlice, el, ec, asInt, asIntOf, Sem.run_bind, Sem.run_pure, Result.andThen_ok, run_underlying hu, hn, hw, hti, hib, h1]
          rw [if_neg (by simp)]
          simp only [Int.toNat_natCast, Sem.run_bind, Sem.run_pure, Result.andThen_ok, hroom, sizeOf_run (hC.ty _ _ hd)]
          have e0 : n * d.size = 0 → ∀ f g : Nat → Value, (Array.range (n * d.size)).map f = (Array.range (n * d.size)).map g := fun h f g => by rw [h]; simp
          by_cases h0 : n * d.size = 0
          · rw [if_pos h0]
            simp only [Sem.run_bind, Sem.run_pure, Result.andThen_ok, newRow_run]
            rw [e0 h0 _ (zv.cells[· % zv.cells.size]!)]
          · rw [if_neg h0]
            simp only [Sem.run_bind, hz, Sem.run_pure, Result.andThen_ok, newRow_run]
        split at hq
        · rename_i n hcl
          split at hq
          · rename_i hn
            obtain rfl := Option.some.inj hq
            obtain ⟨hn0, hn1, hn2⟩ := hn
            obtain ⟨m, rfl⟩ := Int.eq_ofNat_of_zero_le hn0
            have hb : m * d.bytes ≤ 2 ^ 47 := by exact_mod_cast hn2
            obtain ⟨zv, h1, h2, h3⟩ := hrun m (upd β s.heap.length (newB w.heap.size m d.size)) (lit_I _) hb (by omega)
            have hr := zeros_rel h3 m
            rw [h2] at hr h1
            obtain ⟨z, hz⟩ : ∃ z : List Value, ((Array.range (m * d.size)).map (zv[· % d.size]!)) = z.toArray := ⟨_, (Array.toArray_toList).symm⟩
            have hzl : z.length = m * d.size := by have := congrArg Array.size hz; simpa using this.symm
            rw [hz] at h1 hr
            have hm : ((m : Int)).toNat = m := Int.toNat_natCast m
            rw [hm]
            exact QOk.newSlc (z := z) (T := e) (runv (m := Instr.makeSlice t (a.eval xl) (a.eval xc)) (by simp [execOp, ho]) h1) hr (by rw [hzl]; exact Nat.le_refl _) (by unfold maxLen; omega)
          · cases hq
        · rename_i hcl
          split at hq
          · rename_i hby
            split at hq
            · rename_i sh hsh
              obtain rfl := Option.some.inj hq
              have n1 := le_of (hnd (xb .le (.lit 0) l) (by simp))
              have n2 := le_of (hnd (xb .le (xb .mul l (.lit d.bytes)) (.lit (2 ^ 47))) (by simp))
              rw [lit_I] at n1
              rw [xmul, lit_I, lit_I] at n2
              obtain ⟨n, hn⟩ := Int.eq_ofNat_of_zero_le n1
              have hb : n * d.bytes ≤ 2 ^ 47 := by rw [hn] at n2; exact_mod_cast n2
              have hle : n ≤ 2 ^ 47 := Nat.le_trans (Nat.le_mul_of_pos_right n hby.1) hb
              obtain ⟨zv, h1, h2, h3⟩ := hrun n (upd β s.heap.length (newB w.heap.size n d.size)) hn hb hle
              have hlen := (mapOpt_get hsh).1
              have hshd : sh.length = d.size := by rw [hlen, hzl0]
              have hnI : (l.I ρ).toNat = n := by omega
              refine ⟨_, _, upd β s.heap.length (newB w.heap.size n d.size), _, runv (m := Instr.makeSlice t (a.eval xl) (a.eval xc)) (by simp [execOp, ho]) h1, ?_, newB w.heap.size n d.size, below_alloc _ _, by simp, rfl, rfl, rfl, ?_⟩
              · refine ⟨some ⟨w.heap.size, 0, none⟩, n, some ⟨w.heap.size, 0, none⟩, n, by simp [SB.at, upd_same, newB], by rw [hnI], by rw [lit_I]; exact Int.le_refl _, n1, by omega, by unfold maxLen; omega, by simp, .inr (by rw [lit_I]; simp [Addr.add]), by rw [lit_I]; simp, by simp, by rw [lit_I]; simp⟩
              · intro g' _
                refine ⟨n1, by simp [newB], by simp [newB, hshd], .inr (.inr ⟨⟨w.heap.size, 0, none⟩, rfl, place_new _ e W _ (by simp [newB]), by rw [hnI]; exact Nat.le_refl _, fun i f k i0 i1 hk => ?_⟩)⟩
                have hf' : f < d.zero.length := by rw [← hlen]; exact (List.getElem?_eq_some_iff.1 hk).1
                obtain ⟨y, hy1, hy2⟩ := (mapOpt_get hsh).2 f d.zero[f] (List.getElem?_eq_getElem hf')
                obtain rfl := Option.some.inj (hy1.symm.trans hk)
                have hidx : i.toNat * d.size + f < n * d.size := by
                  have : i.toNat + 1 ≤ n := by omega
                  have := Nat.mul_le_mul_right d.size this
                  rw [Nat.add_mul, Nat.one_mul] at this
                  omega
                have hz := zeros_rel h3 n
                rw [h2] at hz
                obtain ⟨v, hv1, hv2⟩ := hz.get (i.toNat * d.size + f) d.zero[f] (by
                  rw [repCells_get, if_pos (by rw [hzl0]; exact hidx), hzl0, Nat.mul_comm i.toNat, Nat.mul_add_mod, Nat.mod_eq_of_lt (by omega)]
                  exact List.getElem?_eq_getElem hf')
                have hval := zerosB_get hby.2 (List.getElem?_eq_getElem hf') hy2 hv2
                refine ⟨?_, fun _ => by rw [add0]; simp⟩
                rw [add0, hshd, h2]
                subst hval
                have hv1' : ((Array.range (n * d.size)).map (zv[· % d.size]!))[i.toNat * d.size + f]? = some (y.val 0) := by
                  rw [← Array.getElem?_toList]; exact hv1
                show _ = some (y.val 0)
                simpa using hv1'
            · cases hq
          · cases hq
      · cases hq
    · cases hq
  · cases hq
theorem qop_sound (hC : C.Ok P) (hf : s.factsOk ρ) (hg : g.B ρ = true) (hgl : GlobOk C β) (hop : ∀ x ∈ o.op.operands.toList, OpdOk ρ β s a x) (hnew : r.add.isSome → β s.heap.length = none) (hq : qop C s g o = some r) (hnd : ∀ x ∈ r.needs, x.B ρ = true)
    (hh : ∀ k e bi, s.heap[k]? = some e → β k = some bi → EOk ρ β W w bi e) : QOk P ρ β W w s.heap.length a o r.v r.add := by
  cases ho : o.op with
  | move x => exact q_small hC hf hg hgl hop hq hnd (by simp [ho])
  | assign x => exact q_small hC hf hg hgl hop hq hnd (by simp [ho])
  | unOp _ _ x => exact q_small hC hf hg hgl hop hq hnd (by simp [ho])
  | convert _ _ x => exact q_small hC hf hg hgl hop hq hnd (by simp [ho])
  | extract x _ => exact q_small hC hf hg hgl hop hq hnd (by simp [ho])
  | fieldAddr _ _ _ => exact q_small hC hf hg hgl hop hq hnd (by simp [ho])
  | nilCheck _ => exact q_small hC hf hg hgl hop hq hnd (by simp [ho])
  | pick c x y => exact q_pick hf hg hgl hop ho hq
  | load t p => exact q_load hC hf hg hgl hop ho hq hnd hh
  | binOp op t x y t' => exact q_binOp hC hf hg hgl hop ho hq hnd
  | makeFunc f x y => exact q_makeFunc hf hg hgl hop ho hq
  | field t x f => exact q_field hC hf hg hgl hop ho hq
  | alloc t => exact q_alloc hC hf hg hgl hop ho hnew hq
  | box t x => exact q_box hC hf hg hgl hop ho hnew hq
  | build t ps => exact q_build hC hf hg hgl hop ho hq
  | indexAddr t x i => exact q_indexAddr hC hf hg hgl hop ho hq hnd
  | index t x i => exact q_index hC hf hg hgl hop ho hq hnd
  | makeSlice t l c => exact q_makeSlice hC hf hg hgl hop ho hnew hq hnd
  | buildSlice t n ps => exact q_buildSlice hC hf hg hgl hop ho hnew hq
  | slice t x lo hi mx => exact q_slice hC hf hg hgl hop ho hq hnd
  | call c =>
    obtain ⟨cl, args, ts⟩ := c
    cases cl with
    | builtin bt =>
      cases bt with
      | len => exact q_len hC hf hg hgl hop ho hq
      | min => exact q_minmax hC hf hg hgl hop (.inl rfl) ho hq
      | max => exact q_minmax hC hf hg hgl hop (.inr rfl) ho hq
      | _ => simp [qop, qCall, ho] at hq
    | _ => simp [qop, qCall, ho] at hq
  | _ => simp [qop, qCall, ho] at hq
end
end
end Go.Proofs.Ytiiabaklipmbbaa.Vc
