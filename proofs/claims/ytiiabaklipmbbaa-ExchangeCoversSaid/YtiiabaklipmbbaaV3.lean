/- The symbolic executor: append as a step. -/
import Derived.Test.YtiiabaklipmbbaaV2
namespace Go.Proofs.Ytiiabaklipmbbaa.Vc
noncomputable section
open Go Go.RowKit
variable {ρ ρ' : List AV} {β β' : Mp} {W W' : Nat → Prop} {w w' : World} {P : Program} {C : Cfg} {B : Nat} {w0 : World}

theorem eok_appOut {β' : Mp} {sh : List FK} {f g : Int → Nat → Int} {n m cap r : Nat} {a' n' : X} (hout : AppOut w w' r cap sh.length (rowCells sh f n ++ rowCells sh g m)) (hn : n'.I ρ = (n : Int) + m) (hcap : n + m ≤ cap) (hr : r < w'.heap.size)
    (hf : ∀ (i : Int) j, 0 ≤ i → (a'.den ρ).fn i j = if i < n then f i j else g (i - n) j) : EOk ρ β' W' w' ⟨⟨some ⟨r, 0, none⟩, cap, sh.length, fun _ => none, fun _ => 0⟩, some r⟩ (ent true (.arr sh a' n')) := by
  intro _
  refine ⟨by rw [hn]; omega, fun h => (by cases h), rfl, .inr (.inr ⟨⟨r, 0, none⟩, rfl, ⟨hr, fun _ => ⟨rfl, rfl, hout.there⟩, fun h => (by cases h)⟩, by rw [hn]; simp only; omega, fun i j k i0 i1 hk => ?_⟩)⟩
  rw [hn] at i1
  rw [add0, hf i j i0]
  have hj := (List.getElem?_eq_some_iff.1 hk).1
  by_cases hi : i < n
  · rw [if_pos hi]
    have h1 := rowCells_at (f := f) (n := n) (i := i.toNat) (by omega) hk
    have h2 := hout.val (i.toNat * sh.length + j) _ (by rw [List.getElem?_append_left (List.getElem?_eq_some_iff.1 h1).1]; exact h1)
    rw [Int.toNat_of_nonneg i0] at h2
    exact ⟨h2.1, fun _ => h2.2⟩
  · rw [if_neg hi]
    have h1 := rowCells_at (f := g) (n := m) (i := i.toNat - n) (by omega) hk
    have hle : n * sh.length ≤ i.toNat * sh.length := Nat.mul_le_mul_right _ (by omega)
    have h2 := hout.val (i.toNat * sh.length + j) _ (by
      rw [List.getElem?_append_right (by rw [rowCells_len]; omega), rowCells_len]
      rw [← h1]
      congr 1
      rw [Nat.sub_mul]; omega)
    have e : ((i.toNat - n : Nat) : Int) = i - n := by omega
    rw [e] at h2
    exact ⟨h2.1, fun _ => h2.2⟩
theorem mapOpt_len {α γ : Type} {f : α → Option γ} : ∀ {l : List α} {m : List γ}, mapOpt f l = some m → m.length = l.length
  | [], m, h => by simp [mapOpt] at h; subst h; rfl
  | x :: l, m, h => by
    simp only [mapOpt] at h
    split at h
    · rename_i y ys _ h2
      obtain rfl := Option.some.inj h
      simp [mapOpt_len h2]
    · cases h
section
variable {Γ : FuncId → Con} {Qd : List AV → Prop} {ctx : List (List AV → Prop)} {s : S} {a : Act} {ops : Array Oper} {o : Oper} {K : S → Tree} {K' : Act → World → Prop} {Q : Exit → Act → World → Prop}
theorem run_append {args : Array Operand} {ts : Array TypeId} {x y : Operand} {t : TypeId} (ho : o.op = .call { callee := .builtin .append, args := args, argTypes := ts }) (hx : args = #[x, y]) (ht : ts = #[t, t]) {u : Value}
    (h : (Builtin.append_ #[t, t] o.type #[a.eval x, a.eval y]).run P w = .ok u w') : (execOp a.eval o).run P w = .ok (.value u) w' := by
  subst hx ht
  unfold execOp
  simp only [ho, resolve, invoke, builtin, Sem.run_bind, Sem.run_pure, Result.andThen_ok, List.map_toArray, List.map_cons, List.map_nil, h]
/-- the entries behind an append -/
def appH (n : Nat) (used : Option Nat) (e : HE) (H : Nat → Option HE) : Nat → Option HE := fun j => if j = n then some e else if used = some j then some (ent true .gone) else H j
theorem seqC_sound {s : S} {sz : Nat} {y : Sc} {m : List Sc} (hf : s.factsOk ρ) (hh : ∀ k e b, s.heap[k]? = some e → β k = some b → EOk ρ β W w b e) (h : seqC s sz y = some m) (hpos : 0 < sz) (hm : 0 < m.length) {v : Value} (hv : y.rel ρ β v) :
    ∃ p' c' us, v = .slice (some p') (m.length / sz) c' ∧ m.length / sz * sz = m.length ∧ RelL (Sc.rel ρ β) m us ∧ ∀ (j : Nat) u, us[j]? = some u → w.cell? (p'.add j) = some u := by
  unfold seqC at h
  split at h
  · rename_i k sz' o n cp
    split at h
    · rename_i own l eg hk
      split at h
      · rename_i hc
        obtain ⟨rfl, ho0, hn0, hle⟩ := hc
        obtain rfl := Option.some.inj h
        obtain ⟨hk, hgt⟩ := body_sound hf (show (X.bl true).B ρ = true from rfl) hk
        have hv : (Sc0.slc (.blk k) sz' (.lit o) (.lit n) cp).rel ρ β v := hv
        obtain ⟨p, c, q, r, hat, rfl, _, _, hlr, hrm, hpc, hq, hrc, _, _⟩ := hv
        simp only [SB.at, Option.map_eq_some_iff] at hat
        obtain ⟨bi, hb, he⟩ := hat
        obtain ⟨rfl, rfl⟩ := Prod.mk.inj he
        obtain ⟨p, hp, _, hval⟩ := (hh k _ bi hk hb) hgt
        simp only [lit_I] at hlr hq
        rw [Nat.add_mul] at hle
        have hlen : ((l.drop (o.toNat * sz')).take (n.toNat * sz')).length = n.toNat * sz' := by simp; omega
        rw [hlen] at hm ⊢
        have hnpos : 0 < n.toNat := Nat.pos_of_mul_pos_right hm
        have hqp : q = some (p.add (o.toNat * sz')) := by
          rcases hq with h | h
          · omega
          · rw [h, hp]; rfl
        subst hqp
        rw [Nat.mul_div_cancel _ hpos]
        have hex : ∀ j, j < n.toNat * sz' → ∃ c u, l[o.toNat * sz' + j]? = some c ∧ w.cell? ((p.add (o.toNat * sz')).add j) = some u ∧ c.rel ρ β u := fun j hj => by
          have hlt : o.toNat * sz' + j < l.length := by omega
          obtain ⟨u, h1, h2⟩ := hval _ _ (List.getElem?_eq_getElem hlt)
          refine ⟨_, u, List.getElem?_eq_getElem hlt, ?_, h2⟩
          rw [add_add]; exact h1.1
        refine ⟨p.add (o.toNat * sz'), r, (List.range (n.toNat * sz')).map fun j => (w.cell? ((p.add (o.toNat * sz')).add j)).getD Go.undef, by rw [lit_I], rfl, RelL.of_get (by simp; omega) fun j x y hx hy => ?_, fun j u hu => ?_⟩
        · have hj : j < n.toNat * sz' := by
            have := (List.getElem?_eq_some_iff.1 hy).1
            simpa using this
          obtain ⟨c, u, h1, h2, h3⟩ := hex j hj
          rw [List.getElem?_take_of_lt hj, List.getElem?_drop, h1] at hx
          obtain rfl := Option.some.inj hx
          rw [List.getElem?_map, List.getElem?_range hj, Option.map_some, h2] at hy
          obtain rfl := Option.some.inj hy
          exact h3
        · have hj : j < n.toNat * sz' := by
            have := (List.getElem?_eq_some_iff.1 hu).1
            simpa using this
          obtain ⟨c, u', h1, h2, h3⟩ := hex j hj
          rw [List.getElem?_map, List.getElem?_range hj, Option.map_some, h2] at hu
          obtain rfl := Option.some.inj hu
          exact h2
      · cases h
    · cases h
  · cases h
theorem emptyBase_sound {x : Sc} {v : Value} (h : emptyBase x = true) (hv : x.rel ρ β v) : ∃ q, v = .slice q 0 0 := by
  unfold emptyBase at h
  split at h
  · exact ⟨none, hv⟩
  · rename_i b sz off z z'
    simp only [Bool.and_eq_true, decide_eq_true_eq] at h
    obtain ⟨rfl, rfl⟩ := h
    have hv : (Sc0.slc b sz off (.lit 0) (some (.lit 0))).rel ρ β v := hv
    obtain ⟨p, c, q, r, hat, rfl, ho0, hl0, hlr, hrm, hpc, hq, hrc, hcp, _⟩ := hv
    have hr0 : r = 0 := by have := hcp _ rfl; rw [lit_I] at this; omega
    subst hr0
    exact ⟨q, rfl⟩
  · cases h
theorem append_cells (hC : C.Ok P) {args : Array Operand} {ts : Array TypeId} {ox oy : Operand} {t e : TypeId} (ho' : o.op = .call { callee := .builtin .append, args := args, argTypes := ts }) (hargs' : args = #[ox, oy]) (hts' : ts = #[t, t]) {x y v : Sc} {nd' : List X} {s1 : S}
    (hu : P.underlying t = some (.slice e)) (happ : appendC C s e x y = some (nd', v, s1)) {H : Nat → Option HE} (m : PMem C B w0 ρ β W H w) (hf : s.factsOk ρ) (hh : ∀ k e b, s.heap[k]? = some e → β k = some b → EOk ρ β W w b e)
    (hfresh : β s.heap.length = none) (rx : x.rel ρ β (a.eval ox)) (ry : y.rel ρ β (a.eval oy)) :
    ∃ u w' β' W' used e sl, (execOp a.eval o).run P w = .ok (.value u) w' ∧ s1.put o.dst { g := .bl true, v := .v (.sc v) } = ((s.spend used).add e).put o.dst sl ∧ sl.rel ρ β' u ∧ (∀ k, used = some k → ∃ e, s.heap[k]? = some e ∧ e.body ≠ .gone) ∧
      PMem C B w0 ρ β' W' (appH s.heap.length used e H) w' ∧ Ext β β' ∧ (∀ j, j ≠ s.heap.length → β j = none → β' j = none) ∧ ∃ b, β' s.heap.length = some b := by
  unfold appendC at happ
  split at happ
  · rename_i d hd
    split at happ
    · rename_i ml hseq
      split at happ
      · rename_i hc
        obtain ⟨hem, hpos, hml, hby, hlim⟩ := hc
        obtain ⟨rfl, h2⟩ := Prod.mk.inj (Option.some.inj happ)
        obtain ⟨rfl, rfl⟩ := Prod.mk.inj h2
        obtain ⟨i, u0, zv, hi, _, hisz, hiby, hzl, _, hz, hzc, _, _, _⟩ := (hC.ty _ _ hd).facts
        have hzs : zv.cells.size = i.size := by
          have := (litsB_rel (ρ := ρ) (β := β) hzc).length
          rw [hzl] at this
          rw [hisz, this]; simp
        obtain ⟨q, hxe⟩ := emptyBase_sound hem rx
        obtain ⟨p', c', us, hye, hdm, hus, hcell⟩ := seqC_sound hf hh hseq hpos hml ry
        have hlu := hus.length
        generalize hmm : ml.length / d.size = mm at *
        have hm0 : 0 < mm := by
          rcases Nat.eq_zero_or_pos mm with h | h
          · rw [h, Nat.zero_mul] at hdm; omega
          · exact h
        have hmle : mm ≤ ml.length := by rw [← hdm]; exact Nat.le_mul_of_pos_right _ hpos
        obtain ⟨cc, zs, g1, g2, g3, g4⟩ := append_grow (P := P) (w := w) (t := t) (ty := o.type) (i := i) (z := zv) (q := q) (n := 0) (cap := 0) (m := mm) (c := c') (q' := some p') (olds := []) (news := us) hu hi hz hzs (fun _ => rfl) (Nat.le_refl _) (by simp) (fun p hp j v hv => by simp at hv) (fun h => by cases h) (by rw [hisz, hdm, hlu]) (fun p hp j v hv => by cases hp; exact hcell j v hv) (by omega) (by omega) (by rw [Nat.zero_add, hiby]; exact hby)
        rw [Nat.zero_add] at g1 g3 g4
        have hout := appOut_grow (w := w) (e := e) (olds := []) (news := us) (n := 0) (m := mm) (sz := d.size) (zs := zs) (c' := cc) (by omega) (by simp) (by rw [hdm, hlu]) (by rw [g3, hisz, Nat.zero_add])
        rw [List.nil_append] at hout g4
        have hbel : Below w.heap.size w (w.drew.alloc (.cells (us ++ zs).toArray e)) := (Below.refl _ _).drew.alloc (Nat.le_refl _) _
        have hsz : (w.drew.alloc (.cells (us ++ zs).toArray e)).heap.size = w.heap.size + 1 := by simp
        have hx := ext_upd ⟨⟨some ⟨w.heap.size, 0, none⟩, cc, d.size, fun _ => none, fun _ => 0⟩, some w.heap.size⟩ hfresh
        refine ⟨_, _, upd β s.heap.length ⟨⟨some ⟨w.heap.size, 0, none⟩, cc, d.size, fun _ => none, fun _ => 0⟩, some w.heap.size⟩, fun r => W r ∨ r = w.heap.size, none, _, _, run_append ho' hargs' hts' (by rw [hxe, hye]; exact g4), rfl, ⟨fun _ => ?_, fun h => (by cases h)⟩, fun k hk => (by cases hk), ?_, hx, fun j hj h => by rw [upd_other _ _ hj]; exact h, ⟨_, upd_same ..⟩⟩
        · refine ⟨some ⟨w.heap.size, 0, none⟩, cc, some ⟨w.heap.size, 0, none⟩, cc, by simp only [SB.at, upd_same, Option.map_some], by rw [lit_I]; simp, by rw [lit_I]; exact Int.le_refl _, by rw [lit_I]; omega, by rw [lit_I]; simpa using g1, g2, fun h => (by cases h), .inr ?_, by rw [lit_I]; simp, by simp, by rw [lit_I]; simp⟩
          rw [lit_I]; simp [Addr.add]
        · have m2 := (m.name hfresh (ent true (.cells ml))).add hfresh hbel hsz (b := ⟨⟨some ⟨w.heap.size, 0, none⟩, cc, d.size, fun _ => none, fun _ => 0⟩, some w.heap.size⟩) rfl fun e' he' => by
            rw [if_pos rfl] at he'
            obtain rfl := Option.some.inj he'
            intro _
            refine ⟨⟨w.heap.size, 0, none⟩, rfl, ⟨by rw [hsz]; simp only; omega, fun _ => ⟨rfl, rfl, hout.there⟩, fun h => (by cases h)⟩, fun j c hj => ?_⟩
            obtain ⟨u, h1, h2⟩ := hus.get j c hj
            obtain ⟨h3, h4⟩ := hout.val j u h1
            refine ⟨u, ?_, Sc.rel_ext hx h2⟩
            rw [add0]
            exact ⟨h3, fun _ => h4⟩
          refine m2.congr fun k b hb => ?_
          unfold appH
          by_cases h : k = s.heap.length
          · rw [if_pos h, if_pos h]
          · rw [if_neg h, if_neg h, if_neg (fun h => by cases h)]
      · cases happ
    · cases happ
  · cases happ
theorem append_any (hC : C.Ok P) {cl : Call} (ho : o.op = .call cl) {nd : List X} {s' : S} (hq : estep C s o = some (nd, s')) {H : Nat → Option HE} (m : PMem C B w0 ρ β W H w) (hf : s.factsOk ρ) (hh : ∀ k e b, s.heap[k]? = some e → β k = some b → EOk ρ β W w b e)
    (hfresh : β s.heap.length = none) (hop : ∀ x ∈ o.op.operands.toList, OpdOk ρ β s a x) (hnd : ∀ x ∈ nd, x.B ρ = true) :
    Region.wanted o (yielded ops a.tmps) = true ∧ ∃ u w' β' W' used e sl, (execOp a.eval o).run P w = .ok (.value u) w' ∧ s' = ((s.spend used).add e).put o.dst sl ∧ sl.rel ρ β' u ∧ (∀ k, used = some k → ∃ e, s.heap[k]? = some e ∧ e.body ≠ .gone) ∧
      PMem C B w0 ρ β' W' (appH s.heap.length used e H) w' ∧ Ext β β' ∧ (∀ j, j ≠ s.heap.length → β j = none → β' j = none) ∧ ∃ b, β' s.heap.length = some b := by
  unfold estep at hq
  split at hq
  · cases hq
  · rename_i hgd
    have hgd' : o.guard = none := by simpa using hgd
    refine ⟨by simp [Region.wanted, hgd'], ?_⟩
    split at hq
    · rename_i h; rw [ho] at h; cases h
    · rename_i args ts ho'
      split at hq
      · rename_i ox oy t t' hargs hts
        split at hq
        · rename_i htt
          subst htt
          have hargs' : args = #[ox, oy] := Array.toList_inj.1 hargs
          have hts' : ts = #[t, t] := Array.toList_inj.1 hts
          split at hq
          · rename_i x y hx hy
            split at hq
            · rename_i nd' v s1 happ
              obtain ⟨rfl, rfl⟩ := Prod.mk.inj (Option.some.inj hq)
              have tt : (X.bl true).B ρ = true := rfl
              have rx := val_rel hf tt m.glob (hop ox (by simp [ho', Op.operands, Call.operands, hargs'])) hx
              have ry := val_rel hf tt m.glob (hop oy (by simp [ho', Op.operands, Call.operands, hargs'])) hy
              unfold appendAt at happ
              split at happ
              · rename_i sh e sz by_ z el pl hsh hty
                split at happ
                · rename_i d aX nX used nd0 bX mX nd1 hd hbase hseq
                  split at happ
                  · rename_i hpos
                    obtain ⟨rfl, h2⟩ := Prod.mk.inj (Option.some.inj happ)
                    obtain ⟨rfl, rfl⟩ := Prod.mk.inj h2
                    -- the types
                    have hu := (hC.ty _ _ hty).slice rfl
                    obtain ⟨i, u0, zv, hi, _, hisz, hiby, hzl, _, hz, hzc, _, _, _⟩ := (hC.ty _ _ hd).facts
                    have hshl : sh.length = d.size := by
                      unfold shOf at hsh
                      rw [hty] at hsh
                      simp only [hd] at hsh
                      rw [mapOpt_len hsh, hzl]
                    have hzs : zv.cells.size = i.size := by
                      have := (litsB_rel (ρ := ρ) (β := β) hzc).length
                      rw [hzl] at this
                      rw [hisz, this]; simp
                    have hsi : sh.length = i.size := by rw [hshl, hisz]
                    -- the two lists
                    obtain ⟨⟨⟨q, cap, hxe, hn0, hncap, hcm, hqn, hbs⟩, hused⟩, hul⟩ := baseOf_sound hf hh hbase rx
                    obtain ⟨_, hrd⟩ := argOf_sound hf tt hh (seqOf_argOf hseq) (fun x hx => hnd x (by simp [hx])) ry
                    obtain ⟨q', m', c', g, hye, hmc, hcm', hqn', hl, hval⟩ := hrd
                    simp only [Sh0.ks, List.map_cons, List.map_nil, fixL, VK.fix, List.cons.injEq, AV.a.injEq, AV.i.injEq, and_true] at hl
                    obtain ⟨hg, hm'⟩ := hl
                    have hmI : mX.I ρ = (m' : Int) := hm'
                    have hnI : ((nX.I ρ).toNat : Int) = nX.I ρ := Int.toNat_of_nonneg hn0
                    generalize hnn : (nX.I ρ).toNat = n at *
                    -- the needs
                    have need1 := hnd (xb .le (xb .mul (xb .add nX mX) (.lit d.bytes)) (.lit (2 ^ 47))) (by simp)
                    have need2 := hnd (xb .le (xb .add nX mX) (.lit (2 ^ 47))) (by simp)
                    have hsum : (xb .add nX mX).I ρ = (n : Int) + m' := by rw [xadd, hmI, hnI]
                    rw [xle, lit_I] at need1 need2
                    rw [xmul, hsum, lit_I] at need1
                    rw [hsum] at need2
                    have h63 : n + m' ≤ 2 ^ 47 := by
                      have : (n : Int) + m' ≤ 2 ^ 47 := by simpa using need2
                      omega
                    have hbytes : (n + m') * i.bytes ≤ 2 ^ 47 := by
                      rw [hiby]
                      have : ((n : Int) + m') * d.bytes ≤ 2 ^ 47 := by simpa using need1
                      exact_mod_cast this
                    -- what is there
                    have hnl : (rowCells sh g m').length = m' * i.size := by rw [rowCells_len, hsi]
                    have hns : ∀ p, q' = some p → ∀ j v, (rowCells sh g m')[j]? = some v → w.cell? (p.add j) = some v := fun p hp j v hv => by
                      obtain ⟨k, hk, hlt, rfl⟩ := rowCells_get hv
                      obtain ⟨p', hp', _, hc⟩ := hval ((j / sh.length : Nat) : Int) (j % sh.length) k (Int.natCast_nonneg _) (by exact_mod_cast hlt) hk
                      obtain rfl := Option.some.inj (hp'.symm.trans hp)
                      rw [Int.toNat_natCast] at hc
                      have : j / sh.length * sh.length + j % sh.length = j := by rw [Nat.mul_comm]; exact Nat.div_add_mod _ _
                      rw [this] at hc; exact hc
                    have hol : (rowCells sh (aX.den ρ).fn n).length = n * i.size := by rw [rowCells_len, hsi]
                    have hos0 : ∀ r, (∀ (i : Int) f k, 0 ≤ i → i < nX.I ρ → sh[f]? = some k → w.cell? ⟨r, i.toNat * sh.length + f, none⟩ = some (k.val ((aX.den ρ).fn i f))) → ∀ j v, (rowCells sh (aX.den ρ).fn n)[j]? = some v → w.cell? ⟨r, j, none⟩ = some v := fun r hr j v hv => by
                      obtain ⟨k, hk, hlt, rfl⟩ := rowCells_get hv
                      have hc := hr ((j / sh.length : Nat) : Int) (j % sh.length) k (Int.natCast_nonneg _) (by rw [← hnI]; exact_mod_cast hlt) hk
                      rw [Int.toNat_natCast] at hc
                      have : j / sh.length * sh.length + j % sh.length = j := by rw [Nat.mul_comm]; exact Nat.div_add_mod _ _
                      rw [this] at hc; exact hc
                    have hfn : ∀ (i : Int) j, 0 ≤ i → ((appX aX nX bX).den ρ).fn i j = if i < n then (aX.den ρ).fn i j else g (i - n) j := fun i j i0 => by
                      rw [← hg]
                      unfold appX
                      split
                      · have : (n : Int) = 0 := by rw [hnI, lit_I]
                        rw [this, if_neg (by omega), Int.sub_zero]
                      · have : (nX.den ρ).int = (n : Int) := by rw [hnI]; try rfl
                        simp only [X.den, AV.fn, this]
                    have hslot : ∀ (β' : Mp) (b : BI) (r cap' : Nat), β' s.heap.length = some b → b.v.addr = some ⟨r, 0, none⟩ → b.v.cap = cap' → n + m' ≤ cap' → cap' ≤ maxLen → (Sc.c (.slc (.blk s.heap.length) sh.length (.lit 0) (xb .add nX mX) none)).rel ρ β' (.slice (some ⟨r, 0, none⟩) (n + m') cap') := fun β' b r cap' hb ha hc h1 h2 => by
                      refine ⟨some ⟨r, 0, none⟩, cap', some ⟨r, 0, none⟩, cap', ?_, ?_, by rw [lit_I]; exact Int.le_refl _, by rw [hsum]; omega, by rw [hsum]; omega, h2, fun h => (by cases h), .inr ?_, by rw [lit_I]; simp, by simp, by rw [lit_I]; simp⟩
                      · simp only [SB.at, hb, Option.map_some, ha, hc]
                      · rw [hsum]; congr 1
                      · rw [lit_I]; simp [Addr.add]
                    -- the memory without what is used up
                    have m1 : ∃ β1, PMem C B w0 ρ β1 W (fun j => if used = some j then some (ent true .gone) else H j) w ∧ Ext β β1 ∧ (∀ j, β j = none → β1 j = none) ∧ ∀ k bi r, used = some k → β k = some bi → bi.own = some r → ∀ k' b', β1 k' = some b' → b'.own ≠ some r := by
                      cases hus : used with
                      | none => exact ⟨β, m.congr fun k b _ => if_neg fun h => (by cases h), Ext.refl _, fun _ h => h, fun k bi r h => by cases h⟩
                      | some k =>
                        obtain ⟨bi, hb⟩ := hused k hus
                        refine ⟨_, (m.give hb).congr fun j b _ => ?_, fun j b hb' => ?_, fun j hj => ?_, fun k0 bi0 r h h0 h1 k' b' hb' ho' => ?_⟩
                        · by_cases h : j = k
                          · rw [if_pos (by rw [h]), if_pos h]
                          · rw [if_neg (fun h' => h (Option.some.inj h').symm), if_neg h]
                        · by_cases h : j = k
                          · subst h
                            obtain rfl := Option.some.inj (hb'.symm.trans hb)
                            exact ⟨_, upd_same .., rfl⟩
                          · exact ⟨b, by rw [upd_other _ _ h]; exact hb', rfl⟩
                        · have : j ≠ k := fun h => by rw [h, hb] at hj; cases hj
                          rw [upd_other _ _ this]; exact hj
                        · cases h
                          by_cases hk' : k' = k
                          · rw [hk', upd_same] at hb'
                            obtain rfl := Option.some.inj hb'
                            cases ho'
                          · rw [upd_other _ _ hk'] at hb'
                            exact hk' (m.dist k' k b' bi0 r hb' h0 ho' h1)
                    obtain ⟨β1, m1, hx1, hnn1, hno1⟩ := m1
                    have hn1 := hnn1 _ hfresh
                    have fin : ∀ (u : Value) (w' : World) (b : BI) (W' : Nat → Prop), (Builtin.append_ #[t, t] o.type #[a.eval ox, a.eval oy]).run P w = .ok u w' →
                        PMem C B w0 ρ (upd β1 s.heap.length b) W' (appH s.heap.length used (ent true (.arr sh (appX aX nX bX) (xb .add nX mX))) H) w' →
                        (Sc.c (.slc (.blk s.heap.length) sh.length (.lit 0) (xb .add nX mX) none)).rel ρ (upd β1 s.heap.length b) u →
                        ∃ u w' β' W' used' e sl, (execOp a.eval o).run P w = .ok (.value u) w' ∧ ((s.spend used).add (ent true (.arr sh (appX aX nX bX) (xb .add nX mX)))).put o.dst { g := .bl true, v := .v (.sc (.c (.slc (.blk s.heap.length) sh.length (.lit 0) (xb .add nX mX) none))) } = ((s.spend used').add e).put o.dst sl ∧ sl.rel ρ β' u ∧
                          (∀ k, used' = some k → ∃ e, s.heap[k]? = some e ∧ e.body ≠ .gone) ∧ PMem C B w0 ρ β' W' (appH s.heap.length used' e H) w' ∧ Ext β β' ∧ (∀ j, j ≠ s.heap.length → β j = none → β' j = none) ∧ ∃ b, β' s.heap.length = some b := by
                      intro u w' b W' hrun hm hrel
                      exact ⟨u, w', _, W', used, _, _, run_append ho' hargs' hts' hrun, rfl, ⟨fun _ => hrel, fun h => (by cases h)⟩, hul, hm, hx1.trans (ext_upd b hn1), fun j hj h => by rw [upd_other _ _ hj]; exact hnn1 j h, ⟨b, upd_same ..⟩⟩
                    have hxe' : a.eval ox = .slice q n cap := hxe
                    rw [hxe', hye] at fin
                    by_cases hgr : cap < n + m'
                    · obtain ⟨cc, zs, g1, g2, g3, g4⟩ := append_grow (P := P) (w := w) (t := t) (ty := o.type) (c := c') hu hi hz hzs hqn hncap hol (fun p hp j v hv => by
                        rcases hbs with h0 | ⟨k, bi, r, _, _, _, _, hqr, _, hr⟩
                        · obtain rfl : n = 0 := by omega
                          simp [rowCells] at hv
                        · obtain rfl := Option.some.inj (hp.symm.trans hqr)
                          rw [add0]; exact hos0 r hr j v hv) (fun h => by have := hqn' h; omega) hnl hns hgr h63 hbytes
                      have hout := appOut_grow (w := w) (e := e) g1 hol hnl g3
                      rw [← hsi] at hout
                      have hbel : Below w.heap.size w (w.drew.alloc (.cells (rowCells sh (aX.den ρ).fn n ++ rowCells sh g m' ++ zs).toArray e)) := (Below.refl _ _).drew.alloc (Nat.le_refl _) _
                      have hsz : (w.drew.alloc (.cells (rowCells sh (aX.den ρ).fn n ++ rowCells sh g m' ++ zs).toArray e)).heap.size = w.heap.size + 1 := by simp
                      refine fin _ _ ⟨⟨some ⟨w.heap.size, 0, none⟩, cc, sh.length, fun _ => none, fun _ => 0⟩, some w.heap.size⟩ (fun r => W r ∨ r = w.heap.size) g4 ((m1.name hn1 _).add hn1 hbel hsz rfl fun e' he' => ?_) (hslot _ _ _ _ (upd_same ..) rfl rfl g1 g2)
                      rw [if_pos rfl] at he'
                      obtain rfl := Option.some.inj he'
                      exact eok_appOut hout hsum g1 (by rw [hsz]; omega) hfn
                    · have hroom : n + m' ≤ cap := by omega
                      rcases hbs with h0 | ⟨k, bi, r, hus, hb, hown, hrl, rfl, hex, hr⟩
                      · subst h0
                        obtain rfl : n = 0 := by omega
                        obtain rfl : m' = 0 := by omega
                        refine fin _ w ⟨⟨q, 0, sh.length, fun _ => none, fun _ => 0⟩, none⟩ W (append_nothing hu hi) ((m1.name hn1 _).addNone hn1 rfl fun e' he' => ?_) ?_
                        · rw [if_pos rfl] at he'
                          obtain rfl := Option.some.inj he'
                          intro _
                          exact ⟨by rw [hsum]; simp, fun _ => rfl, rfl, .inl ⟨by rw [hsum]; rfl, rfl, rfl⟩⟩
                        · refine ⟨q, 0, q, 0, ?_, ?_, by rw [lit_I]; exact Int.le_refl _, by rw [hsum]; simp, by rw [hsum]; simp, Nat.zero_le _, fun _ => rfl, .inl rfl, by rw [lit_I]; simp, by simp, by rw [lit_I]; simp⟩
                          · simp only [SB.at, upd_same, Option.map_some]
                          · rw [hsum]; rfl
                      · have hWr := m.own k bi r hb hown
                        have hBr := (m.wlo r hWr).1
                        have hout := appOut_room (w := w) (sz := sh.length) hroom (rowCells_len sh (aX.den ρ).fn n) (rowCells_len sh g m') hex (hos0 r hr)
                        have hrun := append_room (P := P) (w := w) (t := t) (ty := o.type) (c := c') hu hi (fun h => by have := hqn' h; omega) hnl hns rowCells_one hroom (by rw [← hsi]; exact hex)
                        rw [← hsi] at hrun
                        refine fin _ _ ⟨⟨some ⟨r, 0, none⟩, cap, sh.length, fun _ => none, fun _ => 0⟩, some r⟩ W hrun (m1.reuse hn1 hWr (hno1 k bi r hus hb hown) rfl (but_setCells w r _ _) (below_setCells w r hBr _ _ w) (size_setCells _ _ _ _) ?_) (hslot _ _ _ _ (upd_same ..) rfl rfl hroom hcm)
                        exact eok_appOut hout hsum hroom (by rw [size_setCells]; exact hrl) hfn
                  · cases happ
                · cases happ
              · rename_i e sz by_ z el pl hsh hty
                exact append_cells hC ho' hargs' hts' ((hC.ty _ _ hty).slice rfl) happ m hf hh hfresh rx ry
              · cases happ
            · cases hq
          · cases hq
        · cases hq
      · cases hq
    · cases hq
theorem append_seq (hC : C.Ok P) {cl : Call} (ho : o.op = .call cl) {nd : List X} {s' : S} (hq : estep C s o = some (nd, s')) (m : Mem C B w0 ρ β W s w) (fr : Fr ρ β s a) (hnd : ∀ x ∈ nd, x.B ρ = true) :
    Region.wanted o (yielded ops a.tmps) = true ∧ ∃ u w' β' W', (execOp a.eval o).run P w = .ok (.value u) w' ∧ Mem C B w0 ρ β' W' s' w' ∧ Fr ρ β' s' (a.put o.dst u) ∧ Later ρ β s ρ β' s' ∧ s'.lvl = s.lvl := by
  obtain ⟨hw, u, w', β', W', used, e, sl, hrun, rfl, hsl, hus, hm, hx, hnn, hb⟩ := append_any (ops := ops) hC ho hq m.toPMem m.facts (fun k e b hk hb => m.heap k e b hk hb) (m.top _ (Nat.le_refl _)) (fun x _ => opd_of_fr fr x) hnd
  have hl1 : (s.spend used).heap.length = s.heap.length := by cases used <;> simp [S.spend, S.setBody, setF_eq]
  have hl2 : ((s.spend used).add e).heap.length = s.heap.length + 1 := by simp [S.add, hl1]
  have ht : ((s.spend used).add e).tmps = s.tmps := by cases used <;> rfl
  have hfc : ((s.spend used).add e).facts = s.facts := by cases used <;> rfl
  have hks : ((s.spend used).add e).ks = s.ks := by cases used <;> rfl
  have hlv : ((s.spend used).add e).lvl = s.lvl := by cases used <;> rfl
  have hH : ∀ k b, β' k = some b → ((s.spend used).add e).H k = appH s.heap.length used e s.H k := fun k b hb' => by
    have hlt : k < s.heap.length ∨ k = s.heap.length := by
      rcases Nat.lt_trichotomy k s.heap.length with h | h | h
      · exact .inl h
      · exact .inr h
      · rw [hnn k (by omega) (m.top k (by omega))] at hb'; cases hb'
    unfold appH
    rcases hlt with hlt | rfl
    · rw [if_neg (by omega)]
      simp only [S.H, S.add]
      rw [List.getElem?_append_left (by omega)]
      cases used with
      | none => rw [if_neg (fun h => by cases h)]; rfl
      | some j =>
        simp only [S.spend, S.setBody, setF_eq, List.getElem?_set]
        by_cases h : j = k
        · subst h; simp [hlt]
        · rw [if_neg h, if_neg (fun h' => h (Option.some.inj h'))]
    · rw [if_pos rfl]
      simp [S.H, S.add, ← hl1]
  refine ⟨hw, u, w', β', W', hrun, Mem.put ⟨hm.congr hH, fun k hk => ?_, fun k hk => hnn k (by omega) (m.top k (by omega)), by rw [S.factsOk, hfc]; exact m.facts, by rw [hks]; exact m.kt⟩ _ _, Fr.put (Fr.ext hx fr ht) hsl, Later.put (Later.of_ext hx hks (by omega)) _ _, by rw [put_lvl]; exact hlv⟩
  rw [hl2] at hk
  by_cases h : k = s.heap.length
  · rw [h]; exact hb
  · obtain ⟨b, hb⟩ := m.all k (by omega)
    obtain ⟨b', hb', _⟩ := hx k b hb
    exact ⟨b', hb'⟩
end
end
end Go.Proofs.Ytiiabaklipmbbaa.Vc
