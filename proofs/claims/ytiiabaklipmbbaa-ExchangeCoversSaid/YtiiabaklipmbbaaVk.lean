/- The symbolic executor: functions. -/
import Derived.Test.YtiiabaklipmbbaaVj
namespace Go.Proofs.Ytiiabaklipmbbaa.Vc
noncomputable section
open Go Go.RowKit
variable {ρ ρ' : List AV} {β β' : Mp} {W W' : Nat → Prop} {w w' : World} {P : Program} {C : Cfg} {B : Nat} {w0 : World}
variable {Γ : FuncId → Con} {Qd : List AV → Prop}

theorem results_run (hC : C.Ok P) {s : S} {a : Act} (m : Mem C B w0 ρ β W s w) (fr : Fr ρ β s a) : ∀ {l : List ResultVar} {vs : List V1}, resOf C s l = some vs →
    ∃ us : List Value, (l.mapM fun r => match r with
      | .tmp t => pure (a.tmps.getD t Go.undef)
      | .cell x t => do loadVar t (← asAddr (a.tmps.getD x Go.undef)) : Sem (List Value)).run P w = .ok us w ∧ RelL (V1.rel ρ β) vs us
  | [], vs, h => by simp only [resOf] at h; obtain rfl := Option.some.inj h; exact ⟨[], by simp, trivial⟩
  | .tmp t :: l, vs, h => by
    simp only [resOf] at h
    split at h
    · rename_i v m' hv hm
      obtain rfl := Option.some.inj h
      obtain ⟨us, h1, h2⟩ := results_run hC m fr hm
      have ht : s.tmps[t]? = some (some ⟨.bl true, .v v⟩) := by
        cases h3 : s.tmps[t]? with
        | none => simp [h3] at hv
        | some o => simp [h3] at hv; rw [hv]
      refine ⟨a.tmps.getD t Go.undef :: us, ?_, (fr.2 t _ ht).1 rfl, h2⟩
      simp only [List.mapM_cons, Sem.run_bind, Sem.run_pure, Result.andThen_ok, h1]
    · cases h
  | .cell x t :: l, vs, h => by
    simp only [resOf] at h
    split at h
    · rename_i b sz i f d m' hv hd hm
      split at h
      · rename_i cs hl
        simp only [Option.map_eq_some_iff] at h
        obtain ⟨y, hy, rfl⟩ := h
        obtain ⟨us, h1, h2⟩ := results_run hC m fr hm
        have ht : s.tmps[x]? = some (some ⟨.bl true, .v (.sc (.c (.ptr b sz i f)))⟩) := by
          cases h3 : s.tmps[x]? with
          | none => simp [h3] at hv
          | some o => simp [h3] at hv; rw [hv]
        obtain ⟨q, c, hat, hi, he⟩ := (fr.2 x _ ht).1 rfl
        obtain ⟨ws, l1, l2, l3⟩ := loadAt_sound m.facts rfl hl (fun x hx => by cases hx) (fun k e bi hk hb => m.heap k e bi hk hb) hat hi
        obtain ⟨u, h4, h5⟩ := loadVar_run (hC.ty _ _ hd) l1 l2 l3 hy
        refine ⟨u :: us, ?_, h5, h2⟩
        have ha : (asAddr (a.tmps.getD x Go.undef)).run P w = .ok (q.add ((X.I ρ i).toNat * sz + f)) w := by rw [he]; rfl
        simp only [List.mapM_cons, Sem.run_bind, ha, Result.andThen_ok, h4, h1, Sem.run_pure]
      · cases h
    · cases h
theorem tup_eq (us : List Value) : (if h : us.toArray.size = 1 then us.toArray[0] else Value.tuple us.toArray) = tupOf us := by
  match us with
  | [] => rfl
  | [x] => rfl
  | x :: y :: l => rfl
theorem results_sound (hC : C.Ok P) {s : S} {a : Act} (m : Mem C B w0 ρ β W s w) (fr : Fr ρ β s a) {fn : Func} {vs : List V1} (h : resOf C s fn.results.toList = some vs) :
    ∃ us : List Value, (results fn a.tmps).run P w = .ok (tupOf us) w ∧ RelL (V1.rel ρ β) vs us := by
  obtain ⟨us, h1, h2⟩ := results_run hC m fr h
  refine ⟨us, ?_, h2⟩
  unfold results
  have e : (fn.results.mapM fun r => match r with
      | .tmp t => pure (a.tmps.getD t Go.undef)
      | .cell x t => do loadVar t (← asAddr (a.tmps.getD x Go.undef)) : Sem (Array Value)).run P w = .ok us.toArray w := by
    rw [Array.mapM_eq_mapM_toList, ← bind_pure_comp]
    simp only [Sem.run_bind, h1, Result.andThen_ok, Function.comp, Sem.run_pure]
  simp only [Sem.run_bind]
  refine Eq.trans (congrArg (fun r => Result.andThen r _) e) ?_
  simp only [Result.andThen_ok, Sem.run_pure]
  rw [tup_eq]
theorem frame_fr {args : List SV} {vals : List Value} (h : RelL (SV.rel ρ β) args vals) {n : Nat} (hn : args.length ≤ n) (s : S) : Fr ρ β { s with tmps := frameOf args n } { tmps := vals.toArray ++ Array.replicate (n - vals.toArray.size) Go.undef, defers := [] } := by
  have hl := h.length
  refine ⟨by simp [frameOf]; omega, fun t sl ht => ?_⟩
  simp only [frameOf] at ht
  by_cases hlt : t < args.length
  · rw [List.getElem?_append_left (by simpa using hlt), List.getElem?_map] at ht
    obtain ⟨y, hy, hyr⟩ := h.get t _ (List.getElem?_eq_getElem hlt)
    rw [List.getElem?_eq_getElem hlt] at ht
    simp at ht
    subst ht
    have : (vals.toArray ++ Array.replicate (n - vals.toArray.size) Go.undef).getD t Go.undef = y := by
      rw [Array.getD_eq_getD_getElem?, Array.getElem?_append_left (by simp; omega)]
      simp [hy]
    rw [this]
    exact ⟨fun _ => hyr, fun h => by cases h⟩
  · rw [List.getElem?_append_right (by simpa using Nat.le_of_not_lt hlt), List.getElem?_replicate] at ht
    split at ht
    · obtain rfl := Option.some.inj (Option.some.inj ht)
      have : (vals.toArray ++ Array.replicate (n - vals.toArray.size) Go.undef).getD t Go.undef = Go.undef := by
        rw [Array.getD_eq_getD_getElem?, Array.getElem?_append_right (by simp; omega), Array.getElem?_replicate]
        split <;> rfl
      rw [this]
      exact ⟨fun _ => rfl, fun _ => rfl⟩
    · cases ht
theorem Mem.tmps {s : S} (m : Mem C B w0 ρ β W s w) (t : List (Option Slot)) : Mem C B w0 ρ β W { s with tmps := t } w := { toPMem := m.toPMem, all := m.all, top := m.top, facts := m.facts, kt := m.kt }
theorem execF_sound (hC : C.Ok P) (hΓ : ConsOk P C Γ B w0) (hm : P.follows .mixedOrders = true) (hnm : ∀ f fn, C.fn f = some fn → (fn.name == "runtime.NumGoroutine") = false) : ∀ n, CallOk P C Γ Qd B w0 (execF C n)
  | 0 => fun f args s K ρ β W w ctx vals m hr hlv hden => (show False from hden).elim
  | n + 1 => fun f args s K ρ β W w ctx vals m hr hlv hden => by
    simp only [execF] at hden
    split at hden
    · rename_i fn hfn
      split at hden
      · rename_i c hc
        split at hden
        · rename_i hle
          have hf := hC.fn _ _ hfn
          refine ⟨⟨fn, hf, by rw [hc]; rfl, hnm _ _ hfn⟩, fun R hR => ?_⟩
          refine calls_of_wp hf hc ?_
          refine execC_sound hC hΓ hm (execF_sound hC hΓ hm hnm n) f c ctx { s with tmps := frameOf args fn.ntmps } ρ β W { tmps := vals.toArray ++ Array.replicate (fn.ntmps - vals.toArray.size) Go.undef, defers := [] } w _ _ hlv (m.tmps _) (frame_fr hr hle s) hden fun e => ?_
          intro ρ' β' W' s' a' w' ctx' hcx hlv' m' fr' hl' hd' hden'
          have fin : (match resOf C s' fn.results.toList with
              | some vs => if s'.ks.length = s.ks.length then K (retV vs) { s' with tmps := s.tmps } else match s.more (s'.ks.drop s.ks.length) with
                | some s'' => K (retV vs) { s' with tmps := s''.tmps }
                | none => .fail "frame"
              | none => .fail ("results " ++ fn.name)).den Γ Qd ρ' ctx' → a'.defers = [] ∧ ∃ v, (results fn a'.tmps).run P w' = .ok v w' ∧ R (.returned v) w' := by
            intro hden'
            refine ⟨hd', ?_⟩
            split at hden'
            · rename_i vs hvs
              obtain ⟨us, h1, h2⟩ := results_sound hC m' fr' hvs
              split at hden'
              · rename_i hkl
                refine ⟨_, h1, hR _ { s' with tmps := s.tmps } ρ' β' W' w' ctx' _ hcx hlv' (m'.tmps _) ?_ ⟨hl'.env, hl'.ks, hl'.len, hl'.map⟩ (retV_rel h2 fun _ => trivial) hden'⟩
                intro a0 fr0
                obtain ⟨δ, rfl⟩ := hl'.env
                have hδ : δ = [] := by
                  have h3 := m'.kt.1
                  rw [hkl, List.length_append, m.kt.1] at h3
                  exact List.eq_nil_of_length_eq_zero (by omega)
                subst hδ
                have hx : Ext β β' := fun k b hb => by
                  have hlt : k < s.heap.length := by
                    rcases Nat.lt_or_ge k s.heap.length with h | h
                    · exact h
                    · rw [m.top k h] at hb; cases hb
                  obtain ⟨b1, h4⟩ := m.all k hlt
                  obtain ⟨b2, h5, h6⟩ := hl'.map k b1 hlt h4
                  rw [hb] at h4
                  obtain rfl := Option.some.inj h4
                  exact ⟨b2, h5, h6⟩
                exact ⟨fr0.1, fun t sl ht => by rw [List.append_nil]; exact Slot.rel_ext hx (fr0.2 t sl ht)⟩
              · split at hden'
                · rename_i s'' hmore
                  refine ⟨_, h1, hR _ { s' with tmps := s''.tmps } ρ' β' W' w' ctx' _ hcx hlv' (m'.tmps _) ?_ ⟨hl'.env, hl'.ks, hl'.len, hl'.map⟩ (retV_rel h2 fun _ => trivial) hden'⟩
                  intro a0 fr0
                  obtain ⟨δ, rfl⟩ := hl'.env
                  obtain ⟨rfl, sc⟩ := S.more_eq hmore
                  have hok : (idR s.ks.length s.heap.length).Ok ρ β (ρ ++ δ) β' := idR_ok (by rw [m.kt.1]; exact Nat.le_refl _) fun k hk => by
                    obtain ⟨b, hb⟩ := m.all k hk
                    obtain ⟨b', hb', hv⟩ := hl'.map k b hk hb
                    rw [hb, hb', Option.map_some, Option.map_some, hv]
                  exact ⟨fr0.1, fun t sl ht => (Slot.sub_rel hok (sc.tmps t sl ht) _).2 (fr0.2 t sl ht)⟩
                · exact hden'.elim
            · exact hden'.elim
          cases e with
          | normal => exact fin hden'
          | ret => exact fin hden'
          | exit id => exact (show False from hden').elim
        · exact hden.elim
      · exact hden.elim
    · exact hden.elim
end
end Go.Proofs.Ytiiabaklipmbbaa.Vc
