/- AirtimeFair returns true for every input and leaves its arguments as they were. No condition. -/
import Derived.Test.YtccmgepknjkakaaF
import Derived.Test.YtccmgepknjkakaaZ
import Derived.Test.YtccmgepknjkakaaM0
namespace Go.Proofs.Ytccmgepknjkakaa.airtimeFair
open Go.ChangeShapes Go.WideShapes Go.ChangeAt Go.RowKit Go.Proofs.Ytccmgepknjkakaa.Vc
def lawQ (l : List AV) : Prop := ∀ a g f n, l = a ++ [.m g f, .i n] → ∀ i : Int, 0 ≤ i → i < n → g i ≤ 140737488351232
theorem law_pre : allAV (insKs sig4.ins) fun l => RngL (sig4.ins.flatMap (·.l)) l → lawQ l → pre4 l ∧ raw4 l = [.b true] := fun w n l f m hr hq => ⟨⟨fun i i0 i1 => ⟨(hr.2.2.2.2.2.2.2.2.2.1 i i0 i1).1, hq [.a w, .i n] l f m rfl i i0 i1⟩⟩, rfl⟩
set_option maxRecDepth 100000 in
theorem lifted (os : Os) (started : os.Started) (H : Type) (enc : TypeId × Value → H) :
    ReturnsInHanded {} Try.checked os 4 .any (Rows.airtimeFairSpec.pre6 enc Try.prog Try.f4 Rows.airtimeFairRow.domain false) (Rows.airtimeFairSpec.post enc Try.prog Try.f4 false true false false) := by
  refine returnsInHanded_of_change_sized (C := Try.checked) own started (by kernel_rfl) Try.func4
    (ChangeSpec.witness6 (enc := enc) (C := Try.checked) false ⟨#[], #[.slice none 0 0, .slice none 0 0], []⟩ 8 (by kernel_rfl) (by kernel_rfl) (by kernel_rfl) (by kernel_rfl)) ?_
  intro W base args ds gs before hval0 hW hcnd hsz0 _
  have hval : ∀ (j : Nat) t v, Try.f4.params[j]? = some t → args[j]? = some v → Value.okWide Try.prog W .any base t v := hval0
  have hW' := hW
  obtain ⟨p, q, hA0, hV, rfl, hfz, hnd⟩ := hW
  have hA : DataW.TrodAll enc Try.prog W 0 (fun _ => true) true Try.f4.params.toList args.toList ds p := hA0
  obtain ⟨rfl, rfl⟩ := trodVars_none hV
  obtain ⟨avs, hrd, hrg⟩ := open_args (sh := sig4.ins) (by rw [Try.params4]; kernel_rfl) (fun j t v ht hv => hval j t v (by simpa using ht) (by simpa using hv)) hA
  have hA2 := hA
  rw [Try.params4] at hA2
  obtain ⟨v0, vs0, d0, ds0, p0, q0, hargs, rfl, rfl, h0, r0⟩ := trodAll_cons hA2
  obtain ⟨v1, vs1, d1, ds1, p1, q1, rfl, rfl, rfl, h1, r1⟩ := trodAll_cons r0
  obtain ⟨rfl, rfl, rfl⟩ := trodAll_nil r1
  have hsz : (DataW.weightsEach Try.prog (Try.f4.params.toList ++ Rows.airtimeFairSpec.plain.varTypes Try.prog) ([d0, d1] ++ [])).all (· ≤ reachBytes) = true := hsz0
  rw [Try.params4] at hsz
  have hrd' : RdA W (sig4.ins.take 1 ++ [⟨false, [.mat [.int .i64]]⟩]) ([v0] ++ [v1]) avs := by
    have h := hrd
    rw [hargs] at h
    exact h
  obtain ⟨av, g, f, n, rfl, hm⟩ := rdA_last hrd'
  have hreach := mat_reach (e := 27) (i := 3) Try.underlying25 Try.underlying27 (by kernel_rfl) (by kernel_rfl) h1 hm
    (fun x hx => by simpa using List.all_eq_true.1 hsz _ (DataW.weights_mem_each (j := 1) rfl rfl x hx))
  have hq : lawQ (av ++ [.m g f, .i n]) := by
    intro a' g' f' n' h
    have h2 := List.append_inj' h rfl
    have h3 := h2.2
    simp at h3
    obtain ⟨⟨rfl, rfl⟩, rfl⟩ := h3
    exact hreach
  refine (law_callsQ ok4 rfl law_pre hrd hrg hq).mono fun e W' ⟨he, hb⟩ => ?_
  subst he
  exact ⟨_, rfl, law_done laidOut (by decide +kernel) rfl rfl Try.underlying4 rfl hW' hb⟩
theorem proved : Rows.AirtimeFairSaid :=
  OpenClaim.holds_of_wide 4 Try.f4 rfl rfl rfl rfl rfl rfl rfl ⟨rfl, rfl, rfl, rfl, rfl⟩ rfl rfl rfl rfl rfl (by kernel_rfl) Try.func4 (by kernel_rfl)
    (of_decide_eq_true (by kernel_rfl)) (by unfold Func.isWrapper; first | (rw [if_pos (by decide +kernel)]; kernel_rfl) | (rw [if_neg (by decide +kernel)]; exact ⟨rfl, rfl⟩))
    (fun os started H enc _ => lifted os started H enc)
#print axioms proved
end Go.Proofs.Ytccmgepknjkakaa.airtimeFair
