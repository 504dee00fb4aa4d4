/- ContendTells returns true for every input and leaves its arguments as they were; the package table is tied to the text of the program. No condition. -/
import Derived.Test.YtkagcjibneigdaaDoorF
import Derived.Test.YtkagcjibneigdaaDoorM13
import Derived.Test.YtkagcjibneigdaaDoorTie
import Derived.Test.YtkagcjibneigdaaDoorCards
import Derived.SevenTiedAt
namespace Go.Proofs.YtkagcjibneigdaaDoor.contendTells
open Go.ChangeShapes Go.WideShapes Go.ChangeAt Go.RowKit Go.Proofs.YtkagcjibneigdaaDoor.Vc
set_option linter.unusedVariables false
theorem law_pre : allAV (insKs sig8.ins) fun l => RngL (sig8.ins.flatMap (·.l)) l → pre8 l ∧ raw8 l = [.b true] := fun _ _ _ _ _ _ _ _ _ h => ⟨⟨fun i i0 i1 => h.2.2.2.2.1 i 0 .u8 i0 i1 rfl⟩, rfl⟩
set_option maxRecDepth 100000 in
theorem lifted (os : Os) (started : os.Started) (H : Type) (enc : TypeId × Value → H) :
    ReturnsInHanded {} Tryd.checked os 8 .any (fun w args => (Rows.contendTellsSpec.pre enc Tryd.prog Tryd.f8 [] false w args ∧ laidMetH Tryd.prog laidW w) ∧ sizedMet enc Tryd.prog Tryd.f8 (OpenSpec.ofChange Rows.contendTellsSpec) false w args)
      (Rows.contendTellsSpec.post enc Tryd.prog Tryd.f8 false true false false) := by
  refine returnsInHanded_of_change_and (C := Tryd.checked) (X := fun w _ => laidMetH Tryd.prog laidW w) (fun _ _ _ hh h => h.of_heap hh) own started (by kernel_rfl) Tryd.func8
    (ChangeSpec.witness_shaped (enc := enc) (C := Tryd.checked) (os := os) (X := fun w _ => laidMetH Tryd.prog laidW w) false (World.doorLaid Tryd.prog 400 os) #[.agg #[.slice none 0 0, .slice none 0 0, .bool false, .int .i64 0], .slice none 0 0] 8 rfl (World.shaped_of_RefB (by kernel_rfl) (by kernel_rfl)) (by kernel_rfl) (by kernel_rfl) (by kernel_rfl) (door_met os _)) ?_
  intro W base args ds gs before hval0 hW _ _ hL _
  have hval : ∀ (j : Nat) t v, Tryd.f8.params[j]? = some t → args[j]? = some v → Value.okWide Tryd.prog W .any base t v := hval0
  have hW' := hW
  obtain ⟨p, q, hA0, hV, rfl, hfz, hnd⟩ := hW
  have hA : DataW.TrodAll enc Tryd.prog W 0 (fun _ => true) true Tryd.f8.params.toList args.toList ds p := hA0
  obtain ⟨rfl, rfl⟩ := trodVars_none hV
  obtain ⟨avs, hrd, hrg⟩ := open_args (sh := sig8.ins) (by rw [Tryd.params8]; kernel_rfl) (fun j t v ht hv => hval j t v (by simpa using ht) (by simpa using hv)) hA
  have hA2 := hA
  rw [Tryd.params8] at hA2
  obtain ⟨v0, vs0, d0, ds0, p0, q0, hargs, rfl, rfl, h0, r0⟩ := trodAll_cons hA2
  obtain ⟨v1, vs1, d1, ds1, p1, q1, rfl, rfl, rfl, h1, r1⟩ := trodAll_cons r0
  obtain ⟨rfl, rfl, rfl⟩ := trodAll_nil r1
  refine (law_callsG ok8 rfl law_pre (of_laid hL) hrd hrg).mono fun e W' ⟨he, hb⟩ => ?_
  subst he
  exact ⟨_, rfl, law_done laidOut (by decide +kernel) rfl rfl Tryd.underlying4 rfl hW' hb⟩
theorem holds : Rows.ContendTellsSaid :=
  OpenClaim.holds_of_wide 8 Tryd.f8 rfl rfl rfl rfl rfl rfl rfl ⟨rfl, rfl, rfl, rfl, rfl⟩ rfl rfl rfl rfl rfl (by kernel_rfl) Tryd.func8 (by kernel_rfl)
    (of_decide_eq_true (by kernel_rfl)) (by unfold Func.isWrapper; first | (rw [if_pos (by decide +kernel)]; kernel_rfl) | (rw [if_neg (by decide +kernel)]; exact ⟨rfl, rfl⟩))
    (fun os started H enc _ => lifted os started H enc)
theorem standIns : ∀ t ∈ Tryd.f8.params.toList, Tryd.prog.wantsStandIn t = false := by decide +kernel
theorem proved : Rows.ContendTellsCardSaid :=
  Claim7.holds_tied_plain_at .later [] [.data] true (true, "b38ef2e66710bf5e9cea800985f0a261d1fc58fd7b856d46f2a73b9bbe8179af") false
    holds (fun _ h => by cases h) (by kernel_rfl) (fun _ h => by cases h) contendTells_row_tie rfl ⟨rfl, rfl⟩ (by kernel_rfl) rfl
    (fun f fn hf hfn => by
      obtain rfl : f = 8 := Option.some.inj ((show Tryd.prog.funcNamed Rows.contendTellsRow.func = some 8 by kernel_rfl).symm.trans hf) |>.symm
      obtain rfl : fn = Tryd.f8 := (Option.some.inj (Tryd.func8.symm.trans hfn)).symm
      exact ⟨by kernel_rfl, fun j t ht => standIns t (by rw [← Array.getElem?_toList] at ht; exact List.mem_of_getElem? ht)⟩)
    (by kernel_rfl)
#print axioms proved
end Go.Proofs.YtkagcjibneigdaaDoor.contendTells
