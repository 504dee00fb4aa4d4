/- Slices of bools and of ints that a law is handed, as rows; the walk of BackoffDrops with its arguments in the card's order. -/
import Derived.Test.YtdikdhjfcnocdaaDoorL
import Derived.Test.YtdikdhjfcnocdaaDoorF
import Derived.ChangeSlices
import Derived.Deep.Grids
namespace Go.Proofs.YtdikdhjfcnocdaaDoor
open Go.Deep Go.RowKit Go.WideShapes Go.ChangeShapes Go.ChangeAt
section
variable {H : Type} {enc : TypeId × Value → H}
theorem open_brow {W : World} {base : Nat} {v : Value} {d : DataW H} {ps : List MemPlace} (hval : Value.okWide Tryd.prog W .any base 42 v) (h : DataW.Trod enc Tryd.prog W 0 (fun _ => true) true 42 v d ps) :
    ∃ (q : Option Addr) (n cap : Nat) (B : Nat → Bool), v = .slice q n cap ∧ Row W q n fun i => .bool (B i) := by
  obtain ⟨a1, len, cap, rfl⟩ := okWide_slice Tryd.underlying42 hval
  obtain ⟨fuel, hf⟩ := h
  rcases open_bools Tryd.underlying42 Tryd.underlying4 (by kernel_rfl) hf with ⟨hcs, hx⟩ | ⟨a, len', cap', B, hcs, _, hl, hm, hx, hcell⟩
  · simp [Value.cells] at hcs
    obtain ⟨rfl, rfl, rfl⟩ := hcs
    exact ⟨none, 0, 0, fun _ => false, rfl, fun i hi => by omega⟩
  · simp [Value.cells] at hcs
    obtain ⟨rfl, rfl, rfl⟩ := hcs
    exact ⟨_, _, _, B, rfl, fun i hi => ⟨a, rfl, hcell i (by omega)⟩⟩
theorem open_irow {W : World} {base : Nat} {v : Value} {d : DataW H} {ps : List MemPlace} (hval : Value.okWide Tryd.prog W .any base 43 v) (h : DataW.Trod enc Tryd.prog W 0 (fun _ => true) true 43 v d ps) :
    ∃ (q : Option Addr) (n cap : Nat) (f : Nat → Int), v = .slice q n cap ∧ Row W q n fun i => .int .i64 (f i) := by
  obtain ⟨a1, len, cap, rfl⟩ := okWide_slice Tryd.underlying43 hval
  obtain ⟨fuel, hf⟩ := h
  rcases open_ints Tryd.underlying43 Tryd.underlying3 (by kernel_rfl) hf with ⟨hcs, hx⟩ | ⟨a, len', cap', zs, hcs, _, hl, hm, hz, hx, hcell, hwz⟩
  · simp [Value.cells] at hcs
    obtain ⟨rfl, rfl, rfl⟩ := hcs
    exact ⟨none, 0, 0, fun _ => 0, rfl, fun i hi => by omega⟩
  · simp [Value.cells] at hcs
    obtain ⟨rfl, rfl, rfl⟩ := hcs
    exact ⟨_, _, _, fun i => zs.getD i 0, rfl, fun i hi => ⟨a, rfl, hcell i (by rw [hz]; simp; omega)⟩⟩
end
theorem card_drops (c : Int) (p : Option Addr) (nr cr : Nat) (B : Nat → Bool) (q : Option Addr) (nd cd : Nat) (f : Nat → Int) (w : World) (hw : Win w) (hc0 : 0 ≤ c) (hc1 : c ≤ 255)
    (hr : Row w p nr fun i => .bool (B i)) (hd : Row w q nd fun i => .int .i64 (f i)) :
    Calls Tryd.prog 5 #[.int .u8 c, .slice p nr cr, .slice q nd cd] w fun x w' => x = .returned (.bool true) ∧ Below w.heap.size w w' :=
  law_drops c p q nr cr nd cd B f w hw hc0 hc1 hr hd
end Go.Proofs.YtdikdhjfcnocdaaDoor
