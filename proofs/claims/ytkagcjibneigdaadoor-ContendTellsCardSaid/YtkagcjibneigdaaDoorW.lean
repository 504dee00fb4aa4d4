/- The tables of types and functions. -/
import Derived.Test.YtkagcjibneigdaaDoorProg
import Derived.Test.YtkagcjibneigdaaDoorVE
namespace Go.Proofs.YtkagcjibneigdaaDoor
open Go Go.RowKit Go.Proofs.YtkagcjibneigdaaDoor.Vc
namespace Tab
def i (k : IntKind) (z : Int) : Sc := .c (.int k (.lit z))
def b (p : Bool) : Sc := .c (.bool (.bl p))
def n : Sc := .c .nils
def p : Sc := .c .nilp
def f : Sc := .nilf
def rp (k : Nat) (s : Sc) : List Sc := List.replicate k s
def tyL : List (Nat × TD) := [
  (1, ⟨.scalar, 1, 8, [f], 0, false⟩),
  (2, ⟨.int .i64, 1, 8, [i .i64 0], 0, false⟩),
  (3, ⟨.int .i64, 1, 8, [i .i64 0], 0, false⟩),
  (4, ⟨.bool, 1, 1, [b false], 0, false⟩),
  (5, ⟨.int .u8, 1, 1, [i .u8 0], 0, false⟩),
  (6, ⟨.int .u8, 1, 1, [i .u8 0], 0, false⟩),
  (7, ⟨.struct [(0, 1, 2), (1, 1, 3), (2, 1, 4), (3, 1, 6)], 4, 24, rp 2 (i .i64 0) ++ [b false] ++ [i .u8 0], 0, true⟩),
  (8, ⟨.struct [(0, 1, 2), (1, 1, 3), (2, 1, 4), (3, 1, 6)], 4, 24, rp 2 (i .i64 0) ++ [b false] ++ [i .u8 0], 0, true⟩),
  (12, ⟨.int .u64, 1, 8, [i .u64 0], 0, false⟩),
  (15, ⟨.scalar, 1, 8, [p], 0, false⟩),
  (16, ⟨.scalar, 1, 8, [p], 0, false⟩),
  (17, ⟨.scalar, 1, 8, [p], 0, false⟩),
  (18, ⟨.struct [(0, 1, 17)], 1, 8, [p], 0, false⟩),
  (19, ⟨.struct [(0, 1, 17)], 1, 8, [p], 0, false⟩),
  (21, ⟨.int .i32, 1, 4, [i .i32 0], 0, false⟩),
  (22, ⟨.slice 40, 1, 24, [n], 0, false⟩),
  (23, ⟨.slice 45, 1, 24, [n], 0, false⟩),
  (24, ⟨.struct [(0, 1, 22), (1, 1, 23), (2, 1, 4), (3, 1, 3)], 4, 64, rp 2 (n) ++ [b false] ++ [i .i64 0], 0, false⟩),
  (25, ⟨.struct [(0, 1, 22), (1, 1, 23), (2, 1, 4), (3, 1, 3)], 4, 64, rp 2 (n) ++ [b false] ++ [i .i64 0], 0, false⟩),
  (26, ⟨.slice 3, 1, 24, [n], 0, false⟩),
  (27, ⟨.scalar, 1, 8, [f], 0, false⟩),
  (28, ⟨.scalar, 1, 8, [f], 0, false⟩),
  (29, ⟨.scalar, 1, 8, [f], 0, false⟩),
  (30, ⟨.slice 35, 1, 24, [n], 0, false⟩),
  (31, ⟨.int .i64, 1, 8, [i .i64 0], 0, false⟩),
  (33, ⟨.scalar, 1, 8, [f], 0, false⟩),
  (34, ⟨.struct [(0, 1, 3), (1, 1, 3), (2, 1, 3), (3, 1, 4), (4, 1, 4)], 5, 32, rp 3 (i .i64 0) ++ rp 2 (b false), 0, true⟩),
  (35, ⟨.struct [(0, 1, 3), (1, 1, 3), (2, 1, 3), (3, 1, 4), (4, 1, 4)], 5, 32, rp 3 (i .i64 0) ++ rp 2 (b false), 0, true⟩),
  (36, ⟨.scalar, 1, 8, [f], 0, false⟩),
  (37, ⟨.struct [(0, 1, 5), (1, 1, 3), (2, 1, 3), (3, 1, 3)], 4, 32, [i .u8 0] ++ rp 3 (i .i64 0), 0, true⟩),
  (38, ⟨.struct [(0, 1, 5), (1, 1, 3), (2, 1, 3), (3, 1, 3)], 4, 32, [i .u8 0] ++ rp 3 (i .i64 0), 0, true⟩),
  (39, ⟨.struct [(0, 4, 38), (4, 1, 3), (5, 1, 3), (6, 1, 3)], 7, 56, [i .u8 0] ++ rp 6 (i .i64 0), 0, true⟩),
  (40, ⟨.struct [(0, 4, 38), (4, 1, 3), (5, 1, 3), (6, 1, 3)], 7, 56, [i .u8 0] ++ rp 6 (i .i64 0), 0, true⟩),
  (41, ⟨.scalar, 1, 8, [f], 0, false⟩),
  (42, ⟨.scalar, 1, 8, [f], 0, false⟩),
  (43, ⟨.scalar, 1, 8, [f], 0, false⟩),
  (44, ⟨.scalar, 1, 8, [f], 0, false⟩),
  (45, ⟨.slice 4, 1, 24, [n], 0, false⟩),
  (46, ⟨.scalar, 1, 8, [f], 0, false⟩),
  (47, ⟨.scalar, 1, 8, [f], 0, false⟩),
  (49, ⟨.scalar, 1, 8, [f], 0, false⟩),
  (50, ⟨.scalar, 1, 8, [f], 0, false⟩),
  (51, ⟨.scalar, 1, 8, [f], 0, false⟩),
  (52, ⟨.scalar, 1, 8, [f], 0, false⟩),
  (53, ⟨.scalar, 1, 8, [p], 0, false⟩),
  (54, ⟨.slice 58, 1, 24, [n], 0, false⟩),
  (55, ⟨.struct [(0, 4, 25), (4, 1, 54), (5, 1, 26), (6, 1, 30)], 7, 136, rp 2 (n) ++ [b false] ++ [i .i64 0] ++ rp 3 (n), 0, false⟩),
  (56, ⟨.struct [(0, 4, 25), (4, 1, 54), (5, 1, 26), (6, 1, 30)], 7, 136, rp 2 (n) ++ [b false] ++ [i .i64 0] ++ rp 3 (n), 0, false⟩),
  (57, ⟨.struct [(0, 7, 40), (7, 1, 3), (8, 1, 3), (9, 1, 4), (10, 1, 4), (11, 1, 3)], 12, 88, [i .u8 0] ++ rp 8 (i .i64 0) ++ rp 2 (b false) ++ [i .i64 0], 0, true⟩),
  (58, ⟨.struct [(0, 7, 40), (7, 1, 3), (8, 1, 3), (9, 1, 4), (10, 1, 4), (11, 1, 3)], 12, 88, [i .u8 0] ++ rp 8 (i .i64 0) ++ rp 2 (b false) ++ [i .i64 0], 0, true⟩),
  (59, ⟨.scalar, 1, 8, [f], 0, false⟩),
  (60, ⟨.scalar, 1, 8, [f], 0, false⟩),
  (61, ⟨.scalar, 1, 8, [f], 0, false⟩),
  (62, ⟨.scalar, 1, 8, [f], 0, false⟩),
  (63, ⟨.scalar, 1, 8, [f], 0, false⟩),
  (64, ⟨.struct [(0, 1, 22), (1, 1, 30), (2, 1, 30), (3, 1, 26), (4, 1, 3)], 5, 104, rp 4 (n) ++ [i .i64 0], 0, false⟩),
  (65, ⟨.struct [(0, 1, 22), (1, 1, 30), (2, 1, 30), (3, 1, 26), (4, 1, 3)], 5, 104, rp 4 (n) ++ [i .i64 0], 0, false⟩),
  (66, ⟨.scalar, 1, 8, [f], 0, false⟩),
  (67, ⟨.scalar, 1, 8, [f], 0, false⟩),
  (68, ⟨.scalar, 1, 8, [f], 0, false⟩),
  (69, ⟨.scalar, 1, 8, [f], 0, false⟩),
  (70, ⟨.scalar, 1, 8, [f], 0, false⟩),
  (71, ⟨.scalar, 1, 8, [p], 0, false⟩),
  (72, ⟨.scalar, 1, 8, [f], 0, false⟩),
  (74, ⟨.scalar, 1, 8, [f], 0, false⟩),
  (75, ⟨.scalar, 1, 8, [f], 0, false⟩),
  (77, ⟨.scalar, 1, 8, [f], 0, false⟩),
  (79, ⟨.scalar, 1, 8, [f], 0, false⟩),
  (80, ⟨.scalar, 1, 8, [f], 0, false⟩),
  (81, ⟨.scalar, 1, 8, [f], 0, false⟩),
  (83, ⟨.scalar, 1, 8, [f], 0, false⟩),
  (85, ⟨.scalar, 1, 8, [f], 0, false⟩),
  (86, ⟨.scalar, 1, 8, [f], 0, false⟩),
  (87, ⟨.scalar, 1, 8, [f], 0, false⟩),
  (88, ⟨.scalar, 1, 8, [f], 0, false⟩),
  (89, ⟨.struct [(0, 1, 3), (1, 1, 3)], 2, 16, rp 2 (i .i64 0), 0, true⟩),
  (90, ⟨.struct [(0, 1, 3), (1, 1, 3)], 2, 16, rp 2 (i .i64 0), 0, true⟩),
  (91, ⟨.arr 4 2, 8, 64, rp 8 (i .i64 0), 90, true⟩),
  (92, ⟨.scalar, 1, 8, [f], 0, false⟩),
  (95, ⟨.arr 0 1, 0, 0, [], 16, false⟩),
  (96, ⟨.struct [(0, 0, 95)], 0, 0, [], 0, false⟩),
  (97, ⟨.struct [(0, 0, 95)], 0, 0, [], 0, false⟩),
  (98, ⟨.int .u32, 1, 4, [i .u32 0], 0, false⟩),
  (99, ⟨.int .u8, 1, 1, [i .u8 0], 0, false⟩),
  (100, ⟨.int .u8, 1, 1, [i .u8 0], 0, false⟩),
  (101, ⟨.scalar, 1, 8, [f], 0, false⟩),
  (102, ⟨.scalar, 1, 8, [p], 0, false⟩),
  (103, ⟨.int .i32, 1, 4, [i .i32 0], 0, false⟩),
  (104, ⟨.int .i32, 1, 4, [i .i32 0], 0, false⟩),
  (105, ⟨.struct [(0, 1, 12), (1, 1, 12), (2, 1, 98), (3, 1, 99), (4, 1, 5), (5, 1, 5), (6, 1, 100), (7, 1, 101), (8, 1, 102), (9, 1, 103), (10, 1, 104)], 11, 48, rp 2 (i .u64 0) ++ [i .u32 0] ++ rp 4 (i .u8 0) ++ [f] ++ [p] ++ rp 2 (i .i32 0), 0, false⟩),
  (106, ⟨.struct [(0, 1, 12), (1, 1, 12), (2, 1, 98), (3, 1, 99), (4, 1, 5), (5, 1, 5), (6, 1, 100), (7, 1, 101), (8, 1, 102), (9, 1, 103), (10, 1, 104)], 11, 48, rp 2 (i .u64 0) ++ [i .u32 0] ++ rp 4 (i .u8 0) ++ [f] ++ [p] ++ rp 2 (i .i32 0), 0, false⟩)]
def strL : List Nat := [9, 10, 11]
noncomputable def fnL : List (Nat × Func) := [(3, Tryd.f3), (4, Tryd.f4), (5, Tryd.f5), (6, Tryd.f6), (7, Tryd.f7), (8, Tryd.f8), (9, Tryd.f9), (10, Tryd.f10), (11, Tryd.f11), (12, Tryd.f12), (13, Tryd.f13), (14, Tryd.f14), (15, Tryd.f15), (16, Tryd.f16), (17, Tryd.f17), (18, Tryd.f18), (19, Tryd.f19), (20, Tryd.f20), (21, Tryd.f21), (22, Tryd.f22), (23, Tryd.f23), (24, Tryd.f24), (25, Tryd.f25), (26, Tryd.f26), (27, Tryd.f27), (28, Tryd.f28), (29, Tryd.f29), (30, Tryd.f30), (31, Tryd.f31), (32, Tryd.f32), (33, Tryd.f33), (34, Tryd.f34), (35, Tryd.f35), (36, Tryd.f36), (37, Tryd.f37), (38, Tryd.f38), (39, Tryd.f39), (40, Tryd.f40), (41, Tryd.f41), (42, Tryd.f42), (43, Tryd.f43), (44, Tryd.f44), (45, Tryd.f45), (46, Tryd.f46), (47, Tryd.f47), (48, Tryd.f48), (49, Tryd.f49), (50, Tryd.f50), (51, Tryd.f51), (52, Tryd.f52), (53, Tryd.f53), (54, Tryd.f54), (55, Tryd.f55), (56, Tryd.f56), (57, Tryd.f57), (73, Tryd.f73)]
end Tab
theorem tyOk : Tab.tyL.all (fun x => tdB Tryd.prog x.1 x.2) = true := by kernel_rfl
theorem fnOk : ∀ x ∈ Tab.fnL, Tryd.prog.funcs[x.1]? = some x.2 := by
  simp only [Tab.fnL, List.forall_mem_cons]
  exact ⟨Tryd.func3, Tryd.func4, Tryd.func5, Tryd.func6, Tryd.func7, Tryd.func8, Tryd.func9, Tryd.func10, Tryd.func11, Tryd.func12, Tryd.func13, Tryd.func14, Tryd.func15, Tryd.func16, Tryd.func17, Tryd.func18, Tryd.func19, Tryd.func20, Tryd.func21, Tryd.func22, Tryd.func23, Tryd.func24, Tryd.func25, Tryd.func26, Tryd.func27, Tryd.func28, Tryd.func29, Tryd.func30, Tryd.func31, Tryd.func32, Tryd.func33, Tryd.func34, Tryd.func35, Tryd.func36, Tryd.func37, Tryd.func38, Tryd.func39, Tryd.func40, Tryd.func41, Tryd.func42, Tryd.func43, Tryd.func44, Tryd.func45, Tryd.func46, Tryd.func47, Tryd.func48, Tryd.func49, Tryd.func50, Tryd.func51, Tryd.func52, Tryd.func53, Tryd.func54, Tryd.func55, Tryd.func56, Tryd.func57, Tryd.func73, fun _ h => (by cases h)⟩
theorem strOk : Tab.strL.all (fun t => match Tryd.prog.underlying t with | some .string => true | _ => false) = true := by kernel_rfl
theorem plainOk : Tab.tyL.all (fun x => !x.2.plain || plainB Tryd.prog x.1 x.2) = true := by kernel_rfl
theorem mem_of_lookup {α : Type} {k : Nat} {v : α} : ∀ {l : List (Nat × α)}, l.lookup k = some v → (k, v) ∈ l
  | [], h => by cases h
  | (a, b) :: l, h => by
    simp only [List.lookup] at h
    split at h
    · rename_i he
      have := beq_iff_eq.1 he
      subst this
      obtain rfl := Option.some.inj h
      exact List.mem_cons_self ..
    · exact List.mem_cons_of_mem _ (mem_of_lookup h)
def opsAt : Code → Nat → Option (Array Oper)
  | .region id ops _, r => if id = r then some ops else none
  | .seq a b, r => match opsAt a r with
    | some x => some x
    | none => opsAt b r
  | .cond _ a b, r => match opsAt a r with
    | some x => some x
    | none => opsAt b r
  | .block _ c, r => opsAt c r
  | .loop c, r => opsAt c r
  | .scope c, r => opsAt c r
  | _, _ => none
/-- an operation's place in the text, for the operations that may wrap -/
def posAt (fn : Func) (r k : Nat) : String := match (fn.body.bind fun c => opsAt c r).bind fun ops => ops[k]? with
  | some o => o.pos
  | none => fn.name
/-- the table of windows as the program's text lays it -/
def tbl : List Int := [15, 1023, 15, 1023, 7, 15, 3, 7]
def globs : List HE := [⟨false, .cells (tbl.map fun z => .c (.int .i64 (.lit z))), .bl true⟩]
def GW (w : World) : Prop := ∀ (j : Nat) z, tbl[j]? = some z → w.cell? ⟨0, j, none⟩ = some (.int .i64 z)
theorem GW.later (w w' : World) (h : GW w) (hb : Below w.heap.size w w') : GW w' := fun j z hj => Below.cell' hb (h j z hj)
theorem GW.globs {C : Cfg} (hC : C.globL = [(0, 0)]) (w : World) (h : GW w) : ∃ bs : List BI, bs.length = globs.length ∧ (∀ b ∈ bs, b.own = noOwn) ∧ (∀ (j : Nat) e b, globs[j]? = some e → bs[j]? = some b → ∀ ρ β, EOk ρ β (fun _ => False) w b e) ∧ ∀ g k, C.glob g = some k → ∃ b, bs[k]? = some b ∧ b.v.addr = some ⟨g, 0, none⟩ := by
  refine ⟨[⟨⟨some ⟨0, 0, none⟩, 0, 1, fun _ => none, fun _ => 0, fun _ => 0⟩, noOwn⟩], rfl, fun b hb => by simp at hb; subst hb; rfl, fun j e b hj hb ρ β => ?_, fun g k hg => ?_⟩
  · cases j with
    | succ j => simp at hb
    | zero =>
      simp at hb
      subst hb
      obtain rfl := Option.some.inj hj
      intro _
      refine ⟨⟨0, 0, none⟩, rfl, ⟨World.block_lt_of_cell? w _ (h 0 _ rfl), fun h => (by cases h), fun _ h => h⟩, fun j c hj => ?_⟩
      rw [List.getElem?_map, Option.map_eq_some_iff] at hj
      obtain ⟨z, hz, rfl⟩ := hj
      refine ⟨.int .i64 z, ⟨?_, fun h => by cases h⟩, rfl⟩
      rw [add0]
      exact h j z hz
  · unfold Cfg.glob at hg
    rw [hC] at hg
    simp only [List.lookup] at hg
    split at hg
    · rename_i he
      have := beq_iff_eq.1 he
      subst this
      obtain rfl := Option.some.inj hg
      exact ⟨_, rfl, rfl⟩
    · cases hg
noncomputable def cfgW (wr : List String) (l : List (PrG Tryd.prog GW)) (loops : List LA) : Cfg := { ty := fun t => Tab.tyL.lookup t, fn := fun f => Tab.fnL.lookup f, con := prSig l, globL := [(0, 0)], loops := loops, wraps := wr, strs := Tab.strL }
theorem nameOk : Tab.fnL.all (fun x => !(x.2.name == "runtime.NumGoroutine")) = true := by kernel_rfl
theorem cfgOk (wr : List String) (l : List (PrG Tryd.prog GW)) (loops : List LA) : (cfgW wr l loops).Ok Tryd.prog where
  ty := fun t d h => ⟨List.all_eq_true.1 tyOk _ (mem_of_lookup h)⟩
  fn := fun f fn h => fnOk _ (mem_of_lookup h)
  str := fun t h => by
    have := List.all_eq_true.1 strOk t (List.contains_iff_mem.1 h)
    split at this
    · assumption
    · cases this
  eq := fun t d h hp => by
    have := List.all_eq_true.1 plainOk _ (mem_of_lookup h)
    simp only [hp, Bool.not_true, Bool.false_or] at this
    exact plain_eq this
/-- a function's contract out of what is left to show -/
theorem meetsW (wr : List String) (l : List (PrG Tryd.prog GW)) (loops : List LA) {sig : CSig} (hok : (sig.ins.all (fun h => h.l.all Sh0.okB)) = true) (f : FuncId) {pre : List AV → Prop} {raw : List AV → List AV} {V : Prop}
    (he : (allAV (insKs sig.ins) fun avs => pre avs → (exec (cfgW wr l loops) globs 12 f sig).vc (prCon l) (fun ρ ks outs => doneQ ρ sig.outs ks outs (raw avs)) avs []) = V) (hv : V) : MeetsG Tryd.prog GW (mkCon sig pre raw) f sig :=
  meets_vcG GW.later (GW.globs rfl) (cfgOk wr l loops) (prOk l rfl) rfl (fun f fn h => by
    have := List.all_eq_true.1 nameOk _ (mem_of_lookup h)
    simpa using this) hok 12 (he ▸ hv)
theorem meets (l : List (PrG Tryd.prog GW)) (loops : List LA) {sig : CSig} (hok : (sig.ins.all (fun h => h.l.all Sh0.okB)) = true) (f : FuncId) {pre : List AV → Prop} {raw : List AV → List AV} {V : Prop}
    (he : (allAV (insKs sig.ins) fun avs => pre avs → (exec (cfgW [] l loops) globs 12 f sig).vc (prCon l) (fun ρ ks outs => doneQ ρ sig.outs ks outs (raw avs)) avs []) = V) (hv : V) : MeetsG Tryd.prog GW (mkCon sig pre raw) f sig := meetsW [] l loops hok f he hv
/-- the same for functions that are walked through with all that is known -/
noncomputable def cfgC (l : List (PrG Tryd.prog GW)) : Cfg := { ty := fun t => Tab.tyL.lookup t, fn := fun f => Tab.fnL.lookup f, con := prSig l, globL := [(0, 0)], loops := [], conc := 300, strs := Tab.strL }
theorem cfgCOk (l : List (PrG Tryd.prog GW)) : (cfgC l).Ok Tryd.prog := ⟨(cfgOk [] l []).ty, (cfgOk [] l []).fn, (cfgOk [] l []).str, (cfgOk [] l []).eq⟩
theorem meetsK (l : List (PrG Tryd.prog GW)) {sig : CSig} (hok : (sig.ins.all (fun h => h.l.all Sh0.okB)) = true) (f : FuncId) {pre : List AV → Prop} {raw : List AV → List AV} {V : Prop}
    (he : (allAV (insKs sig.ins) fun avs => pre avs → (exec (cfgC l) globs 30 f sig).vc (prCon l) (fun ρ ks outs => doneQ ρ sig.outs ks outs (raw avs)) avs []) = V) (hv : V) : MeetsG Tryd.prog GW (mkCon sig pre raw) f sig :=
  meets_vcG GW.later (GW.globs rfl) (cfgCOk l) (prOk l rfl) rfl (fun f fn h => by
    have := List.all_eq_true.1 nameOk _ (mem_of_lookup h)
    simpa using this) hok 30 (he ▸ hv)
end Go.Proofs.YtkagcjibneigdaaDoor
