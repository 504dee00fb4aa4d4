/- The symbolic executor: what append does. -/
import Derived.Test.YtiiabaklipmbbaaVi
import Derived.Laws.AppendOwn
namespace Go.Proofs.Ytiiabaklipmbbaa.Vc
noncomputable section
open Go Go.RowKit
variable {ρ ρ' : List AV} {β β' : Mp} {W W' : Nat → Prop} {w w' : World} {P : Program} {C : Cfg} {B : Nat} {w0 : World}

theorem seqOf_argOf {s : S} {sh : List FK} {y : Sc} {b m : X} {nd : List X} (h : s.seqOf sh y = some (b, m, nd)) : argOf s (.bl true) (.slc sh) y = some (nd, [b, m]) := by
  unfold S.seqOf at h
  split at h
  · rename_i bb sz off len cp
    split at h
    · rename_i hs
      simp only [Option.map_eq_some_iff] at h
      obtain ⟨x, hx, he⟩ := h
      obtain ⟨h1, he⟩ := Prod.mk.inj he
      obtain ⟨h2, h3⟩ := Prod.mk.inj he
      subst h2 h3
      simp only [argOf, if_pos hs, hx, Option.map_some, h1]
    · cases h
  · obtain ⟨rfl, he⟩ := Prod.mk.inj (Option.some.inj h)
    obtain ⟨rfl, rfl⟩ := Prod.mk.inj he
    rfl
  · cases h
/-- the cells of n elements -/
def rowCells (sh : List FK) (f : Int → Nat → Int) (n : Nat) : List Value := (List.range (n * sh.length)).map fun j => match sh[j % sh.length]? with | some k => k.val (f ((j / sh.length : Nat) : Int) (j % sh.length)) | none => Go.undef
theorem rowCells_len (sh : List FK) (f : Int → Nat → Int) (n : Nat) : (rowCells sh f n).length = n * sh.length := by simp [rowCells]
theorem rowCells_get {sh : List FK} {f : Int → Nat → Int} {n j : Nat} {v : Value} (h : (rowCells sh f n)[j]? = some v) : ∃ k, sh[j % sh.length]? = some k ∧ j / sh.length < n ∧ v = k.val (f ((j / sh.length : Nat) : Int) (j % sh.length)) := by
  simp only [rowCells, List.getElem?_map, Option.map_eq_some_iff] at h
  obtain ⟨j', hj, rfl⟩ := h
  have hlt := (List.getElem?_eq_some_iff.1 hj).1
  simp at hlt
  rw [List.getElem?_range hlt] at hj
  obtain rfl := Option.some.inj hj
  have hs : 0 < sh.length := by
    rcases Nat.eq_zero_or_pos sh.length with h0 | h0
    · rw [h0] at hlt; simp at hlt
    · exact h0
  have hm := Nat.mod_lt j hs
  refine ⟨sh[j % sh.length], List.getElem?_eq_getElem hm, (Nat.div_lt_iff_lt_mul hs).2 hlt, ?_⟩
  rw [List.getElem?_eq_getElem hm]
theorem rowCells_at {sh : List FK} {f : Int → Nat → Int} {n i g : Nat} {k : FK} (hi : i < n) (hk : sh[g]? = some k) : (rowCells sh f n)[i * sh.length + g]? = some (k.val (f (i : Int) g)) := by
  have hg := (List.getElem?_eq_some_iff.1 hk).1
  have hlt : i * sh.length + g < n * sh.length := by
    have : (i + 1) * sh.length ≤ n * sh.length := Nat.mul_le_mul_right _ hi
    rw [Nat.add_mul] at this; omega
  have hs : 0 < sh.length := by omega
  have hd : (i * sh.length + g) / sh.length = i := by rw [Nat.add_comm, Nat.add_mul_div_right _ _ hs, Nat.div_eq_of_lt hg, Nat.zero_add]
  have hmod : (i * sh.length + g) % sh.length = g := by rw [Nat.add_comm, Nat.add_mul_mod_self_right, Nat.mod_eq_of_lt hg]
  simp only [rowCells, List.getElem?_map, List.getElem?_range hlt, Option.map_some, hd, hmod, hk]
theorem FK.one (k : FK) (z : Int) : (k.val z).oneCell' = true := by cases k <;> rfl
theorem rowCells_one {sh : List FK} {f : Int → Nat → Int} {n : Nat} : ∀ v ∈ rowCells sh f n, v.oneCell' = true := by
  intro v hv
  obtain ⟨j, hj, rfl⟩ := List.getElem_of_mem hv
  obtain ⟨k, _, _, e⟩ := rowCells_get (List.getElem?_eq_getElem hj)
  rw [e]; exact k.one _
/-- where the answer lies: r, capacity c; n + m elements of the two lists, one behind the other -/
structure AppOut (w w' : World) (r c sz : Nat) (cs : List Value) : Prop where
  there : ∀ j, j < c * sz → ∃ v, w'.cell? ⟨r, j, none⟩ = some v ∧ w'.frozen? ⟨r, j, none⟩ = false
  val : ∀ (j : Nat) v, cs[j]? = some v → w'.cell? ⟨r, j, none⟩ = some v ∧ w'.frozen? ⟨r, j, none⟩ = false
theorem add0' (r o j : Nat) : (⟨r, o, none⟩ : Addr).add j = ⟨r, o + j, none⟩ := by unfold Addr.add; split <;> simp_all
/-- append where there is room -/
theorem append_room {t e ty : TypeId} {i : TypeInfo} (ht : P.underlying t = some (.slice e)) (hi : P.info? e = some i) {r n cap m c : Nat} {q' : Option Addr} {news : List Value}
    (hq' : q' = none → m = 0) (hnl : news.length = m * i.size) (hns : ∀ p, q' = some p → ∀ j v, news[j]? = some v → w.cell? (p.add j) = some v) (h1 : ∀ v ∈ news, v.oneCell' = true)
    (hroom : n + m ≤ cap) (hex : ∀ j, j < cap * i.size → ∃ v, w.cell? ⟨r, j, none⟩ = some v ∧ w.frozen? ⟨r, j, none⟩ = false) :
    (Builtin.append_ #[t, t] ty #[.slice (some ⟨r, 0, none⟩) n cap, .slice q' m c]).run P w = .ok (.slice (some ⟨r, 0, none⟩) (n + m) cap) (w.setCells r (n * i.size) news) := by
  have hf : (Builtin.firstCells i.size m (.slice q' m c)).run P w = .ok news.toArray w := by
    cases q' with
    | none =>
      have h0 := hq' rfl
      subst h0
      have : news = [] := List.eq_nil_of_length_eq_zero (by simpa using hnl)
      subst this
      exact run_firstCells_none w i.size 0 0 c
    | some p => exact run_firstCells_some (P := P) w i.size m p m c news hnl (hns p rfl)
  have hle : (n + m) * i.size ≤ cap * i.size := Nat.mul_le_mul_right _ hroom
  rw [Nat.add_mul] at hle
  have hst := run_storeCells_cells (P := P) r (n * i.size) news 0 w (fun j hj => by
      obtain ⟨v, hv, _⟩ := hex (n * i.size + j) (by omega)
      simp [hv]) (fun j hj => by
      obtain ⟨v, _, hv⟩ := hex (n * i.size + j) (by omega)
      simpa using hv) h1
  rw [Nat.add_zero] at hst
  have hadd : (⟨r, 0, none⟩ : Addr).add (n * i.size) = ⟨r, n * i.size, none⟩ := by rw [add0', Nat.zero_add]
  simp only [Builtin.append_]
  simp [run_underlying ht, sizeOf, typeInfo, hi, Builtin.lenOf, hroom, hf, hadd, hst]
/-- nothing behind nothing -/
theorem append_nothing {t e ty : TypeId} {i : TypeInfo} (ht : P.underlying t = some (.slice e)) (hi : P.info? e = some i) {c : Nat} {q q' : Option Addr} :
    (Builtin.append_ #[t, t] ty #[.slice q 0 0, .slice q' 0 c]).run P w = .ok (.slice q 0 0) w := by
  have hf : (Builtin.firstCells i.size 0 (.slice q' 0 c)).run P w = .ok #[] w := by
    cases q' with
    | none => exact run_firstCells_none w i.size 0 0 c
    | some p => exact run_firstCells_some (P := P) w i.size 0 p 0 c [] (by simp) (fun j v h => by simp at h)
  cases q with
  | none => simp [Builtin.append_, run_underlying ht, sizeOf, typeInfo, hi, Builtin.lenOf, hf]
  | some p => simp [Builtin.append_, run_underlying ht, sizeOf, typeInfo, hi, Builtin.lenOf, hf, storeCells]
/-- append into a new block -/
theorem append_grow {t e ty : TypeId} {i : TypeInfo} {z : Value} (ht : P.underlying t = some (.slice e)) (hi : P.info? e = some i) (hz : i.zero = some z) (hzs : z.cells.size = i.size) {q : Option Addr} {n cap m c : Nat} {q' : Option Addr} {olds news : List Value}
    (hq : q = none → cap = 0) (hn : n ≤ cap) (hol : olds.length = n * i.size) (hos : ∀ p, q = some p → ∀ j v, olds[j]? = some v → w.cell? (p.add j) = some v)
    (hq' : q' = none → m = 0) (hnl : news.length = m * i.size) (hns : ∀ p, q' = some p → ∀ j v, news[j]? = some v → w.cell? (p.add j) = some v)
    (hg : cap < n + m) (h63 : n + m ≤ 2 ^ 47) (hb : (n + m) * i.bytes ≤ 2 ^ 47) :
    ∃ c' zs, n + m ≤ c' ∧ c' ≤ maxLen ∧ zs.length = (c' - (n + m)) * i.size ∧ (Builtin.append_ #[t, t] ty #[.slice q n cap, .slice q' m c]).run P w = .ok (.slice (some ⟨w.heap.size, 0, none⟩) (n + m) c') (w.drew.alloc (.cells (olds ++ news ++ zs).toArray e)) := by
  have hm : 0 < m := by omega
  obtain ⟨p', rfl⟩ : ∃ p', q' = some p' := by
    cases q' with
    | none => have := hq' rfl; omega
    | some p' => exact ⟨p', rfl⟩
  have hmax : n + m ≤ maxLen := by simp only [maxLen]; omega
  cases q with
  | none =>
    have h0 := hq rfl
    subst h0
    obtain rfl : n = 0 := by omega
    have ho : olds = [] := List.eq_nil_of_length_eq_zero (by simpa using hol)
    subst ho
    simp only [Nat.zero_add] at *
    refine ⟨grownCap w m 0 e, (Builtin.zeroCells z.cells (grownCap w m 0 e - m)).toList, grownCap_ge _ _ _ _, grownCap_le_maxLen _ _ _ _ hmax, by simp [size_zeroCells, hzs], ?_⟩
    rw [run_append_nil (P := P) w t ty e i z ht hi hz p' m c news hnl (hns p' rfl) (by omega) (by omega) (by omega)]
    refine congrArg (fun x => Result.ok _ (w.drew.alloc (.cells x e))) ?_
    apply Array.ext'
    simp
  | some p =>
    refine ⟨grownCap w (n + m) cap e, (Builtin.zeroCells z.cells (grownCap w (n + m) cap e - (n + m))).toList, grownCap_ge _ _ _ _, grownCap_le_maxLen _ _ _ _ hmax, by simp [size_zeroCells, hzs], ?_⟩
    rw [run_append_grow (P := P) w t ty e i z ht hi hz p n cap olds hol (hos p rfl) p' m c news hnl (hns p' rfl) (by omega) (by omega) (growslice_fits (by omega) hb)]
    refine congrArg (fun x => Result.ok _ (w.drew.alloc (.cells x e))) ?_
    apply Array.ext'
    simp
theorem appOut_grow {olds news zs : List Value} {c' n m sz : Nat} {e : TypeId} (hc : n + m ≤ c') (ho : olds.length = n * sz) (hn : news.length = m * sz) (hz : zs.length = (c' - (n + m)) * sz) :
    AppOut w (w.drew.alloc (.cells (olds ++ news ++ zs).toArray e)) w.heap.size c' sz (olds ++ news) := by
  have hlen : (olds ++ news ++ zs).length = c' * sz := by
    simp only [List.length_append, ho, hn, hz, ← Nat.add_mul]
    congr 1; omega
  have hcell : ∀ (j : Nat) v, (olds ++ news ++ zs)[j]? = some v → (w.drew.alloc (.cells (olds ++ news ++ zs).toArray e)).cell? ⟨w.heap.size, j, none⟩ = some v ∧ (w.drew.alloc (.cells (olds ++ news ++ zs).toArray e)).frozen? ⟨w.heap.size, j, none⟩ = false := fun j v hv => by
    have hg : (w.drew.alloc (.cells (olds ++ news ++ zs).toArray e)).heap[w.heap.size]? = some (.cells (olds ++ news ++ zs).toArray e (0, 0)) := heap_alloc_new w.drew _
    refine ⟨?_, ?_⟩
    · rw [cell_of_row _ _ j _ e (0, 0) hg]
      simpa using hv
    · simp only [World.frozen?]
      rw [hg]
      simp
  refine ⟨fun j hj => ?_, fun j v hv => hcell j v ?_⟩
  · rw [← hlen] at hj
    exact ⟨_, hcell j _ (List.getElem?_eq_getElem hj)⟩
  · rw [List.getElem?_append_left (List.getElem?_eq_some_iff.1 hv).1]; exact hv
theorem appOut_room {olds news : List Value} {r cap n m sz : Nat} (hroom : n + m ≤ cap) (ho : olds.length = n * sz) (hn : news.length = m * sz) (hex : ∀ j, j < cap * sz → ∃ v, w.cell? ⟨r, j, none⟩ = some v ∧ w.frozen? ⟨r, j, none⟩ = false)
    (hos : ∀ (j : Nat) v, olds[j]? = some v → w.cell? ⟨r, j, none⟩ = some v) : AppOut w (w.setCells r (n * sz) news) r cap sz (olds ++ news) := by
  have hle : (n + m) * sz ≤ cap * sz := Nat.mul_le_mul_right _ hroom
  rw [Nat.add_mul] at hle
  have hin := World.cell?_setCells_in r news (n * sz) w (fun j hj => by
    obtain ⟨v, hv, _⟩ := hex (n * sz + j) (by omega)
    simp [hv])
  have hfz : ∀ j, (w.setCells r (n * sz) news).frozen? ⟨r, j, none⟩ = w.frozen? ⟨r, j, none⟩ := fun j => World.frozen?_setCells _ _ _ _ _
  have hc : ∀ j, j < cap * sz → ∃ v, (w.setCells r (n * sz) news).cell? ⟨r, j, none⟩ = some v ∧ (j < n * sz → w.cell? ⟨r, j, none⟩ = some v) ∧ (∀ (h1 : n * sz ≤ j) (h2 : j - n * sz < news.length), v = news[j - n * sz]) := fun j hj => by
    by_cases h : n * sz ≤ j ∧ j < n * sz + news.length
    · have := hin (j - n * sz) (by omega)
      rw [show n * sz + (j - n * sz) = j by omega] at this
      exact ⟨_, this, fun h' => by omega, fun _ _ => rfl⟩
    · obtain ⟨v, hv, _⟩ := hex j hj
      refine ⟨v, ?_, fun _ => hv, fun h1 h2 => by omega⟩
      rw [World.cell?_setCells_out r news _ w _ (fun _ _ => by simp only; omega)]; exact hv
  refine ⟨fun j hj => ?_, fun j v hv => ?_⟩
  · obtain ⟨v, h1, _⟩ := hc j hj
    obtain ⟨_, _, hf⟩ := hex j hj
    exact ⟨v, h1, by rw [hfz]; exact hf⟩
  · have hlt := (List.getElem?_eq_some_iff.1 hv).1
    simp only [List.length_append, ho, hn] at hlt
    obtain ⟨u, h1, h2, h3⟩ := hc j (by omega)
    obtain ⟨_, _, hf⟩ := hex j (by omega)
    refine ⟨?_, by rw [hfz]; exact hf⟩
    rw [List.getElem?_append, ho] at hv
    split at hv
    · rename_i hj
      have := hos j v hv
      rw [h2 hj] at this
      rw [h1, this]
    · rename_i hj
      have hlt2 := (List.getElem?_eq_some_iff.1 hv).1
      rw [List.getElem?_eq_getElem hlt2] at hv
      rw [h1, h3 (by omega) hlt2]; exact hv
end
end Go.Proofs.Ytiiabaklipmbbaa.Vc
