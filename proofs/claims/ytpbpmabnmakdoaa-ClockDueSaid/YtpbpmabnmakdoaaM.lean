/- The contracts. -/
import Derived.Test.YtpbpmabnmakdoaaP
import Derived.Test.YtpbpmabnmakdoaaIP
set_option maxRecDepth 100000
namespace Go.Proofs.Ytpbpmabnmakdoaa
open Go Go.RowKit Go.Proofs.Ytpbpmabnmakdoaa.Vc
def loopsA : List LA := [⟨3, 4, [(.slot 6, .keep), (.slot 7, .sc)], 0⟩,
 ⟨8, 9, [(.slot 12, .mo [.int .i64]), (.slot 13, .sc), (.slot 8, .keep)], 0⟩,
 ⟨8, 22, [(.slot 18, .sc), (.slot 19, .sc), (.slot 20, .sc), (.slot 8, .keep)], 0⟩,
 ⟨9, 10, [(.slot 10, .sc), (.slot 11, .sc), (.slot 4, .keep), (.slot 9, .sc)], 0⟩,
 ⟨9, 13, [(.slot 13, .sc), (.slot 14, .sc)], 0⟩,
 ⟨9, 23, [(.slot 12, .sc), (.slot 16, .sc), (.slot 4, .keep)], 0⟩,
 ⟨10, 2, [(.slot 19, .sc), (.slot 6, .keep), (.slot 7, .keep)], 0⟩,
 ⟨10, 12, [(.slot 55, .sc), (.slot 6, .own [.int .i64, .int .i64]), (.slot 7, .sc)], 0⟩,
 ⟨10, 16, [(.slot 14, .sc), (.slot 68, .sc)], 0⟩,
 ⟨11, 2, [(.slot 6, .keep), (.slot 7, .keep), (.slot 8, .sc)], 0⟩,
 ⟨11, 9, [(.slot 6, .keep), (.slot 7, .keep), (.slot 9, .sc)], 0⟩,
 ⟨11, 12, [(.slot 10, .sc), (.slot 6, .keep), (.slot 7, .keep)], 0⟩,
 ⟨11, 18, [(.slot 11, .own [.int .i64, .int .i64]), (.slot 12, .sc), (.slot 6, .keep), (.slot 7, .keep)], 0⟩,
 ⟨11, 22, [(.cell 13 0, .sc), (.cell 13 1, .sc), (.slot 14, .sc)], 0⟩,
 ⟨12, 4, [(.slot 4, .keep), (.slot 5, .sc)], 0⟩,
 ⟨18, 8, [(.slot 12, .sc)], 0⟩,
 ⟨18, 11, [(.slot 13, .sc), (.slot 14, .sc)], 0⟩,
 ⟨34, 2, [(.slot 5, .sc), (.slot 6, .sc)], 0⟩,
 ⟨36, 5, [(.slot 2, .keep), (.slot 23, .sc), (.slot 3, .sc)], 0⟩,
 ⟨43, 2, [(.slot 4, .keep), (.slot 8, .sc)], 0⟩,
 ⟨44, 2, [(.slot 4, .keep), (.slot 8, .sc)], 0⟩,
 ⟨45, 5, [(.slot 0, .arr), (.slot 5, .sc), (.slot 6, .sc), (.slot 8, .arr)], 0⟩,
 ⟨47, 2, [(.slot 0, .arr), (.slot 7, .sc), (.slot 8, .sc)], 0⟩,
 ⟨49, 2, [(.slot 4, .keep), (.slot 8, .sc)], 0⟩,
 ⟨50, 1, [(.slot 0, .arr), (.slot 8, .sc)], 0⟩,
 ⟨50, 4, [(.slot 0, .arr), (.slot 9, .sc)], 0⟩,
 ⟨51, 33, [(.slot 20, .sc), (.slot 21, .sc)], 0⟩,
 ⟨53, 1, [(.slot 0, .arr), (.slot 10, .sc)], 0⟩,
 ⟨52, 2, [(.slot 0, .arr), (.slot 10, .sc), (.slot 11, .sc)], 0⟩,
 ⟨51, 3, [(.slot 10, .sc), (.slot 11, .sc)], 0⟩,
 ⟨51, 9, [(.slot 0, .arr), (.slot 13, .sc)], 0⟩,
 ⟨51, 15, [(.slot 14, .sc), (.slot 15, .sc)], 0⟩,
 ⟨51, 21, [(.slot 0, .arr), (.slot 17, .sc)], 0⟩,
 ⟨47, 7, [(.slot 0, .arr), (.slot 6, .sc)], 0⟩,
 ⟨47, 9, [(.slot 0, .arr), (.slot 7, .sc), (.slot 8, .sc)], 0⟩,
 ⟨22, 7, [(.slot 4, .own [.int .i64]), (.slot 25, .sc)], 0⟩]
theorem meetsTW (l : List (Pr Try.prog)) (ts : List IC) {ip : IPs} {fn : Func} {sig : CSig} {pre : List AV → Prop} {raw : List AV → List AV} {V : Prop} (hf : Try.prog.funcs[ip.f]? = some fn) (hb : fn.body.isNone = false) (hn : nodupF (ts.map fun t => t.1.f) = true) (hd : (ts.all fun t => (prSig l t.1.f).isNone) = true)
    (ho : ∀ t ∈ ts, MeetsT Try.prog t.1 t.2 ∧ FnOk Try.prog t.1.f) (hs : sig.outs = ipOut ip) (hraw : ∀ (x : Int → Nat → Int) (n : Int) (zs : List Int), zs.length = ip.k → ∃ y, raw (.a x :: .i n :: zs.map .i) = [.a y, .i n])
    (he : (allAV ip.ks fun avs => pre avs → (ipTree (cfgW [] l loopsA) (ts.map (·.1)) 12 ip fn (bodyOf fn)).vc (gamT ts l) (fun ρ ks outs => doneQ ρ (ipOut ip) ks outs (raw avs)) avs []) = V) (hv : V) : MeetsT Try.prog ip (mkCon sig pre raw) :=
  meetsT_vc (cfgOk [] l loopsA) rfl hn hd ho rfl (fun f fn h => by
    have := List.all_eq_true.1 nameOk _ (mem_of_lookup h)
    simpa using this) rfl hf hb 12 hs hraw (he ▸ hv)
theorem ok40 : Meets Try.prog (mkCon sig40 pre40 raw40) 40 sig40 := meets [] loopsA rfl 40 (by kernel_rfl) vc40
noncomputable def pr40 : Pr Try.prog := ⟨40, sig40, mkCon sig40 pre40 raw40, ok40, ⟨Try.f40, Try.func40, by kernel_rfl, by kernel_rfl⟩⟩
def sh3 : List FK := [.int .i64, .int .i64, .int .i64]
def ip53 : IPs := ⟨53, sh3, 3, some 40⟩
theorem fn53 : FnOk Try.prog 53 := ⟨Try.f53, Try.func53, by kernel_rfl, by kernel_rfl⟩
def ip52 : IPs := ⟨52, sh3, 3, some 40⟩
theorem fn52 : FnOk Try.prog 52 := ⟨Try.f52, Try.func52, by kernel_rfl, by kernel_rfl⟩
def ip50 : IPs := ⟨50, sh3, 2, some 40⟩
theorem fn50 : FnOk Try.prog 50 := ⟨Try.f50, Try.func50, by kernel_rfl, by kernel_rfl⟩
def ip51 : IPs := ⟨51, sh3, 3, some 40⟩
theorem fn51 : FnOk Try.prog 51 := ⟨Try.f51, Try.func51, by kernel_rfl, by kernel_rfl⟩
def ip47 : IPs := ⟨47, sh3, 1, some 40⟩
theorem fn47 : FnOk Try.prog 47 := ⟨Try.f47, Try.func47, by kernel_rfl, by kernel_rfl⟩
noncomputable def con53 : Con := mkCon sig53 pre53 raw53
theorem ok53 : MeetsT Try.prog ip53 con53 := meetsTW [pr40] [] (ip := ip53) (fn := Try.f53) Try.func53 (by kernel_rfl) rfl rfl (fun t ht => by cases ht) rfl (fun x n zs hz => by
    match zs, hz with
    | [a, b, c], _ => exact ⟨_, rfl⟩) (by kernel_rfl) vc53
noncomputable def con52 : Con := mkCon sig52 pre52 raw52
theorem ok52 : MeetsT Try.prog ip52 con52 := meetsTW [pr40] [(ip53, con53)] (ip := ip52) (fn := Try.f52) Try.func52 (by kernel_rfl) rfl rfl (fun t ht => by
    obtain rfl := List.mem_singleton.1 ht
    exact ⟨ok53, fn53⟩) rfl (fun x n zs hz => by
    match zs, hz with
    | [a, b, c], _ => exact ⟨_, rfl⟩) (by kernel_rfl) vc52
noncomputable def con50 : Con := mkCon sig50 pre50 raw50
theorem ok50 : MeetsT Try.prog ip50 con50 := meetsTW [pr40] [] (ip := ip50) (fn := Try.f50) Try.func50 (by kernel_rfl) rfl rfl (fun t ht => by cases ht) rfl (fun x n zs hz => by
    match zs, hz with
    | [a, b], _ => exact ⟨_, rfl⟩) (by kernel_rfl) vc50
noncomputable def con51 (M : Int) : Con := mkCon sig51 (pre51 M) raw51
noncomputable def con51F : Con := mkCon sig51 pre51F raw51
theorem he51 : (fun M : Int => (allAV ip51.ks fun avs => pre51 (M + 1) avs → (ipTree (cfgW [] [pr40] loopsA) [ip52, ip51] 12 ip51 Try.f51 (bodyOf Try.f51)).vc (gamT [(ip52, con52), (ip51, con51 M)] [pr40]) (fun ρ ks outs => doneQ ρ (ipOut ip51) ks outs (raw51 avs)) avs [])) = VC51 := by kernel_rfl
theorem ok51k : ∀ k : Nat, MeetsT Try.prog ip51 (con51 k)
  | 0 => fun B w b x n zs v hz _ _ _ _ hp => by
    match zs, hz with
    | [a, m, e], _ =>
      have hp : Mrg x n a m e ∧ e - a < ((0 : Nat) : Int) := hp
      have h1 := hp.1.am
      have h2 := hp.1.mb
      omega
  | k + 1 => meetsTW [pr40] [(ip52, con52), (ip51, con51 k)] (ip := ip51) (fn := Try.f51) Try.func51 (by kernel_rfl) rfl rfl (fun t ht => by
      rcases List.mem_cons.1 ht with rfl | ht
      · exact ⟨ok52, fn52⟩
      · obtain rfl := List.mem_singleton.1 ht
        exact ⟨ok51k k, fn51⟩) rfl (fun x n zs hz => by
    match zs, hz with
    | [a, b, c], _ => exact ⟨_, rfl⟩) (congrFun he51 (k : Int)) (vc51 k)
theorem ok51 : MeetsT Try.prog ip51 con51F := fun B w b x n zs v hz hown hB hE hv hp => by
  match zs, hz with
  | [a, m, e], hz =>
    have hp : Mrg x n a m e := hp
    exact ok51k (e - a + 1).toNat B w b x n [a, m, e] v hz hown hB hE hv ⟨hp, by have := hp.am; have := hp.mb; omega⟩
noncomputable def con47 : Con := mkCon sig47 pre47 raw47
theorem ok47 : MeetsT Try.prog ip47 con47 := meetsTW [pr40] [(ip50, con50), (ip51, con51F)] (ip := ip47) (fn := Try.f47) Try.func47 (by kernel_rfl) rfl rfl (fun t ht => by
    rcases List.mem_cons.1 ht with rfl | ht
    · exact ⟨ok50, fn50⟩
    · obtain rfl := List.mem_singleton.1 ht
      exact ⟨ok51, fn51⟩) rfl (fun x n zs hz => by
    match zs, hz with
    | [a], _ => exact ⟨_, rfl⟩) (by kernel_rfl) vc47
end Go.Proofs.Ytpbpmabnmakdoaa
