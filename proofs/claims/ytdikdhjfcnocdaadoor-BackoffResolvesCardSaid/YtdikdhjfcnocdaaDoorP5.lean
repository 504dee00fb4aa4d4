/- What is left to show of the contention inside a station. -/
import Derived.Test.YtdikdhjfcnocdaaDoorC4
namespace Go.Proofs.YtdikdhjfcnocdaaDoor
open Go Go.RowKit Go.Proofs.YtdikdhjfcnocdaaDoor.Vc
theorem vc6 : VC6 := by
  unfold VC6
  intro v0 v1 v2 v3 v4 v5 v6 v7 v8 v9 v10 v11 v12 v13 v14 v15 v16 v17 v18 v19 dr nd hP _ _
  refine ⟨by simp, fun _ => ⟨hP, ?_⟩⟩
  intro a0 a1 a2 a3 a4 a5 a6 a7 a8 a9 a10 a11 a12 a13 a14 a15 a16 a17 a18 a19 a20 a21 h0 h1 h2 h3 h4 h5 h6 h7 h8 h9 h10 h11 h12 h13 h14 h15 h16 h17 h18 h19 h20 h21
  refine ⟨hP, ?_⟩
  intro b0 b1 b2 b3 b4 b5 b6 b7 b8 b9 b10 b11 b12 b13 b14 b15 b16 b17 b18 b19 b20 b21 g0 g1 g2 g3 g4 g5 g6 g7 g8 g9 g10 g11 g12 g13 g14 g15 g16 g17 g18 g19 g20 g21
  rw [← h0] at g0; rw [← h1] at g1; rw [← h2] at g2; rw [← h3] at g3; rw [← h4] at g4; rw [← h5] at g5; rw [← h6] at g6; rw [← h7] at g7; rw [← h8] at g8; rw [← h9] at g9; rw [← h10] at g10; rw [← h11] at g11; rw [← h12] at g12; rw [← h13] at g13; rw [← h14] at g14; rw [← h15] at g15; rw [← h16] at g16; rw [← h17] at g17; rw [← h18] at g18; rw [← h19] at g19; rw [← h20] at g20; rw [← h21] at g21
  rw [g0, g1, g2, g3, g4, g5, g6, g7, g8, g9, g10, g11, g12, g13, g14, g15, g16, g17, g18, g19, g20, g21]
  clear h0 h1 h2 h3 h4 h5 h6 h7 h8 h9 h10 h11 h12 h13 h14 h15 h16 h17 h18 h19 h20 h21 g0 g1 g2 g3 g4 g5 g6 g7 g8 g9 g10 g11 g12 g13 g14 g15 g16 g17 g18 g19 g20 g21
  cases a17 <;> cases a18 <;> cases a19 <;> cases a20 <;> simp
end Go.Proofs.YtdikdhjfcnocdaaDoor
