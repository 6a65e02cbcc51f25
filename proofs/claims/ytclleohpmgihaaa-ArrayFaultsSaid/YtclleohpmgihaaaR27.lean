/- ArrayFaults: plain data. -/
import Derived.Test.YtclleohpmgihaaaR26
namespace Go.Proofs.Ytclleohpmgihaaa
set_option linter.unusedVariables false
set_option linter.unusedSimpArgs false
open Go.RowKit Hp
set_option maxRecDepth 100000
set_option maxHeartbeats 4000000
def Q1 (p q i : Nat) (b : UInt8) : AR := (K0 p q).write 0 (i : Int) (BB b)
def Q2 (p q i : Nat) (b : UInt8) : AR := (Q1 p q i b).lose 0
def Q3 (p q i : Nat) (b c : UInt8) : AR := (Q2 p q i b).write 0 (i : Int) (BB c)
def Q4 (p q i j : Nat) (b c : UInt8) : AR := (Q3 p q i b c).stray 0 (j : Int)
def Q5 (p q i j : Nat) (b c : UInt8) : AR := (Q4 p q i j b c).write 0 (i : Int) (BB c)
def Q6 (p q i j : Nat) (b c : UInt8) : AR := (Q5 p q i j b c).write 0 (i : Int) (BB b)
def Q7 (p q i j : Nat) (b c : UInt8) (n : Int) : AR := (Q6 p q i j b c).upd 0 (fFail n)
section
variable (p q i j : Nat) (b c : UInt8)
theorem Q1_ok : (Q1 p q i b).Ok := (K0_ok p q).write _ _ _
theorem Q2_ok : (Q2 p q i b).Ok := (Q1_ok p q i b).lose _
theorem Q3_ok : (Q3 p q i b c).Ok := (Q2_ok p q i b).write _ _ _
theorem Q4_ok : (Q4 p q i j b c).Ok := (Q3_ok p q i b c).stray _ _
theorem Q5_ok : (Q5 p q i j b c).Ok := (Q4_ok p q i j b c).write _ _ _
theorem Q6_ok : (Q6 p q i j b c).Ok := (Q5_ok p q i j b c).write _ _ _
theorem Q0_w_0 : (K0 p q).writeE 0 ((0 : Nat) : Int) (BB b) = 0 := by kernel_rfl
theorem Q0_w_1 : (K0 p q).writeE 0 ((1 : Nat) : Int) (BB b) = 0 := by kernel_rfl
theorem Q0_w_2 : (K0 p q).writeE 0 ((2 : Nat) : Int) (BB b) = 0 := by kernel_rfl
theorem Q0_w_3 : (K0 p q).writeE 0 ((3 : Nat) : Int) (BB b) = 0 := by kernel_rfl
theorem Q0_w_4 : (K0 p q).writeE 0 ((4 : Nat) : Int) (BB b) = 0 := by kernel_rfl
theorem Q0_w_5 : (K0 p q).writeE 0 ((5 : Nat) : Int) (BB b) = 0 := by kernel_rfl
theorem Q0_w_6 : (K0 p q).writeE 0 ((6 : Nat) : Int) (BB b) = 0 := by kernel_rfl
theorem Q0_w_7 : (K0 p q).writeE 0 ((7 : Nat) : Int) (BB b) = 0 := by kernel_rfl
theorem Q0_w (hi : i < 8) : (K0 p q).writeE 0 (i : Int) (BB b) = 0 := by
  have h8 : i = 0 ∨ i = 1 ∨ i = 2 ∨ i = 3 ∨ i = 4 ∨ i = 5 ∨ i = 6 ∨ i = 7 := by omega
  rcases h8 with rfl | rfl | rfl | rfl | rfl | rfl | rfl | rfl
  · exact Q0_w_0 ..
  · exact Q0_w_1 ..
  · exact Q0_w_2 ..
  · exact Q0_w_3 ..
  · exact Q0_w_4 ..
  · exact Q0_w_5 ..
  · exact Q0_w_6 ..
  · exact Q0_w_7 ..
theorem Q1_l_0 : (Q1 p q 0 b).loseE 0 = 0 := by kernel_rfl
theorem Q1_l_1 : (Q1 p q 1 b).loseE 0 = 0 := by kernel_rfl
theorem Q1_l_2 : (Q1 p q 2 b).loseE 0 = 0 := by kernel_rfl
theorem Q1_l_3 : (Q1 p q 3 b).loseE 0 = 0 := by kernel_rfl
theorem Q1_l_4 : (Q1 p q 4 b).loseE 0 = 0 := by kernel_rfl
theorem Q1_l_5 : (Q1 p q 5 b).loseE 0 = 0 := by kernel_rfl
theorem Q1_l_6 : (Q1 p q 6 b).loseE 0 = 0 := by kernel_rfl
theorem Q1_l_7 : (Q1 p q 7 b).loseE 0 = 0 := by kernel_rfl
theorem Q1_l (hi : i < 8) : (Q1 p q i b).loseE 0 = 0 := by
  have h8 : i = 0 ∨ i = 1 ∨ i = 2 ∨ i = 3 ∨ i = 4 ∨ i = 5 ∨ i = 6 ∨ i = 7 := by omega
  rcases h8 with rfl | rfl | rfl | rfl | rfl | rfl | rfl | rfl
  · exact Q1_l_0 ..
  · exact Q1_l_1 ..
  · exact Q1_l_2 ..
  · exact Q1_l_3 ..
  · exact Q1_l_4 ..
  · exact Q1_l_5 ..
  · exact Q1_l_6 ..
  · exact Q1_l_7 ..
theorem Q1_n_0 : (Q1 p q 0 b).loose.length = 1 := by kernel_rfl
theorem Q1_n_1 : (Q1 p q 1 b).loose.length = 1 := by kernel_rfl
theorem Q1_n_2 : (Q1 p q 2 b).loose.length = 1 := by kernel_rfl
theorem Q1_n_3 : (Q1 p q 3 b).loose.length = 1 := by kernel_rfl
theorem Q1_n_4 : (Q1 p q 4 b).loose.length = 1 := by kernel_rfl
theorem Q1_n_5 : (Q1 p q 5 b).loose.length = 1 := by kernel_rfl
theorem Q1_n_6 : (Q1 p q 6 b).loose.length = 1 := by kernel_rfl
theorem Q1_n_7 : (Q1 p q 7 b).loose.length = 1 := by kernel_rfl
theorem Q1_n (hi : i < 8) : (Q1 p q i b).loose.length = 1 := by
  have h8 : i = 0 ∨ i = 1 ∨ i = 2 ∨ i = 3 ∨ i = 4 ∨ i = 5 ∨ i = 6 ∨ i = 7 := by omega
  rcases h8 with rfl | rfl | rfl | rfl | rfl | rfl | rfl | rfl
  · exact Q1_n_0 ..
  · exact Q1_n_1 ..
  · exact Q1_n_2 ..
  · exact Q1_n_3 ..
  · exact Q1_n_4 ..
  · exact Q1_n_5 ..
  · exact Q1_n_6 ..
  · exact Q1_n_7 ..
theorem Q1_s_0 : (Q1 p q 0 b).steps = 1 := by kernel_rfl
theorem Q1_s_1 : (Q1 p q 1 b).steps = 1 := by kernel_rfl
theorem Q1_s_2 : (Q1 p q 2 b).steps = 1 := by kernel_rfl
theorem Q1_s_3 : (Q1 p q 3 b).steps = 1 := by kernel_rfl
theorem Q1_s_4 : (Q1 p q 4 b).steps = 1 := by kernel_rfl
theorem Q1_s_5 : (Q1 p q 5 b).steps = 1 := by kernel_rfl
theorem Q1_s_6 : (Q1 p q 6 b).steps = 1 := by kernel_rfl
theorem Q1_s_7 : (Q1 p q 7 b).steps = 1 := by kernel_rfl
theorem Q1_s (hi : i < 8) : (Q1 p q i b).steps = 1 := by
  have h8 : i = 0 ∨ i = 1 ∨ i = 2 ∨ i = 3 ∨ i = 4 ∨ i = 5 ∨ i = 6 ∨ i = 7 := by omega
  rcases h8 with rfl | rfl | rfl | rfl | rfl | rfl | rfl | rfl
  · exact Q1_s_0 ..
  · exact Q1_s_1 ..
  · exact Q1_s_2 ..
  · exact Q1_s_3 ..
  · exact Q1_s_4 ..
  · exact Q1_s_5 ..
  · exact Q1_s_6 ..
  · exact Q1_s_7 ..
theorem Q2_w_0 : (Q2 p q 0 b).writeE 0 ((0 : Nat) : Int) (BB c) = 0 := by kernel_rfl
theorem Q2_w_1 : (Q2 p q 1 b).writeE 0 ((1 : Nat) : Int) (BB c) = 0 := by kernel_rfl
theorem Q2_w_2 : (Q2 p q 2 b).writeE 0 ((2 : Nat) : Int) (BB c) = 0 := by kernel_rfl
theorem Q2_w_3 : (Q2 p q 3 b).writeE 0 ((3 : Nat) : Int) (BB c) = 0 := by kernel_rfl
theorem Q2_w_4 : (Q2 p q 4 b).writeE 0 ((4 : Nat) : Int) (BB c) = 0 := by kernel_rfl
theorem Q2_w_5 : (Q2 p q 5 b).writeE 0 ((5 : Nat) : Int) (BB c) = 0 := by kernel_rfl
theorem Q2_w_6 : (Q2 p q 6 b).writeE 0 ((6 : Nat) : Int) (BB c) = 0 := by kernel_rfl
theorem Q2_w_7 : (Q2 p q 7 b).writeE 0 ((7 : Nat) : Int) (BB c) = 0 := by kernel_rfl
theorem Q2_w (hi : i < 8) : (Q2 p q i b).writeE 0 (i : Int) (BB c) = 0 := by
  have h8 : i = 0 ∨ i = 1 ∨ i = 2 ∨ i = 3 ∨ i = 4 ∨ i = 5 ∨ i = 6 ∨ i = 7 := by omega
  rcases h8 with rfl | rfl | rfl | rfl | rfl | rfl | rfl | rfl
  · exact Q2_w_0 ..
  · exact Q2_w_1 ..
  · exact Q2_w_2 ..
  · exact Q2_w_3 ..
  · exact Q2_w_4 ..
  · exact Q2_w_5 ..
  · exact Q2_w_6 ..
  · exact Q2_w_7 ..
theorem Q2_n_0 : (Q2 p q 0 b).loose.length = 1 := by kernel_rfl
theorem Q2_n_1 : (Q2 p q 1 b).loose.length = 1 := by kernel_rfl
theorem Q2_n_2 : (Q2 p q 2 b).loose.length = 1 := by kernel_rfl
theorem Q2_n_3 : (Q2 p q 3 b).loose.length = 1 := by kernel_rfl
theorem Q2_n_4 : (Q2 p q 4 b).loose.length = 1 := by kernel_rfl
theorem Q2_n_5 : (Q2 p q 5 b).loose.length = 1 := by kernel_rfl
theorem Q2_n_6 : (Q2 p q 6 b).loose.length = 1 := by kernel_rfl
theorem Q2_n_7 : (Q2 p q 7 b).loose.length = 1 := by kernel_rfl
theorem Q2_n (hi : i < 8) : (Q2 p q i b).loose.length = 1 := by
  have h8 : i = 0 ∨ i = 1 ∨ i = 2 ∨ i = 3 ∨ i = 4 ∨ i = 5 ∨ i = 6 ∨ i = 7 := by omega
  rcases h8 with rfl | rfl | rfl | rfl | rfl | rfl | rfl | rfl
  · exact Q2_n_0 ..
  · exact Q2_n_1 ..
  · exact Q2_n_2 ..
  · exact Q2_n_3 ..
  · exact Q2_n_4 ..
  · exact Q2_n_5 ..
  · exact Q2_n_6 ..
  · exact Q2_n_7 ..
theorem Q2_s_0 : (Q2 p q 0 b).steps = 1 := by kernel_rfl
theorem Q2_s_1 : (Q2 p q 1 b).steps = 1 := by kernel_rfl
theorem Q2_s_2 : (Q2 p q 2 b).steps = 1 := by kernel_rfl
theorem Q2_s_3 : (Q2 p q 3 b).steps = 1 := by kernel_rfl
theorem Q2_s_4 : (Q2 p q 4 b).steps = 1 := by kernel_rfl
theorem Q2_s_5 : (Q2 p q 5 b).steps = 1 := by kernel_rfl
theorem Q2_s_6 : (Q2 p q 6 b).steps = 1 := by kernel_rfl
theorem Q2_s_7 : (Q2 p q 7 b).steps = 1 := by kernel_rfl
theorem Q2_s (hi : i < 8) : (Q2 p q i b).steps = 1 := by
  have h8 : i = 0 ∨ i = 1 ∨ i = 2 ∨ i = 3 ∨ i = 4 ∨ i = 5 ∨ i = 6 ∨ i = 7 := by omega
  rcases h8 with rfl | rfl | rfl | rfl | rfl | rfl | rfl | rfl
  · exact Q2_s_0 ..
  · exact Q2_s_1 ..
  · exact Q2_s_2 ..
  · exact Q2_s_3 ..
  · exact Q2_s_4 ..
  · exact Q2_s_5 ..
  · exact Q2_s_6 ..
  · exact Q2_s_7 ..
theorem Q3_p_0 : (Q3 p q 0 b c).peekB 0 ((0 : Nat) : Int) = true := by kernel_rfl
theorem Q3_p_1 : (Q3 p q 1 b c).peekB 0 ((1 : Nat) : Int) = true := by kernel_rfl
theorem Q3_p_2 : (Q3 p q 2 b c).peekB 0 ((2 : Nat) : Int) = true := by kernel_rfl
theorem Q3_p_3 : (Q3 p q 3 b c).peekB 0 ((3 : Nat) : Int) = true := by kernel_rfl
theorem Q3_p_4 : (Q3 p q 4 b c).peekB 0 ((4 : Nat) : Int) = true := by kernel_rfl
theorem Q3_p_5 : (Q3 p q 5 b c).peekB 0 ((5 : Nat) : Int) = true := by kernel_rfl
theorem Q3_p_6 : (Q3 p q 6 b c).peekB 0 ((6 : Nat) : Int) = true := by kernel_rfl
theorem Q3_p_7 : (Q3 p q 7 b c).peekB 0 ((7 : Nat) : Int) = true := by kernel_rfl
theorem Q3_p (hi : i < 8) : (Q3 p q i b c).peekB 0 (i : Int) = true := by
  have h8 : i = 0 ∨ i = 1 ∨ i = 2 ∨ i = 3 ∨ i = 4 ∨ i = 5 ∨ i = 6 ∨ i = 7 := by omega
  rcases h8 with rfl | rfl | rfl | rfl | rfl | rfl | rfl | rfl
  · exact Q3_p_0 ..
  · exact Q3_p_1 ..
  · exact Q3_p_2 ..
  · exact Q3_p_3 ..
  · exact Q3_p_4 ..
  · exact Q3_p_5 ..
  · exact Q3_p_6 ..
  · exact Q3_p_7 ..
theorem Q3_t_0 : (Q3 p q 0 b c).peekL 0 ((0 : Nat) : Int) = BB b := by kernel_rfl
theorem Q3_t_1 : (Q3 p q 1 b c).peekL 0 ((1 : Nat) : Int) = BB b := by kernel_rfl
theorem Q3_t_2 : (Q3 p q 2 b c).peekL 0 ((2 : Nat) : Int) = BB b := by kernel_rfl
theorem Q3_t_3 : (Q3 p q 3 b c).peekL 0 ((3 : Nat) : Int) = BB b := by kernel_rfl
theorem Q3_t_4 : (Q3 p q 4 b c).peekL 0 ((4 : Nat) : Int) = BB b := by kernel_rfl
theorem Q3_t_5 : (Q3 p q 5 b c).peekL 0 ((5 : Nat) : Int) = BB b := by kernel_rfl
theorem Q3_t_6 : (Q3 p q 6 b c).peekL 0 ((6 : Nat) : Int) = BB b := by kernel_rfl
theorem Q3_t_7 : (Q3 p q 7 b c).peekL 0 ((7 : Nat) : Int) = BB b := by kernel_rfl
theorem Q3_t (hi : i < 8) : (Q3 p q i b c).peekL 0 (i : Int) = BB b := by
  have h8 : i = 0 ∨ i = 1 ∨ i = 2 ∨ i = 3 ∨ i = 4 ∨ i = 5 ∨ i = 6 ∨ i = 7 := by omega
  rcases h8 with rfl | rfl | rfl | rfl | rfl | rfl | rfl | rfl
  · exact Q3_t_0 ..
  · exact Q3_t_1 ..
  · exact Q3_t_2 ..
  · exact Q3_t_3 ..
  · exact Q3_t_4 ..
  · exact Q3_t_5 ..
  · exact Q3_t_6 ..
  · exact Q3_t_7 ..
theorem Q3_n_0 : (Q3 p q 0 b c).loose.length = 1 := by kernel_rfl
theorem Q3_n_1 : (Q3 p q 1 b c).loose.length = 1 := by kernel_rfl
theorem Q3_n_2 : (Q3 p q 2 b c).loose.length = 1 := by kernel_rfl
theorem Q3_n_3 : (Q3 p q 3 b c).loose.length = 1 := by kernel_rfl
theorem Q3_n_4 : (Q3 p q 4 b c).loose.length = 1 := by kernel_rfl
theorem Q3_n_5 : (Q3 p q 5 b c).loose.length = 1 := by kernel_rfl
theorem Q3_n_6 : (Q3 p q 6 b c).loose.length = 1 := by kernel_rfl
theorem Q3_n_7 : (Q3 p q 7 b c).loose.length = 1 := by kernel_rfl
theorem Q3_n (hi : i < 8) : (Q3 p q i b c).loose.length = 1 := by
  have h8 : i = 0 ∨ i = 1 ∨ i = 2 ∨ i = 3 ∨ i = 4 ∨ i = 5 ∨ i = 6 ∨ i = 7 := by omega
  rcases h8 with rfl | rfl | rfl | rfl | rfl | rfl | rfl | rfl
  · exact Q3_n_0 ..
  · exact Q3_n_1 ..
  · exact Q3_n_2 ..
  · exact Q3_n_3 ..
  · exact Q3_n_4 ..
  · exact Q3_n_5 ..
  · exact Q3_n_6 ..
  · exact Q3_n_7 ..
theorem Q3_s_0 : (Q3 p q 0 b c).steps = 2 := by kernel_rfl
theorem Q3_s_1 : (Q3 p q 1 b c).steps = 2 := by kernel_rfl
theorem Q3_s_2 : (Q3 p q 2 b c).steps = 2 := by kernel_rfl
theorem Q3_s_3 : (Q3 p q 3 b c).steps = 2 := by kernel_rfl
theorem Q3_s_4 : (Q3 p q 4 b c).steps = 2 := by kernel_rfl
theorem Q3_s_5 : (Q3 p q 5 b c).steps = 2 := by kernel_rfl
theorem Q3_s_6 : (Q3 p q 6 b c).steps = 2 := by kernel_rfl
theorem Q3_s_7 : (Q3 p q 7 b c).steps = 2 := by kernel_rfl
theorem Q3_s (hi : i < 8) : (Q3 p q i b c).steps = 2 := by
  have h8 : i = 0 ∨ i = 1 ∨ i = 2 ∨ i = 3 ∨ i = 4 ∨ i = 5 ∨ i = 6 ∨ i = 7 := by omega
  rcases h8 with rfl | rfl | rfl | rfl | rfl | rfl | rfl | rfl
  · exact Q3_s_0 ..
  · exact Q3_s_1 ..
  · exact Q3_s_2 ..
  · exact Q3_s_3 ..
  · exact Q3_s_4 ..
  · exact Q3_s_5 ..
  · exact Q3_s_6 ..
  · exact Q3_s_7 ..
theorem Q3_y_0_0 : (Q3 p q 0 b c).strayE 0 ((0 : Nat) : Int) = 0 := by kernel_rfl
theorem Q3_y_0_1 : (Q3 p q 0 b c).strayE 0 ((1 : Nat) : Int) = 0 := by kernel_rfl
theorem Q3_y_0_2 : (Q3 p q 0 b c).strayE 0 ((2 : Nat) : Int) = 0 := by kernel_rfl
theorem Q3_y_0_3 : (Q3 p q 0 b c).strayE 0 ((3 : Nat) : Int) = 0 := by kernel_rfl
theorem Q3_y_0_4 : (Q3 p q 0 b c).strayE 0 ((4 : Nat) : Int) = 0 := by kernel_rfl
theorem Q3_y_0_5 : (Q3 p q 0 b c).strayE 0 ((5 : Nat) : Int) = 0 := by kernel_rfl
theorem Q3_y_0_6 : (Q3 p q 0 b c).strayE 0 ((6 : Nat) : Int) = 0 := by kernel_rfl
theorem Q3_y_0_7 : (Q3 p q 0 b c).strayE 0 ((7 : Nat) : Int) = 0 := by kernel_rfl
theorem Q3_y_1_0 : (Q3 p q 1 b c).strayE 0 ((0 : Nat) : Int) = 0 := by kernel_rfl
theorem Q3_y_1_1 : (Q3 p q 1 b c).strayE 0 ((1 : Nat) : Int) = 0 := by kernel_rfl
theorem Q3_y_1_2 : (Q3 p q 1 b c).strayE 0 ((2 : Nat) : Int) = 0 := by kernel_rfl
theorem Q3_y_1_3 : (Q3 p q 1 b c).strayE 0 ((3 : Nat) : Int) = 0 := by kernel_rfl
theorem Q3_y_1_4 : (Q3 p q 1 b c).strayE 0 ((4 : Nat) : Int) = 0 := by kernel_rfl
theorem Q3_y_1_5 : (Q3 p q 1 b c).strayE 0 ((5 : Nat) : Int) = 0 := by kernel_rfl
theorem Q3_y_1_6 : (Q3 p q 1 b c).strayE 0 ((6 : Nat) : Int) = 0 := by kernel_rfl
theorem Q3_y_1_7 : (Q3 p q 1 b c).strayE 0 ((7 : Nat) : Int) = 0 := by kernel_rfl
theorem Q3_y_2_0 : (Q3 p q 2 b c).strayE 0 ((0 : Nat) : Int) = 0 := by kernel_rfl
theorem Q3_y_2_1 : (Q3 p q 2 b c).strayE 0 ((1 : Nat) : Int) = 0 := by kernel_rfl
theorem Q3_y_2_2 : (Q3 p q 2 b c).strayE 0 ((2 : Nat) : Int) = 0 := by kernel_rfl
theorem Q3_y_2_3 : (Q3 p q 2 b c).strayE 0 ((3 : Nat) : Int) = 0 := by kernel_rfl
theorem Q3_y_2_4 : (Q3 p q 2 b c).strayE 0 ((4 : Nat) : Int) = 0 := by kernel_rfl
theorem Q3_y_2_5 : (Q3 p q 2 b c).strayE 0 ((5 : Nat) : Int) = 0 := by kernel_rfl
theorem Q3_y_2_6 : (Q3 p q 2 b c).strayE 0 ((6 : Nat) : Int) = 0 := by kernel_rfl
theorem Q3_y_2_7 : (Q3 p q 2 b c).strayE 0 ((7 : Nat) : Int) = 0 := by kernel_rfl
theorem Q3_y_3_0 : (Q3 p q 3 b c).strayE 0 ((0 : Nat) : Int) = 0 := by kernel_rfl
theorem Q3_y_3_1 : (Q3 p q 3 b c).strayE 0 ((1 : Nat) : Int) = 0 := by kernel_rfl
theorem Q3_y_3_2 : (Q3 p q 3 b c).strayE 0 ((2 : Nat) : Int) = 0 := by kernel_rfl
theorem Q3_y_3_3 : (Q3 p q 3 b c).strayE 0 ((3 : Nat) : Int) = 0 := by kernel_rfl
theorem Q3_y_3_4 : (Q3 p q 3 b c).strayE 0 ((4 : Nat) : Int) = 0 := by kernel_rfl
theorem Q3_y_3_5 : (Q3 p q 3 b c).strayE 0 ((5 : Nat) : Int) = 0 := by kernel_rfl
theorem Q3_y_3_6 : (Q3 p q 3 b c).strayE 0 ((6 : Nat) : Int) = 0 := by kernel_rfl
theorem Q3_y_3_7 : (Q3 p q 3 b c).strayE 0 ((7 : Nat) : Int) = 0 := by kernel_rfl
theorem Q3_y_4_0 : (Q3 p q 4 b c).strayE 0 ((0 : Nat) : Int) = 0 := by kernel_rfl
theorem Q3_y_4_1 : (Q3 p q 4 b c).strayE 0 ((1 : Nat) : Int) = 0 := by kernel_rfl
theorem Q3_y_4_2 : (Q3 p q 4 b c).strayE 0 ((2 : Nat) : Int) = 0 := by kernel_rfl
theorem Q3_y_4_3 : (Q3 p q 4 b c).strayE 0 ((3 : Nat) : Int) = 0 := by kernel_rfl
theorem Q3_y_4_4 : (Q3 p q 4 b c).strayE 0 ((4 : Nat) : Int) = 0 := by kernel_rfl
theorem Q3_y_4_5 : (Q3 p q 4 b c).strayE 0 ((5 : Nat) : Int) = 0 := by kernel_rfl
theorem Q3_y_4_6 : (Q3 p q 4 b c).strayE 0 ((6 : Nat) : Int) = 0 := by kernel_rfl
theorem Q3_y_4_7 : (Q3 p q 4 b c).strayE 0 ((7 : Nat) : Int) = 0 := by kernel_rfl
theorem Q3_y_5_0 : (Q3 p q 5 b c).strayE 0 ((0 : Nat) : Int) = 0 := by kernel_rfl
theorem Q3_y_5_1 : (Q3 p q 5 b c).strayE 0 ((1 : Nat) : Int) = 0 := by kernel_rfl
theorem Q3_y_5_2 : (Q3 p q 5 b c).strayE 0 ((2 : Nat) : Int) = 0 := by kernel_rfl
theorem Q3_y_5_3 : (Q3 p q 5 b c).strayE 0 ((3 : Nat) : Int) = 0 := by kernel_rfl
theorem Q3_y_5_4 : (Q3 p q 5 b c).strayE 0 ((4 : Nat) : Int) = 0 := by kernel_rfl
theorem Q3_y_5_5 : (Q3 p q 5 b c).strayE 0 ((5 : Nat) : Int) = 0 := by kernel_rfl
theorem Q3_y_5_6 : (Q3 p q 5 b c).strayE 0 ((6 : Nat) : Int) = 0 := by kernel_rfl
theorem Q3_y_5_7 : (Q3 p q 5 b c).strayE 0 ((7 : Nat) : Int) = 0 := by kernel_rfl
theorem Q3_y_6_0 : (Q3 p q 6 b c).strayE 0 ((0 : Nat) : Int) = 0 := by kernel_rfl
theorem Q3_y_6_1 : (Q3 p q 6 b c).strayE 0 ((1 : Nat) : Int) = 0 := by kernel_rfl
theorem Q3_y_6_2 : (Q3 p q 6 b c).strayE 0 ((2 : Nat) : Int) = 0 := by kernel_rfl
theorem Q3_y_6_3 : (Q3 p q 6 b c).strayE 0 ((3 : Nat) : Int) = 0 := by kernel_rfl
theorem Q3_y_6_4 : (Q3 p q 6 b c).strayE 0 ((4 : Nat) : Int) = 0 := by kernel_rfl
theorem Q3_y_6_5 : (Q3 p q 6 b c).strayE 0 ((5 : Nat) : Int) = 0 := by kernel_rfl
theorem Q3_y_6_6 : (Q3 p q 6 b c).strayE 0 ((6 : Nat) : Int) = 0 := by kernel_rfl
theorem Q3_y_6_7 : (Q3 p q 6 b c).strayE 0 ((7 : Nat) : Int) = 0 := by kernel_rfl
theorem Q3_y_7_0 : (Q3 p q 7 b c).strayE 0 ((0 : Nat) : Int) = 0 := by kernel_rfl
theorem Q3_y_7_1 : (Q3 p q 7 b c).strayE 0 ((1 : Nat) : Int) = 0 := by kernel_rfl
theorem Q3_y_7_2 : (Q3 p q 7 b c).strayE 0 ((2 : Nat) : Int) = 0 := by kernel_rfl
theorem Q3_y_7_3 : (Q3 p q 7 b c).strayE 0 ((3 : Nat) : Int) = 0 := by kernel_rfl
theorem Q3_y_7_4 : (Q3 p q 7 b c).strayE 0 ((4 : Nat) : Int) = 0 := by kernel_rfl
theorem Q3_y_7_5 : (Q3 p q 7 b c).strayE 0 ((5 : Nat) : Int) = 0 := by kernel_rfl
theorem Q3_y_7_6 : (Q3 p q 7 b c).strayE 0 ((6 : Nat) : Int) = 0 := by kernel_rfl
theorem Q3_y_7_7 : (Q3 p q 7 b c).strayE 0 ((7 : Nat) : Int) = 0 := by kernel_rfl
theorem Q3_y (hi : i < 8) (hj : j < 8) : (Q3 p q i b c).strayE 0 (j : Int) = 0 := by
  have h8 : i = 0 ∨ i = 1 ∨ i = 2 ∨ i = 3 ∨ i = 4 ∨ i = 5 ∨ i = 6 ∨ i = 7 := by omega
  have h9 : j = 0 ∨ j = 1 ∨ j = 2 ∨ j = 3 ∨ j = 4 ∨ j = 5 ∨ j = 6 ∨ j = 7 := by omega
  rcases h8 with rfl | rfl | rfl | rfl | rfl | rfl | rfl | rfl <;> rcases h9 with rfl | rfl | rfl | rfl | rfl | rfl | rfl | rfl
  · exact Q3_y_0_0 ..
  · exact Q3_y_0_1 ..
  · exact Q3_y_0_2 ..
  · exact Q3_y_0_3 ..
  · exact Q3_y_0_4 ..
  · exact Q3_y_0_5 ..
  · exact Q3_y_0_6 ..
  · exact Q3_y_0_7 ..
  · exact Q3_y_1_0 ..
  · exact Q3_y_1_1 ..
  · exact Q3_y_1_2 ..
  · exact Q3_y_1_3 ..
  · exact Q3_y_1_4 ..
  · exact Q3_y_1_5 ..
  · exact Q3_y_1_6 ..
  · exact Q3_y_1_7 ..
  · exact Q3_y_2_0 ..
  · exact Q3_y_2_1 ..
  · exact Q3_y_2_2 ..
  · exact Q3_y_2_3 ..
  · exact Q3_y_2_4 ..
  · exact Q3_y_2_5 ..
  · exact Q3_y_2_6 ..
  · exact Q3_y_2_7 ..
  · exact Q3_y_3_0 ..
  · exact Q3_y_3_1 ..
  · exact Q3_y_3_2 ..
  · exact Q3_y_3_3 ..
  · exact Q3_y_3_4 ..
  · exact Q3_y_3_5 ..
  · exact Q3_y_3_6 ..
  · exact Q3_y_3_7 ..
  · exact Q3_y_4_0 ..
  · exact Q3_y_4_1 ..
  · exact Q3_y_4_2 ..
  · exact Q3_y_4_3 ..
  · exact Q3_y_4_4 ..
  · exact Q3_y_4_5 ..
  · exact Q3_y_4_6 ..
  · exact Q3_y_4_7 ..
  · exact Q3_y_5_0 ..
  · exact Q3_y_5_1 ..
  · exact Q3_y_5_2 ..
  · exact Q3_y_5_3 ..
  · exact Q3_y_5_4 ..
  · exact Q3_y_5_5 ..
  · exact Q3_y_5_6 ..
  · exact Q3_y_5_7 ..
  · exact Q3_y_6_0 ..
  · exact Q3_y_6_1 ..
  · exact Q3_y_6_2 ..
  · exact Q3_y_6_3 ..
  · exact Q3_y_6_4 ..
  · exact Q3_y_6_5 ..
  · exact Q3_y_6_6 ..
  · exact Q3_y_6_7 ..
  · exact Q3_y_7_0 ..
  · exact Q3_y_7_1 ..
  · exact Q3_y_7_2 ..
  · exact Q3_y_7_3 ..
  · exact Q3_y_7_4 ..
  · exact Q3_y_7_5 ..
  · exact Q3_y_7_6 ..
  · exact Q3_y_7_7 ..
theorem Q4_w_0_0 : (Q4 p q 0 0 b c).writeE 0 ((0 : Nat) : Int) (BB c) = 0 := by kernel_rfl
theorem Q4_w_0_1 : (Q4 p q 0 1 b c).writeE 0 ((0 : Nat) : Int) (BB c) = 0 := by kernel_rfl
theorem Q4_w_0_2 : (Q4 p q 0 2 b c).writeE 0 ((0 : Nat) : Int) (BB c) = 0 := by kernel_rfl
theorem Q4_w_0_3 : (Q4 p q 0 3 b c).writeE 0 ((0 : Nat) : Int) (BB c) = 0 := by kernel_rfl
theorem Q4_w_0_4 : (Q4 p q 0 4 b c).writeE 0 ((0 : Nat) : Int) (BB c) = 0 := by kernel_rfl
theorem Q4_w_0_5 : (Q4 p q 0 5 b c).writeE 0 ((0 : Nat) : Int) (BB c) = 0 := by kernel_rfl
theorem Q4_w_0_6 : (Q4 p q 0 6 b c).writeE 0 ((0 : Nat) : Int) (BB c) = 0 := by kernel_rfl
theorem Q4_w_0_7 : (Q4 p q 0 7 b c).writeE 0 ((0 : Nat) : Int) (BB c) = 0 := by kernel_rfl
theorem Q4_w_1_0 : (Q4 p q 1 0 b c).writeE 0 ((1 : Nat) : Int) (BB c) = 0 := by kernel_rfl
theorem Q4_w_1_1 : (Q4 p q 1 1 b c).writeE 0 ((1 : Nat) : Int) (BB c) = 0 := by kernel_rfl
theorem Q4_w_1_2 : (Q4 p q 1 2 b c).writeE 0 ((1 : Nat) : Int) (BB c) = 0 := by kernel_rfl
theorem Q4_w_1_3 : (Q4 p q 1 3 b c).writeE 0 ((1 : Nat) : Int) (BB c) = 0 := by kernel_rfl
theorem Q4_w_1_4 : (Q4 p q 1 4 b c).writeE 0 ((1 : Nat) : Int) (BB c) = 0 := by kernel_rfl
theorem Q4_w_1_5 : (Q4 p q 1 5 b c).writeE 0 ((1 : Nat) : Int) (BB c) = 0 := by kernel_rfl
theorem Q4_w_1_6 : (Q4 p q 1 6 b c).writeE 0 ((1 : Nat) : Int) (BB c) = 0 := by kernel_rfl
theorem Q4_w_1_7 : (Q4 p q 1 7 b c).writeE 0 ((1 : Nat) : Int) (BB c) = 0 := by kernel_rfl
theorem Q4_w_2_0 : (Q4 p q 2 0 b c).writeE 0 ((2 : Nat) : Int) (BB c) = 0 := by kernel_rfl
theorem Q4_w_2_1 : (Q4 p q 2 1 b c).writeE 0 ((2 : Nat) : Int) (BB c) = 0 := by kernel_rfl
theorem Q4_w_2_2 : (Q4 p q 2 2 b c).writeE 0 ((2 : Nat) : Int) (BB c) = 0 := by kernel_rfl
theorem Q4_w_2_3 : (Q4 p q 2 3 b c).writeE 0 ((2 : Nat) : Int) (BB c) = 0 := by kernel_rfl
theorem Q4_w_2_4 : (Q4 p q 2 4 b c).writeE 0 ((2 : Nat) : Int) (BB c) = 0 := by kernel_rfl
theorem Q4_w_2_5 : (Q4 p q 2 5 b c).writeE 0 ((2 : Nat) : Int) (BB c) = 0 := by kernel_rfl
theorem Q4_w_2_6 : (Q4 p q 2 6 b c).writeE 0 ((2 : Nat) : Int) (BB c) = 0 := by kernel_rfl
theorem Q4_w_2_7 : (Q4 p q 2 7 b c).writeE 0 ((2 : Nat) : Int) (BB c) = 0 := by kernel_rfl
theorem Q4_w_3_0 : (Q4 p q 3 0 b c).writeE 0 ((3 : Nat) : Int) (BB c) = 0 := by kernel_rfl
theorem Q4_w_3_1 : (Q4 p q 3 1 b c).writeE 0 ((3 : Nat) : Int) (BB c) = 0 := by kernel_rfl
theorem Q4_w_3_2 : (Q4 p q 3 2 b c).writeE 0 ((3 : Nat) : Int) (BB c) = 0 := by kernel_rfl
theorem Q4_w_3_3 : (Q4 p q 3 3 b c).writeE 0 ((3 : Nat) : Int) (BB c) = 0 := by kernel_rfl
theorem Q4_w_3_4 : (Q4 p q 3 4 b c).writeE 0 ((3 : Nat) : Int) (BB c) = 0 := by kernel_rfl
theorem Q4_w_3_5 : (Q4 p q 3 5 b c).writeE 0 ((3 : Nat) : Int) (BB c) = 0 := by kernel_rfl
theorem Q4_w_3_6 : (Q4 p q 3 6 b c).writeE 0 ((3 : Nat) : Int) (BB c) = 0 := by kernel_rfl
theorem Q4_w_3_7 : (Q4 p q 3 7 b c).writeE 0 ((3 : Nat) : Int) (BB c) = 0 := by kernel_rfl
theorem Q4_w_4_0 : (Q4 p q 4 0 b c).writeE 0 ((4 : Nat) : Int) (BB c) = 0 := by kernel_rfl
theorem Q4_w_4_1 : (Q4 p q 4 1 b c).writeE 0 ((4 : Nat) : Int) (BB c) = 0 := by kernel_rfl
theorem Q4_w_4_2 : (Q4 p q 4 2 b c).writeE 0 ((4 : Nat) : Int) (BB c) = 0 := by kernel_rfl
theorem Q4_w_4_3 : (Q4 p q 4 3 b c).writeE 0 ((4 : Nat) : Int) (BB c) = 0 := by kernel_rfl
theorem Q4_w_4_4 : (Q4 p q 4 4 b c).writeE 0 ((4 : Nat) : Int) (BB c) = 0 := by kernel_rfl
theorem Q4_w_4_5 : (Q4 p q 4 5 b c).writeE 0 ((4 : Nat) : Int) (BB c) = 0 := by kernel_rfl
theorem Q4_w_4_6 : (Q4 p q 4 6 b c).writeE 0 ((4 : Nat) : Int) (BB c) = 0 := by kernel_rfl
theorem Q4_w_4_7 : (Q4 p q 4 7 b c).writeE 0 ((4 : Nat) : Int) (BB c) = 0 := by kernel_rfl
theorem Q4_w_5_0 : (Q4 p q 5 0 b c).writeE 0 ((5 : Nat) : Int) (BB c) = 0 := by kernel_rfl
theorem Q4_w_5_1 : (Q4 p q 5 1 b c).writeE 0 ((5 : Nat) : Int) (BB c) = 0 := by kernel_rfl
theorem Q4_w_5_2 : (Q4 p q 5 2 b c).writeE 0 ((5 : Nat) : Int) (BB c) = 0 := by kernel_rfl
theorem Q4_w_5_3 : (Q4 p q 5 3 b c).writeE 0 ((5 : Nat) : Int) (BB c) = 0 := by kernel_rfl
theorem Q4_w_5_4 : (Q4 p q 5 4 b c).writeE 0 ((5 : Nat) : Int) (BB c) = 0 := by kernel_rfl
theorem Q4_w_5_5 : (Q4 p q 5 5 b c).writeE 0 ((5 : Nat) : Int) (BB c) = 0 := by kernel_rfl
theorem Q4_w_5_6 : (Q4 p q 5 6 b c).writeE 0 ((5 : Nat) : Int) (BB c) = 0 := by kernel_rfl
theorem Q4_w_5_7 : (Q4 p q 5 7 b c).writeE 0 ((5 : Nat) : Int) (BB c) = 0 := by kernel_rfl
theorem Q4_w_6_0 : (Q4 p q 6 0 b c).writeE 0 ((6 : Nat) : Int) (BB c) = 0 := by kernel_rfl
theorem Q4_w_6_1 : (Q4 p q 6 1 b c).writeE 0 ((6 : Nat) : Int) (BB c) = 0 := by kernel_rfl
theorem Q4_w_6_2 : (Q4 p q 6 2 b c).writeE 0 ((6 : Nat) : Int) (BB c) = 0 := by kernel_rfl
theorem Q4_w_6_3 : (Q4 p q 6 3 b c).writeE 0 ((6 : Nat) : Int) (BB c) = 0 := by kernel_rfl
theorem Q4_w_6_4 : (Q4 p q 6 4 b c).writeE 0 ((6 : Nat) : Int) (BB c) = 0 := by kernel_rfl
theorem Q4_w_6_5 : (Q4 p q 6 5 b c).writeE 0 ((6 : Nat) : Int) (BB c) = 0 := by kernel_rfl
theorem Q4_w_6_6 : (Q4 p q 6 6 b c).writeE 0 ((6 : Nat) : Int) (BB c) = 0 := by kernel_rfl
theorem Q4_w_6_7 : (Q4 p q 6 7 b c).writeE 0 ((6 : Nat) : Int) (BB c) = 0 := by kernel_rfl
theorem Q4_w_7_0 : (Q4 p q 7 0 b c).writeE 0 ((7 : Nat) : Int) (BB c) = 0 := by kernel_rfl
theorem Q4_w_7_1 : (Q4 p q 7 1 b c).writeE 0 ((7 : Nat) : Int) (BB c) = 0 := by kernel_rfl
theorem Q4_w_7_2 : (Q4 p q 7 2 b c).writeE 0 ((7 : Nat) : Int) (BB c) = 0 := by kernel_rfl
theorem Q4_w_7_3 : (Q4 p q 7 3 b c).writeE 0 ((7 : Nat) : Int) (BB c) = 0 := by kernel_rfl
theorem Q4_w_7_4 : (Q4 p q 7 4 b c).writeE 0 ((7 : Nat) : Int) (BB c) = 0 := by kernel_rfl
theorem Q4_w_7_5 : (Q4 p q 7 5 b c).writeE 0 ((7 : Nat) : Int) (BB c) = 0 := by kernel_rfl
theorem Q4_w_7_6 : (Q4 p q 7 6 b c).writeE 0 ((7 : Nat) : Int) (BB c) = 0 := by kernel_rfl
theorem Q4_w_7_7 : (Q4 p q 7 7 b c).writeE 0 ((7 : Nat) : Int) (BB c) = 0 := by kernel_rfl
theorem Q4_w (hi : i < 8) (hj : j < 8) : (Q4 p q i j b c).writeE 0 (i : Int) (BB c) = 0 := by
  have h8 : i = 0 ∨ i = 1 ∨ i = 2 ∨ i = 3 ∨ i = 4 ∨ i = 5 ∨ i = 6 ∨ i = 7 := by omega
  have h9 : j = 0 ∨ j = 1 ∨ j = 2 ∨ j = 3 ∨ j = 4 ∨ j = 5 ∨ j = 6 ∨ j = 7 := by omega
  rcases h8 with rfl | rfl | rfl | rfl | rfl | rfl | rfl | rfl <;> rcases h9 with rfl | rfl | rfl | rfl | rfl | rfl | rfl | rfl
  · exact Q4_w_0_0 ..
  · exact Q4_w_0_1 ..
  · exact Q4_w_0_2 ..
  · exact Q4_w_0_3 ..
  · exact Q4_w_0_4 ..
  · exact Q4_w_0_5 ..
  · exact Q4_w_0_6 ..
  · exact Q4_w_0_7 ..
  · exact Q4_w_1_0 ..
  · exact Q4_w_1_1 ..
  · exact Q4_w_1_2 ..
  · exact Q4_w_1_3 ..
  · exact Q4_w_1_4 ..
  · exact Q4_w_1_5 ..
  · exact Q4_w_1_6 ..
  · exact Q4_w_1_7 ..
  · exact Q4_w_2_0 ..
  · exact Q4_w_2_1 ..
  · exact Q4_w_2_2 ..
  · exact Q4_w_2_3 ..
  · exact Q4_w_2_4 ..
  · exact Q4_w_2_5 ..
  · exact Q4_w_2_6 ..
  · exact Q4_w_2_7 ..
  · exact Q4_w_3_0 ..
  · exact Q4_w_3_1 ..
  · exact Q4_w_3_2 ..
  · exact Q4_w_3_3 ..
  · exact Q4_w_3_4 ..
  · exact Q4_w_3_5 ..
  · exact Q4_w_3_6 ..
  · exact Q4_w_3_7 ..
  · exact Q4_w_4_0 ..
  · exact Q4_w_4_1 ..
  · exact Q4_w_4_2 ..
  · exact Q4_w_4_3 ..
  · exact Q4_w_4_4 ..
  · exact Q4_w_4_5 ..
  · exact Q4_w_4_6 ..
  · exact Q4_w_4_7 ..
  · exact Q4_w_5_0 ..
  · exact Q4_w_5_1 ..
  · exact Q4_w_5_2 ..
  · exact Q4_w_5_3 ..
  · exact Q4_w_5_4 ..
  · exact Q4_w_5_5 ..
  · exact Q4_w_5_6 ..
  · exact Q4_w_5_7 ..
  · exact Q4_w_6_0 ..
  · exact Q4_w_6_1 ..
  · exact Q4_w_6_2 ..
  · exact Q4_w_6_3 ..
  · exact Q4_w_6_4 ..
  · exact Q4_w_6_5 ..
  · exact Q4_w_6_6 ..
  · exact Q4_w_6_7 ..
  · exact Q4_w_7_0 ..
  · exact Q4_w_7_1 ..
  · exact Q4_w_7_2 ..
  · exact Q4_w_7_3 ..
  · exact Q4_w_7_4 ..
  · exact Q4_w_7_5 ..
  · exact Q4_w_7_6 ..
  · exact Q4_w_7_7 ..
theorem Q4_n_0_0 : (Q4 p q 0 0 b c).loose.length = 1 := by kernel_rfl
theorem Q4_n_0_1 : (Q4 p q 0 1 b c).loose.length = 1 := by kernel_rfl
theorem Q4_n_0_2 : (Q4 p q 0 2 b c).loose.length = 1 := by kernel_rfl
theorem Q4_n_0_3 : (Q4 p q 0 3 b c).loose.length = 1 := by kernel_rfl
theorem Q4_n_0_4 : (Q4 p q 0 4 b c).loose.length = 1 := by kernel_rfl
theorem Q4_n_0_5 : (Q4 p q 0 5 b c).loose.length = 1 := by kernel_rfl
theorem Q4_n_0_6 : (Q4 p q 0 6 b c).loose.length = 1 := by kernel_rfl
theorem Q4_n_0_7 : (Q4 p q 0 7 b c).loose.length = 1 := by kernel_rfl
theorem Q4_n_1_0 : (Q4 p q 1 0 b c).loose.length = 1 := by kernel_rfl
theorem Q4_n_1_1 : (Q4 p q 1 1 b c).loose.length = 1 := by kernel_rfl
theorem Q4_n_1_2 : (Q4 p q 1 2 b c).loose.length = 1 := by kernel_rfl
theorem Q4_n_1_3 : (Q4 p q 1 3 b c).loose.length = 1 := by kernel_rfl
theorem Q4_n_1_4 : (Q4 p q 1 4 b c).loose.length = 1 := by kernel_rfl
theorem Q4_n_1_5 : (Q4 p q 1 5 b c).loose.length = 1 := by kernel_rfl
theorem Q4_n_1_6 : (Q4 p q 1 6 b c).loose.length = 1 := by kernel_rfl
theorem Q4_n_1_7 : (Q4 p q 1 7 b c).loose.length = 1 := by kernel_rfl
theorem Q4_n_2_0 : (Q4 p q 2 0 b c).loose.length = 1 := by kernel_rfl
theorem Q4_n_2_1 : (Q4 p q 2 1 b c).loose.length = 1 := by kernel_rfl
theorem Q4_n_2_2 : (Q4 p q 2 2 b c).loose.length = 1 := by kernel_rfl
theorem Q4_n_2_3 : (Q4 p q 2 3 b c).loose.length = 1 := by kernel_rfl
theorem Q4_n_2_4 : (Q4 p q 2 4 b c).loose.length = 1 := by kernel_rfl
theorem Q4_n_2_5 : (Q4 p q 2 5 b c).loose.length = 1 := by kernel_rfl
theorem Q4_n_2_6 : (Q4 p q 2 6 b c).loose.length = 1 := by kernel_rfl
theorem Q4_n_2_7 : (Q4 p q 2 7 b c).loose.length = 1 := by kernel_rfl
theorem Q4_n_3_0 : (Q4 p q 3 0 b c).loose.length = 1 := by kernel_rfl
theorem Q4_n_3_1 : (Q4 p q 3 1 b c).loose.length = 1 := by kernel_rfl
theorem Q4_n_3_2 : (Q4 p q 3 2 b c).loose.length = 1 := by kernel_rfl
theorem Q4_n_3_3 : (Q4 p q 3 3 b c).loose.length = 1 := by kernel_rfl
theorem Q4_n_3_4 : (Q4 p q 3 4 b c).loose.length = 1 := by kernel_rfl
theorem Q4_n_3_5 : (Q4 p q 3 5 b c).loose.length = 1 := by kernel_rfl
theorem Q4_n_3_6 : (Q4 p q 3 6 b c).loose.length = 1 := by kernel_rfl
theorem Q4_n_3_7 : (Q4 p q 3 7 b c).loose.length = 1 := by kernel_rfl
theorem Q4_n_4_0 : (Q4 p q 4 0 b c).loose.length = 1 := by kernel_rfl
theorem Q4_n_4_1 : (Q4 p q 4 1 b c).loose.length = 1 := by kernel_rfl
theorem Q4_n_4_2 : (Q4 p q 4 2 b c).loose.length = 1 := by kernel_rfl
theorem Q4_n_4_3 : (Q4 p q 4 3 b c).loose.length = 1 := by kernel_rfl
theorem Q4_n_4_4 : (Q4 p q 4 4 b c).loose.length = 1 := by kernel_rfl
theorem Q4_n_4_5 : (Q4 p q 4 5 b c).loose.length = 1 := by kernel_rfl
theorem Q4_n_4_6 : (Q4 p q 4 6 b c).loose.length = 1 := by kernel_rfl
theorem Q4_n_4_7 : (Q4 p q 4 7 b c).loose.length = 1 := by kernel_rfl
theorem Q4_n_5_0 : (Q4 p q 5 0 b c).loose.length = 1 := by kernel_rfl
theorem Q4_n_5_1 : (Q4 p q 5 1 b c).loose.length = 1 := by kernel_rfl
theorem Q4_n_5_2 : (Q4 p q 5 2 b c).loose.length = 1 := by kernel_rfl
theorem Q4_n_5_3 : (Q4 p q 5 3 b c).loose.length = 1 := by kernel_rfl
theorem Q4_n_5_4 : (Q4 p q 5 4 b c).loose.length = 1 := by kernel_rfl
theorem Q4_n_5_5 : (Q4 p q 5 5 b c).loose.length = 1 := by kernel_rfl
theorem Q4_n_5_6 : (Q4 p q 5 6 b c).loose.length = 1 := by kernel_rfl
theorem Q4_n_5_7 : (Q4 p q 5 7 b c).loose.length = 1 := by kernel_rfl
theorem Q4_n_6_0 : (Q4 p q 6 0 b c).loose.length = 1 := by kernel_rfl
theorem Q4_n_6_1 : (Q4 p q 6 1 b c).loose.length = 1 := by kernel_rfl
theorem Q4_n_6_2 : (Q4 p q 6 2 b c).loose.length = 1 := by kernel_rfl
theorem Q4_n_6_3 : (Q4 p q 6 3 b c).loose.length = 1 := by kernel_rfl
theorem Q4_n_6_4 : (Q4 p q 6 4 b c).loose.length = 1 := by kernel_rfl
theorem Q4_n_6_5 : (Q4 p q 6 5 b c).loose.length = 1 := by kernel_rfl
theorem Q4_n_6_6 : (Q4 p q 6 6 b c).loose.length = 1 := by kernel_rfl
theorem Q4_n_6_7 : (Q4 p q 6 7 b c).loose.length = 1 := by kernel_rfl
theorem Q4_n_7_0 : (Q4 p q 7 0 b c).loose.length = 1 := by kernel_rfl
theorem Q4_n_7_1 : (Q4 p q 7 1 b c).loose.length = 1 := by kernel_rfl
theorem Q4_n_7_2 : (Q4 p q 7 2 b c).loose.length = 1 := by kernel_rfl
theorem Q4_n_7_3 : (Q4 p q 7 3 b c).loose.length = 1 := by kernel_rfl
theorem Q4_n_7_4 : (Q4 p q 7 4 b c).loose.length = 1 := by kernel_rfl
theorem Q4_n_7_5 : (Q4 p q 7 5 b c).loose.length = 1 := by kernel_rfl
theorem Q4_n_7_6 : (Q4 p q 7 6 b c).loose.length = 1 := by kernel_rfl
theorem Q4_n_7_7 : (Q4 p q 7 7 b c).loose.length = 1 := by kernel_rfl
theorem Q4_n (hi : i < 8) (hj : j < 8) : (Q4 p q i j b c).loose.length = 1 := by
  have h8 : i = 0 ∨ i = 1 ∨ i = 2 ∨ i = 3 ∨ i = 4 ∨ i = 5 ∨ i = 6 ∨ i = 7 := by omega
  have h9 : j = 0 ∨ j = 1 ∨ j = 2 ∨ j = 3 ∨ j = 4 ∨ j = 5 ∨ j = 6 ∨ j = 7 := by omega
  rcases h8 with rfl | rfl | rfl | rfl | rfl | rfl | rfl | rfl <;> rcases h9 with rfl | rfl | rfl | rfl | rfl | rfl | rfl | rfl
  · exact Q4_n_0_0 ..
  · exact Q4_n_0_1 ..
  · exact Q4_n_0_2 ..
  · exact Q4_n_0_3 ..
  · exact Q4_n_0_4 ..
  · exact Q4_n_0_5 ..
  · exact Q4_n_0_6 ..
  · exact Q4_n_0_7 ..
  · exact Q4_n_1_0 ..
  · exact Q4_n_1_1 ..
  · exact Q4_n_1_2 ..
  · exact Q4_n_1_3 ..
  · exact Q4_n_1_4 ..
  · exact Q4_n_1_5 ..
  · exact Q4_n_1_6 ..
  · exact Q4_n_1_7 ..
  · exact Q4_n_2_0 ..
  · exact Q4_n_2_1 ..
  · exact Q4_n_2_2 ..
  · exact Q4_n_2_3 ..
  · exact Q4_n_2_4 ..
  · exact Q4_n_2_5 ..
  · exact Q4_n_2_6 ..
  · exact Q4_n_2_7 ..
  · exact Q4_n_3_0 ..
  · exact Q4_n_3_1 ..
  · exact Q4_n_3_2 ..
  · exact Q4_n_3_3 ..
  · exact Q4_n_3_4 ..
  · exact Q4_n_3_5 ..
  · exact Q4_n_3_6 ..
  · exact Q4_n_3_7 ..
  · exact Q4_n_4_0 ..
  · exact Q4_n_4_1 ..
  · exact Q4_n_4_2 ..
  · exact Q4_n_4_3 ..
  · exact Q4_n_4_4 ..
  · exact Q4_n_4_5 ..
  · exact Q4_n_4_6 ..
  · exact Q4_n_4_7 ..
  · exact Q4_n_5_0 ..
  · exact Q4_n_5_1 ..
  · exact Q4_n_5_2 ..
  · exact Q4_n_5_3 ..
  · exact Q4_n_5_4 ..
  · exact Q4_n_5_5 ..
  · exact Q4_n_5_6 ..
  · exact Q4_n_5_7 ..
  · exact Q4_n_6_0 ..
  · exact Q4_n_6_1 ..
  · exact Q4_n_6_2 ..
  · exact Q4_n_6_3 ..
  · exact Q4_n_6_4 ..
  · exact Q4_n_6_5 ..
  · exact Q4_n_6_6 ..
  · exact Q4_n_6_7 ..
  · exact Q4_n_7_0 ..
  · exact Q4_n_7_1 ..
  · exact Q4_n_7_2 ..
  · exact Q4_n_7_3 ..
  · exact Q4_n_7_4 ..
  · exact Q4_n_7_5 ..
  · exact Q4_n_7_6 ..
  · exact Q4_n_7_7 ..
theorem Q4_s_0_0 : (Q4 p q 0 0 b c).steps = 2 := by kernel_rfl
theorem Q4_s_0_1 : (Q4 p q 0 1 b c).steps = 2 := by kernel_rfl
theorem Q4_s_0_2 : (Q4 p q 0 2 b c).steps = 2 := by kernel_rfl
theorem Q4_s_0_3 : (Q4 p q 0 3 b c).steps = 2 := by kernel_rfl
theorem Q4_s_0_4 : (Q4 p q 0 4 b c).steps = 2 := by kernel_rfl
theorem Q4_s_0_5 : (Q4 p q 0 5 b c).steps = 2 := by kernel_rfl
theorem Q4_s_0_6 : (Q4 p q 0 6 b c).steps = 2 := by kernel_rfl
theorem Q4_s_0_7 : (Q4 p q 0 7 b c).steps = 2 := by kernel_rfl
theorem Q4_s_1_0 : (Q4 p q 1 0 b c).steps = 2 := by kernel_rfl
theorem Q4_s_1_1 : (Q4 p q 1 1 b c).steps = 2 := by kernel_rfl
theorem Q4_s_1_2 : (Q4 p q 1 2 b c).steps = 2 := by kernel_rfl
theorem Q4_s_1_3 : (Q4 p q 1 3 b c).steps = 2 := by kernel_rfl
theorem Q4_s_1_4 : (Q4 p q 1 4 b c).steps = 2 := by kernel_rfl
theorem Q4_s_1_5 : (Q4 p q 1 5 b c).steps = 2 := by kernel_rfl
theorem Q4_s_1_6 : (Q4 p q 1 6 b c).steps = 2 := by kernel_rfl
theorem Q4_s_1_7 : (Q4 p q 1 7 b c).steps = 2 := by kernel_rfl
theorem Q4_s_2_0 : (Q4 p q 2 0 b c).steps = 2 := by kernel_rfl
theorem Q4_s_2_1 : (Q4 p q 2 1 b c).steps = 2 := by kernel_rfl
theorem Q4_s_2_2 : (Q4 p q 2 2 b c).steps = 2 := by kernel_rfl
theorem Q4_s_2_3 : (Q4 p q 2 3 b c).steps = 2 := by kernel_rfl
theorem Q4_s_2_4 : (Q4 p q 2 4 b c).steps = 2 := by kernel_rfl
theorem Q4_s_2_5 : (Q4 p q 2 5 b c).steps = 2 := by kernel_rfl
theorem Q4_s_2_6 : (Q4 p q 2 6 b c).steps = 2 := by kernel_rfl
theorem Q4_s_2_7 : (Q4 p q 2 7 b c).steps = 2 := by kernel_rfl
theorem Q4_s_3_0 : (Q4 p q 3 0 b c).steps = 2 := by kernel_rfl
theorem Q4_s_3_1 : (Q4 p q 3 1 b c).steps = 2 := by kernel_rfl
theorem Q4_s_3_2 : (Q4 p q 3 2 b c).steps = 2 := by kernel_rfl
theorem Q4_s_3_3 : (Q4 p q 3 3 b c).steps = 2 := by kernel_rfl
theorem Q4_s_3_4 : (Q4 p q 3 4 b c).steps = 2 := by kernel_rfl
theorem Q4_s_3_5 : (Q4 p q 3 5 b c).steps = 2 := by kernel_rfl
theorem Q4_s_3_6 : (Q4 p q 3 6 b c).steps = 2 := by kernel_rfl
theorem Q4_s_3_7 : (Q4 p q 3 7 b c).steps = 2 := by kernel_rfl
theorem Q4_s_4_0 : (Q4 p q 4 0 b c).steps = 2 := by kernel_rfl
theorem Q4_s_4_1 : (Q4 p q 4 1 b c).steps = 2 := by kernel_rfl
theorem Q4_s_4_2 : (Q4 p q 4 2 b c).steps = 2 := by kernel_rfl
theorem Q4_s_4_3 : (Q4 p q 4 3 b c).steps = 2 := by kernel_rfl
theorem Q4_s_4_4 : (Q4 p q 4 4 b c).steps = 2 := by kernel_rfl
theorem Q4_s_4_5 : (Q4 p q 4 5 b c).steps = 2 := by kernel_rfl
theorem Q4_s_4_6 : (Q4 p q 4 6 b c).steps = 2 := by kernel_rfl
theorem Q4_s_4_7 : (Q4 p q 4 7 b c).steps = 2 := by kernel_rfl
theorem Q4_s_5_0 : (Q4 p q 5 0 b c).steps = 2 := by kernel_rfl
theorem Q4_s_5_1 : (Q4 p q 5 1 b c).steps = 2 := by kernel_rfl
theorem Q4_s_5_2 : (Q4 p q 5 2 b c).steps = 2 := by kernel_rfl
theorem Q4_s_5_3 : (Q4 p q 5 3 b c).steps = 2 := by kernel_rfl
theorem Q4_s_5_4 : (Q4 p q 5 4 b c).steps = 2 := by kernel_rfl
theorem Q4_s_5_5 : (Q4 p q 5 5 b c).steps = 2 := by kernel_rfl
theorem Q4_s_5_6 : (Q4 p q 5 6 b c).steps = 2 := by kernel_rfl
theorem Q4_s_5_7 : (Q4 p q 5 7 b c).steps = 2 := by kernel_rfl
theorem Q4_s_6_0 : (Q4 p q 6 0 b c).steps = 2 := by kernel_rfl
theorem Q4_s_6_1 : (Q4 p q 6 1 b c).steps = 2 := by kernel_rfl
theorem Q4_s_6_2 : (Q4 p q 6 2 b c).steps = 2 := by kernel_rfl
theorem Q4_s_6_3 : (Q4 p q 6 3 b c).steps = 2 := by kernel_rfl
theorem Q4_s_6_4 : (Q4 p q 6 4 b c).steps = 2 := by kernel_rfl
theorem Q4_s_6_5 : (Q4 p q 6 5 b c).steps = 2 := by kernel_rfl
theorem Q4_s_6_6 : (Q4 p q 6 6 b c).steps = 2 := by kernel_rfl
theorem Q4_s_6_7 : (Q4 p q 6 7 b c).steps = 2 := by kernel_rfl
theorem Q4_s_7_0 : (Q4 p q 7 0 b c).steps = 2 := by kernel_rfl
theorem Q4_s_7_1 : (Q4 p q 7 1 b c).steps = 2 := by kernel_rfl
theorem Q4_s_7_2 : (Q4 p q 7 2 b c).steps = 2 := by kernel_rfl
theorem Q4_s_7_3 : (Q4 p q 7 3 b c).steps = 2 := by kernel_rfl
theorem Q4_s_7_4 : (Q4 p q 7 4 b c).steps = 2 := by kernel_rfl
theorem Q4_s_7_5 : (Q4 p q 7 5 b c).steps = 2 := by kernel_rfl
theorem Q4_s_7_6 : (Q4 p q 7 6 b c).steps = 2 := by kernel_rfl
theorem Q4_s_7_7 : (Q4 p q 7 7 b c).steps = 2 := by kernel_rfl
theorem Q4_s (hi : i < 8) (hj : j < 8) : (Q4 p q i j b c).steps = 2 := by
  have h8 : i = 0 ∨ i = 1 ∨ i = 2 ∨ i = 3 ∨ i = 4 ∨ i = 5 ∨ i = 6 ∨ i = 7 := by omega
  have h9 : j = 0 ∨ j = 1 ∨ j = 2 ∨ j = 3 ∨ j = 4 ∨ j = 5 ∨ j = 6 ∨ j = 7 := by omega
  rcases h8 with rfl | rfl | rfl | rfl | rfl | rfl | rfl | rfl <;> rcases h9 with rfl | rfl | rfl | rfl | rfl | rfl | rfl | rfl
  · exact Q4_s_0_0 ..
  · exact Q4_s_0_1 ..
  · exact Q4_s_0_2 ..
  · exact Q4_s_0_3 ..
  · exact Q4_s_0_4 ..
  · exact Q4_s_0_5 ..
  · exact Q4_s_0_6 ..
  · exact Q4_s_0_7 ..
  · exact Q4_s_1_0 ..
  · exact Q4_s_1_1 ..
  · exact Q4_s_1_2 ..
  · exact Q4_s_1_3 ..
  · exact Q4_s_1_4 ..
  · exact Q4_s_1_5 ..
  · exact Q4_s_1_6 ..
  · exact Q4_s_1_7 ..
  · exact Q4_s_2_0 ..
  · exact Q4_s_2_1 ..
  · exact Q4_s_2_2 ..
  · exact Q4_s_2_3 ..
  · exact Q4_s_2_4 ..
  · exact Q4_s_2_5 ..
  · exact Q4_s_2_6 ..
  · exact Q4_s_2_7 ..
  · exact Q4_s_3_0 ..
  · exact Q4_s_3_1 ..
  · exact Q4_s_3_2 ..
  · exact Q4_s_3_3 ..
  · exact Q4_s_3_4 ..
  · exact Q4_s_3_5 ..
  · exact Q4_s_3_6 ..
  · exact Q4_s_3_7 ..
  · exact Q4_s_4_0 ..
  · exact Q4_s_4_1 ..
  · exact Q4_s_4_2 ..
  · exact Q4_s_4_3 ..
  · exact Q4_s_4_4 ..
  · exact Q4_s_4_5 ..
  · exact Q4_s_4_6 ..
  · exact Q4_s_4_7 ..
  · exact Q4_s_5_0 ..
  · exact Q4_s_5_1 ..
  · exact Q4_s_5_2 ..
  · exact Q4_s_5_3 ..
  · exact Q4_s_5_4 ..
  · exact Q4_s_5_5 ..
  · exact Q4_s_5_6 ..
  · exact Q4_s_5_7 ..
  · exact Q4_s_6_0 ..
  · exact Q4_s_6_1 ..
  · exact Q4_s_6_2 ..
  · exact Q4_s_6_3 ..
  · exact Q4_s_6_4 ..
  · exact Q4_s_6_5 ..
  · exact Q4_s_6_6 ..
  · exact Q4_s_6_7 ..
  · exact Q4_s_7_0 ..
  · exact Q4_s_7_1 ..
  · exact Q4_s_7_2 ..
  · exact Q4_s_7_3 ..
  · exact Q4_s_7_4 ..
  · exact Q4_s_7_5 ..
  · exact Q4_s_7_6 ..
  · exact Q4_s_7_7 ..
theorem Q5_p_0_0 : (Q5 p q 0 0 b c).peekB 0 ((0 : Nat) : Int) = true := by kernel_rfl
theorem Q5_p_0_1 : (Q5 p q 0 1 b c).peekB 0 ((1 : Nat) : Int) = true := by kernel_rfl
theorem Q5_p_0_2 : (Q5 p q 0 2 b c).peekB 0 ((2 : Nat) : Int) = true := by kernel_rfl
theorem Q5_p_0_3 : (Q5 p q 0 3 b c).peekB 0 ((3 : Nat) : Int) = true := by kernel_rfl
theorem Q5_p_0_4 : (Q5 p q 0 4 b c).peekB 0 ((4 : Nat) : Int) = true := by kernel_rfl
theorem Q5_p_0_5 : (Q5 p q 0 5 b c).peekB 0 ((5 : Nat) : Int) = true := by kernel_rfl
theorem Q5_p_0_6 : (Q5 p q 0 6 b c).peekB 0 ((6 : Nat) : Int) = true := by kernel_rfl
theorem Q5_p_0_7 : (Q5 p q 0 7 b c).peekB 0 ((7 : Nat) : Int) = true := by kernel_rfl
theorem Q5_p_1_0 : (Q5 p q 1 0 b c).peekB 0 ((0 : Nat) : Int) = true := by kernel_rfl
theorem Q5_p_1_1 : (Q5 p q 1 1 b c).peekB 0 ((1 : Nat) : Int) = true := by kernel_rfl
theorem Q5_p_1_2 : (Q5 p q 1 2 b c).peekB 0 ((2 : Nat) : Int) = true := by kernel_rfl
theorem Q5_p_1_3 : (Q5 p q 1 3 b c).peekB 0 ((3 : Nat) : Int) = true := by kernel_rfl
theorem Q5_p_1_4 : (Q5 p q 1 4 b c).peekB 0 ((4 : Nat) : Int) = true := by kernel_rfl
theorem Q5_p_1_5 : (Q5 p q 1 5 b c).peekB 0 ((5 : Nat) : Int) = true := by kernel_rfl
theorem Q5_p_1_6 : (Q5 p q 1 6 b c).peekB 0 ((6 : Nat) : Int) = true := by kernel_rfl
theorem Q5_p_1_7 : (Q5 p q 1 7 b c).peekB 0 ((7 : Nat) : Int) = true := by kernel_rfl
theorem Q5_p_2_0 : (Q5 p q 2 0 b c).peekB 0 ((0 : Nat) : Int) = true := by kernel_rfl
theorem Q5_p_2_1 : (Q5 p q 2 1 b c).peekB 0 ((1 : Nat) : Int) = true := by kernel_rfl
theorem Q5_p_2_2 : (Q5 p q 2 2 b c).peekB 0 ((2 : Nat) : Int) = true := by kernel_rfl
theorem Q5_p_2_3 : (Q5 p q 2 3 b c).peekB 0 ((3 : Nat) : Int) = true := by kernel_rfl
theorem Q5_p_2_4 : (Q5 p q 2 4 b c).peekB 0 ((4 : Nat) : Int) = true := by kernel_rfl
theorem Q5_p_2_5 : (Q5 p q 2 5 b c).peekB 0 ((5 : Nat) : Int) = true := by kernel_rfl
theorem Q5_p_2_6 : (Q5 p q 2 6 b c).peekB 0 ((6 : Nat) : Int) = true := by kernel_rfl
theorem Q5_p_2_7 : (Q5 p q 2 7 b c).peekB 0 ((7 : Nat) : Int) = true := by kernel_rfl
theorem Q5_p_3_0 : (Q5 p q 3 0 b c).peekB 0 ((0 : Nat) : Int) = true := by kernel_rfl
theorem Q5_p_3_1 : (Q5 p q 3 1 b c).peekB 0 ((1 : Nat) : Int) = true := by kernel_rfl
theorem Q5_p_3_2 : (Q5 p q 3 2 b c).peekB 0 ((2 : Nat) : Int) = true := by kernel_rfl
theorem Q5_p_3_3 : (Q5 p q 3 3 b c).peekB 0 ((3 : Nat) : Int) = true := by kernel_rfl
theorem Q5_p_3_4 : (Q5 p q 3 4 b c).peekB 0 ((4 : Nat) : Int) = true := by kernel_rfl
theorem Q5_p_3_5 : (Q5 p q 3 5 b c).peekB 0 ((5 : Nat) : Int) = true := by kernel_rfl
theorem Q5_p_3_6 : (Q5 p q 3 6 b c).peekB 0 ((6 : Nat) : Int) = true := by kernel_rfl
theorem Q5_p_3_7 : (Q5 p q 3 7 b c).peekB 0 ((7 : Nat) : Int) = true := by kernel_rfl
theorem Q5_p_4_0 : (Q5 p q 4 0 b c).peekB 0 ((0 : Nat) : Int) = true := by kernel_rfl
theorem Q5_p_4_1 : (Q5 p q 4 1 b c).peekB 0 ((1 : Nat) : Int) = true := by kernel_rfl
theorem Q5_p_4_2 : (Q5 p q 4 2 b c).peekB 0 ((2 : Nat) : Int) = true := by kernel_rfl
theorem Q5_p_4_3 : (Q5 p q 4 3 b c).peekB 0 ((3 : Nat) : Int) = true := by kernel_rfl
theorem Q5_p_4_4 : (Q5 p q 4 4 b c).peekB 0 ((4 : Nat) : Int) = true := by kernel_rfl
theorem Q5_p_4_5 : (Q5 p q 4 5 b c).peekB 0 ((5 : Nat) : Int) = true := by kernel_rfl
theorem Q5_p_4_6 : (Q5 p q 4 6 b c).peekB 0 ((6 : Nat) : Int) = true := by kernel_rfl
theorem Q5_p_4_7 : (Q5 p q 4 7 b c).peekB 0 ((7 : Nat) : Int) = true := by kernel_rfl
theorem Q5_p_5_0 : (Q5 p q 5 0 b c).peekB 0 ((0 : Nat) : Int) = true := by kernel_rfl
theorem Q5_p_5_1 : (Q5 p q 5 1 b c).peekB 0 ((1 : Nat) : Int) = true := by kernel_rfl
theorem Q5_p_5_2 : (Q5 p q 5 2 b c).peekB 0 ((2 : Nat) : Int) = true := by kernel_rfl
theorem Q5_p_5_3 : (Q5 p q 5 3 b c).peekB 0 ((3 : Nat) : Int) = true := by kernel_rfl
theorem Q5_p_5_4 : (Q5 p q 5 4 b c).peekB 0 ((4 : Nat) : Int) = true := by kernel_rfl
theorem Q5_p_5_5 : (Q5 p q 5 5 b c).peekB 0 ((5 : Nat) : Int) = true := by kernel_rfl
theorem Q5_p_5_6 : (Q5 p q 5 6 b c).peekB 0 ((6 : Nat) : Int) = true := by kernel_rfl
theorem Q5_p_5_7 : (Q5 p q 5 7 b c).peekB 0 ((7 : Nat) : Int) = true := by kernel_rfl
theorem Q5_p_6_0 : (Q5 p q 6 0 b c).peekB 0 ((0 : Nat) : Int) = true := by kernel_rfl
theorem Q5_p_6_1 : (Q5 p q 6 1 b c).peekB 0 ((1 : Nat) : Int) = true := by kernel_rfl
theorem Q5_p_6_2 : (Q5 p q 6 2 b c).peekB 0 ((2 : Nat) : Int) = true := by kernel_rfl
theorem Q5_p_6_3 : (Q5 p q 6 3 b c).peekB 0 ((3 : Nat) : Int) = true := by kernel_rfl
theorem Q5_p_6_4 : (Q5 p q 6 4 b c).peekB 0 ((4 : Nat) : Int) = true := by kernel_rfl
theorem Q5_p_6_5 : (Q5 p q 6 5 b c).peekB 0 ((5 : Nat) : Int) = true := by kernel_rfl
theorem Q5_p_6_6 : (Q5 p q 6 6 b c).peekB 0 ((6 : Nat) : Int) = true := by kernel_rfl
theorem Q5_p_6_7 : (Q5 p q 6 7 b c).peekB 0 ((7 : Nat) : Int) = true := by kernel_rfl
theorem Q5_p_7_0 : (Q5 p q 7 0 b c).peekB 0 ((0 : Nat) : Int) = true := by kernel_rfl
theorem Q5_p_7_1 : (Q5 p q 7 1 b c).peekB 0 ((1 : Nat) : Int) = true := by kernel_rfl
theorem Q5_p_7_2 : (Q5 p q 7 2 b c).peekB 0 ((2 : Nat) : Int) = true := by kernel_rfl
theorem Q5_p_7_3 : (Q5 p q 7 3 b c).peekB 0 ((3 : Nat) : Int) = true := by kernel_rfl
theorem Q5_p_7_4 : (Q5 p q 7 4 b c).peekB 0 ((4 : Nat) : Int) = true := by kernel_rfl
theorem Q5_p_7_5 : (Q5 p q 7 5 b c).peekB 0 ((5 : Nat) : Int) = true := by kernel_rfl
theorem Q5_p_7_6 : (Q5 p q 7 6 b c).peekB 0 ((6 : Nat) : Int) = true := by kernel_rfl
theorem Q5_p_7_7 : (Q5 p q 7 7 b c).peekB 0 ((7 : Nat) : Int) = true := by kernel_rfl
theorem Q5_p (hi : i < 8) (hj : j < 8) : (Q5 p q i j b c).peekB 0 (j : Int) = true := by
  have h8 : i = 0 ∨ i = 1 ∨ i = 2 ∨ i = 3 ∨ i = 4 ∨ i = 5 ∨ i = 6 ∨ i = 7 := by omega
  have h9 : j = 0 ∨ j = 1 ∨ j = 2 ∨ j = 3 ∨ j = 4 ∨ j = 5 ∨ j = 6 ∨ j = 7 := by omega
  rcases h8 with rfl | rfl | rfl | rfl | rfl | rfl | rfl | rfl <;> rcases h9 with rfl | rfl | rfl | rfl | rfl | rfl | rfl | rfl
  · exact Q5_p_0_0 ..
  · exact Q5_p_0_1 ..
  · exact Q5_p_0_2 ..
  · exact Q5_p_0_3 ..
  · exact Q5_p_0_4 ..
  · exact Q5_p_0_5 ..
  · exact Q5_p_0_6 ..
  · exact Q5_p_0_7 ..
  · exact Q5_p_1_0 ..
  · exact Q5_p_1_1 ..
  · exact Q5_p_1_2 ..
  · exact Q5_p_1_3 ..
  · exact Q5_p_1_4 ..
  · exact Q5_p_1_5 ..
  · exact Q5_p_1_6 ..
  · exact Q5_p_1_7 ..
  · exact Q5_p_2_0 ..
  · exact Q5_p_2_1 ..
  · exact Q5_p_2_2 ..
  · exact Q5_p_2_3 ..
  · exact Q5_p_2_4 ..
  · exact Q5_p_2_5 ..
  · exact Q5_p_2_6 ..
  · exact Q5_p_2_7 ..
  · exact Q5_p_3_0 ..
  · exact Q5_p_3_1 ..
  · exact Q5_p_3_2 ..
  · exact Q5_p_3_3 ..
  · exact Q5_p_3_4 ..
  · exact Q5_p_3_5 ..
  · exact Q5_p_3_6 ..
  · exact Q5_p_3_7 ..
  · exact Q5_p_4_0 ..
  · exact Q5_p_4_1 ..
  · exact Q5_p_4_2 ..
  · exact Q5_p_4_3 ..
  · exact Q5_p_4_4 ..
  · exact Q5_p_4_5 ..
  · exact Q5_p_4_6 ..
  · exact Q5_p_4_7 ..
  · exact Q5_p_5_0 ..
  · exact Q5_p_5_1 ..
  · exact Q5_p_5_2 ..
  · exact Q5_p_5_3 ..
  · exact Q5_p_5_4 ..
  · exact Q5_p_5_5 ..
  · exact Q5_p_5_6 ..
  · exact Q5_p_5_7 ..
  · exact Q5_p_6_0 ..
  · exact Q5_p_6_1 ..
  · exact Q5_p_6_2 ..
  · exact Q5_p_6_3 ..
  · exact Q5_p_6_4 ..
  · exact Q5_p_6_5 ..
  · exact Q5_p_6_6 ..
  · exact Q5_p_6_7 ..
  · exact Q5_p_7_0 ..
  · exact Q5_p_7_1 ..
  · exact Q5_p_7_2 ..
  · exact Q5_p_7_3 ..
  · exact Q5_p_7_4 ..
  · exact Q5_p_7_5 ..
  · exact Q5_p_7_6 ..
  · exact Q5_p_7_7 ..
theorem Q5_t_0_0 : (Q5 p q 0 0 b c).peekL 0 ((0 : Nat) : Int) = BB c := by kernel_rfl
theorem Q5_t_0_1 : (Q5 p q 0 1 b c).peekL 0 ((1 : Nat) : Int) = BB c := by kernel_rfl
theorem Q5_t_0_2 : (Q5 p q 0 2 b c).peekL 0 ((2 : Nat) : Int) = BB c := by kernel_rfl
theorem Q5_t_0_3 : (Q5 p q 0 3 b c).peekL 0 ((3 : Nat) : Int) = BB c := by kernel_rfl
theorem Q5_t_0_4 : (Q5 p q 0 4 b c).peekL 0 ((4 : Nat) : Int) = BB c := by kernel_rfl
theorem Q5_t_0_5 : (Q5 p q 0 5 b c).peekL 0 ((5 : Nat) : Int) = BB c := by kernel_rfl
theorem Q5_t_0_6 : (Q5 p q 0 6 b c).peekL 0 ((6 : Nat) : Int) = BB c := by kernel_rfl
theorem Q5_t_0_7 : (Q5 p q 0 7 b c).peekL 0 ((7 : Nat) : Int) = BB c := by kernel_rfl
theorem Q5_t_1_0 : (Q5 p q 1 0 b c).peekL 0 ((0 : Nat) : Int) = BB c := by kernel_rfl
theorem Q5_t_1_1 : (Q5 p q 1 1 b c).peekL 0 ((1 : Nat) : Int) = BB c := by kernel_rfl
theorem Q5_t_1_2 : (Q5 p q 1 2 b c).peekL 0 ((2 : Nat) : Int) = BB c := by kernel_rfl
theorem Q5_t_1_3 : (Q5 p q 1 3 b c).peekL 0 ((3 : Nat) : Int) = BB c := by kernel_rfl
theorem Q5_t_1_4 : (Q5 p q 1 4 b c).peekL 0 ((4 : Nat) : Int) = BB c := by kernel_rfl
theorem Q5_t_1_5 : (Q5 p q 1 5 b c).peekL 0 ((5 : Nat) : Int) = BB c := by kernel_rfl
theorem Q5_t_1_6 : (Q5 p q 1 6 b c).peekL 0 ((6 : Nat) : Int) = BB c := by kernel_rfl
theorem Q5_t_1_7 : (Q5 p q 1 7 b c).peekL 0 ((7 : Nat) : Int) = BB c := by kernel_rfl
theorem Q5_t_2_0 : (Q5 p q 2 0 b c).peekL 0 ((0 : Nat) : Int) = BB c := by kernel_rfl
theorem Q5_t_2_1 : (Q5 p q 2 1 b c).peekL 0 ((1 : Nat) : Int) = BB c := by kernel_rfl
theorem Q5_t_2_2 : (Q5 p q 2 2 b c).peekL 0 ((2 : Nat) : Int) = BB c := by kernel_rfl
theorem Q5_t_2_3 : (Q5 p q 2 3 b c).peekL 0 ((3 : Nat) : Int) = BB c := by kernel_rfl
theorem Q5_t_2_4 : (Q5 p q 2 4 b c).peekL 0 ((4 : Nat) : Int) = BB c := by kernel_rfl
theorem Q5_t_2_5 : (Q5 p q 2 5 b c).peekL 0 ((5 : Nat) : Int) = BB c := by kernel_rfl
theorem Q5_t_2_6 : (Q5 p q 2 6 b c).peekL 0 ((6 : Nat) : Int) = BB c := by kernel_rfl
theorem Q5_t_2_7 : (Q5 p q 2 7 b c).peekL 0 ((7 : Nat) : Int) = BB c := by kernel_rfl
theorem Q5_t_3_0 : (Q5 p q 3 0 b c).peekL 0 ((0 : Nat) : Int) = BB c := by kernel_rfl
theorem Q5_t_3_1 : (Q5 p q 3 1 b c).peekL 0 ((1 : Nat) : Int) = BB c := by kernel_rfl
theorem Q5_t_3_2 : (Q5 p q 3 2 b c).peekL 0 ((2 : Nat) : Int) = BB c := by kernel_rfl
theorem Q5_t_3_3 : (Q5 p q 3 3 b c).peekL 0 ((3 : Nat) : Int) = BB c := by kernel_rfl
theorem Q5_t_3_4 : (Q5 p q 3 4 b c).peekL 0 ((4 : Nat) : Int) = BB c := by kernel_rfl
theorem Q5_t_3_5 : (Q5 p q 3 5 b c).peekL 0 ((5 : Nat) : Int) = BB c := by kernel_rfl
theorem Q5_t_3_6 : (Q5 p q 3 6 b c).peekL 0 ((6 : Nat) : Int) = BB c := by kernel_rfl
theorem Q5_t_3_7 : (Q5 p q 3 7 b c).peekL 0 ((7 : Nat) : Int) = BB c := by kernel_rfl
theorem Q5_t_4_0 : (Q5 p q 4 0 b c).peekL 0 ((0 : Nat) : Int) = BB c := by kernel_rfl
theorem Q5_t_4_1 : (Q5 p q 4 1 b c).peekL 0 ((1 : Nat) : Int) = BB c := by kernel_rfl
theorem Q5_t_4_2 : (Q5 p q 4 2 b c).peekL 0 ((2 : Nat) : Int) = BB c := by kernel_rfl
theorem Q5_t_4_3 : (Q5 p q 4 3 b c).peekL 0 ((3 : Nat) : Int) = BB c := by kernel_rfl
theorem Q5_t_4_4 : (Q5 p q 4 4 b c).peekL 0 ((4 : Nat) : Int) = BB c := by kernel_rfl
theorem Q5_t_4_5 : (Q5 p q 4 5 b c).peekL 0 ((5 : Nat) : Int) = BB c := by kernel_rfl
theorem Q5_t_4_6 : (Q5 p q 4 6 b c).peekL 0 ((6 : Nat) : Int) = BB c := by kernel_rfl
theorem Q5_t_4_7 : (Q5 p q 4 7 b c).peekL 0 ((7 : Nat) : Int) = BB c := by kernel_rfl
theorem Q5_t_5_0 : (Q5 p q 5 0 b c).peekL 0 ((0 : Nat) : Int) = BB c := by kernel_rfl
theorem Q5_t_5_1 : (Q5 p q 5 1 b c).peekL 0 ((1 : Nat) : Int) = BB c := by kernel_rfl
theorem Q5_t_5_2 : (Q5 p q 5 2 b c).peekL 0 ((2 : Nat) : Int) = BB c := by kernel_rfl
theorem Q5_t_5_3 : (Q5 p q 5 3 b c).peekL 0 ((3 : Nat) : Int) = BB c := by kernel_rfl
theorem Q5_t_5_4 : (Q5 p q 5 4 b c).peekL 0 ((4 : Nat) : Int) = BB c := by kernel_rfl
theorem Q5_t_5_5 : (Q5 p q 5 5 b c).peekL 0 ((5 : Nat) : Int) = BB c := by kernel_rfl
theorem Q5_t_5_6 : (Q5 p q 5 6 b c).peekL 0 ((6 : Nat) : Int) = BB c := by kernel_rfl
theorem Q5_t_5_7 : (Q5 p q 5 7 b c).peekL 0 ((7 : Nat) : Int) = BB c := by kernel_rfl
theorem Q5_t_6_0 : (Q5 p q 6 0 b c).peekL 0 ((0 : Nat) : Int) = BB c := by kernel_rfl
theorem Q5_t_6_1 : (Q5 p q 6 1 b c).peekL 0 ((1 : Nat) : Int) = BB c := by kernel_rfl
theorem Q5_t_6_2 : (Q5 p q 6 2 b c).peekL 0 ((2 : Nat) : Int) = BB c := by kernel_rfl
theorem Q5_t_6_3 : (Q5 p q 6 3 b c).peekL 0 ((3 : Nat) : Int) = BB c := by kernel_rfl
theorem Q5_t_6_4 : (Q5 p q 6 4 b c).peekL 0 ((4 : Nat) : Int) = BB c := by kernel_rfl
theorem Q5_t_6_5 : (Q5 p q 6 5 b c).peekL 0 ((5 : Nat) : Int) = BB c := by kernel_rfl
theorem Q5_t_6_6 : (Q5 p q 6 6 b c).peekL 0 ((6 : Nat) : Int) = BB c := by kernel_rfl
theorem Q5_t_6_7 : (Q5 p q 6 7 b c).peekL 0 ((7 : Nat) : Int) = BB c := by kernel_rfl
theorem Q5_t_7_0 : (Q5 p q 7 0 b c).peekL 0 ((0 : Nat) : Int) = BB c := by kernel_rfl
theorem Q5_t_7_1 : (Q5 p q 7 1 b c).peekL 0 ((1 : Nat) : Int) = BB c := by kernel_rfl
theorem Q5_t_7_2 : (Q5 p q 7 2 b c).peekL 0 ((2 : Nat) : Int) = BB c := by kernel_rfl
theorem Q5_t_7_3 : (Q5 p q 7 3 b c).peekL 0 ((3 : Nat) : Int) = BB c := by kernel_rfl
theorem Q5_t_7_4 : (Q5 p q 7 4 b c).peekL 0 ((4 : Nat) : Int) = BB c := by kernel_rfl
theorem Q5_t_7_5 : (Q5 p q 7 5 b c).peekL 0 ((5 : Nat) : Int) = BB c := by kernel_rfl
theorem Q5_t_7_6 : (Q5 p q 7 6 b c).peekL 0 ((6 : Nat) : Int) = BB c := by kernel_rfl
theorem Q5_t_7_7 : (Q5 p q 7 7 b c).peekL 0 ((7 : Nat) : Int) = BB c := by kernel_rfl
theorem Q5_t (hi : i < 8) (hj : j < 8) : (Q5 p q i j b c).peekL 0 (j : Int) = BB c := by
  have h8 : i = 0 ∨ i = 1 ∨ i = 2 ∨ i = 3 ∨ i = 4 ∨ i = 5 ∨ i = 6 ∨ i = 7 := by omega
  have h9 : j = 0 ∨ j = 1 ∨ j = 2 ∨ j = 3 ∨ j = 4 ∨ j = 5 ∨ j = 6 ∨ j = 7 := by omega
  rcases h8 with rfl | rfl | rfl | rfl | rfl | rfl | rfl | rfl <;> rcases h9 with rfl | rfl | rfl | rfl | rfl | rfl | rfl | rfl
  · exact Q5_t_0_0 ..
  · exact Q5_t_0_1 ..
  · exact Q5_t_0_2 ..
  · exact Q5_t_0_3 ..
  · exact Q5_t_0_4 ..
  · exact Q5_t_0_5 ..
  · exact Q5_t_0_6 ..
  · exact Q5_t_0_7 ..
  · exact Q5_t_1_0 ..
  · exact Q5_t_1_1 ..
  · exact Q5_t_1_2 ..
  · exact Q5_t_1_3 ..
  · exact Q5_t_1_4 ..
  · exact Q5_t_1_5 ..
  · exact Q5_t_1_6 ..
  · exact Q5_t_1_7 ..
  · exact Q5_t_2_0 ..
  · exact Q5_t_2_1 ..
  · exact Q5_t_2_2 ..
  · exact Q5_t_2_3 ..
  · exact Q5_t_2_4 ..
  · exact Q5_t_2_5 ..
  · exact Q5_t_2_6 ..
  · exact Q5_t_2_7 ..
  · exact Q5_t_3_0 ..
  · exact Q5_t_3_1 ..
  · exact Q5_t_3_2 ..
  · exact Q5_t_3_3 ..
  · exact Q5_t_3_4 ..
  · exact Q5_t_3_5 ..
  · exact Q5_t_3_6 ..
  · exact Q5_t_3_7 ..
  · exact Q5_t_4_0 ..
  · exact Q5_t_4_1 ..
  · exact Q5_t_4_2 ..
  · exact Q5_t_4_3 ..
  · exact Q5_t_4_4 ..
  · exact Q5_t_4_5 ..
  · exact Q5_t_4_6 ..
  · exact Q5_t_4_7 ..
  · exact Q5_t_5_0 ..
  · exact Q5_t_5_1 ..
  · exact Q5_t_5_2 ..
  · exact Q5_t_5_3 ..
  · exact Q5_t_5_4 ..
  · exact Q5_t_5_5 ..
  · exact Q5_t_5_6 ..
  · exact Q5_t_5_7 ..
  · exact Q5_t_6_0 ..
  · exact Q5_t_6_1 ..
  · exact Q5_t_6_2 ..
  · exact Q5_t_6_3 ..
  · exact Q5_t_6_4 ..
  · exact Q5_t_6_5 ..
  · exact Q5_t_6_6 ..
  · exact Q5_t_6_7 ..
  · exact Q5_t_7_0 ..
  · exact Q5_t_7_1 ..
  · exact Q5_t_7_2 ..
  · exact Q5_t_7_3 ..
  · exact Q5_t_7_4 ..
  · exact Q5_t_7_5 ..
  · exact Q5_t_7_6 ..
  · exact Q5_t_7_7 ..
theorem Q5_n_0_0 : (Q5 p q 0 0 b c).loose.length = 2 := by kernel_rfl
theorem Q5_n_0_1 : (Q5 p q 0 1 b c).loose.length = 2 := by kernel_rfl
theorem Q5_n_0_2 : (Q5 p q 0 2 b c).loose.length = 2 := by kernel_rfl
theorem Q5_n_0_3 : (Q5 p q 0 3 b c).loose.length = 2 := by kernel_rfl
theorem Q5_n_0_4 : (Q5 p q 0 4 b c).loose.length = 2 := by kernel_rfl
theorem Q5_n_0_5 : (Q5 p q 0 5 b c).loose.length = 2 := by kernel_rfl
theorem Q5_n_0_6 : (Q5 p q 0 6 b c).loose.length = 2 := by kernel_rfl
theorem Q5_n_0_7 : (Q5 p q 0 7 b c).loose.length = 2 := by kernel_rfl
theorem Q5_n_1_0 : (Q5 p q 1 0 b c).loose.length = 2 := by kernel_rfl
theorem Q5_n_1_1 : (Q5 p q 1 1 b c).loose.length = 2 := by kernel_rfl
theorem Q5_n_1_2 : (Q5 p q 1 2 b c).loose.length = 2 := by kernel_rfl
theorem Q5_n_1_3 : (Q5 p q 1 3 b c).loose.length = 2 := by kernel_rfl
theorem Q5_n_1_4 : (Q5 p q 1 4 b c).loose.length = 2 := by kernel_rfl
theorem Q5_n_1_5 : (Q5 p q 1 5 b c).loose.length = 2 := by kernel_rfl
theorem Q5_n_1_6 : (Q5 p q 1 6 b c).loose.length = 2 := by kernel_rfl
theorem Q5_n_1_7 : (Q5 p q 1 7 b c).loose.length = 2 := by kernel_rfl
theorem Q5_n_2_0 : (Q5 p q 2 0 b c).loose.length = 2 := by kernel_rfl
theorem Q5_n_2_1 : (Q5 p q 2 1 b c).loose.length = 2 := by kernel_rfl
theorem Q5_n_2_2 : (Q5 p q 2 2 b c).loose.length = 2 := by kernel_rfl
theorem Q5_n_2_3 : (Q5 p q 2 3 b c).loose.length = 2 := by kernel_rfl
theorem Q5_n_2_4 : (Q5 p q 2 4 b c).loose.length = 2 := by kernel_rfl
theorem Q5_n_2_5 : (Q5 p q 2 5 b c).loose.length = 2 := by kernel_rfl
theorem Q5_n_2_6 : (Q5 p q 2 6 b c).loose.length = 2 := by kernel_rfl
theorem Q5_n_2_7 : (Q5 p q 2 7 b c).loose.length = 2 := by kernel_rfl
theorem Q5_n_3_0 : (Q5 p q 3 0 b c).loose.length = 2 := by kernel_rfl
theorem Q5_n_3_1 : (Q5 p q 3 1 b c).loose.length = 2 := by kernel_rfl
theorem Q5_n_3_2 : (Q5 p q 3 2 b c).loose.length = 2 := by kernel_rfl
theorem Q5_n_3_3 : (Q5 p q 3 3 b c).loose.length = 2 := by kernel_rfl
theorem Q5_n_3_4 : (Q5 p q 3 4 b c).loose.length = 2 := by kernel_rfl
theorem Q5_n_3_5 : (Q5 p q 3 5 b c).loose.length = 2 := by kernel_rfl
theorem Q5_n_3_6 : (Q5 p q 3 6 b c).loose.length = 2 := by kernel_rfl
theorem Q5_n_3_7 : (Q5 p q 3 7 b c).loose.length = 2 := by kernel_rfl
theorem Q5_n_4_0 : (Q5 p q 4 0 b c).loose.length = 2 := by kernel_rfl
theorem Q5_n_4_1 : (Q5 p q 4 1 b c).loose.length = 2 := by kernel_rfl
theorem Q5_n_4_2 : (Q5 p q 4 2 b c).loose.length = 2 := by kernel_rfl
theorem Q5_n_4_3 : (Q5 p q 4 3 b c).loose.length = 2 := by kernel_rfl
theorem Q5_n_4_4 : (Q5 p q 4 4 b c).loose.length = 2 := by kernel_rfl
theorem Q5_n_4_5 : (Q5 p q 4 5 b c).loose.length = 2 := by kernel_rfl
theorem Q5_n_4_6 : (Q5 p q 4 6 b c).loose.length = 2 := by kernel_rfl
theorem Q5_n_4_7 : (Q5 p q 4 7 b c).loose.length = 2 := by kernel_rfl
theorem Q5_n_5_0 : (Q5 p q 5 0 b c).loose.length = 2 := by kernel_rfl
theorem Q5_n_5_1 : (Q5 p q 5 1 b c).loose.length = 2 := by kernel_rfl
theorem Q5_n_5_2 : (Q5 p q 5 2 b c).loose.length = 2 := by kernel_rfl
theorem Q5_n_5_3 : (Q5 p q 5 3 b c).loose.length = 2 := by kernel_rfl
theorem Q5_n_5_4 : (Q5 p q 5 4 b c).loose.length = 2 := by kernel_rfl
theorem Q5_n_5_5 : (Q5 p q 5 5 b c).loose.length = 2 := by kernel_rfl
theorem Q5_n_5_6 : (Q5 p q 5 6 b c).loose.length = 2 := by kernel_rfl
theorem Q5_n_5_7 : (Q5 p q 5 7 b c).loose.length = 2 := by kernel_rfl
theorem Q5_n_6_0 : (Q5 p q 6 0 b c).loose.length = 2 := by kernel_rfl
theorem Q5_n_6_1 : (Q5 p q 6 1 b c).loose.length = 2 := by kernel_rfl
theorem Q5_n_6_2 : (Q5 p q 6 2 b c).loose.length = 2 := by kernel_rfl
theorem Q5_n_6_3 : (Q5 p q 6 3 b c).loose.length = 2 := by kernel_rfl
theorem Q5_n_6_4 : (Q5 p q 6 4 b c).loose.length = 2 := by kernel_rfl
theorem Q5_n_6_5 : (Q5 p q 6 5 b c).loose.length = 2 := by kernel_rfl
theorem Q5_n_6_6 : (Q5 p q 6 6 b c).loose.length = 2 := by kernel_rfl
theorem Q5_n_6_7 : (Q5 p q 6 7 b c).loose.length = 2 := by kernel_rfl
theorem Q5_n_7_0 : (Q5 p q 7 0 b c).loose.length = 2 := by kernel_rfl
theorem Q5_n_7_1 : (Q5 p q 7 1 b c).loose.length = 2 := by kernel_rfl
theorem Q5_n_7_2 : (Q5 p q 7 2 b c).loose.length = 2 := by kernel_rfl
theorem Q5_n_7_3 : (Q5 p q 7 3 b c).loose.length = 2 := by kernel_rfl
theorem Q5_n_7_4 : (Q5 p q 7 4 b c).loose.length = 2 := by kernel_rfl
theorem Q5_n_7_5 : (Q5 p q 7 5 b c).loose.length = 2 := by kernel_rfl
theorem Q5_n_7_6 : (Q5 p q 7 6 b c).loose.length = 2 := by kernel_rfl
theorem Q5_n_7_7 : (Q5 p q 7 7 b c).loose.length = 2 := by kernel_rfl
theorem Q5_n (hi : i < 8) (hj : j < 8) : (Q5 p q i j b c).loose.length = 2 := by
  have h8 : i = 0 ∨ i = 1 ∨ i = 2 ∨ i = 3 ∨ i = 4 ∨ i = 5 ∨ i = 6 ∨ i = 7 := by omega
  have h9 : j = 0 ∨ j = 1 ∨ j = 2 ∨ j = 3 ∨ j = 4 ∨ j = 5 ∨ j = 6 ∨ j = 7 := by omega
  rcases h8 with rfl | rfl | rfl | rfl | rfl | rfl | rfl | rfl <;> rcases h9 with rfl | rfl | rfl | rfl | rfl | rfl | rfl | rfl
  · exact Q5_n_0_0 ..
  · exact Q5_n_0_1 ..
  · exact Q5_n_0_2 ..
  · exact Q5_n_0_3 ..
  · exact Q5_n_0_4 ..
  · exact Q5_n_0_5 ..
  · exact Q5_n_0_6 ..
  · exact Q5_n_0_7 ..
  · exact Q5_n_1_0 ..
  · exact Q5_n_1_1 ..
  · exact Q5_n_1_2 ..
  · exact Q5_n_1_3 ..
  · exact Q5_n_1_4 ..
  · exact Q5_n_1_5 ..
  · exact Q5_n_1_6 ..
  · exact Q5_n_1_7 ..
  · exact Q5_n_2_0 ..
  · exact Q5_n_2_1 ..
  · exact Q5_n_2_2 ..
  · exact Q5_n_2_3 ..
  · exact Q5_n_2_4 ..
  · exact Q5_n_2_5 ..
  · exact Q5_n_2_6 ..
  · exact Q5_n_2_7 ..
  · exact Q5_n_3_0 ..
  · exact Q5_n_3_1 ..
  · exact Q5_n_3_2 ..
  · exact Q5_n_3_3 ..
  · exact Q5_n_3_4 ..
  · exact Q5_n_3_5 ..
  · exact Q5_n_3_6 ..
  · exact Q5_n_3_7 ..
  · exact Q5_n_4_0 ..
  · exact Q5_n_4_1 ..
  · exact Q5_n_4_2 ..
  · exact Q5_n_4_3 ..
  · exact Q5_n_4_4 ..
  · exact Q5_n_4_5 ..
  · exact Q5_n_4_6 ..
  · exact Q5_n_4_7 ..
  · exact Q5_n_5_0 ..
  · exact Q5_n_5_1 ..
  · exact Q5_n_5_2 ..
  · exact Q5_n_5_3 ..
  · exact Q5_n_5_4 ..
  · exact Q5_n_5_5 ..
  · exact Q5_n_5_6 ..
  · exact Q5_n_5_7 ..
  · exact Q5_n_6_0 ..
  · exact Q5_n_6_1 ..
  · exact Q5_n_6_2 ..
  · exact Q5_n_6_3 ..
  · exact Q5_n_6_4 ..
  · exact Q5_n_6_5 ..
  · exact Q5_n_6_6 ..
  · exact Q5_n_6_7 ..
  · exact Q5_n_7_0 ..
  · exact Q5_n_7_1 ..
  · exact Q5_n_7_2 ..
  · exact Q5_n_7_3 ..
  · exact Q5_n_7_4 ..
  · exact Q5_n_7_5 ..
  · exact Q5_n_7_6 ..
  · exact Q5_n_7_7 ..
theorem Q5_s_0_0 : (Q5 p q 0 0 b c).steps = 3 := by kernel_rfl
theorem Q5_s_0_1 : (Q5 p q 0 1 b c).steps = 3 := by kernel_rfl
theorem Q5_s_0_2 : (Q5 p q 0 2 b c).steps = 3 := by kernel_rfl
theorem Q5_s_0_3 : (Q5 p q 0 3 b c).steps = 3 := by kernel_rfl
theorem Q5_s_0_4 : (Q5 p q 0 4 b c).steps = 3 := by kernel_rfl
theorem Q5_s_0_5 : (Q5 p q 0 5 b c).steps = 3 := by kernel_rfl
theorem Q5_s_0_6 : (Q5 p q 0 6 b c).steps = 3 := by kernel_rfl
theorem Q5_s_0_7 : (Q5 p q 0 7 b c).steps = 3 := by kernel_rfl
theorem Q5_s_1_0 : (Q5 p q 1 0 b c).steps = 3 := by kernel_rfl
theorem Q5_s_1_1 : (Q5 p q 1 1 b c).steps = 3 := by kernel_rfl
theorem Q5_s_1_2 : (Q5 p q 1 2 b c).steps = 3 := by kernel_rfl
theorem Q5_s_1_3 : (Q5 p q 1 3 b c).steps = 3 := by kernel_rfl
theorem Q5_s_1_4 : (Q5 p q 1 4 b c).steps = 3 := by kernel_rfl
theorem Q5_s_1_5 : (Q5 p q 1 5 b c).steps = 3 := by kernel_rfl
theorem Q5_s_1_6 : (Q5 p q 1 6 b c).steps = 3 := by kernel_rfl
theorem Q5_s_1_7 : (Q5 p q 1 7 b c).steps = 3 := by kernel_rfl
theorem Q5_s_2_0 : (Q5 p q 2 0 b c).steps = 3 := by kernel_rfl
theorem Q5_s_2_1 : (Q5 p q 2 1 b c).steps = 3 := by kernel_rfl
theorem Q5_s_2_2 : (Q5 p q 2 2 b c).steps = 3 := by kernel_rfl
theorem Q5_s_2_3 : (Q5 p q 2 3 b c).steps = 3 := by kernel_rfl
theorem Q5_s_2_4 : (Q5 p q 2 4 b c).steps = 3 := by kernel_rfl
theorem Q5_s_2_5 : (Q5 p q 2 5 b c).steps = 3 := by kernel_rfl
theorem Q5_s_2_6 : (Q5 p q 2 6 b c).steps = 3 := by kernel_rfl
theorem Q5_s_2_7 : (Q5 p q 2 7 b c).steps = 3 := by kernel_rfl
theorem Q5_s_3_0 : (Q5 p q 3 0 b c).steps = 3 := by kernel_rfl
theorem Q5_s_3_1 : (Q5 p q 3 1 b c).steps = 3 := by kernel_rfl
theorem Q5_s_3_2 : (Q5 p q 3 2 b c).steps = 3 := by kernel_rfl
theorem Q5_s_3_3 : (Q5 p q 3 3 b c).steps = 3 := by kernel_rfl
theorem Q5_s_3_4 : (Q5 p q 3 4 b c).steps = 3 := by kernel_rfl
theorem Q5_s_3_5 : (Q5 p q 3 5 b c).steps = 3 := by kernel_rfl
theorem Q5_s_3_6 : (Q5 p q 3 6 b c).steps = 3 := by kernel_rfl
theorem Q5_s_3_7 : (Q5 p q 3 7 b c).steps = 3 := by kernel_rfl
theorem Q5_s_4_0 : (Q5 p q 4 0 b c).steps = 3 := by kernel_rfl
theorem Q5_s_4_1 : (Q5 p q 4 1 b c).steps = 3 := by kernel_rfl
theorem Q5_s_4_2 : (Q5 p q 4 2 b c).steps = 3 := by kernel_rfl
theorem Q5_s_4_3 : (Q5 p q 4 3 b c).steps = 3 := by kernel_rfl
theorem Q5_s_4_4 : (Q5 p q 4 4 b c).steps = 3 := by kernel_rfl
theorem Q5_s_4_5 : (Q5 p q 4 5 b c).steps = 3 := by kernel_rfl
theorem Q5_s_4_6 : (Q5 p q 4 6 b c).steps = 3 := by kernel_rfl
theorem Q5_s_4_7 : (Q5 p q 4 7 b c).steps = 3 := by kernel_rfl
theorem Q5_s_5_0 : (Q5 p q 5 0 b c).steps = 3 := by kernel_rfl
theorem Q5_s_5_1 : (Q5 p q 5 1 b c).steps = 3 := by kernel_rfl
theorem Q5_s_5_2 : (Q5 p q 5 2 b c).steps = 3 := by kernel_rfl
theorem Q5_s_5_3 : (Q5 p q 5 3 b c).steps = 3 := by kernel_rfl
theorem Q5_s_5_4 : (Q5 p q 5 4 b c).steps = 3 := by kernel_rfl
theorem Q5_s_5_5 : (Q5 p q 5 5 b c).steps = 3 := by kernel_rfl
theorem Q5_s_5_6 : (Q5 p q 5 6 b c).steps = 3 := by kernel_rfl
theorem Q5_s_5_7 : (Q5 p q 5 7 b c).steps = 3 := by kernel_rfl
theorem Q5_s_6_0 : (Q5 p q 6 0 b c).steps = 3 := by kernel_rfl
theorem Q5_s_6_1 : (Q5 p q 6 1 b c).steps = 3 := by kernel_rfl
theorem Q5_s_6_2 : (Q5 p q 6 2 b c).steps = 3 := by kernel_rfl
theorem Q5_s_6_3 : (Q5 p q 6 3 b c).steps = 3 := by kernel_rfl
theorem Q5_s_6_4 : (Q5 p q 6 4 b c).steps = 3 := by kernel_rfl
theorem Q5_s_6_5 : (Q5 p q 6 5 b c).steps = 3 := by kernel_rfl
theorem Q5_s_6_6 : (Q5 p q 6 6 b c).steps = 3 := by kernel_rfl
theorem Q5_s_6_7 : (Q5 p q 6 7 b c).steps = 3 := by kernel_rfl
theorem Q5_s_7_0 : (Q5 p q 7 0 b c).steps = 3 := by kernel_rfl
theorem Q5_s_7_1 : (Q5 p q 7 1 b c).steps = 3 := by kernel_rfl
theorem Q5_s_7_2 : (Q5 p q 7 2 b c).steps = 3 := by kernel_rfl
theorem Q5_s_7_3 : (Q5 p q 7 3 b c).steps = 3 := by kernel_rfl
theorem Q5_s_7_4 : (Q5 p q 7 4 b c).steps = 3 := by kernel_rfl
theorem Q5_s_7_5 : (Q5 p q 7 5 b c).steps = 3 := by kernel_rfl
theorem Q5_s_7_6 : (Q5 p q 7 6 b c).steps = 3 := by kernel_rfl
theorem Q5_s_7_7 : (Q5 p q 7 7 b c).steps = 3 := by kernel_rfl
theorem Q5_s (hi : i < 8) (hj : j < 8) : (Q5 p q i j b c).steps = 3 := by
  have h8 : i = 0 ∨ i = 1 ∨ i = 2 ∨ i = 3 ∨ i = 4 ∨ i = 5 ∨ i = 6 ∨ i = 7 := by omega
  have h9 : j = 0 ∨ j = 1 ∨ j = 2 ∨ j = 3 ∨ j = 4 ∨ j = 5 ∨ j = 6 ∨ j = 7 := by omega
  rcases h8 with rfl | rfl | rfl | rfl | rfl | rfl | rfl | rfl <;> rcases h9 with rfl | rfl | rfl | rfl | rfl | rfl | rfl | rfl
  · exact Q5_s_0_0 ..
  · exact Q5_s_0_1 ..
  · exact Q5_s_0_2 ..
  · exact Q5_s_0_3 ..
  · exact Q5_s_0_4 ..
  · exact Q5_s_0_5 ..
  · exact Q5_s_0_6 ..
  · exact Q5_s_0_7 ..
  · exact Q5_s_1_0 ..
  · exact Q5_s_1_1 ..
  · exact Q5_s_1_2 ..
  · exact Q5_s_1_3 ..
  · exact Q5_s_1_4 ..
  · exact Q5_s_1_5 ..
  · exact Q5_s_1_6 ..
  · exact Q5_s_1_7 ..
  · exact Q5_s_2_0 ..
  · exact Q5_s_2_1 ..
  · exact Q5_s_2_2 ..
  · exact Q5_s_2_3 ..
  · exact Q5_s_2_4 ..
  · exact Q5_s_2_5 ..
  · exact Q5_s_2_6 ..
  · exact Q5_s_2_7 ..
  · exact Q5_s_3_0 ..
  · exact Q5_s_3_1 ..
  · exact Q5_s_3_2 ..
  · exact Q5_s_3_3 ..
  · exact Q5_s_3_4 ..
  · exact Q5_s_3_5 ..
  · exact Q5_s_3_6 ..
  · exact Q5_s_3_7 ..
  · exact Q5_s_4_0 ..
  · exact Q5_s_4_1 ..
  · exact Q5_s_4_2 ..
  · exact Q5_s_4_3 ..
  · exact Q5_s_4_4 ..
  · exact Q5_s_4_5 ..
  · exact Q5_s_4_6 ..
  · exact Q5_s_4_7 ..
  · exact Q5_s_5_0 ..
  · exact Q5_s_5_1 ..
  · exact Q5_s_5_2 ..
  · exact Q5_s_5_3 ..
  · exact Q5_s_5_4 ..
  · exact Q5_s_5_5 ..
  · exact Q5_s_5_6 ..
  · exact Q5_s_5_7 ..
  · exact Q5_s_6_0 ..
  · exact Q5_s_6_1 ..
  · exact Q5_s_6_2 ..
  · exact Q5_s_6_3 ..
  · exact Q5_s_6_4 ..
  · exact Q5_s_6_5 ..
  · exact Q5_s_6_6 ..
  · exact Q5_s_6_7 ..
  · exact Q5_s_7_0 ..
  · exact Q5_s_7_1 ..
  · exact Q5_s_7_2 ..
  · exact Q5_s_7_3 ..
  · exact Q5_s_7_4 ..
  · exact Q5_s_7_5 ..
  · exact Q5_s_7_6 ..
  · exact Q5_s_7_7 ..
theorem Q5_p2_0_0 : (Q5 p q 0 0 b c).peekB 0 ((0 : Nat) : Int) = true := by kernel_rfl
theorem Q5_p2_0_1 : (Q5 p q 0 1 b c).peekB 0 ((0 : Nat) : Int) = true := by kernel_rfl
theorem Q5_p2_0_2 : (Q5 p q 0 2 b c).peekB 0 ((0 : Nat) : Int) = true := by kernel_rfl
theorem Q5_p2_0_3 : (Q5 p q 0 3 b c).peekB 0 ((0 : Nat) : Int) = true := by kernel_rfl
theorem Q5_p2_0_4 : (Q5 p q 0 4 b c).peekB 0 ((0 : Nat) : Int) = true := by kernel_rfl
theorem Q5_p2_0_5 : (Q5 p q 0 5 b c).peekB 0 ((0 : Nat) : Int) = true := by kernel_rfl
theorem Q5_p2_0_6 : (Q5 p q 0 6 b c).peekB 0 ((0 : Nat) : Int) = true := by kernel_rfl
theorem Q5_p2_0_7 : (Q5 p q 0 7 b c).peekB 0 ((0 : Nat) : Int) = true := by kernel_rfl
theorem Q5_p2_1_0 : (Q5 p q 1 0 b c).peekB 0 ((1 : Nat) : Int) = true := by kernel_rfl
theorem Q5_p2_1_1 : (Q5 p q 1 1 b c).peekB 0 ((1 : Nat) : Int) = true := by kernel_rfl
theorem Q5_p2_1_2 : (Q5 p q 1 2 b c).peekB 0 ((1 : Nat) : Int) = true := by kernel_rfl
theorem Q5_p2_1_3 : (Q5 p q 1 3 b c).peekB 0 ((1 : Nat) : Int) = true := by kernel_rfl
theorem Q5_p2_1_4 : (Q5 p q 1 4 b c).peekB 0 ((1 : Nat) : Int) = true := by kernel_rfl
theorem Q5_p2_1_5 : (Q5 p q 1 5 b c).peekB 0 ((1 : Nat) : Int) = true := by kernel_rfl
theorem Q5_p2_1_6 : (Q5 p q 1 6 b c).peekB 0 ((1 : Nat) : Int) = true := by kernel_rfl
theorem Q5_p2_1_7 : (Q5 p q 1 7 b c).peekB 0 ((1 : Nat) : Int) = true := by kernel_rfl
theorem Q5_p2_2_0 : (Q5 p q 2 0 b c).peekB 0 ((2 : Nat) : Int) = true := by kernel_rfl
theorem Q5_p2_2_1 : (Q5 p q 2 1 b c).peekB 0 ((2 : Nat) : Int) = true := by kernel_rfl
theorem Q5_p2_2_2 : (Q5 p q 2 2 b c).peekB 0 ((2 : Nat) : Int) = true := by kernel_rfl
theorem Q5_p2_2_3 : (Q5 p q 2 3 b c).peekB 0 ((2 : Nat) : Int) = true := by kernel_rfl
theorem Q5_p2_2_4 : (Q5 p q 2 4 b c).peekB 0 ((2 : Nat) : Int) = true := by kernel_rfl
theorem Q5_p2_2_5 : (Q5 p q 2 5 b c).peekB 0 ((2 : Nat) : Int) = true := by kernel_rfl
theorem Q5_p2_2_6 : (Q5 p q 2 6 b c).peekB 0 ((2 : Nat) : Int) = true := by kernel_rfl
theorem Q5_p2_2_7 : (Q5 p q 2 7 b c).peekB 0 ((2 : Nat) : Int) = true := by kernel_rfl
theorem Q5_p2_3_0 : (Q5 p q 3 0 b c).peekB 0 ((3 : Nat) : Int) = true := by kernel_rfl
theorem Q5_p2_3_1 : (Q5 p q 3 1 b c).peekB 0 ((3 : Nat) : Int) = true := by kernel_rfl
theorem Q5_p2_3_2 : (Q5 p q 3 2 b c).peekB 0 ((3 : Nat) : Int) = true := by kernel_rfl
theorem Q5_p2_3_3 : (Q5 p q 3 3 b c).peekB 0 ((3 : Nat) : Int) = true := by kernel_rfl
theorem Q5_p2_3_4 : (Q5 p q 3 4 b c).peekB 0 ((3 : Nat) : Int) = true := by kernel_rfl
theorem Q5_p2_3_5 : (Q5 p q 3 5 b c).peekB 0 ((3 : Nat) : Int) = true := by kernel_rfl
theorem Q5_p2_3_6 : (Q5 p q 3 6 b c).peekB 0 ((3 : Nat) : Int) = true := by kernel_rfl
theorem Q5_p2_3_7 : (Q5 p q 3 7 b c).peekB 0 ((3 : Nat) : Int) = true := by kernel_rfl
theorem Q5_p2_4_0 : (Q5 p q 4 0 b c).peekB 0 ((4 : Nat) : Int) = true := by kernel_rfl
theorem Q5_p2_4_1 : (Q5 p q 4 1 b c).peekB 0 ((4 : Nat) : Int) = true := by kernel_rfl
theorem Q5_p2_4_2 : (Q5 p q 4 2 b c).peekB 0 ((4 : Nat) : Int) = true := by kernel_rfl
theorem Q5_p2_4_3 : (Q5 p q 4 3 b c).peekB 0 ((4 : Nat) : Int) = true := by kernel_rfl
theorem Q5_p2_4_4 : (Q5 p q 4 4 b c).peekB 0 ((4 : Nat) : Int) = true := by kernel_rfl
theorem Q5_p2_4_5 : (Q5 p q 4 5 b c).peekB 0 ((4 : Nat) : Int) = true := by kernel_rfl
theorem Q5_p2_4_6 : (Q5 p q 4 6 b c).peekB 0 ((4 : Nat) : Int) = true := by kernel_rfl
theorem Q5_p2_4_7 : (Q5 p q 4 7 b c).peekB 0 ((4 : Nat) : Int) = true := by kernel_rfl
theorem Q5_p2_5_0 : (Q5 p q 5 0 b c).peekB 0 ((5 : Nat) : Int) = true := by kernel_rfl
theorem Q5_p2_5_1 : (Q5 p q 5 1 b c).peekB 0 ((5 : Nat) : Int) = true := by kernel_rfl
theorem Q5_p2_5_2 : (Q5 p q 5 2 b c).peekB 0 ((5 : Nat) : Int) = true := by kernel_rfl
theorem Q5_p2_5_3 : (Q5 p q 5 3 b c).peekB 0 ((5 : Nat) : Int) = true := by kernel_rfl
theorem Q5_p2_5_4 : (Q5 p q 5 4 b c).peekB 0 ((5 : Nat) : Int) = true := by kernel_rfl
theorem Q5_p2_5_5 : (Q5 p q 5 5 b c).peekB 0 ((5 : Nat) : Int) = true := by kernel_rfl
theorem Q5_p2_5_6 : (Q5 p q 5 6 b c).peekB 0 ((5 : Nat) : Int) = true := by kernel_rfl
theorem Q5_p2_5_7 : (Q5 p q 5 7 b c).peekB 0 ((5 : Nat) : Int) = true := by kernel_rfl
theorem Q5_p2_6_0 : (Q5 p q 6 0 b c).peekB 0 ((6 : Nat) : Int) = true := by kernel_rfl
theorem Q5_p2_6_1 : (Q5 p q 6 1 b c).peekB 0 ((6 : Nat) : Int) = true := by kernel_rfl
theorem Q5_p2_6_2 : (Q5 p q 6 2 b c).peekB 0 ((6 : Nat) : Int) = true := by kernel_rfl
theorem Q5_p2_6_3 : (Q5 p q 6 3 b c).peekB 0 ((6 : Nat) : Int) = true := by kernel_rfl
theorem Q5_p2_6_4 : (Q5 p q 6 4 b c).peekB 0 ((6 : Nat) : Int) = true := by kernel_rfl
theorem Q5_p2_6_5 : (Q5 p q 6 5 b c).peekB 0 ((6 : Nat) : Int) = true := by kernel_rfl
theorem Q5_p2_6_6 : (Q5 p q 6 6 b c).peekB 0 ((6 : Nat) : Int) = true := by kernel_rfl
theorem Q5_p2_6_7 : (Q5 p q 6 7 b c).peekB 0 ((6 : Nat) : Int) = true := by kernel_rfl
theorem Q5_p2_7_0 : (Q5 p q 7 0 b c).peekB 0 ((7 : Nat) : Int) = true := by kernel_rfl
theorem Q5_p2_7_1 : (Q5 p q 7 1 b c).peekB 0 ((7 : Nat) : Int) = true := by kernel_rfl
theorem Q5_p2_7_2 : (Q5 p q 7 2 b c).peekB 0 ((7 : Nat) : Int) = true := by kernel_rfl
theorem Q5_p2_7_3 : (Q5 p q 7 3 b c).peekB 0 ((7 : Nat) : Int) = true := by kernel_rfl
theorem Q5_p2_7_4 : (Q5 p q 7 4 b c).peekB 0 ((7 : Nat) : Int) = true := by kernel_rfl
theorem Q5_p2_7_5 : (Q5 p q 7 5 b c).peekB 0 ((7 : Nat) : Int) = true := by kernel_rfl
theorem Q5_p2_7_6 : (Q5 p q 7 6 b c).peekB 0 ((7 : Nat) : Int) = true := by kernel_rfl
theorem Q5_p2_7_7 : (Q5 p q 7 7 b c).peekB 0 ((7 : Nat) : Int) = true := by kernel_rfl
theorem Q5_p2 (hi : i < 8) (hj : j < 8) : (Q5 p q i j b c).peekB 0 (i : Int) = true := by
  have h8 : i = 0 ∨ i = 1 ∨ i = 2 ∨ i = 3 ∨ i = 4 ∨ i = 5 ∨ i = 6 ∨ i = 7 := by omega
  have h9 : j = 0 ∨ j = 1 ∨ j = 2 ∨ j = 3 ∨ j = 4 ∨ j = 5 ∨ j = 6 ∨ j = 7 := by omega
  rcases h8 with rfl | rfl | rfl | rfl | rfl | rfl | rfl | rfl <;> rcases h9 with rfl | rfl | rfl | rfl | rfl | rfl | rfl | rfl
  · exact Q5_p2_0_0 ..
  · exact Q5_p2_0_1 ..
  · exact Q5_p2_0_2 ..
  · exact Q5_p2_0_3 ..
  · exact Q5_p2_0_4 ..
  · exact Q5_p2_0_5 ..
  · exact Q5_p2_0_6 ..
  · exact Q5_p2_0_7 ..
  · exact Q5_p2_1_0 ..
  · exact Q5_p2_1_1 ..
  · exact Q5_p2_1_2 ..
  · exact Q5_p2_1_3 ..
  · exact Q5_p2_1_4 ..
  · exact Q5_p2_1_5 ..
  · exact Q5_p2_1_6 ..
  · exact Q5_p2_1_7 ..
  · exact Q5_p2_2_0 ..
  · exact Q5_p2_2_1 ..
  · exact Q5_p2_2_2 ..
  · exact Q5_p2_2_3 ..
  · exact Q5_p2_2_4 ..
  · exact Q5_p2_2_5 ..
  · exact Q5_p2_2_6 ..
  · exact Q5_p2_2_7 ..
  · exact Q5_p2_3_0 ..
  · exact Q5_p2_3_1 ..
  · exact Q5_p2_3_2 ..
  · exact Q5_p2_3_3 ..
  · exact Q5_p2_3_4 ..
  · exact Q5_p2_3_5 ..
  · exact Q5_p2_3_6 ..
  · exact Q5_p2_3_7 ..
  · exact Q5_p2_4_0 ..
  · exact Q5_p2_4_1 ..
  · exact Q5_p2_4_2 ..
  · exact Q5_p2_4_3 ..
  · exact Q5_p2_4_4 ..
  · exact Q5_p2_4_5 ..
  · exact Q5_p2_4_6 ..
  · exact Q5_p2_4_7 ..
  · exact Q5_p2_5_0 ..
  · exact Q5_p2_5_1 ..
  · exact Q5_p2_5_2 ..
  · exact Q5_p2_5_3 ..
  · exact Q5_p2_5_4 ..
  · exact Q5_p2_5_5 ..
  · exact Q5_p2_5_6 ..
  · exact Q5_p2_5_7 ..
  · exact Q5_p2_6_0 ..
  · exact Q5_p2_6_1 ..
  · exact Q5_p2_6_2 ..
  · exact Q5_p2_6_3 ..
  · exact Q5_p2_6_4 ..
  · exact Q5_p2_6_5 ..
  · exact Q5_p2_6_6 ..
  · exact Q5_p2_6_7 ..
  · exact Q5_p2_7_0 ..
  · exact Q5_p2_7_1 ..
  · exact Q5_p2_7_2 ..
  · exact Q5_p2_7_3 ..
  · exact Q5_p2_7_4 ..
  · exact Q5_p2_7_5 ..
  · exact Q5_p2_7_6 ..
  · exact Q5_p2_7_7 ..
theorem Q5_t2_0_1 : (Q5 p q 0 1 b c).peekL 0 ((0 : Nat) : Int) = BB b := by kernel_rfl
theorem Q5_t2_0_2 : (Q5 p q 0 2 b c).peekL 0 ((0 : Nat) : Int) = BB b := by kernel_rfl
theorem Q5_t2_0_3 : (Q5 p q 0 3 b c).peekL 0 ((0 : Nat) : Int) = BB b := by kernel_rfl
theorem Q5_t2_0_4 : (Q5 p q 0 4 b c).peekL 0 ((0 : Nat) : Int) = BB b := by kernel_rfl
theorem Q5_t2_0_5 : (Q5 p q 0 5 b c).peekL 0 ((0 : Nat) : Int) = BB b := by kernel_rfl
theorem Q5_t2_0_6 : (Q5 p q 0 6 b c).peekL 0 ((0 : Nat) : Int) = BB b := by kernel_rfl
theorem Q5_t2_0_7 : (Q5 p q 0 7 b c).peekL 0 ((0 : Nat) : Int) = BB b := by kernel_rfl
theorem Q5_t2_1_0 : (Q5 p q 1 0 b c).peekL 0 ((1 : Nat) : Int) = BB b := by kernel_rfl
theorem Q5_t2_1_2 : (Q5 p q 1 2 b c).peekL 0 ((1 : Nat) : Int) = BB b := by kernel_rfl
theorem Q5_t2_1_3 : (Q5 p q 1 3 b c).peekL 0 ((1 : Nat) : Int) = BB b := by kernel_rfl
theorem Q5_t2_1_4 : (Q5 p q 1 4 b c).peekL 0 ((1 : Nat) : Int) = BB b := by kernel_rfl
theorem Q5_t2_1_5 : (Q5 p q 1 5 b c).peekL 0 ((1 : Nat) : Int) = BB b := by kernel_rfl
theorem Q5_t2_1_6 : (Q5 p q 1 6 b c).peekL 0 ((1 : Nat) : Int) = BB b := by kernel_rfl
theorem Q5_t2_1_7 : (Q5 p q 1 7 b c).peekL 0 ((1 : Nat) : Int) = BB b := by kernel_rfl
theorem Q5_t2_2_0 : (Q5 p q 2 0 b c).peekL 0 ((2 : Nat) : Int) = BB b := by kernel_rfl
theorem Q5_t2_2_1 : (Q5 p q 2 1 b c).peekL 0 ((2 : Nat) : Int) = BB b := by kernel_rfl
theorem Q5_t2_2_3 : (Q5 p q 2 3 b c).peekL 0 ((2 : Nat) : Int) = BB b := by kernel_rfl
theorem Q5_t2_2_4 : (Q5 p q 2 4 b c).peekL 0 ((2 : Nat) : Int) = BB b := by kernel_rfl
theorem Q5_t2_2_5 : (Q5 p q 2 5 b c).peekL 0 ((2 : Nat) : Int) = BB b := by kernel_rfl
theorem Q5_t2_2_6 : (Q5 p q 2 6 b c).peekL 0 ((2 : Nat) : Int) = BB b := by kernel_rfl
theorem Q5_t2_2_7 : (Q5 p q 2 7 b c).peekL 0 ((2 : Nat) : Int) = BB b := by kernel_rfl
theorem Q5_t2_3_0 : (Q5 p q 3 0 b c).peekL 0 ((3 : Nat) : Int) = BB b := by kernel_rfl
theorem Q5_t2_3_1 : (Q5 p q 3 1 b c).peekL 0 ((3 : Nat) : Int) = BB b := by kernel_rfl
theorem Q5_t2_3_2 : (Q5 p q 3 2 b c).peekL 0 ((3 : Nat) : Int) = BB b := by kernel_rfl
theorem Q5_t2_3_4 : (Q5 p q 3 4 b c).peekL 0 ((3 : Nat) : Int) = BB b := by kernel_rfl
theorem Q5_t2_3_5 : (Q5 p q 3 5 b c).peekL 0 ((3 : Nat) : Int) = BB b := by kernel_rfl
theorem Q5_t2_3_6 : (Q5 p q 3 6 b c).peekL 0 ((3 : Nat) : Int) = BB b := by kernel_rfl
theorem Q5_t2_3_7 : (Q5 p q 3 7 b c).peekL 0 ((3 : Nat) : Int) = BB b := by kernel_rfl
theorem Q5_t2_4_0 : (Q5 p q 4 0 b c).peekL 0 ((4 : Nat) : Int) = BB b := by kernel_rfl
theorem Q5_t2_4_1 : (Q5 p q 4 1 b c).peekL 0 ((4 : Nat) : Int) = BB b := by kernel_rfl
theorem Q5_t2_4_2 : (Q5 p q 4 2 b c).peekL 0 ((4 : Nat) : Int) = BB b := by kernel_rfl
theorem Q5_t2_4_3 : (Q5 p q 4 3 b c).peekL 0 ((4 : Nat) : Int) = BB b := by kernel_rfl
theorem Q5_t2_4_5 : (Q5 p q 4 5 b c).peekL 0 ((4 : Nat) : Int) = BB b := by kernel_rfl
theorem Q5_t2_4_6 : (Q5 p q 4 6 b c).peekL 0 ((4 : Nat) : Int) = BB b := by kernel_rfl
theorem Q5_t2_4_7 : (Q5 p q 4 7 b c).peekL 0 ((4 : Nat) : Int) = BB b := by kernel_rfl
theorem Q5_t2_5_0 : (Q5 p q 5 0 b c).peekL 0 ((5 : Nat) : Int) = BB b := by kernel_rfl
theorem Q5_t2_5_1 : (Q5 p q 5 1 b c).peekL 0 ((5 : Nat) : Int) = BB b := by kernel_rfl
theorem Q5_t2_5_2 : (Q5 p q 5 2 b c).peekL 0 ((5 : Nat) : Int) = BB b := by kernel_rfl
theorem Q5_t2_5_3 : (Q5 p q 5 3 b c).peekL 0 ((5 : Nat) : Int) = BB b := by kernel_rfl
theorem Q5_t2_5_4 : (Q5 p q 5 4 b c).peekL 0 ((5 : Nat) : Int) = BB b := by kernel_rfl
theorem Q5_t2_5_6 : (Q5 p q 5 6 b c).peekL 0 ((5 : Nat) : Int) = BB b := by kernel_rfl
theorem Q5_t2_5_7 : (Q5 p q 5 7 b c).peekL 0 ((5 : Nat) : Int) = BB b := by kernel_rfl
theorem Q5_t2_6_0 : (Q5 p q 6 0 b c).peekL 0 ((6 : Nat) : Int) = BB b := by kernel_rfl
theorem Q5_t2_6_1 : (Q5 p q 6 1 b c).peekL 0 ((6 : Nat) : Int) = BB b := by kernel_rfl
theorem Q5_t2_6_2 : (Q5 p q 6 2 b c).peekL 0 ((6 : Nat) : Int) = BB b := by kernel_rfl
theorem Q5_t2_6_3 : (Q5 p q 6 3 b c).peekL 0 ((6 : Nat) : Int) = BB b := by kernel_rfl
theorem Q5_t2_6_4 : (Q5 p q 6 4 b c).peekL 0 ((6 : Nat) : Int) = BB b := by kernel_rfl
theorem Q5_t2_6_5 : (Q5 p q 6 5 b c).peekL 0 ((6 : Nat) : Int) = BB b := by kernel_rfl
theorem Q5_t2_6_7 : (Q5 p q 6 7 b c).peekL 0 ((6 : Nat) : Int) = BB b := by kernel_rfl
theorem Q5_t2_7_0 : (Q5 p q 7 0 b c).peekL 0 ((7 : Nat) : Int) = BB b := by kernel_rfl
theorem Q5_t2_7_1 : (Q5 p q 7 1 b c).peekL 0 ((7 : Nat) : Int) = BB b := by kernel_rfl
theorem Q5_t2_7_2 : (Q5 p q 7 2 b c).peekL 0 ((7 : Nat) : Int) = BB b := by kernel_rfl
theorem Q5_t2_7_3 : (Q5 p q 7 3 b c).peekL 0 ((7 : Nat) : Int) = BB b := by kernel_rfl
theorem Q5_t2_7_4 : (Q5 p q 7 4 b c).peekL 0 ((7 : Nat) : Int) = BB b := by kernel_rfl
theorem Q5_t2_7_5 : (Q5 p q 7 5 b c).peekL 0 ((7 : Nat) : Int) = BB b := by kernel_rfl
theorem Q5_t2_7_6 : (Q5 p q 7 6 b c).peekL 0 ((7 : Nat) : Int) = BB b := by kernel_rfl
theorem Q5_t2 (hi : i < 8) (hj : j < 8) (hij : i ≠ j) : (Q5 p q i j b c).peekL 0 (i : Int) = BB b := by
  have h8 : i = 0 ∨ i = 1 ∨ i = 2 ∨ i = 3 ∨ i = 4 ∨ i = 5 ∨ i = 6 ∨ i = 7 := by omega
  have h9 : j = 0 ∨ j = 1 ∨ j = 2 ∨ j = 3 ∨ j = 4 ∨ j = 5 ∨ j = 6 ∨ j = 7 := by omega
  rcases h8 with rfl | rfl | rfl | rfl | rfl | rfl | rfl | rfl <;> rcases h9 with rfl | rfl | rfl | rfl | rfl | rfl | rfl | rfl
  · exact absurd rfl hij
  · exact Q5_t2_0_1 ..
  · exact Q5_t2_0_2 ..
  · exact Q5_t2_0_3 ..
  · exact Q5_t2_0_4 ..
  · exact Q5_t2_0_5 ..
  · exact Q5_t2_0_6 ..
  · exact Q5_t2_0_7 ..
  · exact Q5_t2_1_0 ..
  · exact absurd rfl hij
  · exact Q5_t2_1_2 ..
  · exact Q5_t2_1_3 ..
  · exact Q5_t2_1_4 ..
  · exact Q5_t2_1_5 ..
  · exact Q5_t2_1_6 ..
  · exact Q5_t2_1_7 ..
  · exact Q5_t2_2_0 ..
  · exact Q5_t2_2_1 ..
  · exact absurd rfl hij
  · exact Q5_t2_2_3 ..
  · exact Q5_t2_2_4 ..
  · exact Q5_t2_2_5 ..
  · exact Q5_t2_2_6 ..
  · exact Q5_t2_2_7 ..
  · exact Q5_t2_3_0 ..
  · exact Q5_t2_3_1 ..
  · exact Q5_t2_3_2 ..
  · exact absurd rfl hij
  · exact Q5_t2_3_4 ..
  · exact Q5_t2_3_5 ..
  · exact Q5_t2_3_6 ..
  · exact Q5_t2_3_7 ..
  · exact Q5_t2_4_0 ..
  · exact Q5_t2_4_1 ..
  · exact Q5_t2_4_2 ..
  · exact Q5_t2_4_3 ..
  · exact absurd rfl hij
  · exact Q5_t2_4_5 ..
  · exact Q5_t2_4_6 ..
  · exact Q5_t2_4_7 ..
  · exact Q5_t2_5_0 ..
  · exact Q5_t2_5_1 ..
  · exact Q5_t2_5_2 ..
  · exact Q5_t2_5_3 ..
  · exact Q5_t2_5_4 ..
  · exact absurd rfl hij
  · exact Q5_t2_5_6 ..
  · exact Q5_t2_5_7 ..
  · exact Q5_t2_6_0 ..
  · exact Q5_t2_6_1 ..
  · exact Q5_t2_6_2 ..
  · exact Q5_t2_6_3 ..
  · exact Q5_t2_6_4 ..
  · exact Q5_t2_6_5 ..
  · exact absurd rfl hij
  · exact Q5_t2_6_7 ..
  · exact Q5_t2_7_0 ..
  · exact Q5_t2_7_1 ..
  · exact Q5_t2_7_2 ..
  · exact Q5_t2_7_3 ..
  · exact Q5_t2_7_4 ..
  · exact Q5_t2_7_5 ..
  · exact Q5_t2_7_6 ..
  · exact absurd rfl hij
theorem Q5_w_0_0 : (Q5 p q 0 0 b c).writeE 0 ((0 : Nat) : Int) (BB b) = 0 := by kernel_rfl
theorem Q5_w_0_1 : (Q5 p q 0 1 b c).writeE 0 ((0 : Nat) : Int) (BB b) = 0 := by kernel_rfl
theorem Q5_w_0_2 : (Q5 p q 0 2 b c).writeE 0 ((0 : Nat) : Int) (BB b) = 0 := by kernel_rfl
theorem Q5_w_0_3 : (Q5 p q 0 3 b c).writeE 0 ((0 : Nat) : Int) (BB b) = 0 := by kernel_rfl
theorem Q5_w_0_4 : (Q5 p q 0 4 b c).writeE 0 ((0 : Nat) : Int) (BB b) = 0 := by kernel_rfl
theorem Q5_w_0_5 : (Q5 p q 0 5 b c).writeE 0 ((0 : Nat) : Int) (BB b) = 0 := by kernel_rfl
theorem Q5_w_0_6 : (Q5 p q 0 6 b c).writeE 0 ((0 : Nat) : Int) (BB b) = 0 := by kernel_rfl
theorem Q5_w_0_7 : (Q5 p q 0 7 b c).writeE 0 ((0 : Nat) : Int) (BB b) = 0 := by kernel_rfl
theorem Q5_w_1_0 : (Q5 p q 1 0 b c).writeE 0 ((1 : Nat) : Int) (BB b) = 0 := by kernel_rfl
theorem Q5_w_1_1 : (Q5 p q 1 1 b c).writeE 0 ((1 : Nat) : Int) (BB b) = 0 := by kernel_rfl
theorem Q5_w_1_2 : (Q5 p q 1 2 b c).writeE 0 ((1 : Nat) : Int) (BB b) = 0 := by kernel_rfl
theorem Q5_w_1_3 : (Q5 p q 1 3 b c).writeE 0 ((1 : Nat) : Int) (BB b) = 0 := by kernel_rfl
theorem Q5_w_1_4 : (Q5 p q 1 4 b c).writeE 0 ((1 : Nat) : Int) (BB b) = 0 := by kernel_rfl
theorem Q5_w_1_5 : (Q5 p q 1 5 b c).writeE 0 ((1 : Nat) : Int) (BB b) = 0 := by kernel_rfl
theorem Q5_w_1_6 : (Q5 p q 1 6 b c).writeE 0 ((1 : Nat) : Int) (BB b) = 0 := by kernel_rfl
theorem Q5_w_1_7 : (Q5 p q 1 7 b c).writeE 0 ((1 : Nat) : Int) (BB b) = 0 := by kernel_rfl
theorem Q5_w_2_0 : (Q5 p q 2 0 b c).writeE 0 ((2 : Nat) : Int) (BB b) = 0 := by kernel_rfl
theorem Q5_w_2_1 : (Q5 p q 2 1 b c).writeE 0 ((2 : Nat) : Int) (BB b) = 0 := by kernel_rfl
theorem Q5_w_2_2 : (Q5 p q 2 2 b c).writeE 0 ((2 : Nat) : Int) (BB b) = 0 := by kernel_rfl
theorem Q5_w_2_3 : (Q5 p q 2 3 b c).writeE 0 ((2 : Nat) : Int) (BB b) = 0 := by kernel_rfl
theorem Q5_w_2_4 : (Q5 p q 2 4 b c).writeE 0 ((2 : Nat) : Int) (BB b) = 0 := by kernel_rfl
theorem Q5_w_2_5 : (Q5 p q 2 5 b c).writeE 0 ((2 : Nat) : Int) (BB b) = 0 := by kernel_rfl
theorem Q5_w_2_6 : (Q5 p q 2 6 b c).writeE 0 ((2 : Nat) : Int) (BB b) = 0 := by kernel_rfl
theorem Q5_w_2_7 : (Q5 p q 2 7 b c).writeE 0 ((2 : Nat) : Int) (BB b) = 0 := by kernel_rfl
theorem Q5_w_3_0 : (Q5 p q 3 0 b c).writeE 0 ((3 : Nat) : Int) (BB b) = 0 := by kernel_rfl
theorem Q5_w_3_1 : (Q5 p q 3 1 b c).writeE 0 ((3 : Nat) : Int) (BB b) = 0 := by kernel_rfl
theorem Q5_w_3_2 : (Q5 p q 3 2 b c).writeE 0 ((3 : Nat) : Int) (BB b) = 0 := by kernel_rfl
theorem Q5_w_3_3 : (Q5 p q 3 3 b c).writeE 0 ((3 : Nat) : Int) (BB b) = 0 := by kernel_rfl
theorem Q5_w_3_4 : (Q5 p q 3 4 b c).writeE 0 ((3 : Nat) : Int) (BB b) = 0 := by kernel_rfl
theorem Q5_w_3_5 : (Q5 p q 3 5 b c).writeE 0 ((3 : Nat) : Int) (BB b) = 0 := by kernel_rfl
theorem Q5_w_3_6 : (Q5 p q 3 6 b c).writeE 0 ((3 : Nat) : Int) (BB b) = 0 := by kernel_rfl
theorem Q5_w_3_7 : (Q5 p q 3 7 b c).writeE 0 ((3 : Nat) : Int) (BB b) = 0 := by kernel_rfl
theorem Q5_w_4_0 : (Q5 p q 4 0 b c).writeE 0 ((4 : Nat) : Int) (BB b) = 0 := by kernel_rfl
theorem Q5_w_4_1 : (Q5 p q 4 1 b c).writeE 0 ((4 : Nat) : Int) (BB b) = 0 := by kernel_rfl
theorem Q5_w_4_2 : (Q5 p q 4 2 b c).writeE 0 ((4 : Nat) : Int) (BB b) = 0 := by kernel_rfl
theorem Q5_w_4_3 : (Q5 p q 4 3 b c).writeE 0 ((4 : Nat) : Int) (BB b) = 0 := by kernel_rfl
theorem Q5_w_4_4 : (Q5 p q 4 4 b c).writeE 0 ((4 : Nat) : Int) (BB b) = 0 := by kernel_rfl
theorem Q5_w_4_5 : (Q5 p q 4 5 b c).writeE 0 ((4 : Nat) : Int) (BB b) = 0 := by kernel_rfl
theorem Q5_w_4_6 : (Q5 p q 4 6 b c).writeE 0 ((4 : Nat) : Int) (BB b) = 0 := by kernel_rfl
theorem Q5_w_4_7 : (Q5 p q 4 7 b c).writeE 0 ((4 : Nat) : Int) (BB b) = 0 := by kernel_rfl
theorem Q5_w_5_0 : (Q5 p q 5 0 b c).writeE 0 ((5 : Nat) : Int) (BB b) = 0 := by kernel_rfl
theorem Q5_w_5_1 : (Q5 p q 5 1 b c).writeE 0 ((5 : Nat) : Int) (BB b) = 0 := by kernel_rfl
theorem Q5_w_5_2 : (Q5 p q 5 2 b c).writeE 0 ((5 : Nat) : Int) (BB b) = 0 := by kernel_rfl
theorem Q5_w_5_3 : (Q5 p q 5 3 b c).writeE 0 ((5 : Nat) : Int) (BB b) = 0 := by kernel_rfl
theorem Q5_w_5_4 : (Q5 p q 5 4 b c).writeE 0 ((5 : Nat) : Int) (BB b) = 0 := by kernel_rfl
theorem Q5_w_5_5 : (Q5 p q 5 5 b c).writeE 0 ((5 : Nat) : Int) (BB b) = 0 := by kernel_rfl
theorem Q5_w_5_6 : (Q5 p q 5 6 b c).writeE 0 ((5 : Nat) : Int) (BB b) = 0 := by kernel_rfl
theorem Q5_w_5_7 : (Q5 p q 5 7 b c).writeE 0 ((5 : Nat) : Int) (BB b) = 0 := by kernel_rfl
theorem Q5_w_6_0 : (Q5 p q 6 0 b c).writeE 0 ((6 : Nat) : Int) (BB b) = 0 := by kernel_rfl
theorem Q5_w_6_1 : (Q5 p q 6 1 b c).writeE 0 ((6 : Nat) : Int) (BB b) = 0 := by kernel_rfl
theorem Q5_w_6_2 : (Q5 p q 6 2 b c).writeE 0 ((6 : Nat) : Int) (BB b) = 0 := by kernel_rfl
theorem Q5_w_6_3 : (Q5 p q 6 3 b c).writeE 0 ((6 : Nat) : Int) (BB b) = 0 := by kernel_rfl
theorem Q5_w_6_4 : (Q5 p q 6 4 b c).writeE 0 ((6 : Nat) : Int) (BB b) = 0 := by kernel_rfl
theorem Q5_w_6_5 : (Q5 p q 6 5 b c).writeE 0 ((6 : Nat) : Int) (BB b) = 0 := by kernel_rfl
theorem Q5_w_6_6 : (Q5 p q 6 6 b c).writeE 0 ((6 : Nat) : Int) (BB b) = 0 := by kernel_rfl
theorem Q5_w_6_7 : (Q5 p q 6 7 b c).writeE 0 ((6 : Nat) : Int) (BB b) = 0 := by kernel_rfl
theorem Q5_w_7_0 : (Q5 p q 7 0 b c).writeE 0 ((7 : Nat) : Int) (BB b) = 0 := by kernel_rfl
theorem Q5_w_7_1 : (Q5 p q 7 1 b c).writeE 0 ((7 : Nat) : Int) (BB b) = 0 := by kernel_rfl
theorem Q5_w_7_2 : (Q5 p q 7 2 b c).writeE 0 ((7 : Nat) : Int) (BB b) = 0 := by kernel_rfl
theorem Q5_w_7_3 : (Q5 p q 7 3 b c).writeE 0 ((7 : Nat) : Int) (BB b) = 0 := by kernel_rfl
theorem Q5_w_7_4 : (Q5 p q 7 4 b c).writeE 0 ((7 : Nat) : Int) (BB b) = 0 := by kernel_rfl
theorem Q5_w_7_5 : (Q5 p q 7 5 b c).writeE 0 ((7 : Nat) : Int) (BB b) = 0 := by kernel_rfl
theorem Q5_w_7_6 : (Q5 p q 7 6 b c).writeE 0 ((7 : Nat) : Int) (BB b) = 0 := by kernel_rfl
theorem Q5_w_7_7 : (Q5 p q 7 7 b c).writeE 0 ((7 : Nat) : Int) (BB b) = 0 := by kernel_rfl
theorem Q5_w (hi : i < 8) (hj : j < 8) : (Q5 p q i j b c).writeE 0 (i : Int) (BB b) = 0 := by
  have h8 : i = 0 ∨ i = 1 ∨ i = 2 ∨ i = 3 ∨ i = 4 ∨ i = 5 ∨ i = 6 ∨ i = 7 := by omega
  have h9 : j = 0 ∨ j = 1 ∨ j = 2 ∨ j = 3 ∨ j = 4 ∨ j = 5 ∨ j = 6 ∨ j = 7 := by omega
  rcases h8 with rfl | rfl | rfl | rfl | rfl | rfl | rfl | rfl <;> rcases h9 with rfl | rfl | rfl | rfl | rfl | rfl | rfl | rfl
  · exact Q5_w_0_0 ..
  · exact Q5_w_0_1 ..
  · exact Q5_w_0_2 ..
  · exact Q5_w_0_3 ..
  · exact Q5_w_0_4 ..
  · exact Q5_w_0_5 ..
  · exact Q5_w_0_6 ..
  · exact Q5_w_0_7 ..
  · exact Q5_w_1_0 ..
  · exact Q5_w_1_1 ..
  · exact Q5_w_1_2 ..
  · exact Q5_w_1_3 ..
  · exact Q5_w_1_4 ..
  · exact Q5_w_1_5 ..
  · exact Q5_w_1_6 ..
  · exact Q5_w_1_7 ..
  · exact Q5_w_2_0 ..
  · exact Q5_w_2_1 ..
  · exact Q5_w_2_2 ..
  · exact Q5_w_2_3 ..
  · exact Q5_w_2_4 ..
  · exact Q5_w_2_5 ..
  · exact Q5_w_2_6 ..
  · exact Q5_w_2_7 ..
  · exact Q5_w_3_0 ..
  · exact Q5_w_3_1 ..
  · exact Q5_w_3_2 ..
  · exact Q5_w_3_3 ..
  · exact Q5_w_3_4 ..
  · exact Q5_w_3_5 ..
  · exact Q5_w_3_6 ..
  · exact Q5_w_3_7 ..
  · exact Q5_w_4_0 ..
  · exact Q5_w_4_1 ..
  · exact Q5_w_4_2 ..
  · exact Q5_w_4_3 ..
  · exact Q5_w_4_4 ..
  · exact Q5_w_4_5 ..
  · exact Q5_w_4_6 ..
  · exact Q5_w_4_7 ..
  · exact Q5_w_5_0 ..
  · exact Q5_w_5_1 ..
  · exact Q5_w_5_2 ..
  · exact Q5_w_5_3 ..
  · exact Q5_w_5_4 ..
  · exact Q5_w_5_5 ..
  · exact Q5_w_5_6 ..
  · exact Q5_w_5_7 ..
  · exact Q5_w_6_0 ..
  · exact Q5_w_6_1 ..
  · exact Q5_w_6_2 ..
  · exact Q5_w_6_3 ..
  · exact Q5_w_6_4 ..
  · exact Q5_w_6_5 ..
  · exact Q5_w_6_6 ..
  · exact Q5_w_6_7 ..
  · exact Q5_w_7_0 ..
  · exact Q5_w_7_1 ..
  · exact Q5_w_7_2 ..
  · exact Q5_w_7_3 ..
  · exact Q5_w_7_4 ..
  · exact Q5_w_7_5 ..
  · exact Q5_w_7_6 ..
  · exact Q5_w_7_7 ..
theorem Q6_p_0_0 : (Q6 p q 0 0 b c).peekB 0 ((0 : Nat) : Int) = true := by kernel_rfl
theorem Q6_p_0_1 : (Q6 p q 0 1 b c).peekB 0 ((0 : Nat) : Int) = true := by kernel_rfl
theorem Q6_p_0_2 : (Q6 p q 0 2 b c).peekB 0 ((0 : Nat) : Int) = true := by kernel_rfl
theorem Q6_p_0_3 : (Q6 p q 0 3 b c).peekB 0 ((0 : Nat) : Int) = true := by kernel_rfl
theorem Q6_p_0_4 : (Q6 p q 0 4 b c).peekB 0 ((0 : Nat) : Int) = true := by kernel_rfl
theorem Q6_p_0_5 : (Q6 p q 0 5 b c).peekB 0 ((0 : Nat) : Int) = true := by kernel_rfl
theorem Q6_p_0_6 : (Q6 p q 0 6 b c).peekB 0 ((0 : Nat) : Int) = true := by kernel_rfl
theorem Q6_p_0_7 : (Q6 p q 0 7 b c).peekB 0 ((0 : Nat) : Int) = true := by kernel_rfl
theorem Q6_p_1_0 : (Q6 p q 1 0 b c).peekB 0 ((1 : Nat) : Int) = true := by kernel_rfl
theorem Q6_p_1_1 : (Q6 p q 1 1 b c).peekB 0 ((1 : Nat) : Int) = true := by kernel_rfl
theorem Q6_p_1_2 : (Q6 p q 1 2 b c).peekB 0 ((1 : Nat) : Int) = true := by kernel_rfl
theorem Q6_p_1_3 : (Q6 p q 1 3 b c).peekB 0 ((1 : Nat) : Int) = true := by kernel_rfl
theorem Q6_p_1_4 : (Q6 p q 1 4 b c).peekB 0 ((1 : Nat) : Int) = true := by kernel_rfl
theorem Q6_p_1_5 : (Q6 p q 1 5 b c).peekB 0 ((1 : Nat) : Int) = true := by kernel_rfl
theorem Q6_p_1_6 : (Q6 p q 1 6 b c).peekB 0 ((1 : Nat) : Int) = true := by kernel_rfl
theorem Q6_p_1_7 : (Q6 p q 1 7 b c).peekB 0 ((1 : Nat) : Int) = true := by kernel_rfl
theorem Q6_p_2_0 : (Q6 p q 2 0 b c).peekB 0 ((2 : Nat) : Int) = true := by kernel_rfl
theorem Q6_p_2_1 : (Q6 p q 2 1 b c).peekB 0 ((2 : Nat) : Int) = true := by kernel_rfl
theorem Q6_p_2_2 : (Q6 p q 2 2 b c).peekB 0 ((2 : Nat) : Int) = true := by kernel_rfl
theorem Q6_p_2_3 : (Q6 p q 2 3 b c).peekB 0 ((2 : Nat) : Int) = true := by kernel_rfl
theorem Q6_p_2_4 : (Q6 p q 2 4 b c).peekB 0 ((2 : Nat) : Int) = true := by kernel_rfl
theorem Q6_p_2_5 : (Q6 p q 2 5 b c).peekB 0 ((2 : Nat) : Int) = true := by kernel_rfl
theorem Q6_p_2_6 : (Q6 p q 2 6 b c).peekB 0 ((2 : Nat) : Int) = true := by kernel_rfl
theorem Q6_p_2_7 : (Q6 p q 2 7 b c).peekB 0 ((2 : Nat) : Int) = true := by kernel_rfl
theorem Q6_p_3_0 : (Q6 p q 3 0 b c).peekB 0 ((3 : Nat) : Int) = true := by kernel_rfl
theorem Q6_p_3_1 : (Q6 p q 3 1 b c).peekB 0 ((3 : Nat) : Int) = true := by kernel_rfl
theorem Q6_p_3_2 : (Q6 p q 3 2 b c).peekB 0 ((3 : Nat) : Int) = true := by kernel_rfl
theorem Q6_p_3_3 : (Q6 p q 3 3 b c).peekB 0 ((3 : Nat) : Int) = true := by kernel_rfl
theorem Q6_p_3_4 : (Q6 p q 3 4 b c).peekB 0 ((3 : Nat) : Int) = true := by kernel_rfl
theorem Q6_p_3_5 : (Q6 p q 3 5 b c).peekB 0 ((3 : Nat) : Int) = true := by kernel_rfl
theorem Q6_p_3_6 : (Q6 p q 3 6 b c).peekB 0 ((3 : Nat) : Int) = true := by kernel_rfl
theorem Q6_p_3_7 : (Q6 p q 3 7 b c).peekB 0 ((3 : Nat) : Int) = true := by kernel_rfl
theorem Q6_p_4_0 : (Q6 p q 4 0 b c).peekB 0 ((4 : Nat) : Int) = true := by kernel_rfl
theorem Q6_p_4_1 : (Q6 p q 4 1 b c).peekB 0 ((4 : Nat) : Int) = true := by kernel_rfl
theorem Q6_p_4_2 : (Q6 p q 4 2 b c).peekB 0 ((4 : Nat) : Int) = true := by kernel_rfl
theorem Q6_p_4_3 : (Q6 p q 4 3 b c).peekB 0 ((4 : Nat) : Int) = true := by kernel_rfl
theorem Q6_p_4_4 : (Q6 p q 4 4 b c).peekB 0 ((4 : Nat) : Int) = true := by kernel_rfl
theorem Q6_p_4_5 : (Q6 p q 4 5 b c).peekB 0 ((4 : Nat) : Int) = true := by kernel_rfl
theorem Q6_p_4_6 : (Q6 p q 4 6 b c).peekB 0 ((4 : Nat) : Int) = true := by kernel_rfl
theorem Q6_p_4_7 : (Q6 p q 4 7 b c).peekB 0 ((4 : Nat) : Int) = true := by kernel_rfl
theorem Q6_p_5_0 : (Q6 p q 5 0 b c).peekB 0 ((5 : Nat) : Int) = true := by kernel_rfl
theorem Q6_p_5_1 : (Q6 p q 5 1 b c).peekB 0 ((5 : Nat) : Int) = true := by kernel_rfl
theorem Q6_p_5_2 : (Q6 p q 5 2 b c).peekB 0 ((5 : Nat) : Int) = true := by kernel_rfl
theorem Q6_p_5_3 : (Q6 p q 5 3 b c).peekB 0 ((5 : Nat) : Int) = true := by kernel_rfl
theorem Q6_p_5_4 : (Q6 p q 5 4 b c).peekB 0 ((5 : Nat) : Int) = true := by kernel_rfl
theorem Q6_p_5_5 : (Q6 p q 5 5 b c).peekB 0 ((5 : Nat) : Int) = true := by kernel_rfl
theorem Q6_p_5_6 : (Q6 p q 5 6 b c).peekB 0 ((5 : Nat) : Int) = true := by kernel_rfl
theorem Q6_p_5_7 : (Q6 p q 5 7 b c).peekB 0 ((5 : Nat) : Int) = true := by kernel_rfl
theorem Q6_p_6_0 : (Q6 p q 6 0 b c).peekB 0 ((6 : Nat) : Int) = true := by kernel_rfl
theorem Q6_p_6_1 : (Q6 p q 6 1 b c).peekB 0 ((6 : Nat) : Int) = true := by kernel_rfl
theorem Q6_p_6_2 : (Q6 p q 6 2 b c).peekB 0 ((6 : Nat) : Int) = true := by kernel_rfl
theorem Q6_p_6_3 : (Q6 p q 6 3 b c).peekB 0 ((6 : Nat) : Int) = true := by kernel_rfl
theorem Q6_p_6_4 : (Q6 p q 6 4 b c).peekB 0 ((6 : Nat) : Int) = true := by kernel_rfl
theorem Q6_p_6_5 : (Q6 p q 6 5 b c).peekB 0 ((6 : Nat) : Int) = true := by kernel_rfl
theorem Q6_p_6_6 : (Q6 p q 6 6 b c).peekB 0 ((6 : Nat) : Int) = true := by kernel_rfl
theorem Q6_p_6_7 : (Q6 p q 6 7 b c).peekB 0 ((6 : Nat) : Int) = true := by kernel_rfl
theorem Q6_p_7_0 : (Q6 p q 7 0 b c).peekB 0 ((7 : Nat) : Int) = true := by kernel_rfl
theorem Q6_p_7_1 : (Q6 p q 7 1 b c).peekB 0 ((7 : Nat) : Int) = true := by kernel_rfl
theorem Q6_p_7_2 : (Q6 p q 7 2 b c).peekB 0 ((7 : Nat) : Int) = true := by kernel_rfl
theorem Q6_p_7_3 : (Q6 p q 7 3 b c).peekB 0 ((7 : Nat) : Int) = true := by kernel_rfl
theorem Q6_p_7_4 : (Q6 p q 7 4 b c).peekB 0 ((7 : Nat) : Int) = true := by kernel_rfl
theorem Q6_p_7_5 : (Q6 p q 7 5 b c).peekB 0 ((7 : Nat) : Int) = true := by kernel_rfl
theorem Q6_p_7_6 : (Q6 p q 7 6 b c).peekB 0 ((7 : Nat) : Int) = true := by kernel_rfl
theorem Q6_p_7_7 : (Q6 p q 7 7 b c).peekB 0 ((7 : Nat) : Int) = true := by kernel_rfl
theorem Q6_p (hi : i < 8) (hj : j < 8) : (Q6 p q i j b c).peekB 0 (i : Int) = true := by
  have h8 : i = 0 ∨ i = 1 ∨ i = 2 ∨ i = 3 ∨ i = 4 ∨ i = 5 ∨ i = 6 ∨ i = 7 := by omega
  have h9 : j = 0 ∨ j = 1 ∨ j = 2 ∨ j = 3 ∨ j = 4 ∨ j = 5 ∨ j = 6 ∨ j = 7 := by omega
  rcases h8 with rfl | rfl | rfl | rfl | rfl | rfl | rfl | rfl <;> rcases h9 with rfl | rfl | rfl | rfl | rfl | rfl | rfl | rfl
  · exact Q6_p_0_0 ..
  · exact Q6_p_0_1 ..
  · exact Q6_p_0_2 ..
  · exact Q6_p_0_3 ..
  · exact Q6_p_0_4 ..
  · exact Q6_p_0_5 ..
  · exact Q6_p_0_6 ..
  · exact Q6_p_0_7 ..
  · exact Q6_p_1_0 ..
  · exact Q6_p_1_1 ..
  · exact Q6_p_1_2 ..
  · exact Q6_p_1_3 ..
  · exact Q6_p_1_4 ..
  · exact Q6_p_1_5 ..
  · exact Q6_p_1_6 ..
  · exact Q6_p_1_7 ..
  · exact Q6_p_2_0 ..
  · exact Q6_p_2_1 ..
  · exact Q6_p_2_2 ..
  · exact Q6_p_2_3 ..
  · exact Q6_p_2_4 ..
  · exact Q6_p_2_5 ..
  · exact Q6_p_2_6 ..
  · exact Q6_p_2_7 ..
  · exact Q6_p_3_0 ..
  · exact Q6_p_3_1 ..
  · exact Q6_p_3_2 ..
  · exact Q6_p_3_3 ..
  · exact Q6_p_3_4 ..
  · exact Q6_p_3_5 ..
  · exact Q6_p_3_6 ..
  · exact Q6_p_3_7 ..
  · exact Q6_p_4_0 ..
  · exact Q6_p_4_1 ..
  · exact Q6_p_4_2 ..
  · exact Q6_p_4_3 ..
  · exact Q6_p_4_4 ..
  · exact Q6_p_4_5 ..
  · exact Q6_p_4_6 ..
  · exact Q6_p_4_7 ..
  · exact Q6_p_5_0 ..
  · exact Q6_p_5_1 ..
  · exact Q6_p_5_2 ..
  · exact Q6_p_5_3 ..
  · exact Q6_p_5_4 ..
  · exact Q6_p_5_5 ..
  · exact Q6_p_5_6 ..
  · exact Q6_p_5_7 ..
  · exact Q6_p_6_0 ..
  · exact Q6_p_6_1 ..
  · exact Q6_p_6_2 ..
  · exact Q6_p_6_3 ..
  · exact Q6_p_6_4 ..
  · exact Q6_p_6_5 ..
  · exact Q6_p_6_6 ..
  · exact Q6_p_6_7 ..
  · exact Q6_p_7_0 ..
  · exact Q6_p_7_1 ..
  · exact Q6_p_7_2 ..
  · exact Q6_p_7_3 ..
  · exact Q6_p_7_4 ..
  · exact Q6_p_7_5 ..
  · exact Q6_p_7_6 ..
  · exact Q6_p_7_7 ..
theorem Q6_t_0_0 : (Q6 p q 0 0 b c).peekL 0 ((0 : Nat) : Int) = BB b := by kernel_rfl
theorem Q6_t_0_1 : (Q6 p q 0 1 b c).peekL 0 ((0 : Nat) : Int) = BB b := by kernel_rfl
theorem Q6_t_0_2 : (Q6 p q 0 2 b c).peekL 0 ((0 : Nat) : Int) = BB b := by kernel_rfl
theorem Q6_t_0_3 : (Q6 p q 0 3 b c).peekL 0 ((0 : Nat) : Int) = BB b := by kernel_rfl
theorem Q6_t_0_4 : (Q6 p q 0 4 b c).peekL 0 ((0 : Nat) : Int) = BB b := by kernel_rfl
theorem Q6_t_0_5 : (Q6 p q 0 5 b c).peekL 0 ((0 : Nat) : Int) = BB b := by kernel_rfl
theorem Q6_t_0_6 : (Q6 p q 0 6 b c).peekL 0 ((0 : Nat) : Int) = BB b := by kernel_rfl
theorem Q6_t_0_7 : (Q6 p q 0 7 b c).peekL 0 ((0 : Nat) : Int) = BB b := by kernel_rfl
theorem Q6_t_1_0 : (Q6 p q 1 0 b c).peekL 0 ((1 : Nat) : Int) = BB b := by kernel_rfl
theorem Q6_t_1_1 : (Q6 p q 1 1 b c).peekL 0 ((1 : Nat) : Int) = BB b := by kernel_rfl
theorem Q6_t_1_2 : (Q6 p q 1 2 b c).peekL 0 ((1 : Nat) : Int) = BB b := by kernel_rfl
theorem Q6_t_1_3 : (Q6 p q 1 3 b c).peekL 0 ((1 : Nat) : Int) = BB b := by kernel_rfl
theorem Q6_t_1_4 : (Q6 p q 1 4 b c).peekL 0 ((1 : Nat) : Int) = BB b := by kernel_rfl
theorem Q6_t_1_5 : (Q6 p q 1 5 b c).peekL 0 ((1 : Nat) : Int) = BB b := by kernel_rfl
theorem Q6_t_1_6 : (Q6 p q 1 6 b c).peekL 0 ((1 : Nat) : Int) = BB b := by kernel_rfl
theorem Q6_t_1_7 : (Q6 p q 1 7 b c).peekL 0 ((1 : Nat) : Int) = BB b := by kernel_rfl
theorem Q6_t_2_0 : (Q6 p q 2 0 b c).peekL 0 ((2 : Nat) : Int) = BB b := by kernel_rfl
theorem Q6_t_2_1 : (Q6 p q 2 1 b c).peekL 0 ((2 : Nat) : Int) = BB b := by kernel_rfl
theorem Q6_t_2_2 : (Q6 p q 2 2 b c).peekL 0 ((2 : Nat) : Int) = BB b := by kernel_rfl
theorem Q6_t_2_3 : (Q6 p q 2 3 b c).peekL 0 ((2 : Nat) : Int) = BB b := by kernel_rfl
theorem Q6_t_2_4 : (Q6 p q 2 4 b c).peekL 0 ((2 : Nat) : Int) = BB b := by kernel_rfl
theorem Q6_t_2_5 : (Q6 p q 2 5 b c).peekL 0 ((2 : Nat) : Int) = BB b := by kernel_rfl
theorem Q6_t_2_6 : (Q6 p q 2 6 b c).peekL 0 ((2 : Nat) : Int) = BB b := by kernel_rfl
theorem Q6_t_2_7 : (Q6 p q 2 7 b c).peekL 0 ((2 : Nat) : Int) = BB b := by kernel_rfl
theorem Q6_t_3_0 : (Q6 p q 3 0 b c).peekL 0 ((3 : Nat) : Int) = BB b := by kernel_rfl
theorem Q6_t_3_1 : (Q6 p q 3 1 b c).peekL 0 ((3 : Nat) : Int) = BB b := by kernel_rfl
theorem Q6_t_3_2 : (Q6 p q 3 2 b c).peekL 0 ((3 : Nat) : Int) = BB b := by kernel_rfl
theorem Q6_t_3_3 : (Q6 p q 3 3 b c).peekL 0 ((3 : Nat) : Int) = BB b := by kernel_rfl
theorem Q6_t_3_4 : (Q6 p q 3 4 b c).peekL 0 ((3 : Nat) : Int) = BB b := by kernel_rfl
theorem Q6_t_3_5 : (Q6 p q 3 5 b c).peekL 0 ((3 : Nat) : Int) = BB b := by kernel_rfl
theorem Q6_t_3_6 : (Q6 p q 3 6 b c).peekL 0 ((3 : Nat) : Int) = BB b := by kernel_rfl
theorem Q6_t_3_7 : (Q6 p q 3 7 b c).peekL 0 ((3 : Nat) : Int) = BB b := by kernel_rfl
theorem Q6_t_4_0 : (Q6 p q 4 0 b c).peekL 0 ((4 : Nat) : Int) = BB b := by kernel_rfl
theorem Q6_t_4_1 : (Q6 p q 4 1 b c).peekL 0 ((4 : Nat) : Int) = BB b := by kernel_rfl
theorem Q6_t_4_2 : (Q6 p q 4 2 b c).peekL 0 ((4 : Nat) : Int) = BB b := by kernel_rfl
theorem Q6_t_4_3 : (Q6 p q 4 3 b c).peekL 0 ((4 : Nat) : Int) = BB b := by kernel_rfl
theorem Q6_t_4_4 : (Q6 p q 4 4 b c).peekL 0 ((4 : Nat) : Int) = BB b := by kernel_rfl
theorem Q6_t_4_5 : (Q6 p q 4 5 b c).peekL 0 ((4 : Nat) : Int) = BB b := by kernel_rfl
theorem Q6_t_4_6 : (Q6 p q 4 6 b c).peekL 0 ((4 : Nat) : Int) = BB b := by kernel_rfl
theorem Q6_t_4_7 : (Q6 p q 4 7 b c).peekL 0 ((4 : Nat) : Int) = BB b := by kernel_rfl
theorem Q6_t_5_0 : (Q6 p q 5 0 b c).peekL 0 ((5 : Nat) : Int) = BB b := by kernel_rfl
theorem Q6_t_5_1 : (Q6 p q 5 1 b c).peekL 0 ((5 : Nat) : Int) = BB b := by kernel_rfl
theorem Q6_t_5_2 : (Q6 p q 5 2 b c).peekL 0 ((5 : Nat) : Int) = BB b := by kernel_rfl
theorem Q6_t_5_3 : (Q6 p q 5 3 b c).peekL 0 ((5 : Nat) : Int) = BB b := by kernel_rfl
theorem Q6_t_5_4 : (Q6 p q 5 4 b c).peekL 0 ((5 : Nat) : Int) = BB b := by kernel_rfl
theorem Q6_t_5_5 : (Q6 p q 5 5 b c).peekL 0 ((5 : Nat) : Int) = BB b := by kernel_rfl
theorem Q6_t_5_6 : (Q6 p q 5 6 b c).peekL 0 ((5 : Nat) : Int) = BB b := by kernel_rfl
theorem Q6_t_5_7 : (Q6 p q 5 7 b c).peekL 0 ((5 : Nat) : Int) = BB b := by kernel_rfl
theorem Q6_t_6_0 : (Q6 p q 6 0 b c).peekL 0 ((6 : Nat) : Int) = BB b := by kernel_rfl
theorem Q6_t_6_1 : (Q6 p q 6 1 b c).peekL 0 ((6 : Nat) : Int) = BB b := by kernel_rfl
theorem Q6_t_6_2 : (Q6 p q 6 2 b c).peekL 0 ((6 : Nat) : Int) = BB b := by kernel_rfl
theorem Q6_t_6_3 : (Q6 p q 6 3 b c).peekL 0 ((6 : Nat) : Int) = BB b := by kernel_rfl
theorem Q6_t_6_4 : (Q6 p q 6 4 b c).peekL 0 ((6 : Nat) : Int) = BB b := by kernel_rfl
theorem Q6_t_6_5 : (Q6 p q 6 5 b c).peekL 0 ((6 : Nat) : Int) = BB b := by kernel_rfl
theorem Q6_t_6_6 : (Q6 p q 6 6 b c).peekL 0 ((6 : Nat) : Int) = BB b := by kernel_rfl
theorem Q6_t_6_7 : (Q6 p q 6 7 b c).peekL 0 ((6 : Nat) : Int) = BB b := by kernel_rfl
theorem Q6_t_7_0 : (Q6 p q 7 0 b c).peekL 0 ((7 : Nat) : Int) = BB b := by kernel_rfl
theorem Q6_t_7_1 : (Q6 p q 7 1 b c).peekL 0 ((7 : Nat) : Int) = BB b := by kernel_rfl
theorem Q6_t_7_2 : (Q6 p q 7 2 b c).peekL 0 ((7 : Nat) : Int) = BB b := by kernel_rfl
theorem Q6_t_7_3 : (Q6 p q 7 3 b c).peekL 0 ((7 : Nat) : Int) = BB b := by kernel_rfl
theorem Q6_t_7_4 : (Q6 p q 7 4 b c).peekL 0 ((7 : Nat) : Int) = BB b := by kernel_rfl
theorem Q6_t_7_5 : (Q6 p q 7 5 b c).peekL 0 ((7 : Nat) : Int) = BB b := by kernel_rfl
theorem Q6_t_7_6 : (Q6 p q 7 6 b c).peekL 0 ((7 : Nat) : Int) = BB b := by kernel_rfl
theorem Q6_t_7_7 : (Q6 p q 7 7 b c).peekL 0 ((7 : Nat) : Int) = BB b := by kernel_rfl
theorem Q6_t (hi : i < 8) (hj : j < 8) : (Q6 p q i j b c).peekL 0 (i : Int) = BB b := by
  have h8 : i = 0 ∨ i = 1 ∨ i = 2 ∨ i = 3 ∨ i = 4 ∨ i = 5 ∨ i = 6 ∨ i = 7 := by omega
  have h9 : j = 0 ∨ j = 1 ∨ j = 2 ∨ j = 3 ∨ j = 4 ∨ j = 5 ∨ j = 6 ∨ j = 7 := by omega
  rcases h8 with rfl | rfl | rfl | rfl | rfl | rfl | rfl | rfl <;> rcases h9 with rfl | rfl | rfl | rfl | rfl | rfl | rfl | rfl
  · exact Q6_t_0_0 ..
  · exact Q6_t_0_1 ..
  · exact Q6_t_0_2 ..
  · exact Q6_t_0_3 ..
  · exact Q6_t_0_4 ..
  · exact Q6_t_0_5 ..
  · exact Q6_t_0_6 ..
  · exact Q6_t_0_7 ..
  · exact Q6_t_1_0 ..
  · exact Q6_t_1_1 ..
  · exact Q6_t_1_2 ..
  · exact Q6_t_1_3 ..
  · exact Q6_t_1_4 ..
  · exact Q6_t_1_5 ..
  · exact Q6_t_1_6 ..
  · exact Q6_t_1_7 ..
  · exact Q6_t_2_0 ..
  · exact Q6_t_2_1 ..
  · exact Q6_t_2_2 ..
  · exact Q6_t_2_3 ..
  · exact Q6_t_2_4 ..
  · exact Q6_t_2_5 ..
  · exact Q6_t_2_6 ..
  · exact Q6_t_2_7 ..
  · exact Q6_t_3_0 ..
  · exact Q6_t_3_1 ..
  · exact Q6_t_3_2 ..
  · exact Q6_t_3_3 ..
  · exact Q6_t_3_4 ..
  · exact Q6_t_3_5 ..
  · exact Q6_t_3_6 ..
  · exact Q6_t_3_7 ..
  · exact Q6_t_4_0 ..
  · exact Q6_t_4_1 ..
  · exact Q6_t_4_2 ..
  · exact Q6_t_4_3 ..
  · exact Q6_t_4_4 ..
  · exact Q6_t_4_5 ..
  · exact Q6_t_4_6 ..
  · exact Q6_t_4_7 ..
  · exact Q6_t_5_0 ..
  · exact Q6_t_5_1 ..
  · exact Q6_t_5_2 ..
  · exact Q6_t_5_3 ..
  · exact Q6_t_5_4 ..
  · exact Q6_t_5_5 ..
  · exact Q6_t_5_6 ..
  · exact Q6_t_5_7 ..
  · exact Q6_t_6_0 ..
  · exact Q6_t_6_1 ..
  · exact Q6_t_6_2 ..
  · exact Q6_t_6_3 ..
  · exact Q6_t_6_4 ..
  · exact Q6_t_6_5 ..
  · exact Q6_t_6_6 ..
  · exact Q6_t_6_7 ..
  · exact Q6_t_7_0 ..
  · exact Q6_t_7_1 ..
  · exact Q6_t_7_2 ..
  · exact Q6_t_7_3 ..
  · exact Q6_t_7_4 ..
  · exact Q6_t_7_5 ..
  · exact Q6_t_7_6 ..
  · exact Q6_t_7_7 ..
theorem Q6_n_0_0 : (Q6 p q 0 0 b c).loose.length = 3 := by kernel_rfl
theorem Q6_n_0_1 : (Q6 p q 0 1 b c).loose.length = 3 := by kernel_rfl
theorem Q6_n_0_2 : (Q6 p q 0 2 b c).loose.length = 3 := by kernel_rfl
theorem Q6_n_0_3 : (Q6 p q 0 3 b c).loose.length = 3 := by kernel_rfl
theorem Q6_n_0_4 : (Q6 p q 0 4 b c).loose.length = 3 := by kernel_rfl
theorem Q6_n_0_5 : (Q6 p q 0 5 b c).loose.length = 3 := by kernel_rfl
theorem Q6_n_0_6 : (Q6 p q 0 6 b c).loose.length = 3 := by kernel_rfl
theorem Q6_n_0_7 : (Q6 p q 0 7 b c).loose.length = 3 := by kernel_rfl
theorem Q6_n_1_0 : (Q6 p q 1 0 b c).loose.length = 3 := by kernel_rfl
theorem Q6_n_1_1 : (Q6 p q 1 1 b c).loose.length = 3 := by kernel_rfl
theorem Q6_n_1_2 : (Q6 p q 1 2 b c).loose.length = 3 := by kernel_rfl
theorem Q6_n_1_3 : (Q6 p q 1 3 b c).loose.length = 3 := by kernel_rfl
theorem Q6_n_1_4 : (Q6 p q 1 4 b c).loose.length = 3 := by kernel_rfl
theorem Q6_n_1_5 : (Q6 p q 1 5 b c).loose.length = 3 := by kernel_rfl
theorem Q6_n_1_6 : (Q6 p q 1 6 b c).loose.length = 3 := by kernel_rfl
theorem Q6_n_1_7 : (Q6 p q 1 7 b c).loose.length = 3 := by kernel_rfl
theorem Q6_n_2_0 : (Q6 p q 2 0 b c).loose.length = 3 := by kernel_rfl
theorem Q6_n_2_1 : (Q6 p q 2 1 b c).loose.length = 3 := by kernel_rfl
theorem Q6_n_2_2 : (Q6 p q 2 2 b c).loose.length = 3 := by kernel_rfl
theorem Q6_n_2_3 : (Q6 p q 2 3 b c).loose.length = 3 := by kernel_rfl
theorem Q6_n_2_4 : (Q6 p q 2 4 b c).loose.length = 3 := by kernel_rfl
theorem Q6_n_2_5 : (Q6 p q 2 5 b c).loose.length = 3 := by kernel_rfl
theorem Q6_n_2_6 : (Q6 p q 2 6 b c).loose.length = 3 := by kernel_rfl
theorem Q6_n_2_7 : (Q6 p q 2 7 b c).loose.length = 3 := by kernel_rfl
theorem Q6_n_3_0 : (Q6 p q 3 0 b c).loose.length = 3 := by kernel_rfl
theorem Q6_n_3_1 : (Q6 p q 3 1 b c).loose.length = 3 := by kernel_rfl
theorem Q6_n_3_2 : (Q6 p q 3 2 b c).loose.length = 3 := by kernel_rfl
theorem Q6_n_3_3 : (Q6 p q 3 3 b c).loose.length = 3 := by kernel_rfl
theorem Q6_n_3_4 : (Q6 p q 3 4 b c).loose.length = 3 := by kernel_rfl
theorem Q6_n_3_5 : (Q6 p q 3 5 b c).loose.length = 3 := by kernel_rfl
theorem Q6_n_3_6 : (Q6 p q 3 6 b c).loose.length = 3 := by kernel_rfl
theorem Q6_n_3_7 : (Q6 p q 3 7 b c).loose.length = 3 := by kernel_rfl
theorem Q6_n_4_0 : (Q6 p q 4 0 b c).loose.length = 3 := by kernel_rfl
theorem Q6_n_4_1 : (Q6 p q 4 1 b c).loose.length = 3 := by kernel_rfl
theorem Q6_n_4_2 : (Q6 p q 4 2 b c).loose.length = 3 := by kernel_rfl
theorem Q6_n_4_3 : (Q6 p q 4 3 b c).loose.length = 3 := by kernel_rfl
theorem Q6_n_4_4 : (Q6 p q 4 4 b c).loose.length = 3 := by kernel_rfl
theorem Q6_n_4_5 : (Q6 p q 4 5 b c).loose.length = 3 := by kernel_rfl
theorem Q6_n_4_6 : (Q6 p q 4 6 b c).loose.length = 3 := by kernel_rfl
theorem Q6_n_4_7 : (Q6 p q 4 7 b c).loose.length = 3 := by kernel_rfl
theorem Q6_n_5_0 : (Q6 p q 5 0 b c).loose.length = 3 := by kernel_rfl
theorem Q6_n_5_1 : (Q6 p q 5 1 b c).loose.length = 3 := by kernel_rfl
theorem Q6_n_5_2 : (Q6 p q 5 2 b c).loose.length = 3 := by kernel_rfl
theorem Q6_n_5_3 : (Q6 p q 5 3 b c).loose.length = 3 := by kernel_rfl
theorem Q6_n_5_4 : (Q6 p q 5 4 b c).loose.length = 3 := by kernel_rfl
theorem Q6_n_5_5 : (Q6 p q 5 5 b c).loose.length = 3 := by kernel_rfl
theorem Q6_n_5_6 : (Q6 p q 5 6 b c).loose.length = 3 := by kernel_rfl
theorem Q6_n_5_7 : (Q6 p q 5 7 b c).loose.length = 3 := by kernel_rfl
theorem Q6_n_6_0 : (Q6 p q 6 0 b c).loose.length = 3 := by kernel_rfl
theorem Q6_n_6_1 : (Q6 p q 6 1 b c).loose.length = 3 := by kernel_rfl
theorem Q6_n_6_2 : (Q6 p q 6 2 b c).loose.length = 3 := by kernel_rfl
theorem Q6_n_6_3 : (Q6 p q 6 3 b c).loose.length = 3 := by kernel_rfl
theorem Q6_n_6_4 : (Q6 p q 6 4 b c).loose.length = 3 := by kernel_rfl
theorem Q6_n_6_5 : (Q6 p q 6 5 b c).loose.length = 3 := by kernel_rfl
theorem Q6_n_6_6 : (Q6 p q 6 6 b c).loose.length = 3 := by kernel_rfl
theorem Q6_n_6_7 : (Q6 p q 6 7 b c).loose.length = 3 := by kernel_rfl
theorem Q6_n_7_0 : (Q6 p q 7 0 b c).loose.length = 3 := by kernel_rfl
theorem Q6_n_7_1 : (Q6 p q 7 1 b c).loose.length = 3 := by kernel_rfl
theorem Q6_n_7_2 : (Q6 p q 7 2 b c).loose.length = 3 := by kernel_rfl
theorem Q6_n_7_3 : (Q6 p q 7 3 b c).loose.length = 3 := by kernel_rfl
theorem Q6_n_7_4 : (Q6 p q 7 4 b c).loose.length = 3 := by kernel_rfl
theorem Q6_n_7_5 : (Q6 p q 7 5 b c).loose.length = 3 := by kernel_rfl
theorem Q6_n_7_6 : (Q6 p q 7 6 b c).loose.length = 3 := by kernel_rfl
theorem Q6_n_7_7 : (Q6 p q 7 7 b c).loose.length = 3 := by kernel_rfl
theorem Q6_n (hi : i < 8) (hj : j < 8) : (Q6 p q i j b c).loose.length = 3 := by
  have h8 : i = 0 ∨ i = 1 ∨ i = 2 ∨ i = 3 ∨ i = 4 ∨ i = 5 ∨ i = 6 ∨ i = 7 := by omega
  have h9 : j = 0 ∨ j = 1 ∨ j = 2 ∨ j = 3 ∨ j = 4 ∨ j = 5 ∨ j = 6 ∨ j = 7 := by omega
  rcases h8 with rfl | rfl | rfl | rfl | rfl | rfl | rfl | rfl <;> rcases h9 with rfl | rfl | rfl | rfl | rfl | rfl | rfl | rfl
  · exact Q6_n_0_0 ..
  · exact Q6_n_0_1 ..
  · exact Q6_n_0_2 ..
  · exact Q6_n_0_3 ..
  · exact Q6_n_0_4 ..
  · exact Q6_n_0_5 ..
  · exact Q6_n_0_6 ..
  · exact Q6_n_0_7 ..
  · exact Q6_n_1_0 ..
  · exact Q6_n_1_1 ..
  · exact Q6_n_1_2 ..
  · exact Q6_n_1_3 ..
  · exact Q6_n_1_4 ..
  · exact Q6_n_1_5 ..
  · exact Q6_n_1_6 ..
  · exact Q6_n_1_7 ..
  · exact Q6_n_2_0 ..
  · exact Q6_n_2_1 ..
  · exact Q6_n_2_2 ..
  · exact Q6_n_2_3 ..
  · exact Q6_n_2_4 ..
  · exact Q6_n_2_5 ..
  · exact Q6_n_2_6 ..
  · exact Q6_n_2_7 ..
  · exact Q6_n_3_0 ..
  · exact Q6_n_3_1 ..
  · exact Q6_n_3_2 ..
  · exact Q6_n_3_3 ..
  · exact Q6_n_3_4 ..
  · exact Q6_n_3_5 ..
  · exact Q6_n_3_6 ..
  · exact Q6_n_3_7 ..
  · exact Q6_n_4_0 ..
  · exact Q6_n_4_1 ..
  · exact Q6_n_4_2 ..
  · exact Q6_n_4_3 ..
  · exact Q6_n_4_4 ..
  · exact Q6_n_4_5 ..
  · exact Q6_n_4_6 ..
  · exact Q6_n_4_7 ..
  · exact Q6_n_5_0 ..
  · exact Q6_n_5_1 ..
  · exact Q6_n_5_2 ..
  · exact Q6_n_5_3 ..
  · exact Q6_n_5_4 ..
  · exact Q6_n_5_5 ..
  · exact Q6_n_5_6 ..
  · exact Q6_n_5_7 ..
  · exact Q6_n_6_0 ..
  · exact Q6_n_6_1 ..
  · exact Q6_n_6_2 ..
  · exact Q6_n_6_3 ..
  · exact Q6_n_6_4 ..
  · exact Q6_n_6_5 ..
  · exact Q6_n_6_6 ..
  · exact Q6_n_6_7 ..
  · exact Q6_n_7_0 ..
  · exact Q6_n_7_1 ..
  · exact Q6_n_7_2 ..
  · exact Q6_n_7_3 ..
  · exact Q6_n_7_4 ..
  · exact Q6_n_7_5 ..
  · exact Q6_n_7_6 ..
  · exact Q6_n_7_7 ..
theorem Q6_d_0_0 : (Q6 p q 0 0 b c).inD 0 = true := by kernel_rfl
theorem Q6_d_0_1 : (Q6 p q 0 1 b c).inD 0 = true := by kernel_rfl
theorem Q6_d_0_2 : (Q6 p q 0 2 b c).inD 0 = true := by kernel_rfl
theorem Q6_d_0_3 : (Q6 p q 0 3 b c).inD 0 = true := by kernel_rfl
theorem Q6_d_0_4 : (Q6 p q 0 4 b c).inD 0 = true := by kernel_rfl
theorem Q6_d_0_5 : (Q6 p q 0 5 b c).inD 0 = true := by kernel_rfl
theorem Q6_d_0_6 : (Q6 p q 0 6 b c).inD 0 = true := by kernel_rfl
theorem Q6_d_0_7 : (Q6 p q 0 7 b c).inD 0 = true := by kernel_rfl
theorem Q6_d_1_0 : (Q6 p q 1 0 b c).inD 0 = true := by kernel_rfl
theorem Q6_d_1_1 : (Q6 p q 1 1 b c).inD 0 = true := by kernel_rfl
theorem Q6_d_1_2 : (Q6 p q 1 2 b c).inD 0 = true := by kernel_rfl
theorem Q6_d_1_3 : (Q6 p q 1 3 b c).inD 0 = true := by kernel_rfl
theorem Q6_d_1_4 : (Q6 p q 1 4 b c).inD 0 = true := by kernel_rfl
theorem Q6_d_1_5 : (Q6 p q 1 5 b c).inD 0 = true := by kernel_rfl
theorem Q6_d_1_6 : (Q6 p q 1 6 b c).inD 0 = true := by kernel_rfl
theorem Q6_d_1_7 : (Q6 p q 1 7 b c).inD 0 = true := by kernel_rfl
theorem Q6_d_2_0 : (Q6 p q 2 0 b c).inD 0 = true := by kernel_rfl
theorem Q6_d_2_1 : (Q6 p q 2 1 b c).inD 0 = true := by kernel_rfl
theorem Q6_d_2_2 : (Q6 p q 2 2 b c).inD 0 = true := by kernel_rfl
theorem Q6_d_2_3 : (Q6 p q 2 3 b c).inD 0 = true := by kernel_rfl
theorem Q6_d_2_4 : (Q6 p q 2 4 b c).inD 0 = true := by kernel_rfl
theorem Q6_d_2_5 : (Q6 p q 2 5 b c).inD 0 = true := by kernel_rfl
theorem Q6_d_2_6 : (Q6 p q 2 6 b c).inD 0 = true := by kernel_rfl
theorem Q6_d_2_7 : (Q6 p q 2 7 b c).inD 0 = true := by kernel_rfl
theorem Q6_d_3_0 : (Q6 p q 3 0 b c).inD 0 = true := by kernel_rfl
theorem Q6_d_3_1 : (Q6 p q 3 1 b c).inD 0 = true := by kernel_rfl
theorem Q6_d_3_2 : (Q6 p q 3 2 b c).inD 0 = true := by kernel_rfl
theorem Q6_d_3_3 : (Q6 p q 3 3 b c).inD 0 = true := by kernel_rfl
theorem Q6_d_3_4 : (Q6 p q 3 4 b c).inD 0 = true := by kernel_rfl
theorem Q6_d_3_5 : (Q6 p q 3 5 b c).inD 0 = true := by kernel_rfl
theorem Q6_d_3_6 : (Q6 p q 3 6 b c).inD 0 = true := by kernel_rfl
theorem Q6_d_3_7 : (Q6 p q 3 7 b c).inD 0 = true := by kernel_rfl
theorem Q6_d_4_0 : (Q6 p q 4 0 b c).inD 0 = true := by kernel_rfl
theorem Q6_d_4_1 : (Q6 p q 4 1 b c).inD 0 = true := by kernel_rfl
theorem Q6_d_4_2 : (Q6 p q 4 2 b c).inD 0 = true := by kernel_rfl
theorem Q6_d_4_3 : (Q6 p q 4 3 b c).inD 0 = true := by kernel_rfl
theorem Q6_d_4_4 : (Q6 p q 4 4 b c).inD 0 = true := by kernel_rfl
theorem Q6_d_4_5 : (Q6 p q 4 5 b c).inD 0 = true := by kernel_rfl
theorem Q6_d_4_6 : (Q6 p q 4 6 b c).inD 0 = true := by kernel_rfl
theorem Q6_d_4_7 : (Q6 p q 4 7 b c).inD 0 = true := by kernel_rfl
theorem Q6_d_5_0 : (Q6 p q 5 0 b c).inD 0 = true := by kernel_rfl
theorem Q6_d_5_1 : (Q6 p q 5 1 b c).inD 0 = true := by kernel_rfl
theorem Q6_d_5_2 : (Q6 p q 5 2 b c).inD 0 = true := by kernel_rfl
theorem Q6_d_5_3 : (Q6 p q 5 3 b c).inD 0 = true := by kernel_rfl
theorem Q6_d_5_4 : (Q6 p q 5 4 b c).inD 0 = true := by kernel_rfl
theorem Q6_d_5_5 : (Q6 p q 5 5 b c).inD 0 = true := by kernel_rfl
theorem Q6_d_5_6 : (Q6 p q 5 6 b c).inD 0 = true := by kernel_rfl
theorem Q6_d_5_7 : (Q6 p q 5 7 b c).inD 0 = true := by kernel_rfl
theorem Q6_d_6_0 : (Q6 p q 6 0 b c).inD 0 = true := by kernel_rfl
theorem Q6_d_6_1 : (Q6 p q 6 1 b c).inD 0 = true := by kernel_rfl
theorem Q6_d_6_2 : (Q6 p q 6 2 b c).inD 0 = true := by kernel_rfl
theorem Q6_d_6_3 : (Q6 p q 6 3 b c).inD 0 = true := by kernel_rfl
theorem Q6_d_6_4 : (Q6 p q 6 4 b c).inD 0 = true := by kernel_rfl
theorem Q6_d_6_5 : (Q6 p q 6 5 b c).inD 0 = true := by kernel_rfl
theorem Q6_d_6_6 : (Q6 p q 6 6 b c).inD 0 = true := by kernel_rfl
theorem Q6_d_6_7 : (Q6 p q 6 7 b c).inD 0 = true := by kernel_rfl
theorem Q6_d_7_0 : (Q6 p q 7 0 b c).inD 0 = true := by kernel_rfl
theorem Q6_d_7_1 : (Q6 p q 7 1 b c).inD 0 = true := by kernel_rfl
theorem Q6_d_7_2 : (Q6 p q 7 2 b c).inD 0 = true := by kernel_rfl
theorem Q6_d_7_3 : (Q6 p q 7 3 b c).inD 0 = true := by kernel_rfl
theorem Q6_d_7_4 : (Q6 p q 7 4 b c).inD 0 = true := by kernel_rfl
theorem Q6_d_7_5 : (Q6 p q 7 5 b c).inD 0 = true := by kernel_rfl
theorem Q6_d_7_6 : (Q6 p q 7 6 b c).inD 0 = true := by kernel_rfl
theorem Q6_d_7_7 : (Q6 p q 7 7 b c).inD 0 = true := by kernel_rfl
theorem Q6_d (hi : i < 8) (hj : j < 8) : (Q6 p q i j b c).inD 0 = true := by
  have h8 : i = 0 ∨ i = 1 ∨ i = 2 ∨ i = 3 ∨ i = 4 ∨ i = 5 ∨ i = 6 ∨ i = 7 := by omega
  have h9 : j = 0 ∨ j = 1 ∨ j = 2 ∨ j = 3 ∨ j = 4 ∨ j = 5 ∨ j = 6 ∨ j = 7 := by omega
  rcases h8 with rfl | rfl | rfl | rfl | rfl | rfl | rfl | rfl <;> rcases h9 with rfl | rfl | rfl | rfl | rfl | rfl | rfl | rfl
  · exact Q6_d_0_0 ..
  · exact Q6_d_0_1 ..
  · exact Q6_d_0_2 ..
  · exact Q6_d_0_3 ..
  · exact Q6_d_0_4 ..
  · exact Q6_d_0_5 ..
  · exact Q6_d_0_6 ..
  · exact Q6_d_0_7 ..
  · exact Q6_d_1_0 ..
  · exact Q6_d_1_1 ..
  · exact Q6_d_1_2 ..
  · exact Q6_d_1_3 ..
  · exact Q6_d_1_4 ..
  · exact Q6_d_1_5 ..
  · exact Q6_d_1_6 ..
  · exact Q6_d_1_7 ..
  · exact Q6_d_2_0 ..
  · exact Q6_d_2_1 ..
  · exact Q6_d_2_2 ..
  · exact Q6_d_2_3 ..
  · exact Q6_d_2_4 ..
  · exact Q6_d_2_5 ..
  · exact Q6_d_2_6 ..
  · exact Q6_d_2_7 ..
  · exact Q6_d_3_0 ..
  · exact Q6_d_3_1 ..
  · exact Q6_d_3_2 ..
  · exact Q6_d_3_3 ..
  · exact Q6_d_3_4 ..
  · exact Q6_d_3_5 ..
  · exact Q6_d_3_6 ..
  · exact Q6_d_3_7 ..
  · exact Q6_d_4_0 ..
  · exact Q6_d_4_1 ..
  · exact Q6_d_4_2 ..
  · exact Q6_d_4_3 ..
  · exact Q6_d_4_4 ..
  · exact Q6_d_4_5 ..
  · exact Q6_d_4_6 ..
  · exact Q6_d_4_7 ..
  · exact Q6_d_5_0 ..
  · exact Q6_d_5_1 ..
  · exact Q6_d_5_2 ..
  · exact Q6_d_5_3 ..
  · exact Q6_d_5_4 ..
  · exact Q6_d_5_5 ..
  · exact Q6_d_5_6 ..
  · exact Q6_d_5_7 ..
  · exact Q6_d_6_0 ..
  · exact Q6_d_6_1 ..
  · exact Q6_d_6_2 ..
  · exact Q6_d_6_3 ..
  · exact Q6_d_6_4 ..
  · exact Q6_d_6_5 ..
  · exact Q6_d_6_6 ..
  · exact Q6_d_6_7 ..
  · exact Q6_d_7_0 ..
  · exact Q6_d_7_1 ..
  · exact Q6_d_7_2 ..
  · exact Q6_d_7_3 ..
  · exact Q6_d_7_4 ..
  · exact Q6_d_7_5 ..
  · exact Q6_d_7_6 ..
  · exact Q6_d_7_7 ..
theorem Q6_g_0_0 : ((Q6 p q 0 0 b c).dv 0).gone = false := by kernel_rfl
theorem Q6_g_0_1 : ((Q6 p q 0 1 b c).dv 0).gone = false := by kernel_rfl
theorem Q6_g_0_2 : ((Q6 p q 0 2 b c).dv 0).gone = false := by kernel_rfl
theorem Q6_g_0_3 : ((Q6 p q 0 3 b c).dv 0).gone = false := by kernel_rfl
theorem Q6_g_0_4 : ((Q6 p q 0 4 b c).dv 0).gone = false := by kernel_rfl
theorem Q6_g_0_5 : ((Q6 p q 0 5 b c).dv 0).gone = false := by kernel_rfl
theorem Q6_g_0_6 : ((Q6 p q 0 6 b c).dv 0).gone = false := by kernel_rfl
theorem Q6_g_0_7 : ((Q6 p q 0 7 b c).dv 0).gone = false := by kernel_rfl
theorem Q6_g_1_0 : ((Q6 p q 1 0 b c).dv 0).gone = false := by kernel_rfl
theorem Q6_g_1_1 : ((Q6 p q 1 1 b c).dv 0).gone = false := by kernel_rfl
theorem Q6_g_1_2 : ((Q6 p q 1 2 b c).dv 0).gone = false := by kernel_rfl
theorem Q6_g_1_3 : ((Q6 p q 1 3 b c).dv 0).gone = false := by kernel_rfl
theorem Q6_g_1_4 : ((Q6 p q 1 4 b c).dv 0).gone = false := by kernel_rfl
theorem Q6_g_1_5 : ((Q6 p q 1 5 b c).dv 0).gone = false := by kernel_rfl
theorem Q6_g_1_6 : ((Q6 p q 1 6 b c).dv 0).gone = false := by kernel_rfl
theorem Q6_g_1_7 : ((Q6 p q 1 7 b c).dv 0).gone = false := by kernel_rfl
theorem Q6_g_2_0 : ((Q6 p q 2 0 b c).dv 0).gone = false := by kernel_rfl
theorem Q6_g_2_1 : ((Q6 p q 2 1 b c).dv 0).gone = false := by kernel_rfl
theorem Q6_g_2_2 : ((Q6 p q 2 2 b c).dv 0).gone = false := by kernel_rfl
theorem Q6_g_2_3 : ((Q6 p q 2 3 b c).dv 0).gone = false := by kernel_rfl
theorem Q6_g_2_4 : ((Q6 p q 2 4 b c).dv 0).gone = false := by kernel_rfl
theorem Q6_g_2_5 : ((Q6 p q 2 5 b c).dv 0).gone = false := by kernel_rfl
theorem Q6_g_2_6 : ((Q6 p q 2 6 b c).dv 0).gone = false := by kernel_rfl
theorem Q6_g_2_7 : ((Q6 p q 2 7 b c).dv 0).gone = false := by kernel_rfl
theorem Q6_g_3_0 : ((Q6 p q 3 0 b c).dv 0).gone = false := by kernel_rfl
theorem Q6_g_3_1 : ((Q6 p q 3 1 b c).dv 0).gone = false := by kernel_rfl
theorem Q6_g_3_2 : ((Q6 p q 3 2 b c).dv 0).gone = false := by kernel_rfl
theorem Q6_g_3_3 : ((Q6 p q 3 3 b c).dv 0).gone = false := by kernel_rfl
theorem Q6_g_3_4 : ((Q6 p q 3 4 b c).dv 0).gone = false := by kernel_rfl
theorem Q6_g_3_5 : ((Q6 p q 3 5 b c).dv 0).gone = false := by kernel_rfl
theorem Q6_g_3_6 : ((Q6 p q 3 6 b c).dv 0).gone = false := by kernel_rfl
theorem Q6_g_3_7 : ((Q6 p q 3 7 b c).dv 0).gone = false := by kernel_rfl
theorem Q6_g_4_0 : ((Q6 p q 4 0 b c).dv 0).gone = false := by kernel_rfl
theorem Q6_g_4_1 : ((Q6 p q 4 1 b c).dv 0).gone = false := by kernel_rfl
theorem Q6_g_4_2 : ((Q6 p q 4 2 b c).dv 0).gone = false := by kernel_rfl
theorem Q6_g_4_3 : ((Q6 p q 4 3 b c).dv 0).gone = false := by kernel_rfl
theorem Q6_g_4_4 : ((Q6 p q 4 4 b c).dv 0).gone = false := by kernel_rfl
theorem Q6_g_4_5 : ((Q6 p q 4 5 b c).dv 0).gone = false := by kernel_rfl
theorem Q6_g_4_6 : ((Q6 p q 4 6 b c).dv 0).gone = false := by kernel_rfl
theorem Q6_g_4_7 : ((Q6 p q 4 7 b c).dv 0).gone = false := by kernel_rfl
theorem Q6_g_5_0 : ((Q6 p q 5 0 b c).dv 0).gone = false := by kernel_rfl
theorem Q6_g_5_1 : ((Q6 p q 5 1 b c).dv 0).gone = false := by kernel_rfl
theorem Q6_g_5_2 : ((Q6 p q 5 2 b c).dv 0).gone = false := by kernel_rfl
theorem Q6_g_5_3 : ((Q6 p q 5 3 b c).dv 0).gone = false := by kernel_rfl
theorem Q6_g_5_4 : ((Q6 p q 5 4 b c).dv 0).gone = false := by kernel_rfl
theorem Q6_g_5_5 : ((Q6 p q 5 5 b c).dv 0).gone = false := by kernel_rfl
theorem Q6_g_5_6 : ((Q6 p q 5 6 b c).dv 0).gone = false := by kernel_rfl
theorem Q6_g_5_7 : ((Q6 p q 5 7 b c).dv 0).gone = false := by kernel_rfl
theorem Q6_g_6_0 : ((Q6 p q 6 0 b c).dv 0).gone = false := by kernel_rfl
theorem Q6_g_6_1 : ((Q6 p q 6 1 b c).dv 0).gone = false := by kernel_rfl
theorem Q6_g_6_2 : ((Q6 p q 6 2 b c).dv 0).gone = false := by kernel_rfl
theorem Q6_g_6_3 : ((Q6 p q 6 3 b c).dv 0).gone = false := by kernel_rfl
theorem Q6_g_6_4 : ((Q6 p q 6 4 b c).dv 0).gone = false := by kernel_rfl
theorem Q6_g_6_5 : ((Q6 p q 6 5 b c).dv 0).gone = false := by kernel_rfl
theorem Q6_g_6_6 : ((Q6 p q 6 6 b c).dv 0).gone = false := by kernel_rfl
theorem Q6_g_6_7 : ((Q6 p q 6 7 b c).dv 0).gone = false := by kernel_rfl
theorem Q6_g_7_0 : ((Q6 p q 7 0 b c).dv 0).gone = false := by kernel_rfl
theorem Q6_g_7_1 : ((Q6 p q 7 1 b c).dv 0).gone = false := by kernel_rfl
theorem Q6_g_7_2 : ((Q6 p q 7 2 b c).dv 0).gone = false := by kernel_rfl
theorem Q6_g_7_3 : ((Q6 p q 7 3 b c).dv 0).gone = false := by kernel_rfl
theorem Q6_g_7_4 : ((Q6 p q 7 4 b c).dv 0).gone = false := by kernel_rfl
theorem Q6_g_7_5 : ((Q6 p q 7 5 b c).dv 0).gone = false := by kernel_rfl
theorem Q6_g_7_6 : ((Q6 p q 7 6 b c).dv 0).gone = false := by kernel_rfl
theorem Q6_g_7_7 : ((Q6 p q 7 7 b c).dv 0).gone = false := by kernel_rfl
theorem Q6_g (hi : i < 8) (hj : j < 8) : ((Q6 p q i j b c).dv 0).gone = false := by
  have h8 : i = 0 ∨ i = 1 ∨ i = 2 ∨ i = 3 ∨ i = 4 ∨ i = 5 ∨ i = 6 ∨ i = 7 := by omega
  have h9 : j = 0 ∨ j = 1 ∨ j = 2 ∨ j = 3 ∨ j = 4 ∨ j = 5 ∨ j = 6 ∨ j = 7 := by omega
  rcases h8 with rfl | rfl | rfl | rfl | rfl | rfl | rfl | rfl <;> rcases h9 with rfl | rfl | rfl | rfl | rfl | rfl | rfl | rfl
  · exact Q6_g_0_0 ..
  · exact Q6_g_0_1 ..
  · exact Q6_g_0_2 ..
  · exact Q6_g_0_3 ..
  · exact Q6_g_0_4 ..
  · exact Q6_g_0_5 ..
  · exact Q6_g_0_6 ..
  · exact Q6_g_0_7 ..
  · exact Q6_g_1_0 ..
  · exact Q6_g_1_1 ..
  · exact Q6_g_1_2 ..
  · exact Q6_g_1_3 ..
  · exact Q6_g_1_4 ..
  · exact Q6_g_1_5 ..
  · exact Q6_g_1_6 ..
  · exact Q6_g_1_7 ..
  · exact Q6_g_2_0 ..
  · exact Q6_g_2_1 ..
  · exact Q6_g_2_2 ..
  · exact Q6_g_2_3 ..
  · exact Q6_g_2_4 ..
  · exact Q6_g_2_5 ..
  · exact Q6_g_2_6 ..
  · exact Q6_g_2_7 ..
  · exact Q6_g_3_0 ..
  · exact Q6_g_3_1 ..
  · exact Q6_g_3_2 ..
  · exact Q6_g_3_3 ..
  · exact Q6_g_3_4 ..
  · exact Q6_g_3_5 ..
  · exact Q6_g_3_6 ..
  · exact Q6_g_3_7 ..
  · exact Q6_g_4_0 ..
  · exact Q6_g_4_1 ..
  · exact Q6_g_4_2 ..
  · exact Q6_g_4_3 ..
  · exact Q6_g_4_4 ..
  · exact Q6_g_4_5 ..
  · exact Q6_g_4_6 ..
  · exact Q6_g_4_7 ..
  · exact Q6_g_5_0 ..
  · exact Q6_g_5_1 ..
  · exact Q6_g_5_2 ..
  · exact Q6_g_5_3 ..
  · exact Q6_g_5_4 ..
  · exact Q6_g_5_5 ..
  · exact Q6_g_5_6 ..
  · exact Q6_g_5_7 ..
  · exact Q6_g_6_0 ..
  · exact Q6_g_6_1 ..
  · exact Q6_g_6_2 ..
  · exact Q6_g_6_3 ..
  · exact Q6_g_6_4 ..
  · exact Q6_g_6_5 ..
  · exact Q6_g_6_6 ..
  · exact Q6_g_6_7 ..
  · exact Q6_g_7_0 ..
  · exact Q6_g_7_1 ..
  · exact Q6_g_7_2 ..
  · exact Q6_g_7_3 ..
  · exact Q6_g_7_4 ..
  · exact Q6_g_7_5 ..
  · exact Q6_g_7_6 ..
  · exact Q6_g_7_7 ..
theorem Q6_o_0_0 : (Q6 p q 0 0 b c).out = false := by kernel_rfl
theorem Q6_o_0_1 : (Q6 p q 0 1 b c).out = false := by kernel_rfl
theorem Q6_o_0_2 : (Q6 p q 0 2 b c).out = false := by kernel_rfl
theorem Q6_o_0_3 : (Q6 p q 0 3 b c).out = false := by kernel_rfl
theorem Q6_o_0_4 : (Q6 p q 0 4 b c).out = false := by kernel_rfl
theorem Q6_o_0_5 : (Q6 p q 0 5 b c).out = false := by kernel_rfl
theorem Q6_o_0_6 : (Q6 p q 0 6 b c).out = false := by kernel_rfl
theorem Q6_o_0_7 : (Q6 p q 0 7 b c).out = false := by kernel_rfl
theorem Q6_o_1_0 : (Q6 p q 1 0 b c).out = false := by kernel_rfl
theorem Q6_o_1_1 : (Q6 p q 1 1 b c).out = false := by kernel_rfl
theorem Q6_o_1_2 : (Q6 p q 1 2 b c).out = false := by kernel_rfl
theorem Q6_o_1_3 : (Q6 p q 1 3 b c).out = false := by kernel_rfl
theorem Q6_o_1_4 : (Q6 p q 1 4 b c).out = false := by kernel_rfl
theorem Q6_o_1_5 : (Q6 p q 1 5 b c).out = false := by kernel_rfl
theorem Q6_o_1_6 : (Q6 p q 1 6 b c).out = false := by kernel_rfl
theorem Q6_o_1_7 : (Q6 p q 1 7 b c).out = false := by kernel_rfl
theorem Q6_o_2_0 : (Q6 p q 2 0 b c).out = false := by kernel_rfl
theorem Q6_o_2_1 : (Q6 p q 2 1 b c).out = false := by kernel_rfl
theorem Q6_o_2_2 : (Q6 p q 2 2 b c).out = false := by kernel_rfl
theorem Q6_o_2_3 : (Q6 p q 2 3 b c).out = false := by kernel_rfl
theorem Q6_o_2_4 : (Q6 p q 2 4 b c).out = false := by kernel_rfl
theorem Q6_o_2_5 : (Q6 p q 2 5 b c).out = false := by kernel_rfl
theorem Q6_o_2_6 : (Q6 p q 2 6 b c).out = false := by kernel_rfl
theorem Q6_o_2_7 : (Q6 p q 2 7 b c).out = false := by kernel_rfl
theorem Q6_o_3_0 : (Q6 p q 3 0 b c).out = false := by kernel_rfl
theorem Q6_o_3_1 : (Q6 p q 3 1 b c).out = false := by kernel_rfl
theorem Q6_o_3_2 : (Q6 p q 3 2 b c).out = false := by kernel_rfl
theorem Q6_o_3_3 : (Q6 p q 3 3 b c).out = false := by kernel_rfl
theorem Q6_o_3_4 : (Q6 p q 3 4 b c).out = false := by kernel_rfl
theorem Q6_o_3_5 : (Q6 p q 3 5 b c).out = false := by kernel_rfl
theorem Q6_o_3_6 : (Q6 p q 3 6 b c).out = false := by kernel_rfl
theorem Q6_o_3_7 : (Q6 p q 3 7 b c).out = false := by kernel_rfl
theorem Q6_o_4_0 : (Q6 p q 4 0 b c).out = false := by kernel_rfl
theorem Q6_o_4_1 : (Q6 p q 4 1 b c).out = false := by kernel_rfl
theorem Q6_o_4_2 : (Q6 p q 4 2 b c).out = false := by kernel_rfl
theorem Q6_o_4_3 : (Q6 p q 4 3 b c).out = false := by kernel_rfl
theorem Q6_o_4_4 : (Q6 p q 4 4 b c).out = false := by kernel_rfl
theorem Q6_o_4_5 : (Q6 p q 4 5 b c).out = false := by kernel_rfl
theorem Q6_o_4_6 : (Q6 p q 4 6 b c).out = false := by kernel_rfl
theorem Q6_o_4_7 : (Q6 p q 4 7 b c).out = false := by kernel_rfl
theorem Q6_o_5_0 : (Q6 p q 5 0 b c).out = false := by kernel_rfl
theorem Q6_o_5_1 : (Q6 p q 5 1 b c).out = false := by kernel_rfl
theorem Q6_o_5_2 : (Q6 p q 5 2 b c).out = false := by kernel_rfl
theorem Q6_o_5_3 : (Q6 p q 5 3 b c).out = false := by kernel_rfl
theorem Q6_o_5_4 : (Q6 p q 5 4 b c).out = false := by kernel_rfl
theorem Q6_o_5_5 : (Q6 p q 5 5 b c).out = false := by kernel_rfl
theorem Q6_o_5_6 : (Q6 p q 5 6 b c).out = false := by kernel_rfl
theorem Q6_o_5_7 : (Q6 p q 5 7 b c).out = false := by kernel_rfl
theorem Q6_o_6_0 : (Q6 p q 6 0 b c).out = false := by kernel_rfl
theorem Q6_o_6_1 : (Q6 p q 6 1 b c).out = false := by kernel_rfl
theorem Q6_o_6_2 : (Q6 p q 6 2 b c).out = false := by kernel_rfl
theorem Q6_o_6_3 : (Q6 p q 6 3 b c).out = false := by kernel_rfl
theorem Q6_o_6_4 : (Q6 p q 6 4 b c).out = false := by kernel_rfl
theorem Q6_o_6_5 : (Q6 p q 6 5 b c).out = false := by kernel_rfl
theorem Q6_o_6_6 : (Q6 p q 6 6 b c).out = false := by kernel_rfl
theorem Q6_o_6_7 : (Q6 p q 6 7 b c).out = false := by kernel_rfl
theorem Q6_o_7_0 : (Q6 p q 7 0 b c).out = false := by kernel_rfl
theorem Q6_o_7_1 : (Q6 p q 7 1 b c).out = false := by kernel_rfl
theorem Q6_o_7_2 : (Q6 p q 7 2 b c).out = false := by kernel_rfl
theorem Q6_o_7_3 : (Q6 p q 7 3 b c).out = false := by kernel_rfl
theorem Q6_o_7_4 : (Q6 p q 7 4 b c).out = false := by kernel_rfl
theorem Q6_o_7_5 : (Q6 p q 7 5 b c).out = false := by kernel_rfl
theorem Q6_o_7_6 : (Q6 p q 7 6 b c).out = false := by kernel_rfl
theorem Q6_o_7_7 : (Q6 p q 7 7 b c).out = false := by kernel_rfl
theorem Q6_o (hi : i < 8) (hj : j < 8) : (Q6 p q i j b c).out = false := by
  have h8 : i = 0 ∨ i = 1 ∨ i = 2 ∨ i = 3 ∨ i = 4 ∨ i = 5 ∨ i = 6 ∨ i = 7 := by omega
  have h9 : j = 0 ∨ j = 1 ∨ j = 2 ∨ j = 3 ∨ j = 4 ∨ j = 5 ∨ j = 6 ∨ j = 7 := by omega
  rcases h8 with rfl | rfl | rfl | rfl | rfl | rfl | rfl | rfl <;> rcases h9 with rfl | rfl | rfl | rfl | rfl | rfl | rfl | rfl
  · exact Q6_o_0_0 ..
  · exact Q6_o_0_1 ..
  · exact Q6_o_0_2 ..
  · exact Q6_o_0_3 ..
  · exact Q6_o_0_4 ..
  · exact Q6_o_0_5 ..
  · exact Q6_o_0_6 ..
  · exact Q6_o_0_7 ..
  · exact Q6_o_1_0 ..
  · exact Q6_o_1_1 ..
  · exact Q6_o_1_2 ..
  · exact Q6_o_1_3 ..
  · exact Q6_o_1_4 ..
  · exact Q6_o_1_5 ..
  · exact Q6_o_1_6 ..
  · exact Q6_o_1_7 ..
  · exact Q6_o_2_0 ..
  · exact Q6_o_2_1 ..
  · exact Q6_o_2_2 ..
  · exact Q6_o_2_3 ..
  · exact Q6_o_2_4 ..
  · exact Q6_o_2_5 ..
  · exact Q6_o_2_6 ..
  · exact Q6_o_2_7 ..
  · exact Q6_o_3_0 ..
  · exact Q6_o_3_1 ..
  · exact Q6_o_3_2 ..
  · exact Q6_o_3_3 ..
  · exact Q6_o_3_4 ..
  · exact Q6_o_3_5 ..
  · exact Q6_o_3_6 ..
  · exact Q6_o_3_7 ..
  · exact Q6_o_4_0 ..
  · exact Q6_o_4_1 ..
  · exact Q6_o_4_2 ..
  · exact Q6_o_4_3 ..
  · exact Q6_o_4_4 ..
  · exact Q6_o_4_5 ..
  · exact Q6_o_4_6 ..
  · exact Q6_o_4_7 ..
  · exact Q6_o_5_0 ..
  · exact Q6_o_5_1 ..
  · exact Q6_o_5_2 ..
  · exact Q6_o_5_3 ..
  · exact Q6_o_5_4 ..
  · exact Q6_o_5_5 ..
  · exact Q6_o_5_6 ..
  · exact Q6_o_5_7 ..
  · exact Q6_o_6_0 ..
  · exact Q6_o_6_1 ..
  · exact Q6_o_6_2 ..
  · exact Q6_o_6_3 ..
  · exact Q6_o_6_4 ..
  · exact Q6_o_6_5 ..
  · exact Q6_o_6_6 ..
  · exact Q6_o_6_7 ..
  · exact Q6_o_7_0 ..
  · exact Q6_o_7_1 ..
  · exact Q6_o_7_2 ..
  · exact Q6_o_7_3 ..
  · exact Q6_o_7_4 ..
  · exact Q6_o_7_5 ..
  · exact Q6_o_7_6 ..
  · exact Q6_o_7_7 ..
theorem Q6_i_0_0 : (Q6 p q 0 0 b c).inS 0 ((0 : Nat) : Int) = true := by kernel_rfl
theorem Q6_i_0_1 : (Q6 p q 0 1 b c).inS 0 ((0 : Nat) : Int) = true := by kernel_rfl
theorem Q6_i_0_2 : (Q6 p q 0 2 b c).inS 0 ((0 : Nat) : Int) = true := by kernel_rfl
theorem Q6_i_0_3 : (Q6 p q 0 3 b c).inS 0 ((0 : Nat) : Int) = true := by kernel_rfl
theorem Q6_i_0_4 : (Q6 p q 0 4 b c).inS 0 ((0 : Nat) : Int) = true := by kernel_rfl
theorem Q6_i_0_5 : (Q6 p q 0 5 b c).inS 0 ((0 : Nat) : Int) = true := by kernel_rfl
theorem Q6_i_0_6 : (Q6 p q 0 6 b c).inS 0 ((0 : Nat) : Int) = true := by kernel_rfl
theorem Q6_i_0_7 : (Q6 p q 0 7 b c).inS 0 ((0 : Nat) : Int) = true := by kernel_rfl
theorem Q6_i_1_0 : (Q6 p q 1 0 b c).inS 0 ((1 : Nat) : Int) = true := by kernel_rfl
theorem Q6_i_1_1 : (Q6 p q 1 1 b c).inS 0 ((1 : Nat) : Int) = true := by kernel_rfl
theorem Q6_i_1_2 : (Q6 p q 1 2 b c).inS 0 ((1 : Nat) : Int) = true := by kernel_rfl
theorem Q6_i_1_3 : (Q6 p q 1 3 b c).inS 0 ((1 : Nat) : Int) = true := by kernel_rfl
theorem Q6_i_1_4 : (Q6 p q 1 4 b c).inS 0 ((1 : Nat) : Int) = true := by kernel_rfl
theorem Q6_i_1_5 : (Q6 p q 1 5 b c).inS 0 ((1 : Nat) : Int) = true := by kernel_rfl
theorem Q6_i_1_6 : (Q6 p q 1 6 b c).inS 0 ((1 : Nat) : Int) = true := by kernel_rfl
theorem Q6_i_1_7 : (Q6 p q 1 7 b c).inS 0 ((1 : Nat) : Int) = true := by kernel_rfl
theorem Q6_i_2_0 : (Q6 p q 2 0 b c).inS 0 ((2 : Nat) : Int) = true := by kernel_rfl
theorem Q6_i_2_1 : (Q6 p q 2 1 b c).inS 0 ((2 : Nat) : Int) = true := by kernel_rfl
theorem Q6_i_2_2 : (Q6 p q 2 2 b c).inS 0 ((2 : Nat) : Int) = true := by kernel_rfl
theorem Q6_i_2_3 : (Q6 p q 2 3 b c).inS 0 ((2 : Nat) : Int) = true := by kernel_rfl
theorem Q6_i_2_4 : (Q6 p q 2 4 b c).inS 0 ((2 : Nat) : Int) = true := by kernel_rfl
theorem Q6_i_2_5 : (Q6 p q 2 5 b c).inS 0 ((2 : Nat) : Int) = true := by kernel_rfl
theorem Q6_i_2_6 : (Q6 p q 2 6 b c).inS 0 ((2 : Nat) : Int) = true := by kernel_rfl
theorem Q6_i_2_7 : (Q6 p q 2 7 b c).inS 0 ((2 : Nat) : Int) = true := by kernel_rfl
theorem Q6_i_3_0 : (Q6 p q 3 0 b c).inS 0 ((3 : Nat) : Int) = true := by kernel_rfl
theorem Q6_i_3_1 : (Q6 p q 3 1 b c).inS 0 ((3 : Nat) : Int) = true := by kernel_rfl
theorem Q6_i_3_2 : (Q6 p q 3 2 b c).inS 0 ((3 : Nat) : Int) = true := by kernel_rfl
theorem Q6_i_3_3 : (Q6 p q 3 3 b c).inS 0 ((3 : Nat) : Int) = true := by kernel_rfl
theorem Q6_i_3_4 : (Q6 p q 3 4 b c).inS 0 ((3 : Nat) : Int) = true := by kernel_rfl
theorem Q6_i_3_5 : (Q6 p q 3 5 b c).inS 0 ((3 : Nat) : Int) = true := by kernel_rfl
theorem Q6_i_3_6 : (Q6 p q 3 6 b c).inS 0 ((3 : Nat) : Int) = true := by kernel_rfl
theorem Q6_i_3_7 : (Q6 p q 3 7 b c).inS 0 ((3 : Nat) : Int) = true := by kernel_rfl
theorem Q6_i_4_0 : (Q6 p q 4 0 b c).inS 0 ((4 : Nat) : Int) = true := by kernel_rfl
theorem Q6_i_4_1 : (Q6 p q 4 1 b c).inS 0 ((4 : Nat) : Int) = true := by kernel_rfl
theorem Q6_i_4_2 : (Q6 p q 4 2 b c).inS 0 ((4 : Nat) : Int) = true := by kernel_rfl
theorem Q6_i_4_3 : (Q6 p q 4 3 b c).inS 0 ((4 : Nat) : Int) = true := by kernel_rfl
theorem Q6_i_4_4 : (Q6 p q 4 4 b c).inS 0 ((4 : Nat) : Int) = true := by kernel_rfl
theorem Q6_i_4_5 : (Q6 p q 4 5 b c).inS 0 ((4 : Nat) : Int) = true := by kernel_rfl
theorem Q6_i_4_6 : (Q6 p q 4 6 b c).inS 0 ((4 : Nat) : Int) = true := by kernel_rfl
theorem Q6_i_4_7 : (Q6 p q 4 7 b c).inS 0 ((4 : Nat) : Int) = true := by kernel_rfl
theorem Q6_i_5_0 : (Q6 p q 5 0 b c).inS 0 ((5 : Nat) : Int) = true := by kernel_rfl
theorem Q6_i_5_1 : (Q6 p q 5 1 b c).inS 0 ((5 : Nat) : Int) = true := by kernel_rfl
theorem Q6_i_5_2 : (Q6 p q 5 2 b c).inS 0 ((5 : Nat) : Int) = true := by kernel_rfl
theorem Q6_i_5_3 : (Q6 p q 5 3 b c).inS 0 ((5 : Nat) : Int) = true := by kernel_rfl
theorem Q6_i_5_4 : (Q6 p q 5 4 b c).inS 0 ((5 : Nat) : Int) = true := by kernel_rfl
theorem Q6_i_5_5 : (Q6 p q 5 5 b c).inS 0 ((5 : Nat) : Int) = true := by kernel_rfl
theorem Q6_i_5_6 : (Q6 p q 5 6 b c).inS 0 ((5 : Nat) : Int) = true := by kernel_rfl
theorem Q6_i_5_7 : (Q6 p q 5 7 b c).inS 0 ((5 : Nat) : Int) = true := by kernel_rfl
theorem Q6_i_6_0 : (Q6 p q 6 0 b c).inS 0 ((6 : Nat) : Int) = true := by kernel_rfl
theorem Q6_i_6_1 : (Q6 p q 6 1 b c).inS 0 ((6 : Nat) : Int) = true := by kernel_rfl
theorem Q6_i_6_2 : (Q6 p q 6 2 b c).inS 0 ((6 : Nat) : Int) = true := by kernel_rfl
theorem Q6_i_6_3 : (Q6 p q 6 3 b c).inS 0 ((6 : Nat) : Int) = true := by kernel_rfl
theorem Q6_i_6_4 : (Q6 p q 6 4 b c).inS 0 ((6 : Nat) : Int) = true := by kernel_rfl
theorem Q6_i_6_5 : (Q6 p q 6 5 b c).inS 0 ((6 : Nat) : Int) = true := by kernel_rfl
theorem Q6_i_6_6 : (Q6 p q 6 6 b c).inS 0 ((6 : Nat) : Int) = true := by kernel_rfl
theorem Q6_i_6_7 : (Q6 p q 6 7 b c).inS 0 ((6 : Nat) : Int) = true := by kernel_rfl
theorem Q6_i_7_0 : (Q6 p q 7 0 b c).inS 0 ((7 : Nat) : Int) = true := by kernel_rfl
theorem Q6_i_7_1 : (Q6 p q 7 1 b c).inS 0 ((7 : Nat) : Int) = true := by kernel_rfl
theorem Q6_i_7_2 : (Q6 p q 7 2 b c).inS 0 ((7 : Nat) : Int) = true := by kernel_rfl
theorem Q6_i_7_3 : (Q6 p q 7 3 b c).inS 0 ((7 : Nat) : Int) = true := by kernel_rfl
theorem Q6_i_7_4 : (Q6 p q 7 4 b c).inS 0 ((7 : Nat) : Int) = true := by kernel_rfl
theorem Q6_i_7_5 : (Q6 p q 7 5 b c).inS 0 ((7 : Nat) : Int) = true := by kernel_rfl
theorem Q6_i_7_6 : (Q6 p q 7 6 b c).inS 0 ((7 : Nat) : Int) = true := by kernel_rfl
theorem Q6_i_7_7 : (Q6 p q 7 7 b c).inS 0 ((7 : Nat) : Int) = true := by kernel_rfl
theorem Q6_i (hi : i < 8) (hj : j < 8) : (Q6 p q i j b c).inS 0 (i : Int) = true := by
  have h8 : i = 0 ∨ i = 1 ∨ i = 2 ∨ i = 3 ∨ i = 4 ∨ i = 5 ∨ i = 6 ∨ i = 7 := by omega
  have h9 : j = 0 ∨ j = 1 ∨ j = 2 ∨ j = 3 ∨ j = 4 ∨ j = 5 ∨ j = 6 ∨ j = 7 := by omega
  rcases h8 with rfl | rfl | rfl | rfl | rfl | rfl | rfl | rfl <;> rcases h9 with rfl | rfl | rfl | rfl | rfl | rfl | rfl | rfl
  · exact Q6_i_0_0 ..
  · exact Q6_i_0_1 ..
  · exact Q6_i_0_2 ..
  · exact Q6_i_0_3 ..
  · exact Q6_i_0_4 ..
  · exact Q6_i_0_5 ..
  · exact Q6_i_0_6 ..
  · exact Q6_i_0_7 ..
  · exact Q6_i_1_0 ..
  · exact Q6_i_1_1 ..
  · exact Q6_i_1_2 ..
  · exact Q6_i_1_3 ..
  · exact Q6_i_1_4 ..
  · exact Q6_i_1_5 ..
  · exact Q6_i_1_6 ..
  · exact Q6_i_1_7 ..
  · exact Q6_i_2_0 ..
  · exact Q6_i_2_1 ..
  · exact Q6_i_2_2 ..
  · exact Q6_i_2_3 ..
  · exact Q6_i_2_4 ..
  · exact Q6_i_2_5 ..
  · exact Q6_i_2_6 ..
  · exact Q6_i_2_7 ..
  · exact Q6_i_3_0 ..
  · exact Q6_i_3_1 ..
  · exact Q6_i_3_2 ..
  · exact Q6_i_3_3 ..
  · exact Q6_i_3_4 ..
  · exact Q6_i_3_5 ..
  · exact Q6_i_3_6 ..
  · exact Q6_i_3_7 ..
  · exact Q6_i_4_0 ..
  · exact Q6_i_4_1 ..
  · exact Q6_i_4_2 ..
  · exact Q6_i_4_3 ..
  · exact Q6_i_4_4 ..
  · exact Q6_i_4_5 ..
  · exact Q6_i_4_6 ..
  · exact Q6_i_4_7 ..
  · exact Q6_i_5_0 ..
  · exact Q6_i_5_1 ..
  · exact Q6_i_5_2 ..
  · exact Q6_i_5_3 ..
  · exact Q6_i_5_4 ..
  · exact Q6_i_5_5 ..
  · exact Q6_i_5_6 ..
  · exact Q6_i_5_7 ..
  · exact Q6_i_6_0 ..
  · exact Q6_i_6_1 ..
  · exact Q6_i_6_2 ..
  · exact Q6_i_6_3 ..
  · exact Q6_i_6_4 ..
  · exact Q6_i_6_5 ..
  · exact Q6_i_6_6 ..
  · exact Q6_i_6_7 ..
  · exact Q6_i_7_0 ..
  · exact Q6_i_7_1 ..
  · exact Q6_i_7_2 ..
  · exact Q6_i_7_3 ..
  · exact Q6_i_7_4 ..
  · exact Q6_i_7_5 ..
  · exact Q6_i_7_6 ..
  · exact Q6_i_7_7 ..
theorem Q6_j_0_0 : (Q6 p q 0 0 b c).inS 0 ((0 : Nat) : Int) = true := by kernel_rfl
theorem Q6_j_0_1 : (Q6 p q 0 1 b c).inS 0 ((1 : Nat) : Int) = true := by kernel_rfl
theorem Q6_j_0_2 : (Q6 p q 0 2 b c).inS 0 ((2 : Nat) : Int) = true := by kernel_rfl
theorem Q6_j_0_3 : (Q6 p q 0 3 b c).inS 0 ((3 : Nat) : Int) = true := by kernel_rfl
theorem Q6_j_0_4 : (Q6 p q 0 4 b c).inS 0 ((4 : Nat) : Int) = true := by kernel_rfl
theorem Q6_j_0_5 : (Q6 p q 0 5 b c).inS 0 ((5 : Nat) : Int) = true := by kernel_rfl
theorem Q6_j_0_6 : (Q6 p q 0 6 b c).inS 0 ((6 : Nat) : Int) = true := by kernel_rfl
theorem Q6_j_0_7 : (Q6 p q 0 7 b c).inS 0 ((7 : Nat) : Int) = true := by kernel_rfl
theorem Q6_j_1_0 : (Q6 p q 1 0 b c).inS 0 ((0 : Nat) : Int) = true := by kernel_rfl
theorem Q6_j_1_1 : (Q6 p q 1 1 b c).inS 0 ((1 : Nat) : Int) = true := by kernel_rfl
theorem Q6_j_1_2 : (Q6 p q 1 2 b c).inS 0 ((2 : Nat) : Int) = true := by kernel_rfl
theorem Q6_j_1_3 : (Q6 p q 1 3 b c).inS 0 ((3 : Nat) : Int) = true := by kernel_rfl
theorem Q6_j_1_4 : (Q6 p q 1 4 b c).inS 0 ((4 : Nat) : Int) = true := by kernel_rfl
theorem Q6_j_1_5 : (Q6 p q 1 5 b c).inS 0 ((5 : Nat) : Int) = true := by kernel_rfl
theorem Q6_j_1_6 : (Q6 p q 1 6 b c).inS 0 ((6 : Nat) : Int) = true := by kernel_rfl
theorem Q6_j_1_7 : (Q6 p q 1 7 b c).inS 0 ((7 : Nat) : Int) = true := by kernel_rfl
theorem Q6_j_2_0 : (Q6 p q 2 0 b c).inS 0 ((0 : Nat) : Int) = true := by kernel_rfl
theorem Q6_j_2_1 : (Q6 p q 2 1 b c).inS 0 ((1 : Nat) : Int) = true := by kernel_rfl
theorem Q6_j_2_2 : (Q6 p q 2 2 b c).inS 0 ((2 : Nat) : Int) = true := by kernel_rfl
theorem Q6_j_2_3 : (Q6 p q 2 3 b c).inS 0 ((3 : Nat) : Int) = true := by kernel_rfl
theorem Q6_j_2_4 : (Q6 p q 2 4 b c).inS 0 ((4 : Nat) : Int) = true := by kernel_rfl
theorem Q6_j_2_5 : (Q6 p q 2 5 b c).inS 0 ((5 : Nat) : Int) = true := by kernel_rfl
theorem Q6_j_2_6 : (Q6 p q 2 6 b c).inS 0 ((6 : Nat) : Int) = true := by kernel_rfl
theorem Q6_j_2_7 : (Q6 p q 2 7 b c).inS 0 ((7 : Nat) : Int) = true := by kernel_rfl
theorem Q6_j_3_0 : (Q6 p q 3 0 b c).inS 0 ((0 : Nat) : Int) = true := by kernel_rfl
theorem Q6_j_3_1 : (Q6 p q 3 1 b c).inS 0 ((1 : Nat) : Int) = true := by kernel_rfl
theorem Q6_j_3_2 : (Q6 p q 3 2 b c).inS 0 ((2 : Nat) : Int) = true := by kernel_rfl
theorem Q6_j_3_3 : (Q6 p q 3 3 b c).inS 0 ((3 : Nat) : Int) = true := by kernel_rfl
theorem Q6_j_3_4 : (Q6 p q 3 4 b c).inS 0 ((4 : Nat) : Int) = true := by kernel_rfl
theorem Q6_j_3_5 : (Q6 p q 3 5 b c).inS 0 ((5 : Nat) : Int) = true := by kernel_rfl
theorem Q6_j_3_6 : (Q6 p q 3 6 b c).inS 0 ((6 : Nat) : Int) = true := by kernel_rfl
theorem Q6_j_3_7 : (Q6 p q 3 7 b c).inS 0 ((7 : Nat) : Int) = true := by kernel_rfl
theorem Q6_j_4_0 : (Q6 p q 4 0 b c).inS 0 ((0 : Nat) : Int) = true := by kernel_rfl
theorem Q6_j_4_1 : (Q6 p q 4 1 b c).inS 0 ((1 : Nat) : Int) = true := by kernel_rfl
theorem Q6_j_4_2 : (Q6 p q 4 2 b c).inS 0 ((2 : Nat) : Int) = true := by kernel_rfl
theorem Q6_j_4_3 : (Q6 p q 4 3 b c).inS 0 ((3 : Nat) : Int) = true := by kernel_rfl
theorem Q6_j_4_4 : (Q6 p q 4 4 b c).inS 0 ((4 : Nat) : Int) = true := by kernel_rfl
theorem Q6_j_4_5 : (Q6 p q 4 5 b c).inS 0 ((5 : Nat) : Int) = true := by kernel_rfl
theorem Q6_j_4_6 : (Q6 p q 4 6 b c).inS 0 ((6 : Nat) : Int) = true := by kernel_rfl
theorem Q6_j_4_7 : (Q6 p q 4 7 b c).inS 0 ((7 : Nat) : Int) = true := by kernel_rfl
theorem Q6_j_5_0 : (Q6 p q 5 0 b c).inS 0 ((0 : Nat) : Int) = true := by kernel_rfl
theorem Q6_j_5_1 : (Q6 p q 5 1 b c).inS 0 ((1 : Nat) : Int) = true := by kernel_rfl
theorem Q6_j_5_2 : (Q6 p q 5 2 b c).inS 0 ((2 : Nat) : Int) = true := by kernel_rfl
theorem Q6_j_5_3 : (Q6 p q 5 3 b c).inS 0 ((3 : Nat) : Int) = true := by kernel_rfl
theorem Q6_j_5_4 : (Q6 p q 5 4 b c).inS 0 ((4 : Nat) : Int) = true := by kernel_rfl
theorem Q6_j_5_5 : (Q6 p q 5 5 b c).inS 0 ((5 : Nat) : Int) = true := by kernel_rfl
theorem Q6_j_5_6 : (Q6 p q 5 6 b c).inS 0 ((6 : Nat) : Int) = true := by kernel_rfl
theorem Q6_j_5_7 : (Q6 p q 5 7 b c).inS 0 ((7 : Nat) : Int) = true := by kernel_rfl
theorem Q6_j_6_0 : (Q6 p q 6 0 b c).inS 0 ((0 : Nat) : Int) = true := by kernel_rfl
theorem Q6_j_6_1 : (Q6 p q 6 1 b c).inS 0 ((1 : Nat) : Int) = true := by kernel_rfl
theorem Q6_j_6_2 : (Q6 p q 6 2 b c).inS 0 ((2 : Nat) : Int) = true := by kernel_rfl
theorem Q6_j_6_3 : (Q6 p q 6 3 b c).inS 0 ((3 : Nat) : Int) = true := by kernel_rfl
theorem Q6_j_6_4 : (Q6 p q 6 4 b c).inS 0 ((4 : Nat) : Int) = true := by kernel_rfl
theorem Q6_j_6_5 : (Q6 p q 6 5 b c).inS 0 ((5 : Nat) : Int) = true := by kernel_rfl
theorem Q6_j_6_6 : (Q6 p q 6 6 b c).inS 0 ((6 : Nat) : Int) = true := by kernel_rfl
theorem Q6_j_6_7 : (Q6 p q 6 7 b c).inS 0 ((7 : Nat) : Int) = true := by kernel_rfl
theorem Q6_j_7_0 : (Q6 p q 7 0 b c).inS 0 ((0 : Nat) : Int) = true := by kernel_rfl
theorem Q6_j_7_1 : (Q6 p q 7 1 b c).inS 0 ((1 : Nat) : Int) = true := by kernel_rfl
theorem Q6_j_7_2 : (Q6 p q 7 2 b c).inS 0 ((2 : Nat) : Int) = true := by kernel_rfl
theorem Q6_j_7_3 : (Q6 p q 7 3 b c).inS 0 ((3 : Nat) : Int) = true := by kernel_rfl
theorem Q6_j_7_4 : (Q6 p q 7 4 b c).inS 0 ((4 : Nat) : Int) = true := by kernel_rfl
theorem Q6_j_7_5 : (Q6 p q 7 5 b c).inS 0 ((5 : Nat) : Int) = true := by kernel_rfl
theorem Q6_j_7_6 : (Q6 p q 7 6 b c).inS 0 ((6 : Nat) : Int) = true := by kernel_rfl
theorem Q6_j_7_7 : (Q6 p q 7 7 b c).inS 0 ((7 : Nat) : Int) = true := by kernel_rfl
theorem Q6_j (hi : i < 8) (hj : j < 8) : (Q6 p q i j b c).inS 0 (j : Int) = true := by
  have h8 : i = 0 ∨ i = 1 ∨ i = 2 ∨ i = 3 ∨ i = 4 ∨ i = 5 ∨ i = 6 ∨ i = 7 := by omega
  have h9 : j = 0 ∨ j = 1 ∨ j = 2 ∨ j = 3 ∨ j = 4 ∨ j = 5 ∨ j = 6 ∨ j = 7 := by omega
  rcases h8 with rfl | rfl | rfl | rfl | rfl | rfl | rfl | rfl <;> rcases h9 with rfl | rfl | rfl | rfl | rfl | rfl | rfl | rfl
  · exact Q6_j_0_0 ..
  · exact Q6_j_0_1 ..
  · exact Q6_j_0_2 ..
  · exact Q6_j_0_3 ..
  · exact Q6_j_0_4 ..
  · exact Q6_j_0_5 ..
  · exact Q6_j_0_6 ..
  · exact Q6_j_0_7 ..
  · exact Q6_j_1_0 ..
  · exact Q6_j_1_1 ..
  · exact Q6_j_1_2 ..
  · exact Q6_j_1_3 ..
  · exact Q6_j_1_4 ..
  · exact Q6_j_1_5 ..
  · exact Q6_j_1_6 ..
  · exact Q6_j_1_7 ..
  · exact Q6_j_2_0 ..
  · exact Q6_j_2_1 ..
  · exact Q6_j_2_2 ..
  · exact Q6_j_2_3 ..
  · exact Q6_j_2_4 ..
  · exact Q6_j_2_5 ..
  · exact Q6_j_2_6 ..
  · exact Q6_j_2_7 ..
  · exact Q6_j_3_0 ..
  · exact Q6_j_3_1 ..
  · exact Q6_j_3_2 ..
  · exact Q6_j_3_3 ..
  · exact Q6_j_3_4 ..
  · exact Q6_j_3_5 ..
  · exact Q6_j_3_6 ..
  · exact Q6_j_3_7 ..
  · exact Q6_j_4_0 ..
  · exact Q6_j_4_1 ..
  · exact Q6_j_4_2 ..
  · exact Q6_j_4_3 ..
  · exact Q6_j_4_4 ..
  · exact Q6_j_4_5 ..
  · exact Q6_j_4_6 ..
  · exact Q6_j_4_7 ..
  · exact Q6_j_5_0 ..
  · exact Q6_j_5_1 ..
  · exact Q6_j_5_2 ..
  · exact Q6_j_5_3 ..
  · exact Q6_j_5_4 ..
  · exact Q6_j_5_5 ..
  · exact Q6_j_5_6 ..
  · exact Q6_j_5_7 ..
  · exact Q6_j_6_0 ..
  · exact Q6_j_6_1 ..
  · exact Q6_j_6_2 ..
  · exact Q6_j_6_3 ..
  · exact Q6_j_6_4 ..
  · exact Q6_j_6_5 ..
  · exact Q6_j_6_6 ..
  · exact Q6_j_6_7 ..
  · exact Q6_j_7_0 ..
  · exact Q6_j_7_1 ..
  · exact Q6_j_7_2 ..
  · exact Q6_j_7_3 ..
  · exact Q6_j_7_4 ..
  · exact Q6_j_7_5 ..
  · exact Q6_j_7_6 ..
  · exact Q6_j_7_7 ..
theorem Q6_ti_0_0 : (Q6 p q 0 0 b c).tells 0 ((0 : Nat) : Int) = BB b := by kernel_rfl
theorem Q6_ti_0_1 : (Q6 p q 0 1 b c).tells 0 ((0 : Nat) : Int) = BB b := by kernel_rfl
theorem Q6_ti_0_2 : (Q6 p q 0 2 b c).tells 0 ((0 : Nat) : Int) = BB b := by kernel_rfl
theorem Q6_ti_0_3 : (Q6 p q 0 3 b c).tells 0 ((0 : Nat) : Int) = BB b := by kernel_rfl
theorem Q6_ti_0_4 : (Q6 p q 0 4 b c).tells 0 ((0 : Nat) : Int) = BB b := by kernel_rfl
theorem Q6_ti_0_5 : (Q6 p q 0 5 b c).tells 0 ((0 : Nat) : Int) = BB b := by kernel_rfl
theorem Q6_ti_0_6 : (Q6 p q 0 6 b c).tells 0 ((0 : Nat) : Int) = BB b := by kernel_rfl
theorem Q6_ti_0_7 : (Q6 p q 0 7 b c).tells 0 ((0 : Nat) : Int) = BB b := by kernel_rfl
theorem Q6_ti_1_0 : (Q6 p q 1 0 b c).tells 0 ((1 : Nat) : Int) = BB b := by kernel_rfl
theorem Q6_ti_1_1 : (Q6 p q 1 1 b c).tells 0 ((1 : Nat) : Int) = BB b := by kernel_rfl
theorem Q6_ti_1_2 : (Q6 p q 1 2 b c).tells 0 ((1 : Nat) : Int) = BB b := by kernel_rfl
theorem Q6_ti_1_3 : (Q6 p q 1 3 b c).tells 0 ((1 : Nat) : Int) = BB b := by kernel_rfl
theorem Q6_ti_1_4 : (Q6 p q 1 4 b c).tells 0 ((1 : Nat) : Int) = BB b := by kernel_rfl
theorem Q6_ti_1_5 : (Q6 p q 1 5 b c).tells 0 ((1 : Nat) : Int) = BB b := by kernel_rfl
theorem Q6_ti_1_6 : (Q6 p q 1 6 b c).tells 0 ((1 : Nat) : Int) = BB b := by kernel_rfl
theorem Q6_ti_1_7 : (Q6 p q 1 7 b c).tells 0 ((1 : Nat) : Int) = BB b := by kernel_rfl
theorem Q6_ti_2_0 : (Q6 p q 2 0 b c).tells 0 ((2 : Nat) : Int) = BB b := by kernel_rfl
theorem Q6_ti_2_1 : (Q6 p q 2 1 b c).tells 0 ((2 : Nat) : Int) = BB b := by kernel_rfl
theorem Q6_ti_2_2 : (Q6 p q 2 2 b c).tells 0 ((2 : Nat) : Int) = BB b := by kernel_rfl
theorem Q6_ti_2_3 : (Q6 p q 2 3 b c).tells 0 ((2 : Nat) : Int) = BB b := by kernel_rfl
theorem Q6_ti_2_4 : (Q6 p q 2 4 b c).tells 0 ((2 : Nat) : Int) = BB b := by kernel_rfl
theorem Q6_ti_2_5 : (Q6 p q 2 5 b c).tells 0 ((2 : Nat) : Int) = BB b := by kernel_rfl
theorem Q6_ti_2_6 : (Q6 p q 2 6 b c).tells 0 ((2 : Nat) : Int) = BB b := by kernel_rfl
theorem Q6_ti_2_7 : (Q6 p q 2 7 b c).tells 0 ((2 : Nat) : Int) = BB b := by kernel_rfl
theorem Q6_ti_3_0 : (Q6 p q 3 0 b c).tells 0 ((3 : Nat) : Int) = BB b := by kernel_rfl
theorem Q6_ti_3_1 : (Q6 p q 3 1 b c).tells 0 ((3 : Nat) : Int) = BB b := by kernel_rfl
theorem Q6_ti_3_2 : (Q6 p q 3 2 b c).tells 0 ((3 : Nat) : Int) = BB b := by kernel_rfl
theorem Q6_ti_3_3 : (Q6 p q 3 3 b c).tells 0 ((3 : Nat) : Int) = BB b := by kernel_rfl
theorem Q6_ti_3_4 : (Q6 p q 3 4 b c).tells 0 ((3 : Nat) : Int) = BB b := by kernel_rfl
theorem Q6_ti_3_5 : (Q6 p q 3 5 b c).tells 0 ((3 : Nat) : Int) = BB b := by kernel_rfl
theorem Q6_ti_3_6 : (Q6 p q 3 6 b c).tells 0 ((3 : Nat) : Int) = BB b := by kernel_rfl
theorem Q6_ti_3_7 : (Q6 p q 3 7 b c).tells 0 ((3 : Nat) : Int) = BB b := by kernel_rfl
theorem Q6_ti_4_0 : (Q6 p q 4 0 b c).tells 0 ((4 : Nat) : Int) = BB b := by kernel_rfl
theorem Q6_ti_4_1 : (Q6 p q 4 1 b c).tells 0 ((4 : Nat) : Int) = BB b := by kernel_rfl
theorem Q6_ti_4_2 : (Q6 p q 4 2 b c).tells 0 ((4 : Nat) : Int) = BB b := by kernel_rfl
theorem Q6_ti_4_3 : (Q6 p q 4 3 b c).tells 0 ((4 : Nat) : Int) = BB b := by kernel_rfl
theorem Q6_ti_4_4 : (Q6 p q 4 4 b c).tells 0 ((4 : Nat) : Int) = BB b := by kernel_rfl
theorem Q6_ti_4_5 : (Q6 p q 4 5 b c).tells 0 ((4 : Nat) : Int) = BB b := by kernel_rfl
theorem Q6_ti_4_6 : (Q6 p q 4 6 b c).tells 0 ((4 : Nat) : Int) = BB b := by kernel_rfl
theorem Q6_ti_4_7 : (Q6 p q 4 7 b c).tells 0 ((4 : Nat) : Int) = BB b := by kernel_rfl
theorem Q6_ti_5_0 : (Q6 p q 5 0 b c).tells 0 ((5 : Nat) : Int) = BB b := by kernel_rfl
theorem Q6_ti_5_1 : (Q6 p q 5 1 b c).tells 0 ((5 : Nat) : Int) = BB b := by kernel_rfl
theorem Q6_ti_5_2 : (Q6 p q 5 2 b c).tells 0 ((5 : Nat) : Int) = BB b := by kernel_rfl
theorem Q6_ti_5_3 : (Q6 p q 5 3 b c).tells 0 ((5 : Nat) : Int) = BB b := by kernel_rfl
theorem Q6_ti_5_4 : (Q6 p q 5 4 b c).tells 0 ((5 : Nat) : Int) = BB b := by kernel_rfl
theorem Q6_ti_5_5 : (Q6 p q 5 5 b c).tells 0 ((5 : Nat) : Int) = BB b := by kernel_rfl
theorem Q6_ti_5_6 : (Q6 p q 5 6 b c).tells 0 ((5 : Nat) : Int) = BB b := by kernel_rfl
theorem Q6_ti_5_7 : (Q6 p q 5 7 b c).tells 0 ((5 : Nat) : Int) = BB b := by kernel_rfl
theorem Q6_ti_6_0 : (Q6 p q 6 0 b c).tells 0 ((6 : Nat) : Int) = BB b := by kernel_rfl
theorem Q6_ti_6_1 : (Q6 p q 6 1 b c).tells 0 ((6 : Nat) : Int) = BB b := by kernel_rfl
theorem Q6_ti_6_2 : (Q6 p q 6 2 b c).tells 0 ((6 : Nat) : Int) = BB b := by kernel_rfl
theorem Q6_ti_6_3 : (Q6 p q 6 3 b c).tells 0 ((6 : Nat) : Int) = BB b := by kernel_rfl
theorem Q6_ti_6_4 : (Q6 p q 6 4 b c).tells 0 ((6 : Nat) : Int) = BB b := by kernel_rfl
theorem Q6_ti_6_5 : (Q6 p q 6 5 b c).tells 0 ((6 : Nat) : Int) = BB b := by kernel_rfl
theorem Q6_ti_6_6 : (Q6 p q 6 6 b c).tells 0 ((6 : Nat) : Int) = BB b := by kernel_rfl
theorem Q6_ti_6_7 : (Q6 p q 6 7 b c).tells 0 ((6 : Nat) : Int) = BB b := by kernel_rfl
theorem Q6_ti_7_0 : (Q6 p q 7 0 b c).tells 0 ((7 : Nat) : Int) = BB b := by kernel_rfl
theorem Q6_ti_7_1 : (Q6 p q 7 1 b c).tells 0 ((7 : Nat) : Int) = BB b := by kernel_rfl
theorem Q6_ti_7_2 : (Q6 p q 7 2 b c).tells 0 ((7 : Nat) : Int) = BB b := by kernel_rfl
theorem Q6_ti_7_3 : (Q6 p q 7 3 b c).tells 0 ((7 : Nat) : Int) = BB b := by kernel_rfl
theorem Q6_ti_7_4 : (Q6 p q 7 4 b c).tells 0 ((7 : Nat) : Int) = BB b := by kernel_rfl
theorem Q6_ti_7_5 : (Q6 p q 7 5 b c).tells 0 ((7 : Nat) : Int) = BB b := by kernel_rfl
theorem Q6_ti_7_6 : (Q6 p q 7 6 b c).tells 0 ((7 : Nat) : Int) = BB b := by kernel_rfl
theorem Q6_ti_7_7 : (Q6 p q 7 7 b c).tells 0 ((7 : Nat) : Int) = BB b := by kernel_rfl
theorem Q6_ti (hi : i < 8) (hj : j < 8) : (Q6 p q i j b c).tells 0 (i : Int) = BB b := by
  have h8 : i = 0 ∨ i = 1 ∨ i = 2 ∨ i = 3 ∨ i = 4 ∨ i = 5 ∨ i = 6 ∨ i = 7 := by omega
  have h9 : j = 0 ∨ j = 1 ∨ j = 2 ∨ j = 3 ∨ j = 4 ∨ j = 5 ∨ j = 6 ∨ j = 7 := by omega
  rcases h8 with rfl | rfl | rfl | rfl | rfl | rfl | rfl | rfl <;> rcases h9 with rfl | rfl | rfl | rfl | rfl | rfl | rfl | rfl
  · exact Q6_ti_0_0 ..
  · exact Q6_ti_0_1 ..
  · exact Q6_ti_0_2 ..
  · exact Q6_ti_0_3 ..
  · exact Q6_ti_0_4 ..
  · exact Q6_ti_0_5 ..
  · exact Q6_ti_0_6 ..
  · exact Q6_ti_0_7 ..
  · exact Q6_ti_1_0 ..
  · exact Q6_ti_1_1 ..
  · exact Q6_ti_1_2 ..
  · exact Q6_ti_1_3 ..
  · exact Q6_ti_1_4 ..
  · exact Q6_ti_1_5 ..
  · exact Q6_ti_1_6 ..
  · exact Q6_ti_1_7 ..
  · exact Q6_ti_2_0 ..
  · exact Q6_ti_2_1 ..
  · exact Q6_ti_2_2 ..
  · exact Q6_ti_2_3 ..
  · exact Q6_ti_2_4 ..
  · exact Q6_ti_2_5 ..
  · exact Q6_ti_2_6 ..
  · exact Q6_ti_2_7 ..
  · exact Q6_ti_3_0 ..
  · exact Q6_ti_3_1 ..
  · exact Q6_ti_3_2 ..
  · exact Q6_ti_3_3 ..
  · exact Q6_ti_3_4 ..
  · exact Q6_ti_3_5 ..
  · exact Q6_ti_3_6 ..
  · exact Q6_ti_3_7 ..
  · exact Q6_ti_4_0 ..
  · exact Q6_ti_4_1 ..
  · exact Q6_ti_4_2 ..
  · exact Q6_ti_4_3 ..
  · exact Q6_ti_4_4 ..
  · exact Q6_ti_4_5 ..
  · exact Q6_ti_4_6 ..
  · exact Q6_ti_4_7 ..
  · exact Q6_ti_5_0 ..
  · exact Q6_ti_5_1 ..
  · exact Q6_ti_5_2 ..
  · exact Q6_ti_5_3 ..
  · exact Q6_ti_5_4 ..
  · exact Q6_ti_5_5 ..
  · exact Q6_ti_5_6 ..
  · exact Q6_ti_5_7 ..
  · exact Q6_ti_6_0 ..
  · exact Q6_ti_6_1 ..
  · exact Q6_ti_6_2 ..
  · exact Q6_ti_6_3 ..
  · exact Q6_ti_6_4 ..
  · exact Q6_ti_6_5 ..
  · exact Q6_ti_6_6 ..
  · exact Q6_ti_6_7 ..
  · exact Q6_ti_7_0 ..
  · exact Q6_ti_7_1 ..
  · exact Q6_ti_7_2 ..
  · exact Q6_ti_7_3 ..
  · exact Q6_ti_7_4 ..
  · exact Q6_ti_7_5 ..
  · exact Q6_ti_7_6 ..
  · exact Q6_ti_7_7 ..
theorem Q6_tj_0_1 : (Q6 p q 0 1 b c).tells 0 ((1 : Nat) : Int) = BB c := by kernel_rfl
theorem Q6_tj_0_2 : (Q6 p q 0 2 b c).tells 0 ((2 : Nat) : Int) = BB c := by kernel_rfl
theorem Q6_tj_0_3 : (Q6 p q 0 3 b c).tells 0 ((3 : Nat) : Int) = BB c := by kernel_rfl
theorem Q6_tj_0_4 : (Q6 p q 0 4 b c).tells 0 ((4 : Nat) : Int) = BB c := by kernel_rfl
theorem Q6_tj_0_5 : (Q6 p q 0 5 b c).tells 0 ((5 : Nat) : Int) = BB c := by kernel_rfl
theorem Q6_tj_0_6 : (Q6 p q 0 6 b c).tells 0 ((6 : Nat) : Int) = BB c := by kernel_rfl
theorem Q6_tj_0_7 : (Q6 p q 0 7 b c).tells 0 ((7 : Nat) : Int) = BB c := by kernel_rfl
theorem Q6_tj_1_0 : (Q6 p q 1 0 b c).tells 0 ((0 : Nat) : Int) = BB c := by kernel_rfl
theorem Q6_tj_1_2 : (Q6 p q 1 2 b c).tells 0 ((2 : Nat) : Int) = BB c := by kernel_rfl
theorem Q6_tj_1_3 : (Q6 p q 1 3 b c).tells 0 ((3 : Nat) : Int) = BB c := by kernel_rfl
theorem Q6_tj_1_4 : (Q6 p q 1 4 b c).tells 0 ((4 : Nat) : Int) = BB c := by kernel_rfl
theorem Q6_tj_1_5 : (Q6 p q 1 5 b c).tells 0 ((5 : Nat) : Int) = BB c := by kernel_rfl
theorem Q6_tj_1_6 : (Q6 p q 1 6 b c).tells 0 ((6 : Nat) : Int) = BB c := by kernel_rfl
theorem Q6_tj_1_7 : (Q6 p q 1 7 b c).tells 0 ((7 : Nat) : Int) = BB c := by kernel_rfl
theorem Q6_tj_2_0 : (Q6 p q 2 0 b c).tells 0 ((0 : Nat) : Int) = BB c := by kernel_rfl
theorem Q6_tj_2_1 : (Q6 p q 2 1 b c).tells 0 ((1 : Nat) : Int) = BB c := by kernel_rfl
theorem Q6_tj_2_3 : (Q6 p q 2 3 b c).tells 0 ((3 : Nat) : Int) = BB c := by kernel_rfl
theorem Q6_tj_2_4 : (Q6 p q 2 4 b c).tells 0 ((4 : Nat) : Int) = BB c := by kernel_rfl
theorem Q6_tj_2_5 : (Q6 p q 2 5 b c).tells 0 ((5 : Nat) : Int) = BB c := by kernel_rfl
theorem Q6_tj_2_6 : (Q6 p q 2 6 b c).tells 0 ((6 : Nat) : Int) = BB c := by kernel_rfl
theorem Q6_tj_2_7 : (Q6 p q 2 7 b c).tells 0 ((7 : Nat) : Int) = BB c := by kernel_rfl
theorem Q6_tj_3_0 : (Q6 p q 3 0 b c).tells 0 ((0 : Nat) : Int) = BB c := by kernel_rfl
theorem Q6_tj_3_1 : (Q6 p q 3 1 b c).tells 0 ((1 : Nat) : Int) = BB c := by kernel_rfl
theorem Q6_tj_3_2 : (Q6 p q 3 2 b c).tells 0 ((2 : Nat) : Int) = BB c := by kernel_rfl
theorem Q6_tj_3_4 : (Q6 p q 3 4 b c).tells 0 ((4 : Nat) : Int) = BB c := by kernel_rfl
theorem Q6_tj_3_5 : (Q6 p q 3 5 b c).tells 0 ((5 : Nat) : Int) = BB c := by kernel_rfl
theorem Q6_tj_3_6 : (Q6 p q 3 6 b c).tells 0 ((6 : Nat) : Int) = BB c := by kernel_rfl
theorem Q6_tj_3_7 : (Q6 p q 3 7 b c).tells 0 ((7 : Nat) : Int) = BB c := by kernel_rfl
theorem Q6_tj_4_0 : (Q6 p q 4 0 b c).tells 0 ((0 : Nat) : Int) = BB c := by kernel_rfl
theorem Q6_tj_4_1 : (Q6 p q 4 1 b c).tells 0 ((1 : Nat) : Int) = BB c := by kernel_rfl
theorem Q6_tj_4_2 : (Q6 p q 4 2 b c).tells 0 ((2 : Nat) : Int) = BB c := by kernel_rfl
theorem Q6_tj_4_3 : (Q6 p q 4 3 b c).tells 0 ((3 : Nat) : Int) = BB c := by kernel_rfl
theorem Q6_tj_4_5 : (Q6 p q 4 5 b c).tells 0 ((5 : Nat) : Int) = BB c := by kernel_rfl
theorem Q6_tj_4_6 : (Q6 p q 4 6 b c).tells 0 ((6 : Nat) : Int) = BB c := by kernel_rfl
theorem Q6_tj_4_7 : (Q6 p q 4 7 b c).tells 0 ((7 : Nat) : Int) = BB c := by kernel_rfl
theorem Q6_tj_5_0 : (Q6 p q 5 0 b c).tells 0 ((0 : Nat) : Int) = BB c := by kernel_rfl
theorem Q6_tj_5_1 : (Q6 p q 5 1 b c).tells 0 ((1 : Nat) : Int) = BB c := by kernel_rfl
theorem Q6_tj_5_2 : (Q6 p q 5 2 b c).tells 0 ((2 : Nat) : Int) = BB c := by kernel_rfl
theorem Q6_tj_5_3 : (Q6 p q 5 3 b c).tells 0 ((3 : Nat) : Int) = BB c := by kernel_rfl
theorem Q6_tj_5_4 : (Q6 p q 5 4 b c).tells 0 ((4 : Nat) : Int) = BB c := by kernel_rfl
theorem Q6_tj_5_6 : (Q6 p q 5 6 b c).tells 0 ((6 : Nat) : Int) = BB c := by kernel_rfl
theorem Q6_tj_5_7 : (Q6 p q 5 7 b c).tells 0 ((7 : Nat) : Int) = BB c := by kernel_rfl
theorem Q6_tj_6_0 : (Q6 p q 6 0 b c).tells 0 ((0 : Nat) : Int) = BB c := by kernel_rfl
theorem Q6_tj_6_1 : (Q6 p q 6 1 b c).tells 0 ((1 : Nat) : Int) = BB c := by kernel_rfl
theorem Q6_tj_6_2 : (Q6 p q 6 2 b c).tells 0 ((2 : Nat) : Int) = BB c := by kernel_rfl
theorem Q6_tj_6_3 : (Q6 p q 6 3 b c).tells 0 ((3 : Nat) : Int) = BB c := by kernel_rfl
theorem Q6_tj_6_4 : (Q6 p q 6 4 b c).tells 0 ((4 : Nat) : Int) = BB c := by kernel_rfl
theorem Q6_tj_6_5 : (Q6 p q 6 5 b c).tells 0 ((5 : Nat) : Int) = BB c := by kernel_rfl
theorem Q6_tj_6_7 : (Q6 p q 6 7 b c).tells 0 ((7 : Nat) : Int) = BB c := by kernel_rfl
theorem Q6_tj_7_0 : (Q6 p q 7 0 b c).tells 0 ((0 : Nat) : Int) = BB c := by kernel_rfl
theorem Q6_tj_7_1 : (Q6 p q 7 1 b c).tells 0 ((1 : Nat) : Int) = BB c := by kernel_rfl
theorem Q6_tj_7_2 : (Q6 p q 7 2 b c).tells 0 ((2 : Nat) : Int) = BB c := by kernel_rfl
theorem Q6_tj_7_3 : (Q6 p q 7 3 b c).tells 0 ((3 : Nat) : Int) = BB c := by kernel_rfl
theorem Q6_tj_7_4 : (Q6 p q 7 4 b c).tells 0 ((4 : Nat) : Int) = BB c := by kernel_rfl
theorem Q6_tj_7_5 : (Q6 p q 7 5 b c).tells 0 ((5 : Nat) : Int) = BB c := by kernel_rfl
theorem Q6_tj_7_6 : (Q6 p q 7 6 b c).tells 0 ((6 : Nat) : Int) = BB c := by kernel_rfl
theorem Q6_tj (hi : i < 8) (hj : j < 8) (hij : i ≠ j) : (Q6 p q i j b c).tells 0 (j : Int) = BB c := by
  have h8 : i = 0 ∨ i = 1 ∨ i = 2 ∨ i = 3 ∨ i = 4 ∨ i = 5 ∨ i = 6 ∨ i = 7 := by omega
  have h9 : j = 0 ∨ j = 1 ∨ j = 2 ∨ j = 3 ∨ j = 4 ∨ j = 5 ∨ j = 6 ∨ j = 7 := by omega
  rcases h8 with rfl | rfl | rfl | rfl | rfl | rfl | rfl | rfl <;> rcases h9 with rfl | rfl | rfl | rfl | rfl | rfl | rfl | rfl
  · exact absurd rfl hij
  · exact Q6_tj_0_1 ..
  · exact Q6_tj_0_2 ..
  · exact Q6_tj_0_3 ..
  · exact Q6_tj_0_4 ..
  · exact Q6_tj_0_5 ..
  · exact Q6_tj_0_6 ..
  · exact Q6_tj_0_7 ..
  · exact Q6_tj_1_0 ..
  · exact absurd rfl hij
  · exact Q6_tj_1_2 ..
  · exact Q6_tj_1_3 ..
  · exact Q6_tj_1_4 ..
  · exact Q6_tj_1_5 ..
  · exact Q6_tj_1_6 ..
  · exact Q6_tj_1_7 ..
  · exact Q6_tj_2_0 ..
  · exact Q6_tj_2_1 ..
  · exact absurd rfl hij
  · exact Q6_tj_2_3 ..
  · exact Q6_tj_2_4 ..
  · exact Q6_tj_2_5 ..
  · exact Q6_tj_2_6 ..
  · exact Q6_tj_2_7 ..
  · exact Q6_tj_3_0 ..
  · exact Q6_tj_3_1 ..
  · exact Q6_tj_3_2 ..
  · exact absurd rfl hij
  · exact Q6_tj_3_4 ..
  · exact Q6_tj_3_5 ..
  · exact Q6_tj_3_6 ..
  · exact Q6_tj_3_7 ..
  · exact Q6_tj_4_0 ..
  · exact Q6_tj_4_1 ..
  · exact Q6_tj_4_2 ..
  · exact Q6_tj_4_3 ..
  · exact absurd rfl hij
  · exact Q6_tj_4_5 ..
  · exact Q6_tj_4_6 ..
  · exact Q6_tj_4_7 ..
  · exact Q6_tj_5_0 ..
  · exact Q6_tj_5_1 ..
  · exact Q6_tj_5_2 ..
  · exact Q6_tj_5_3 ..
  · exact Q6_tj_5_4 ..
  · exact absurd rfl hij
  · exact Q6_tj_5_6 ..
  · exact Q6_tj_5_7 ..
  · exact Q6_tj_6_0 ..
  · exact Q6_tj_6_1 ..
  · exact Q6_tj_6_2 ..
  · exact Q6_tj_6_3 ..
  · exact Q6_tj_6_4 ..
  · exact Q6_tj_6_5 ..
  · exact absurd rfl hij
  · exact Q6_tj_6_7 ..
  · exact Q6_tj_7_0 ..
  · exact Q6_tj_7_1 ..
  · exact Q6_tj_7_2 ..
  · exact Q6_tj_7_3 ..
  · exact Q6_tj_7_4 ..
  · exact Q6_tj_7_5 ..
  · exact Q6_tj_7_6 ..
  · exact absurd rfl hij
end
end Go.Proofs.Ytclleohpmgihaaa
