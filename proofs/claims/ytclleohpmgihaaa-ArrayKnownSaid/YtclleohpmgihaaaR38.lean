/- ArrayKnown: the closed facts. -/
import Derived.Test.YtclleohpmgihaaaR37
import Derived.Test.YtclleohpmgihaaaR29
import Derived.Test.YtclleohpmgihaaaR26
namespace Go.Proofs.Ytclleohpmgihaaa
set_option linter.unusedVariables false
set_option linter.unusedSimpArgs false
open Go.RowKit Hp
set_option maxRecDepth 100000
set_option maxHeartbeats 4000000
def tornB : List UInt8 := (BB 1).take 3 ++ (BB 0).drop 3
theorem tornB_len : tornB.length = 256 := by kernel_rfl
theorem tornB_put : putAt (bytesV (List.replicate 256 1)) (3 * 1) (bytesV ((BB 0).drop 3)) = bytesV tornB := by kernel_rfl
def N1 (p q : Nat) : AR := (K0 p q).stray 1 6
theorem N1_ok (p q : Nat) : (N1 p q).Ok := (K0_ok p q).stray _ _
theorem N1_ll (p q : Nat) : (N1 p q).loose.length = 0 := by kernel_rfl
theorem N1_st (p q : Nat) : (N1 p q).steps = 0 := by kernel_rfl
def N2 (p q : Nat) : AR := (N1 p q).write 1 5 (BB 1)
theorem N2_ok (p q : Nat) : (N2 p q).Ok := (N1_ok p q).write _ _ _
theorem N2_ll (p q : Nat) : (N2 p q).loose.length = 1 := by kernel_rfl
theorem N2_st (p q : Nat) : (N2 p q).steps = 1 := by kernel_rfl
def N3 (p q : Nat) : AR := (N2 p q).fails 1 1
theorem N3_ok (p q : Nat) : (N3 p q).Ok := (N2_ok p q).fails _ _ (by decide)
theorem N3_ll (p q : Nat) : (N3 p q).loose.length = 1 := by kernel_rfl
theorem N3_st (p q : Nat) : (N3 p q).steps = 1 := by kernel_rfl
def N4 (p q : Nat) : AR := (N3 p q).read 1 6
theorem N4_ok (p q : Nat) : (N4 p q).Ok := (N3_ok p q).read _ _
theorem N4_ll (p q : Nat) : (N4 p q).loose.length = 1 := by kernel_rfl
theorem N4_st (p q : Nat) : (N4 p q).steps = 1 := by kernel_rfl
def N5 (p q : Nat) : AR := (N4 p q).crash [] 0
theorem N5_ok (p q : Nat) : (N5 p q).Ok := (N4_ok p q).crash _ _
theorem N5_ll (p q : Nat) : (N5 p q).loose.length = 0 := by kernel_rfl
theorem N5_st (p q : Nat) : (N5 p q).steps = 1 := by kernel_rfl
def N6 (p q : Nat) : AR := (N5 p q).fused 1
theorem N6_ok (p q : Nat) : (N6 p q).Ok := (N5_ok p q).fused (by decide)
theorem N6_ll (p q : Nat) : (N6 p q).loose.length = 0 := by kernel_rfl
theorem N6_st (p q : Nat) : (N6 p q).steps = 1 := by kernel_rfl
def N7 (p q : Nat) : AR := (N6 p q).write 0 7 (BB 2)
theorem N7_ok (p q : Nat) : (N7 p q).Ok := (N6_ok p q).write _ _ _
theorem N7_ll (p q : Nat) : (N7 p q).loose.length = 1 := by kernel_rfl
theorem N7_st (p q : Nat) : (N7 p q).steps = 2 := by kernel_rfl
def N8 (p q : Nat) : AR := (N7 p q).flush 0
theorem N8_ok (p q : Nat) : (N8 p q).Ok := (N7_ok p q).flush _
theorem N8_ll (p q : Nat) : (N8 p q).loose.length = 1 := by kernel_rfl
theorem N8_st (p q : Nat) : (N8 p q).steps = 2 := by kernel_rfl
def N9 (p q : Nat) : AR := (N8 p q).crash [true] 0
theorem N9_ok (p q : Nat) : (N9 p q).Ok := (N8_ok p q).crash _ _
theorem N9_ll (p q : Nat) : (N9 p q).loose.length = 0 := by kernel_rfl
theorem N9_st (p q : Nat) : (N9 p q).steps = 2 := by kernel_rfl
def N10 (p q : Nat) : AR := (N9 p q).pull 0
theorem N10_ok (p q : Nat) : (N10 p q).Ok := (N9_ok p q).pull _
theorem N10_ll (p q : Nat) : (N10 p q).loose.length = 0 := by kernel_rfl
theorem N10_st (p q : Nat) : (N10 p q).steps = 2 := by kernel_rfl
def N11 (p q g : Nat) : AR := (N10 p q).fit 0 g
theorem N11_ok (p q g : Nat) : (N11 p q g).Ok := (N10_ok p q).fit _ _
theorem N11_ll (p q g : Nat) : (N11 p q g).loose.length = 0 := by kernel_rfl
theorem N11_st (p q g : Nat) : (N11 p q g).steps = 2 := by kernel_rfl
def N12 (p q g : Nat) : AR := (N11 p q g).write 1 5 (BB 1)
theorem N12_ok (p q g : Nat) : (N12 p q g).Ok := (N11_ok p q g).write _ _ _
theorem N12_ll (p q g : Nat) : (N12 p q g).loose.length = 1 := by kernel_rfl
theorem N12_st (p q g : Nat) : (N12 p q g).steps = 3 := by kernel_rfl
def N13 (p q g : Nat) : AR := (N12 p q g).write 1 6 (BB 1)
theorem N13_ok (p q g : Nat) : (N13 p q g).Ok := (N12_ok p q g).write _ _ _
theorem N13_ll (p q g : Nat) : (N13 p q g).loose.length = 2 := by kernel_rfl
theorem N13_st (p q g : Nat) : (N13 p q g).steps = 4 := by kernel_rfl
def N14 (p q g : Nat) : AR := (N13 p q g).crash [false, true] 3
theorem N14_ok (p q g : Nat) : (N14 p q g).Ok := (N13_ok p q g).crash _ _
theorem N14_ll (p q g : Nat) : (N14 p q g).loose.length = 0 := by kernel_rfl
theorem N14_st (p q g : Nat) : (N14 p q g).steps = 4 := by kernel_rfl
theorem N0_y (p q : Nat) : (K0 p q).strayE 1 6 = 0 := by kernel_rfl
theorem N1_w (p q : Nat) : (N1 p q).writeE 1 5 (BB 1) = 0 := by kernel_rfl
theorem N2_f (p q : Nat) : (N2 p q).failsE 1 1 = 0 := by kernel_rfl
theorem N3_e (p q : Nat) : (N3 p q).readE 1 6 = 13 := by kernel_rfl
theorem N3_b (p q : Nat) : (N3 p q).readB 1 6 = [] := by kernel_rfl
theorem N4_c (p q : Nat) : (N4 p q).crashE 0 = 0 := by kernel_rfl
theorem N5_u (p q : Nat) : (N5 p q).fuseE 1 = 0 := by kernel_rfl
theorem N6_w (p q : Nat) : (N6 p q).writeE 0 7 (BB 2) = 0 := by kernel_rfl
theorem N7_f (p q : Nat) : (N7 p q).flushE 0 = 10 := by kernel_rfl
theorem N8_p (p q : Nat) : (N8 p q).up 0 = false := by kernel_rfl
theorem N8_c (p q : Nat) : (N8 p q).crashE 0 = 0 := by kernel_rfl
theorem N9_w (p q : Nat) : (N9 p q).writeE 1 8 (BB 1) = 5 := by kernel_rfl
theorem N9_ww (p q : Nat) : (N9 p q).write 1 8 (BB 1) = (N9 p q) := by kernel_rfl
theorem N9_x (p q : Nat) : (N9 p q).writeE 1 7 [] = 2 := by kernel_rfl
theorem N9_xx (p q : Nat) : (N9 p q).write 1 7 [] = (N9 p q) := by kernel_rfl
theorem N9_l (p q : Nat) : (N9 p q).pullE 0 = 0 := by kernel_rfl
theorem N10_e (p q : Nat) : (N10 p q).readE 0 5 = 14 := by kernel_rfl
theorem N10_b (p q : Nat) : (N10 p q).readB 0 5 = [] := by kernel_rfl
theorem N10_r (p q : Nat) : (N10 p q).read 0 5 = (N10 p q) := by kernel_rfl
theorem N10_f (p q : Nat) : (N10 p q).fitE 0 = 0 := by kernel_rfl
theorem N11_w (p q g : Nat) : (N11 p q g).writeE 1 5 (BB 1) = 0 := by kernel_rfl
theorem N12_w (p q g : Nat) : (N12 p q g).writeE 1 6 (BB 1) = 0 := by kernel_rfl
theorem N13_c (p q g : Nat) : (N13 p q g).crashE 3 = 0 := by kernel_rfl
theorem N2a_r (p q : Nat) : ((N2 p q).readE 1 5 == 0 && (N2 p q).readB 1 5 == BB 0) = true := by kernel_rfl
theorem N2a_s (p q : Nat) : (N2 p q).read 1 5 = (N2 p q) := by kernel_rfl
theorem N2b_r (p q : Nat) : ((N2 p q).readE 1 6 == 0 && (N2 p q).readB 1 6 == BB 1) = true := by kernel_rfl
theorem N2b_s (p q : Nat) : (N2 p q).read 1 6 = (N2 p q) := by kernel_rfl
theorem N4a_r (p q : Nat) : ((N4 p q).readE 1 6 == 0 && (N4 p q).readB 1 6 == BB 1) = true := by kernel_rfl
theorem N4a_s (p q : Nat) : (N4 p q).read 1 6 = (N4 p q) := by kernel_rfl
theorem N9a_r (p q : Nat) : ((N9 p q).readE 0 7 == 0 && (N9 p q).readB 0 7 == BB 2) = true := by kernel_rfl
theorem N9a_s (p q : Nat) : (N9 p q).read 0 7 = (N9 p q) := by kernel_rfl
theorem N11a_r (p q g : Nat) : ((N11 p q g).readE 0 7 == 0 && (N11 p q g).readB 0 7 == BB 0) = true := by kernel_rfl
theorem N11a_s (p q g : Nat) : (N11 p q g).read 0 7 = (N11 p q g) := by kernel_rfl
theorem N14a_r (p q g : Nat) : ((N14 p q g).readE 1 5 == 0 && (N14 p q g).readB 1 5 == tornB) = true := by kernel_rfl
theorem N14a_s (p q g : Nat) : (N14 p q g).read 1 5 = (N14 p q g) := by kernel_rfl
theorem N14b_r (p q g : Nat) : ((N14 p q g).readE 1 6 == 0 && (N14 p q g).readB 1 6 == BB 1) = true := by kernel_rfl
theorem N14b_s (p q g : Nat) : (N14 p q g).read 1 6 = (N14 p q g) := by kernel_rfl
end Go.Proofs.Ytclleohpmgihaaa
