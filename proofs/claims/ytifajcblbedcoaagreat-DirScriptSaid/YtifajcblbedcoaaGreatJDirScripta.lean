import Derived.Test.YtifajcblbedcoaaGreatTy
import Derived.Test.YtifajcblbedcoaaGreatNum
import Derived.Test.YtifajcblbedcoaaGreatT8
import Derived.Test.YtifajcblbedcoaaGreatT4
import Derived.Test.YtifajcblbedcoaaGreatPtrR
import Derived.Test.YtifajcblbedcoaaGreatSepR
import Derived.Deep.RegionHeld3
import Derived.Deep.DrawnRows
import Derived.Recover
import Derived.Defers
import Derived.Test.YtifajcblbedcoaaGreatT18
import Derived.Test.YtifajcblbedcoaaGreatT9
import Derived.Test.YtifajcblbedcoaaGreatPtrM
import Derived.Test.YtifajcblbedcoaaGreatRegL
import Derived.Test.YtifajcblbedcoaaGreatT5
import Derived.Test.YtifajcblbedcoaaGreatSepY
import Derived.Outline
import Derived.Test.YtifajcblbedcoaaGreatNode
namespace Go.Proofs.YtifajcblbedcoaaGreat
set_option linter.unusedVariables false
set_option linter.unusedSimpArgs false
open Go.RowKit Hp
attribute [local irreducible] Go.Calls
set_option maxHeartbeats 1000000
end Go.Proofs.YtifajcblbedcoaaGreat
namespace Go.Proofs.YtifajcblbedcoaaGreat
set_option linter.unusedVariables false
set_option linter.unusedSimpArgs false
open Go.RowKit Hp
attribute [local go_sem ↓] Go.wp_at_zero Go.wp_at_succ
attribute [local irreducible] Go.Calls
set_option maxHeartbeats 1000000
end Go.Proofs.YtifajcblbedcoaaGreat
namespace Go.Proofs.YtifajcblbedcoaaGreat
set_option linter.unusedVariables false
set_option linter.unusedSimpArgs false
open Go.RowKit Hp
attribute [local go_sem ↓] Go.wp_at_zero Go.wp_at_succ
attribute [local irreducible] Go.Calls
set_option maxHeartbeats 1000000
theorem storedP (A : Addr) (v : Value) : storeVar 32 A v = storeVarH 32 A v := rfl
attribute [local go_sem ↓] storedP
end Go.Proofs.YtifajcblbedcoaaGreat
namespace Go.Proofs.YtifajcblbedcoaaGreat
set_option linter.unusedVariables false
set_option linter.unusedSimpArgs false
open Go.RowKit Hp
attribute [local irreducible] Go.Calls
set_option maxHeartbeats 2000000
theorem loadedL9 (A : Addr) : loadVar 28 A = loadVarH 28 A := rfl
theorem storedL9 (A : Addr) (v : Value) : storeVar 28 A v = storeVarH 28 A v := rfl
attribute [local go_sem ↓] storedP loadedL9 storedL9
theorem take_get (bs : List UInt8) (k m : Nat) (h : k + (m + 1) ≤ bs.length) : (bs.drop k).take (m + 1) = bs.getD k 0 :: (bs.drop (k + 1)).take m := by
  rw [List.drop_eq_getElem_cons (by omega), List.take_succ_cons]
  simp [List.getD, show k < bs.length by omega]
theorem birth_at {bs : List UInt8} (h : bs.length = 47) : rBirth bs = (((bs.getD 10 0).toNat * 256 + (bs.getD 11 0).toNat) * 256 + (bs.getD 12 0).toNat) * 256 + (bs.getD 13 0).toNat := by
  unfold rBirth
  rw [take_get bs 10 3 (by omega), take_get bs 11 2 (by omega), take_get bs 12 1 (by omega), take_get bs 13 0 (by omega)]
  simp [beN]
theorem level_at {bs : List UInt8} (h : bs.length = 47) : rLevel bs = (bs.getD 14 0).toNat := by
  unfold rLevel
  rw [take_get bs 14 0 (by omega)]
  simp [beN]
theorem rA_at {bs : List UInt8} {k : Nat} (h : 3 + 3 * k < bs.length) : rA bs k = (((bs.getD (1 + 3 * k) 0).toNat : Int), 256 * ((bs.getD (2 + 3 * k) 0).toNat : Int) + ((bs.getD (3 + 3 * k) 0).toNat : Int)) := by
  unfold rA
  rw [take_get bs (1 + 3 * k) 0 (by omega), take_get bs (2 + 3 * k) 1 (by omega), show 2 + 3 * k + 1 = 3 + 3 * k by omega, take_get bs (3 + 3 * k) 0 (by omega)]
  simp only [beN, List.take_zero, List.foldl_cons, List.foldl_nil, Prod.mk.injEq]
  constructor <;> omega
theorem rAddrs_stop {bs : List UInt8} {k : Nat} (h : ¬ (k < beN (bs.take 1) ∧ k < 3)) (hk : k ≤ 3) : rAddrs bs 3 = rAddrs bs k := by
  have stop : ∀ m, beN (bs.take 1) ≤ m → rAddrs bs (m + 1) = rAddrs bs m := fun m hm => by rw [rAddrs, if_neg (by omega), List.append_nil]
  by_cases h3 : k = 3
  · rw [h3]
  · have hb : beN (bs.take 1) ≤ k := by omega
    obtain rfl | rfl | rfl : k = 0 ∨ k = 1 ∨ k = 2 := by omega
    · rw [stop 2 (by omega), stop 1 (by omega), stop 0 hb]
    · rw [stop 2 (by omega), stop 1 (by omega)]
    · rw [stop 2 (by omega)]
def sumTo (bs : List UInt8) (j : Nat) : List UInt8 := ((bs.drop 15).take j) ++ List.replicate (32 - j) 0
theorem len_sumTo {bs : List UInt8} {j : Nat} (h : bs.length = 47) (hj : j ≤ 32) : (sumTo bs j).length = 32 := by simp [sumTo, h]; omega
theorem sumTo_all {bs : List UInt8} (h : bs.length = 47) : sumTo bs 32 = rSum bs := by
  unfold sumTo rSum
  rw [List.take_of_length_le (by simp [h])]; simp
theorem sumTo_put {bs : List UInt8} {j : Nat} (h : bs.length = 47) (hj : j < 32) (v : Value) (b l : Int) :
    putAt (ptrCells v b l (sumTo bs j)) (3 + j) [.int .u8 (bs.getD (15 + j) 0).toNat] = ptrCells v b l (sumTo bs (j + 1)) := by
  have e1 : ptrCells v b l (sumTo bs j) = (v :: .int .i64 b :: .int .i64 l :: bytesV ((bs.drop 15).take j)) ++ bytesV (List.replicate (32 - j) 0) := by simp [ptrCells, sumTo, bytesV]
  have e2 : (v :: Value.int .i64 b :: Value.int .i64 l :: bytesV ((bs.drop 15).take j)).length = 3 + j := by simp [h]; omega
  rw [e1, show 3 + j = (v :: Value.int .i64 b :: Value.int .i64 l :: bytesV ((bs.drop 15).take j)).length + 0 by rw [e2, Nat.add_zero], put_app]
  have e3 : (bs.drop 15).take (j + 1) = (bs.drop 15).take j ++ [bs.getD (15 + j) 0] := by
    rw [List.take_succ_eq_append_getElem (by simp [h]; omega)]
    simp [List.getD, show 15 + j < bs.length by omega]
  have e4 : List.replicate (32 - j) (0 : UInt8) = 0 :: List.replicate (32 - (j + 1)) 0 := by rw [← List.replicate_succ]; congr 1; omega
  rw [e4]
  simp [putAt, ptrCells, sumTo, e3, bytesV]
end Go.Proofs.YtifajcblbedcoaaGreat
namespace Go.Proofs.YtifajcblbedcoaaGreat
set_option linter.unusedVariables false
set_option linter.unusedSimpArgs false
open Go.RowKit Hp
attribute [local irreducible] Go.Calls
set_option maxHeartbeats 1000000
end Go.Proofs.YtifajcblbedcoaaGreat
namespace Go.Proofs.YtifajcblbedcoaaGreat
set_option linter.unusedVariables false
set_option linter.unusedSimpArgs false
open Go.RowKit Hp
set_option maxHeartbeats 400000
section
variable (ao ao' : Option Addr) (n c n' c' : Nat) (l r : List (Int × Int)) (b v b' v' : Int) (S S' : List UInt8) (w : World) (hS : L32 S) (hS' : L32 S')
  (hA : Rd w (.slice ao n c) 2 n (addrsV l)) (hn : l.length = n) (hB : Rd w (.slice ao' n' c') 2 n' (addrsV r)) (hn' : r.length = n')
include hS hS' hA hn hB hn'
theorem samePointer_any :
    Calls Tryz.prog 17 #[.agg (ptrCells (.slice ao n c) b v S).toArray, .agg (ptrCells (.slice ao' n' c') b' v' S').toArray] w fun e w' => e = .returned (.bool (sameB l r b v b' v' S S')) ∧ St w [] w' [] := by
  have Hn := hid hn; clear hn
  have Hn' := hid hn'; clear hn'
  go_enter Tryz.func17, Tryz.ntmps17
  have hst := St.refl w
  go_wp2_with (first | go_big_skip | go_big_guard | (refine wl_boxA hst rfl rfl rfl ?_; intro g w1 hst1; clear hst) | (refine wl_boxA hst1 rfl rfl rfl ?_; intro g2 w2 hst2; clear hst1) | (refine wl_loadE rfl rfl rfl ?_; first | refine ⟨_, Loads.at [] hst2 rfl, ?_⟩ | refine ⟨_, Loads.at [_] hst2 rfl, ?_⟩ | refine ⟨_, Loads.atA (bytesV S') [] hst2 (hS'.v) (ptr_sum _ _ _ _), ?_⟩ | refine ⟨_, Loads.atA (bytesV S) [_] hst2 (hS.v) (ptr_sum _ _ _ _), ?_⟩) | (go_at_call 46; refine (sameAddrs_any _ _ _ _ _ _ l r _ (Rd.old hst2 hA) Hn.out (Rd.old hst2 hB) Hn'.out).mono ?_; rintro _ _ ⟨rfl, hcall⟩; replace hst2 := St.call0 hst2 hcall; clear hcall) | (refine wl_eql_bytes rfl rfl rfl rfl (hS.two hS') ?_))
  all_goals (go_ret; exact ⟨ret_bool (by unfold sameB; grind), hst2.nil⟩)
end
end Go.Proofs.YtifajcblbedcoaaGreat
namespace Go.Proofs.YtifajcblbedcoaaGreat
set_option linter.unusedVariables false
set_option linter.unusedSimpArgs false
open Go.RowKit Hp
attribute [local irreducible] Go.Calls
set_option maxHeartbeats 1000000
def sampleA : List (Int × Int) := [(1, 5), (0, 300)]
theorem make_no : rOK (List.replicate 46 0) = false := by simp [rOK]
def sampleB : List UInt8 := [2, 1, 0, 5, 0, 1, 44, 0, 0, 0, 0, 0, 0, 7, 2] ++ List.replicate 32 0
theorem sample_bytes : bytesP sampleA 7 2 nones = sampleB := by decide
end Go.Proofs.YtifajcblbedcoaaGreat
namespace Go.Proofs.YtifajcblbedcoaaGreat
set_option linter.unusedVariables false
set_option linter.unusedSimpArgs false
open Go.RowKit Hp
attribute [local go_sem ↓] Go.wp_at_zero Go.wp_at_succ
attribute [local irreducible] Go.Calls
set_option maxHeartbeats 2000000
theorem hole_bytes : bytesP [] 0 0 nones = List.replicate 47 0 := by decide
theorem make48_no : rOK (List.replicate 48 0) = false := by simp [rOK]
theorem one_no : rOK (1 :: List.replicate 46 0) = false := by decide
theorem storedA (A : Addr) (v : Value) : storeVar 102 A v = storeVarH 102 A v := rfl
attribute [local go_sem ↓] storedA
end Go.Proofs.YtifajcblbedcoaaGreat
namespace Go.Proofs.YtifajcblbedcoaaGreat
set_option linter.unusedVariables false
set_option linter.unusedSimpArgs false
open Go.RowKit Hp
attribute [local go_sem ↓] Go.wp_at_zero Go.wp_at_succ
attribute [local irreducible] Go.Calls
set_option maxHeartbeats 2000000
theorem nat0 (n : Nat) : (true && (decide (n = 0) == ((n : Int) == 0))) = true := by
  rw [Bool.true_and, beq_iff_eq, Bool.eq_iff_iff]; simp
theorem loadedP (A : Addr) : loadVar 32 A = loadVarH 32 A := rfl
theorem loadedL (A : Addr) : loadVar 28 A = loadVarH 28 A := rfl
section
variable (ao bo : Option Addr) (n c m d : Nat) (l : List (Int × Int)) (b v : Int) (S bs : List UInt8) (w : World) (hS : L32 S)
  (hA : Rd w (.slice ao n c) 2 n (addrsV l)) (hn : l.length = n) (hB : Rd w (.slice bo m d) 1 m (bytesV bs)) (hm : bs.length = m)
include hS hA hn hB hm
attribute [local go_sem ↓] loadedP loadedL
end
end Go.Proofs.YtifajcblbedcoaaGreat
namespace Go.Proofs.YtifajcblbedcoaaGreat
set_option linter.unusedVariables false
set_option linter.unusedSimpArgs false
open Go.RowKit Hp
attribute [local irreducible] Go.Calls
set_option maxHeartbeats 2000000
theorem PV.open {w : World} {p : PV} (h : p.In w) : ∃ ao n c, p.cells = ptrCells (.slice ao n c) p.b p.v p.S ∧ Rd w (.slice ao n c) 2 n (addrsV p.l) ∧ p.l.length = n := by
  obtain ⟨_, ao, n, c, e, h1, h2⟩ := h
  exact ⟨ao, n, c, by rw [PV.cells, e], h1, h2⟩
section
variable (p q : PV) (w : World) (hp : p.In w) (hq : q.In w)
include hp
theorem hole_pv : Calls Tryz.prog 83 #[.agg p.cells.toArray] w fun e w' => e = .returned (.bool p.hole) ∧ St w [] w' [] := by
  obtain ⟨ao, n, c, e, h1, h2⟩ := PV.open hp
  rw [e, PV.hole, h2]
  exact hole_any ao n c p.b p.v p.S w hp.1
theorem refHole_pv : Calls Tryz.prog 100 #[.agg p.cells.toArray] w fun e w' => e = .returned (.bool p.hole) ∧ St w [] w' [] := by
  obtain ⟨ao, n, c, e, h1, h2⟩ := PV.open hp
  rw [e, PV.hole, h2]
  exact refHole_any ao n c p.b p.v p.S w hp.1
theorem check_pv : Calls Tryz.prog 84 #[.agg p.cells.toArray] w fun e w' => e = .returned (.int .i64 (if p.ok then 0 else 2)) ∧ St w [] w' [] := by
  obtain ⟨ao, n, c, e, h1, h2⟩ := PV.open hp
  rw [e, PV.ok]
  exact check_any ao n c p.l p.b p.v p.S w hp.1 h1 h2
theorem refCheck_pv : Calls Tryz.prog 99 #[.agg p.cells.toArray] w fun e w' => e = .returned (.int .i64 (if p.ok then 0 else 2)) ∧ St w [] w' [] := by
  obtain ⟨ao, n, c, e, h1, h2⟩ := PV.open hp
  rw [e, PV.ok]
  exact refCheck_any ao n c p.l p.b p.v p.S w hp.1 h1 h2
include hq
theorem same_pv : Calls Tryz.prog 17 #[.agg p.cells.toArray, .agg q.cells.toArray] w fun e w' => e = .returned (.bool (p.same q)) ∧ St w [] w' [] := by
  obtain ⟨ao, n, c, e, h1, h2⟩ := PV.open hp
  obtain ⟨ao', n', c', e', h1', h2'⟩ := PV.open hq
  rw [e, e', PV.same]
  exact samePointer_any ao ao' n c n' c' p.l q.l p.b p.v q.b q.v p.S q.S w hp.1 hq.1 h1 h2 h1' h2'
end
theorem neg_true {b : Bool} (h : (!b) = true) : b = false := by simpa using h
theorem neg_false {b : Bool} (h : (!b) = false) : b = true := by simpa using h
theorem all_step {f : Nat → Bool} {k : Nat} (h : ∀ j, j < k → f j = true) (hk : f k = true) : ∀ j, j < k + 1 → f j = true := fun j hj => by
  by_cases e : j = k
  · rw [e]; exact hk
  · exact h j (by omega)
theorem all_step_no {f : Nat → Bool} {k : Nat} (h : ∀ j, j < k → f j = false) (hk : f k = false) : ∀ j, j < k + 1 → f j = false := fun j hj => by
  by_cases e : j = k
  · rw [e]; exact hk
  · exact h j (by omega)
end Go.Proofs.YtifajcblbedcoaaGreat
