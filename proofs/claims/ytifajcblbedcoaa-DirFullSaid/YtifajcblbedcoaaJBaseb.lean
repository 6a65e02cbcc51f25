/- What a table that may be is bounded by. -/
import Derived.Test.YtifajcblbedcoaaJBasea
import Derived.Recover
import Derived.Defers
import Derived.Test.YtifajcblbedcoaaPtrM
import Derived.Test.YtifajcblbedcoaaRegL
import Derived.Test.YtifajcblbedcoaaSepY
import Derived.Deep.RegionHeld3
import Derived.Outline
import Derived.Test.YtifajcblbedcoaaNode
import Derived.Test.YtifajcblbedcoaaD1
import Derived.Test.YtifajcblbedcoaaNT5
import Derived.Test.YtifajcblbedcoaaSepK
namespace Go.Proofs.Ytifajcblbedcoaa
set_option linter.unusedVariables false
set_option linter.unusedSimpArgs false
open Go.RowKit Hp
attribute [local go_sem ↓] Go.wp_at_zero Go.wp_at_succ
attribute [local irreducible] Go.Calls
set_option maxHeartbeats 1000000
theorem storedP (A : Addr) (v : Value) : storeVar 46 A v = storeVarH 46 A v := rfl
attribute [local go_sem ↓] storedP
end Go.Proofs.Ytifajcblbedcoaa
namespace Go.Proofs.Ytifajcblbedcoaa
set_option linter.unusedVariables false
set_option linter.unusedSimpArgs false
open Go.RowKit Hp
attribute [local irreducible] Go.Calls
set_option maxHeartbeats 2000000
theorem loadedL9 (A : Addr) : loadVar 42 A = loadVarH 42 A := rfl
theorem storedL9 (A : Addr) (v : Value) : storeVar 42 A v = storeVarH 42 A v := rfl
attribute [local go_sem ↓] storedP loadedL9 storedL9
theorem take_get (bs : List UInt8) (k m : Nat) (h : k + (m + 1) ≤ bs.length) : (bs.drop k).take (m + 1) = bs.getD k 0 :: (bs.drop (k + 1)).take m := by
  rw [List.drop_eq_getElem_cons (by omega), List.take_succ_cons]
  simp [List.getD, show k < bs.length by omega]
theorem birth_at {bs : List UInt8} (h : bs.length = 47) : rBirth bs = (((bs.getD 10 0).toNat * 256 + (bs.getD 11 0).toNat) * 256 + (bs.getD 12 0).toNat) * 256 + (bs.getD 13 0).toNat := by
  unfold rBirth
  rw [take_get bs 10 3 (by omega), take_get bs 11 2 (by omega), take_get bs 12 1 (by omega), take_get bs 13 0 (by omega)]
  simp [beN]
theorem level_at {bs : List UInt8} (h : bs.length = 47) : rLevel bs = (bs.getD 14 0).toNat := by
  unfold rLevel
  rw [take_get bs 14 0 (by omega)]
  simp [beN]
theorem rA_at {bs : List UInt8} {k : Nat} (h : 3 + 3 * k < bs.length) : rA bs k = (((bs.getD (1 + 3 * k) 0).toNat : Int), 256 * ((bs.getD (2 + 3 * k) 0).toNat : Int) + ((bs.getD (3 + 3 * k) 0).toNat : Int)) := by
  unfold rA
  rw [take_get bs (1 + 3 * k) 0 (by omega), take_get bs (2 + 3 * k) 1 (by omega), show 2 + 3 * k + 1 = 3 + 3 * k by omega, take_get bs (3 + 3 * k) 0 (by omega)]
  simp only [beN, List.take_zero, List.foldl_cons, List.foldl_nil, Prod.mk.injEq]
  constructor <;> omega
theorem rAddrs_stop {bs : List UInt8} {k : Nat} (h : ¬ (k < beN (bs.take 1) ∧ k < 3)) (hk : k ≤ 3) : rAddrs bs 3 = rAddrs bs k := by
  have stop : ∀ m, beN (bs.take 1) ≤ m → rAddrs bs (m + 1) = rAddrs bs m := fun m hm => by rw [rAddrs, if_neg (by omega), List.append_nil]
  by_cases h3 : k = 3
  · rw [h3]
  · have hb : beN (bs.take 1) ≤ k := by omega
    obtain rfl | rfl | rfl : k = 0 ∨ k = 1 ∨ k = 2 := by omega
    · rw [stop 2 (by omega), stop 1 (by omega), stop 0 hb]
    · rw [stop 2 (by omega), stop 1 (by omega)]
    · rw [stop 2 (by omega)]
def sumTo (bs : List UInt8) (j : Nat) : List UInt8 := ((bs.drop 15).take j) ++ List.replicate (32 - j) 0
theorem len_sumTo {bs : List UInt8} {j : Nat} (h : bs.length = 47) (hj : j ≤ 32) : (sumTo bs j).length = 32 := by simp [sumTo, h]; omega
theorem sumTo_all {bs : List UInt8} (h : bs.length = 47) : sumTo bs 32 = rSum bs := by
  unfold sumTo rSum
  rw [List.take_of_length_le (by simp [h])]; simp
theorem sumTo_put {bs : List UInt8} {j : Nat} (h : bs.length = 47) (hj : j < 32) (v : Value) (b l : Int) :
    putAt (ptrCells v b l (sumTo bs j)) (3 + j) [.int .u8 (bs.getD (15 + j) 0).toNat] = ptrCells v b l (sumTo bs (j + 1)) := by
  have e1 : ptrCells v b l (sumTo bs j) = (v :: .int .i64 b :: .int .i64 l :: bytesV ((bs.drop 15).take j)) ++ bytesV (List.replicate (32 - j) 0) := by simp [ptrCells, sumTo, bytesV]
  have e2 : (v :: Value.int .i64 b :: Value.int .i64 l :: bytesV ((bs.drop 15).take j)).length = 3 + j := by simp [h]; omega
  rw [e1, show 3 + j = (v :: Value.int .i64 b :: Value.int .i64 l :: bytesV ((bs.drop 15).take j)).length + 0 by rw [e2, Nat.add_zero], put_app]
  have e3 : (bs.drop 15).take (j + 1) = (bs.drop 15).take j ++ [bs.getD (15 + j) 0] := by
    rw [List.take_succ_eq_append_getElem (by simp [h]; omega)]
    simp [List.getD, show 15 + j < bs.length by omega]
  have e4 : List.replicate (32 - j) (0 : UInt8) = 0 :: List.replicate (32 - (j + 1)) 0 := by rw [← List.replicate_succ]; congr 1; omega
  rw [e4]
  simp [putAt, ptrCells, sumTo, e3, bytesV]
end Go.Proofs.Ytifajcblbedcoaa
namespace Go.Proofs.Ytifajcblbedcoaa
set_option linter.unusedVariables false
set_option linter.unusedSimpArgs false
open Go.RowKit Hp
attribute [local irreducible] Go.Calls
set_option maxHeartbeats 1000000
end Go.Proofs.Ytifajcblbedcoaa
namespace Go.Proofs.Ytifajcblbedcoaa
set_option linter.unusedVariables false
set_option linter.unusedSimpArgs false
open Go.RowKit Hp
set_option maxHeartbeats 400000
section
variable (ao ao' : Option Addr) (n c n' c' : Nat) (l r : List (Int × Int)) (b v b' v' : Int) (S S' : List UInt8) (w : World) (hS : L32 S) (hS' : L32 S')
  (hA : Rd w (.slice ao n c) 2 n (addrsV l)) (hn : l.length = n) (hB : Rd w (.slice ao' n' c') 2 n' (addrsV r)) (hn' : r.length = n')
include hS hS' hA hn hB hn'
theorem samePointer_any :
    Calls Try.prog 22 #[.agg (ptrCells (.slice ao n c) b v S).toArray, .agg (ptrCells (.slice ao' n' c') b' v' S').toArray] w fun e w' => e = .returned (.bool (sameB l r b v b' v' S S')) ∧ St w [] w' [] := by
  have Hn := hid hn; clear hn
  have Hn' := hid hn'; clear hn'
  go_enter Try.func22, Try.ntmps22
  have hst := St.refl w
  go_wp2_with (first | go_big_skip | go_big_guard | (refine wl_boxA hst rfl rfl rfl ?_; intro g w1 hst1; clear hst) | (refine wl_boxA hst1 rfl rfl rfl ?_; intro g2 w2 hst2; clear hst1) | (refine wl_loadE rfl rfl rfl ?_; first | refine ⟨_, Loads.at [] hst2 rfl, ?_⟩ | refine ⟨_, Loads.at [_] hst2 rfl, ?_⟩ | refine ⟨_, Loads.atA (bytesV S') [] hst2 (hS'.v) (ptr_sum _ _ _ _), ?_⟩ | refine ⟨_, Loads.atA (bytesV S) [_] hst2 (hS.v) (ptr_sum _ _ _ _), ?_⟩) | (go_at_call 57; refine (sameAddrs_any _ _ _ _ _ _ l r _ (Rd.old hst2 hA) Hn.out (Rd.old hst2 hB) Hn'.out).mono ?_; rintro _ _ ⟨rfl, hcall⟩; replace hst2 := St.call0 hst2 hcall; clear hcall) | (refine wl_eql_bytes rfl rfl rfl rfl (hS.two hS') ?_))
  all_goals (go_ret; exact ⟨ret_bool (by unfold sameB; grind), hst2.nil⟩)
end
end Go.Proofs.Ytifajcblbedcoaa
namespace Go.Proofs.Ytifajcblbedcoaa
set_option linter.unusedVariables false
set_option linter.unusedSimpArgs false
open Go.RowKit Hp
attribute [local irreducible] Go.Calls
set_option maxHeartbeats 1000000
def sampleA : List (Int × Int) := [(1, 5), (0, 300)]
theorem make_no : rOK (List.replicate 46 0) = false := by simp [rOK]
def sampleB : List UInt8 := [2, 1, 0, 5, 0, 1, 44, 0, 0, 0, 0, 0, 0, 7, 2] ++ List.replicate 32 0
theorem sample_bytes : bytesP sampleA 7 2 nones = sampleB := by decide
end Go.Proofs.Ytifajcblbedcoaa
namespace Go.Proofs.Ytifajcblbedcoaa
set_option linter.unusedVariables false
set_option linter.unusedSimpArgs false
open Go.RowKit Hp
attribute [local go_sem ↓] Go.wp_at_zero Go.wp_at_succ
attribute [local irreducible] Go.Calls
set_option maxHeartbeats 2000000
theorem hole_bytes : bytesP [] 0 0 nones = List.replicate 47 0 := by decide
theorem make48_no : rOK (List.replicate 48 0) = false := by simp [rOK]
theorem one_no : rOK (1 :: List.replicate 46 0) = false := by decide
theorem storedA (A : Addr) (v : Value) : storeVar 87 A v = storeVarH 87 A v := rfl
attribute [local go_sem ↓] storedA
end Go.Proofs.Ytifajcblbedcoaa
namespace Go.Proofs.Ytifajcblbedcoaa
set_option linter.unusedVariables false
set_option linter.unusedSimpArgs false
open Go.RowKit Hp
attribute [local go_sem ↓] Go.wp_at_zero Go.wp_at_succ
attribute [local irreducible] Go.Calls
set_option maxHeartbeats 2000000
theorem nat0 (n : Nat) : (true && (decide (n = 0) == ((n : Int) == 0))) = true := by
  rw [Bool.true_and, beq_iff_eq, Bool.eq_iff_iff]; simp
theorem loadedP (A : Addr) : loadVar 46 A = loadVarH 46 A := rfl
theorem loadedL (A : Addr) : loadVar 42 A = loadVarH 42 A := rfl
section
variable (ao bo : Option Addr) (n c m d : Nat) (l : List (Int × Int)) (b v : Int) (S bs : List UInt8) (w : World) (hS : L32 S)
  (hA : Rd w (.slice ao n c) 2 n (addrsV l)) (hn : l.length = n) (hB : Rd w (.slice bo m d) 1 m (bytesV bs)) (hm : bs.length = m)
include hS hA hn hB hm
attribute [local go_sem ↓] loadedP loadedL
end
end Go.Proofs.Ytifajcblbedcoaa
namespace Go.Proofs.Ytifajcblbedcoaa
set_option linter.unusedVariables false
set_option linter.unusedSimpArgs false
open Go.RowKit Hp
attribute [local irreducible] Go.Calls
set_option maxHeartbeats 2000000
theorem PV.open {w : World} {p : PV} (h : p.In w) : ∃ ao n c, p.cells = ptrCells (.slice ao n c) p.b p.v p.S ∧ Rd w (.slice ao n c) 2 n (addrsV p.l) ∧ p.l.length = n := by
  obtain ⟨_, ao, n, c, e, h1, h2⟩ := h
  exact ⟨ao, n, c, by rw [PV.cells, e], h1, h2⟩
section
variable (p q : PV) (w : World) (hp : p.In w) (hq : q.In w)
include hp
theorem hole_pv : Calls Try.prog 51 #[.agg p.cells.toArray] w fun e w' => e = .returned (.bool p.hole) ∧ St w [] w' [] := by
  obtain ⟨ao, n, c, e, h1, h2⟩ := PV.open hp
  rw [e, PV.hole, h2]
  exact hole_any ao n c p.b p.v p.S w hp.1
theorem check_pv : Calls Try.prog 52 #[.agg p.cells.toArray] w fun e w' => e = .returned (.int .i64 (if p.ok then 0 else 2)) ∧ St w [] w' [] := by
  obtain ⟨ao, n, c, e, h1, h2⟩ := PV.open hp
  rw [e, PV.ok]
  exact check_any ao n c p.l p.b p.v p.S w hp.1 h1 h2
include hq
theorem same_pv : Calls Try.prog 22 #[.agg p.cells.toArray, .agg q.cells.toArray] w fun e w' => e = .returned (.bool (p.same q)) ∧ St w [] w' [] := by
  obtain ⟨ao, n, c, e, h1, h2⟩ := PV.open hp
  obtain ⟨ao', n', c', e', h1', h2'⟩ := PV.open hq
  rw [e, e', PV.same]
  exact samePointer_any ao ao' n c n' c' p.l q.l p.b p.v q.b q.v p.S q.S w hp.1 hq.1 h1 h2 h1' h2'
end
theorem neg_true {b : Bool} (h : (!b) = true) : b = false := by simpa using h
theorem neg_false {b : Bool} (h : (!b) = false) : b = true := by simpa using h
theorem all_step {f : Nat → Bool} {k : Nat} (h : ∀ j, j < k → f j = true) (hk : f k = true) : ∀ j, j < k + 1 → f j = true := fun j hj => by
  by_cases e : j = k
  · rw [e]; exact hk
  · exact h j (by omega)
theorem all_step_no {f : Nat → Bool} {k : Nat} (h : ∀ j, j < k → f j = false) (hk : f k = false) : ∀ j, j < k + 1 → f j = false := fun j hj => by
  by_cases e : j = k
  · rw [e]; exact hk
  · exact h j (by omega)
end Go.Proofs.Ytifajcblbedcoaa
namespace Go.Proofs.Ytifajcblbedcoaa
set_option linter.unusedVariables false
set_option linter.unusedSimpArgs false
open Go.RowKit Hp
attribute [local irreducible] Go.Calls Go.wpList Hp.gvV Hp.gB Hp.gA Hp.bOr Hp.bAnd Hp.bNot
set_option maxRecDepth 100000
set_option maxHeartbeats 4000000
theorem PV.lv (p : PV) (h : L32 p.S) : p.cells[2]? = some (.int .i64 p.v) := rfl
theorem okV (p : PV) : ((if p.ok then (0 : Int) else 2) == 0) = p.ok := by cases p.ok <;> rfl
theorem alone_eq (x : Value × RC) : x.2.aloneB = ((((inB x.2.id 1 2147483647 && inB x.2.size 1 64) && inB x.2.made 1 2147483648) && rootB (x.2.pv x.1)) && x.2.kindB) := rfl
theorem rooted_any (p : PV) (w : World) (hp : p.In w) : Calls Try.prog 89 #[.agg p.cells.toArray] w fun e w' => e = .returned (.bool (rootB p)) ∧ St w [] w' [] := by
  have hst0 := St.refl w
  have HP := hid hp
  have H35 := hid (PV.len hp.1)
  clear hp
  unfold rootB
  obtain ⟨h, hh⟩ : ∃ h, h = p.hole := ⟨_, rfl⟩
  obtain ⟨k, hk⟩ : ∃ k, k = p.ok := ⟨_, rfl⟩
  rw [← hh, ← hk]
  have H1 := hid hh
  have H2 := hid hk
  clear hh hk
  cases h <;> cases k
  all_goals
    go_enter Try.func89, Try.ntmps89
    go_wp2_with (first | go_big_skip | go_big_guard | (refine wl_boxA hst0 rfl rfl rfl ?_; intro g4 w1 hst1; clear hst0) | (refine wl_loadE rfl rfl rfl ?_; first | refine ⟨_, Loads.atA p.cells [] hst1 H35.out (by simp), ?_⟩ | refine ⟨_, Loads.at [] hst1 rfl, ?_⟩) | (go_at_call 51; refine (hole_pv p _ (PV.In.old hst1 HP.out)).mono ?_; rw [← H1.out]; rintro _ w9 ⟨rfl, h4⟩; replace hst1 := St.call0 hst1 h4; clear h4) | (go_at_call 52; refine (check_pv p _ (PV.In.old hst1 HP.out)).mono ?_; rw [← H2.out]; rintro _ w9 ⟨rfl, h4⟩; replace hst1 := St.call0 hst1 h4; clear h4))
    go_ret
    exact ⟨rfl, hst1.nil⟩
end Go.Proofs.Ytifajcblbedcoaa
namespace Go.Proofs.Ytifajcblbedcoaa
set_option linter.unusedVariables false
set_option linter.unusedSimpArgs false
open Go.RowKit Hp
attribute [local irreducible] Go.Calls Go.wpList Hp.gvV Hp.gB Hp.gA Hp.bOr Hp.bAnd Hp.bNot inB rootB partB snapB
set_option maxRecDepth 100000
set_option maxHeartbeats 4000000
theorem alone_any (x : Value × RC) (w : World) (hx : RC.In w x) : Calls Try.prog 78 #[.agg (cellsR x).toArray] w fun e w' => e = .returned (.bool x.2.aloneB) ∧ St w [] w' [] := by
  have hst0 := St.refl w
  have HX := hid hx
  have HL := hid hx.L
  have H35 := hid (PV.len (p := x.2.pv x.1) hx.L)
  clear hx
  go_enter Try.func78, Try.ntmps78
  go_wp2_with (first | go_big_skip | (refine wl_boxA hst0 rfl rfl rfl ?_; intro g4 w1 hst; clear hst0) | (show wpList _ _ _ (Oper.mk _ (.fieldAddr 51 _ _) _ _ _ (some _) :: _) _ _; refine wl_gfldR rfl (by first | exact wanted_b rfl rfl | exact wanted_g rfl rfl) (by first | exact (fun hg => gvV_on hg) | exact (fun hg => gvV_gA hg) | exact (fun _ => rfl)) rfl ?_; (try simp only [Act.put, List.setIfInBounds_toArray, List.set_cons_zero, List.set_cons_succ])) | (show wpList _ _ _ (Oper.mk _ (.fieldAddr 46 _ 1) _ _ _ (some _) :: _) _ _; refine wl_gfld (d := 1) rfl (by first | exact wanted_b rfl rfl | exact wanted_g rfl rfl) (by first | exact (fun hg => gvV_on hg) | exact (fun hg => gvV_gA hg) | exact (fun _ => rfl)) (by kernel_rfl) ?_; (try simp only [Act.put, List.setIfInBounds_toArray, List.set_cons_zero, List.set_cons_succ])) | (show wpList _ _ _ (Oper.mk _ (.load _ _) _ _ _ (some _) :: _) _ _; refine wl_gloadE rfl (by first | exact wanted_b rfl rfl | exact wanted_g rfl rfl) (by first | exact (fun hg => gvV_on hg) | exact (fun hg => gvV_gA hg) | exact (fun _ => rfl)) ?_; (first | refine ⟨_, Loads.atA ((x.2.pv x.1).cells) [] hst H35.out (cellsR_root HL.out), ?_⟩ | refine ⟨_, Loads.at [] hst (cellsR_39 HL.out), ?_⟩ | refine ⟨_, Loads.at [] hst (cellsR_40 HL.out), ?_⟩ | refine ⟨_, Loads.at [] hst (cellsR_41 HL.out), ?_⟩ | refine ⟨_, Loads.at [] hst (cellsR_42 HL.out), ?_⟩ | refine ⟨_, Loads.at [] hst (cellsR_43 HL.out), ?_⟩ | refine ⟨_, Loads.at [] hst rfl, ?_⟩); (try simp only [Act.put, List.setIfInBounds_toArray, List.set_cons_zero, List.set_cons_succ]); (repeat ((first | (show wpList _ _ _ (Oper.mk _ (.move _) _ _ _ none :: _) _ _; refine wl_mv rfl rfl rfl ?_) | (show wpList _ _ _ (Oper.mk _ (.pick _ _ _) _ _ _ none :: _) _ _; (first | (refine wl_pickOr rfl rfl rfl rfl rfl ?_; intro q hq) | (refine wl_pickAnd rfl rfl rfl rfl rfl ?_; intro q hq))) | (show wpList _ _ _ (Oper.mk _ (.pick _ _ _) _ _ _ (some _) :: _) _ _; (first | (refine wl_gpickOr rfl (by first | exact wanted_b rfl rfl | exact wanted_g rfl rfl) rfl rfl rfl ?_; intro q hq) | (refine wl_gpickAnd rfl (by first | exact wanted_b rfl rfl | exact wanted_g rfl rfl) rfl rfl rfl ?_; intro q hq))) | (show wpList _ _ _ (Oper.mk _ (.move _) _ _ _ (some _) :: _) _ _; refine wl_gmove rfl (by first | exact wanted_b rfl rfl | exact wanted_g rfl rfl) (by first | exact (fun hg => gvV_on hg) | exact (fun hg => gvV_gA hg) | exact (fun _ => rfl)) ?_)); (try simp only [Act.put, List.setIfInBounds_toArray, List.set_cons_zero, List.set_cons_succ])))) | (show wpList _ _ _ (Oper.mk _ (.binOp _ 3 _ _ _) _ _ _ (some _) :: _) _ _; refine wl_gcmp rfl (by first | exact wanted_b rfl rfl | exact wanted_g rfl rfl) (by first | exact (fun hg => gvV_on hg) | exact (fun hg => gvV_gA hg) | exact (fun _ => rfl)) (by first | exact (fun hg => gvV_on hg) | exact (fun hg => gvV_gA hg) | exact (fun _ => rfl)) rfl ?_; (try simp only [Act.put, List.setIfInBounds_toArray, List.set_cons_zero, List.set_cons_succ]); (repeat ((first | (show wpList _ _ _ (Oper.mk _ (.move _) _ _ _ none :: _) _ _; refine wl_mv rfl rfl rfl ?_) | (show wpList _ _ _ (Oper.mk _ (.pick _ _ _) _ _ _ none :: _) _ _; (first | (refine wl_pickOr rfl rfl rfl rfl rfl ?_; intro q hq) | (refine wl_pickAnd rfl rfl rfl rfl rfl ?_; intro q hq))) | (show wpList _ _ _ (Oper.mk _ (.pick _ _ _) _ _ _ (some _) :: _) _ _; (first | (refine wl_gpickOr rfl (by first | exact wanted_b rfl rfl | exact wanted_g rfl rfl) rfl rfl rfl ?_; intro q hq) | (refine wl_gpickAnd rfl (by first | exact wanted_b rfl rfl | exact wanted_g rfl rfl) rfl rfl rfl ?_; intro q hq))) | (show wpList _ _ _ (Oper.mk _ (.move _) _ _ _ (some _) :: _) _ _; refine wl_gmove rfl (by first | exact wanted_b rfl rfl | exact wanted_g rfl rfl) (by first | exact (fun hg => gvV_on hg) | exact (fun hg => gvV_gA hg) | exact (fun _ => rfl)) ?_)); (try simp only [Act.put, List.setIfInBounds_toArray, List.set_cons_zero, List.set_cons_succ])))) | (show wpList _ _ _ (Oper.mk _ (.unOp .not _ _) _ _ _ (some _) :: _) _ _; refine wl_gnot rfl (by first | exact wanted_b rfl rfl | exact wanted_g rfl rfl) (by first | exact (fun hg => gvV_on hg) | exact (fun hg => gvV_gA hg) | exact (fun _ => rfl)) ?_; (try simp only [Act.put, List.setIfInBounds_toArray, List.set_cons_zero, List.set_cons_succ]); (repeat ((first | (show wpList _ _ _ (Oper.mk _ (.move _) _ _ _ none :: _) _ _; refine wl_mv rfl rfl rfl ?_) | (show wpList _ _ _ (Oper.mk _ (.pick _ _ _) _ _ _ none :: _) _ _; (first | (refine wl_pickOr rfl rfl rfl rfl rfl ?_; intro q hq) | (refine wl_pickAnd rfl rfl rfl rfl rfl ?_; intro q hq))) | (show wpList _ _ _ (Oper.mk _ (.pick _ _ _) _ _ _ (some _) :: _) _ _; (first | (refine wl_gpickOr rfl (by first | exact wanted_b rfl rfl | exact wanted_g rfl rfl) rfl rfl rfl ?_; intro q hq) | (refine wl_gpickAnd rfl (by first | exact wanted_b rfl rfl | exact wanted_g rfl rfl) rfl rfl rfl ?_; intro q hq))) | (show wpList _ _ _ (Oper.mk _ (.move _) _ _ _ (some _) :: _) _ _; refine wl_gmove rfl (by first | exact wanted_b rfl rfl | exact wanted_g rfl rfl) (by first | exact (fun hg => gvV_on hg) | exact (fun hg => gvV_gA hg) | exact (fun _ => rfl)) ?_)); (try simp only [Act.put, List.setIfInBounds_toArray, List.set_cons_zero, List.set_cons_succ])))) | (refine wl_loadE rfl rfl rfl ?_; first | refine ⟨_, Loads.atA ((x.2.pv x.1).cells) [] hst H35.out (cellsR_root HL.out), ?_⟩ | refine ⟨_, Loads.at [] hst (cellsR_39 HL.out), ?_⟩ | refine ⟨_, Loads.at [] hst (cellsR_40 HL.out), ?_⟩ | refine ⟨_, Loads.at [] hst (cellsR_41 HL.out), ?_⟩ | refine ⟨_, Loads.at [] hst (cellsR_42 HL.out), ?_⟩ | refine ⟨_, Loads.at [] hst (cellsR_43 HL.out), ?_⟩ | refine ⟨_, Loads.at [] hst rfl, ?_⟩) | (show wpList _ _ _ (Oper.mk _ (.call (Call.mk (.value (.func 74)) _ _)) _ _ _ (some _) :: _) _ _; refine wl_gcall (v := .bool (inB x.2.size 1 64)) hst (by first | exact wanted_b rfl rfl | exact wanted_g rfl rfl) ?_ ?_; (intro hg K hK; have Hg := hid hg; clear hg; go_simp; go_at_call 74; (try (conv => (arg 3; simp only [gvV_on Hg.out]))); refine (within_any x.2.size 1 64 _).mono ?_; rintro _ w9 ⟨rfl, h4⟩; have hk := hK _ (St.call0 hst h4); simp only [Act.put, List.setIfInBounds_toArray, List.set_cons_zero, List.set_cons_succ] at hk; dsimp only; exact hk); (intro w5 hst5; replace hst := hst5; clear hst5; (try simp only [Act.put, List.setIfInBounds_toArray, List.set_cons_zero, List.set_cons_succ]); (repeat ((first | (show wpList _ _ _ (Oper.mk _ (.move _) _ _ _ none :: _) _ _; refine wl_mv rfl rfl rfl ?_) | (show wpList _ _ _ (Oper.mk _ (.pick _ _ _) _ _ _ none :: _) _ _; (first | (refine wl_pickOr rfl rfl rfl rfl rfl ?_; intro q hq) | (refine wl_pickAnd rfl rfl rfl rfl rfl ?_; intro q hq))) | (show wpList _ _ _ (Oper.mk _ (.pick _ _ _) _ _ _ (some _) :: _) _ _; (first | (refine wl_gpickOr rfl (by first | exact wanted_b rfl rfl | exact wanted_g rfl rfl) rfl rfl rfl ?_; intro q hq) | (refine wl_gpickAnd rfl (by first | exact wanted_b rfl rfl | exact wanted_g rfl rfl) rfl rfl rfl ?_; intro q hq))) | (show wpList _ _ _ (Oper.mk _ (.move _) _ _ _ (some _) :: _) _ _; refine wl_gmove rfl (by first | exact wanted_b rfl rfl | exact wanted_g rfl rfl) (by first | exact (fun hg => gvV_on hg) | exact (fun hg => gvV_gA hg) | exact (fun _ => rfl)) ?_)); (try simp only [Act.put, List.setIfInBounds_toArray, List.set_cons_zero, List.set_cons_succ]))))) | (show wpList _ _ _ (Oper.mk _ (.call (Call.mk (.value (.func 74)) _ _)) _ _ _ (some _) :: _) _ _; refine wl_gcall (v := .bool (inB x.2.made 1 2147483648)) hst (by first | exact wanted_b rfl rfl | exact wanted_g rfl rfl) ?_ ?_; (intro hg K hK; have Hg := hid hg; clear hg; go_simp; go_at_call 74; (try (conv => (arg 3; simp only [gvV_on Hg.out]))); refine (within_any x.2.made 1 2147483648 _).mono ?_; rintro _ w9 ⟨rfl, h4⟩; have hk := hK _ (St.call0 hst h4); simp only [Act.put, List.setIfInBounds_toArray, List.set_cons_zero, List.set_cons_succ] at hk; dsimp only; exact hk); (intro w5 hst5; replace hst := hst5; clear hst5; (try simp only [Act.put, List.setIfInBounds_toArray, List.set_cons_zero, List.set_cons_succ]); (repeat ((first | (show wpList _ _ _ (Oper.mk _ (.move _) _ _ _ none :: _) _ _; refine wl_mv rfl rfl rfl ?_) | (show wpList _ _ _ (Oper.mk _ (.pick _ _ _) _ _ _ none :: _) _ _; (first | (refine wl_pickOr rfl rfl rfl rfl rfl ?_; intro q hq) | (refine wl_pickAnd rfl rfl rfl rfl rfl ?_; intro q hq))) | (show wpList _ _ _ (Oper.mk _ (.pick _ _ _) _ _ _ (some _) :: _) _ _; (first | (refine wl_gpickOr rfl (by first | exact wanted_b rfl rfl | exact wanted_g rfl rfl) rfl rfl rfl ?_; intro q hq) | (refine wl_gpickAnd rfl (by first | exact wanted_b rfl rfl | exact wanted_g rfl rfl) rfl rfl rfl ?_; intro q hq))) | (show wpList _ _ _ (Oper.mk _ (.move _) _ _ _ (some _) :: _) _ _; refine wl_gmove rfl (by first | exact wanted_b rfl rfl | exact wanted_g rfl rfl) (by first | exact (fun hg => gvV_on hg) | exact (fun hg => gvV_gA hg) | exact (fun _ => rfl)) ?_)); (try simp only [Act.put, List.setIfInBounds_toArray, List.set_cons_zero, List.set_cons_succ]))))) | (show wpList _ _ _ (Oper.mk _ (.call (Call.mk (.value (.func 74)) _ _)) _ _ _ (some _) :: _) _ _; refine wl_gcall (v := .bool (inB x.2.origin 0 2147483647)) hst (by first | exact wanted_b rfl rfl | exact wanted_g rfl rfl) ?_ ?_; (intro hg K hK; have Hg := hid hg; clear hg; go_simp; go_at_call 74; (try (conv => (arg 3; simp only [gvV_on Hg.out]))); refine (within_any x.2.origin 0 2147483647 _).mono ?_; rintro _ w9 ⟨rfl, h4⟩; have hk := hK _ (St.call0 hst h4); simp only [Act.put, List.setIfInBounds_toArray, List.set_cons_zero, List.set_cons_succ] at hk; dsimp only; exact hk); (intro w5 hst5; replace hst := hst5; clear hst5; (try simp only [Act.put, List.setIfInBounds_toArray, List.set_cons_zero, List.set_cons_succ]); (repeat ((first | (show wpList _ _ _ (Oper.mk _ (.move _) _ _ _ none :: _) _ _; refine wl_mv rfl rfl rfl ?_) | (show wpList _ _ _ (Oper.mk _ (.pick _ _ _) _ _ _ none :: _) _ _; (first | (refine wl_pickOr rfl rfl rfl rfl rfl ?_; intro q hq) | (refine wl_pickAnd rfl rfl rfl rfl rfl ?_; intro q hq))) | (show wpList _ _ _ (Oper.mk _ (.pick _ _ _) _ _ _ (some _) :: _) _ _; (first | (refine wl_gpickOr rfl (by first | exact wanted_b rfl rfl | exact wanted_g rfl rfl) rfl rfl rfl ?_; intro q hq) | (refine wl_gpickAnd rfl (by first | exact wanted_b rfl rfl | exact wanted_g rfl rfl) rfl rfl rfl ?_; intro q hq))) | (show wpList _ _ _ (Oper.mk _ (.move _) _ _ _ (some _) :: _) _ _; refine wl_gmove rfl (by first | exact wanted_b rfl rfl | exact wanted_g rfl rfl) (by first | exact (fun hg => gvV_on hg) | exact (fun hg => gvV_gA hg) | exact (fun _ => rfl)) ?_)); (try simp only [Act.put, List.setIfInBounds_toArray, List.set_cons_zero, List.set_cons_succ]))))) | (show wpList _ _ _ (Oper.mk _ (.call (Call.mk (.value (.func 74)) _ _)) _ _ _ (some _) :: _) _ _; refine wl_gcall (v := .bool (inB x.2.quota 0 64)) hst (by first | exact wanted_b rfl rfl | exact wanted_g rfl rfl) ?_ ?_; (intro hg K hK; have Hg := hid hg; clear hg; go_simp; go_at_call 74; (try (conv => (arg 3; simp only [gvV_on Hg.out]))); refine (within_any x.2.quota 0 64 _).mono ?_; rintro _ w9 ⟨rfl, h4⟩; have hk := hK _ (St.call0 hst h4); simp only [Act.put, List.setIfInBounds_toArray, List.set_cons_zero, List.set_cons_succ] at hk; dsimp only; exact hk); (intro w5 hst5; replace hst := hst5; clear hst5; (try simp only [Act.put, List.setIfInBounds_toArray, List.set_cons_zero, List.set_cons_succ]); (repeat ((first | (show wpList _ _ _ (Oper.mk _ (.move _) _ _ _ none :: _) _ _; refine wl_mv rfl rfl rfl ?_) | (show wpList _ _ _ (Oper.mk _ (.pick _ _ _) _ _ _ none :: _) _ _; (first | (refine wl_pickOr rfl rfl rfl rfl rfl ?_; intro q hq) | (refine wl_pickAnd rfl rfl rfl rfl rfl ?_; intro q hq))) | (show wpList _ _ _ (Oper.mk _ (.pick _ _ _) _ _ _ (some _) :: _) _ _; (first | (refine wl_gpickOr rfl (by first | exact wanted_b rfl rfl | exact wanted_g rfl rfl) rfl rfl rfl ?_; intro q hq) | (refine wl_gpickAnd rfl (by first | exact wanted_b rfl rfl | exact wanted_g rfl rfl) rfl rfl rfl ?_; intro q hq))) | (show wpList _ _ _ (Oper.mk _ (.move _) _ _ _ (some _) :: _) _ _; refine wl_gmove rfl (by first | exact wanted_b rfl rfl | exact wanted_g rfl rfl) (by first | exact (fun hg => gvV_on hg) | exact (fun hg => gvV_gA hg) | exact (fun _ => rfl)) ?_)); (try simp only [Act.put, List.setIfInBounds_toArray, List.set_cons_zero, List.set_cons_succ]))))) | (show wpList _ _ _ (Oper.mk _ (.call (Call.mk (.value (.func 74)) _ _)) _ _ _ (some _) :: _) _ _; refine wl_gcall (v := .bool (inB x.2.reserve 0 64)) hst (by first | exact wanted_b rfl rfl | exact wanted_g rfl rfl) ?_ ?_; (intro hg K hK; have Hg := hid hg; clear hg; go_simp; go_at_call 74; (try (conv => (arg 3; simp only [gvV_on Hg.out]))); refine (within_any x.2.reserve 0 64 _).mono ?_; rintro _ w9 ⟨rfl, h4⟩; have hk := hK _ (St.call0 hst h4); simp only [Act.put, List.setIfInBounds_toArray, List.set_cons_zero, List.set_cons_succ] at hk; dsimp only; exact hk); (intro w5 hst5; replace hst := hst5; clear hst5; (try simp only [Act.put, List.setIfInBounds_toArray, List.set_cons_zero, List.set_cons_succ]); (repeat ((first | (show wpList _ _ _ (Oper.mk _ (.move _) _ _ _ none :: _) _ _; refine wl_mv rfl rfl rfl ?_) | (show wpList _ _ _ (Oper.mk _ (.pick _ _ _) _ _ _ none :: _) _ _; (first | (refine wl_pickOr rfl rfl rfl rfl rfl ?_; intro q hq) | (refine wl_pickAnd rfl rfl rfl rfl rfl ?_; intro q hq))) | (show wpList _ _ _ (Oper.mk _ (.pick _ _ _) _ _ _ (some _) :: _) _ _; (first | (refine wl_gpickOr rfl (by first | exact wanted_b rfl rfl | exact wanted_g rfl rfl) rfl rfl rfl ?_; intro q hq) | (refine wl_gpickAnd rfl (by first | exact wanted_b rfl rfl | exact wanted_g rfl rfl) rfl rfl rfl ?_; intro q hq))) | (show wpList _ _ _ (Oper.mk _ (.move _) _ _ _ (some _) :: _) _ _; refine wl_gmove rfl (by first | exact wanted_b rfl rfl | exact wanted_g rfl rfl) (by first | exact (fun hg => gvV_on hg) | exact (fun hg => gvV_gA hg) | exact (fun _ => rfl)) ?_)); (try simp only [Act.put, List.setIfInBounds_toArray, List.set_cons_zero, List.set_cons_succ]))))) | (show wpList _ _ _ (Oper.mk _ (.call (Call.mk (.value (.func 74)) _ _)) _ _ _ (some _) :: _) _ _; refine wl_gcall (v := .bool (inB x.2.own 1 2147483647)) hst (by first | exact wanted_b rfl rfl | exact wanted_g rfl rfl) ?_ ?_; (intro hg K hK; have Hg := hid hg; clear hg; go_simp; go_at_call 74; (try (conv => (arg 3; simp only [gvV_on Hg.out]))); refine (within_any x.2.own 1 2147483647 _).mono ?_; rintro _ w9 ⟨rfl, h4⟩; have hk := hK _ (St.call0 hst h4); simp only [Act.put, List.setIfInBounds_toArray, List.set_cons_zero, List.set_cons_succ] at hk; dsimp only; exact hk); (intro w5 hst5; replace hst := hst5; clear hst5; (try simp only [Act.put, List.setIfInBounds_toArray, List.set_cons_zero, List.set_cons_succ]); (repeat ((first | (show wpList _ _ _ (Oper.mk _ (.move _) _ _ _ none :: _) _ _; refine wl_mv rfl rfl rfl ?_) | (show wpList _ _ _ (Oper.mk _ (.pick _ _ _) _ _ _ none :: _) _ _; (first | (refine wl_pickOr rfl rfl rfl rfl rfl ?_; intro q hq) | (refine wl_pickAnd rfl rfl rfl rfl rfl ?_; intro q hq))) | (show wpList _ _ _ (Oper.mk _ (.pick _ _ _) _ _ _ (some _) :: _) _ _; (first | (refine wl_gpickOr rfl (by first | exact wanted_b rfl rfl | exact wanted_g rfl rfl) rfl rfl rfl ?_; intro q hq) | (refine wl_gpickAnd rfl (by first | exact wanted_b rfl rfl | exact wanted_g rfl rfl) rfl rfl rfl ?_; intro q hq))) | (show wpList _ _ _ (Oper.mk _ (.move _) _ _ _ (some _) :: _) _ _; refine wl_gmove rfl (by first | exact wanted_b rfl rfl | exact wanted_g rfl rfl) (by first | exact (fun hg => gvV_on hg) | exact (fun hg => gvV_gA hg) | exact (fun _ => rfl)) ?_)); (try simp only [Act.put, List.setIfInBounds_toArray, List.set_cons_zero, List.set_cons_succ]))))) | (show wpList _ _ _ (Oper.mk _ (.call (Call.mk (.value (.func 89)) _ _)) _ _ _ (some _) :: _) _ _; refine wl_gcall (v := .bool (rootB (x.2.pv x.1))) hst (by first | exact wanted_b rfl rfl | exact wanted_g rfl rfl) ?_ ?_; (intro hg K hK; have Hg := hid hg; clear hg; go_simp; go_at_call 89; (try (conv => (arg 3; simp only [gvV_on Hg.out]))); refine (rooted_any (x.2.pv x.1) _ (PV.In.old hst HX.out.1)).mono ?_; rintro _ w9 ⟨rfl, h4⟩; have hk := hK _ (St.call0 hst h4); simp only [Act.put, List.setIfInBounds_toArray, List.set_cons_zero, List.set_cons_succ] at hk; dsimp only; exact hk); (intro w5 hst5; replace hst := hst5; clear hst5; (try simp only [Act.put, List.setIfInBounds_toArray, List.set_cons_zero, List.set_cons_succ]); (repeat ((first | (show wpList _ _ _ (Oper.mk _ (.move _) _ _ _ none :: _) _ _; refine wl_mv rfl rfl rfl ?_) | (show wpList _ _ _ (Oper.mk _ (.pick _ _ _) _ _ _ none :: _) _ _; (first | (refine wl_pickOr rfl rfl rfl rfl rfl ?_; intro q hq) | (refine wl_pickAnd rfl rfl rfl rfl rfl ?_; intro q hq))) | (show wpList _ _ _ (Oper.mk _ (.pick _ _ _) _ _ _ (some _) :: _) _ _; (first | (refine wl_gpickOr rfl (by first | exact wanted_b rfl rfl | exact wanted_g rfl rfl) rfl rfl rfl ?_; intro q hq) | (refine wl_gpickAnd rfl (by first | exact wanted_b rfl rfl | exact wanted_g rfl rfl) rfl rfl rfl ?_; intro q hq))) | (show wpList _ _ _ (Oper.mk _ (.move _) _ _ _ (some _) :: _) _ _; refine wl_gmove rfl (by first | exact wanted_b rfl rfl | exact wanted_g rfl rfl) (by first | exact (fun hg => gvV_on hg) | exact (fun hg => gvV_gA hg) | exact (fun _ => rfl)) ?_)); (try simp only [Act.put, List.setIfInBounds_toArray, List.set_cons_zero, List.set_cons_succ]))))) | (go_at_call 74; refine (within_any x.2.id _ _ _).mono ?_; rintro _ w9 ⟨rfl, h4⟩; replace hst := St.call0 hst h4; clear h4; (try simp only [Act.put, List.setIfInBounds_toArray, List.set_cons_zero, List.set_cons_succ]); (repeat ((first | (show wpList _ _ _ (Oper.mk _ (.move _) _ _ _ none :: _) _ _; refine wl_mv rfl rfl rfl ?_) | (show wpList _ _ _ (Oper.mk _ (.pick _ _ _) _ _ _ none :: _) _ _; (first | (refine wl_pickOr rfl rfl rfl rfl rfl ?_; intro q hq) | (refine wl_pickAnd rfl rfl rfl rfl rfl ?_; intro q hq))) | (show wpList _ _ _ (Oper.mk _ (.pick _ _ _) _ _ _ (some _) :: _) _ _; (first | (refine wl_gpickOr rfl (by first | exact wanted_b rfl rfl | exact wanted_g rfl rfl) rfl rfl rfl ?_; intro q hq) | (refine wl_gpickAnd rfl (by first | exact wanted_b rfl rfl | exact wanted_g rfl rfl) rfl rfl rfl ?_; intro q hq))) | (show wpList _ _ _ (Oper.mk _ (.move _) _ _ _ (some _) :: _) _ _; refine wl_gmove rfl (by first | exact wanted_b rfl rfl | exact wanted_g rfl rfl) (by first | exact (fun hg => gvV_on hg) | exact (fun hg => gvV_gA hg) | exact (fun _ => rfl)) ?_)); (try simp only [Act.put, List.setIfInBounds_toArray, List.set_cons_zero, List.set_cons_succ])))) | (go_at_call 26; refine (volume_any x.2.name _ HX.out.2).mono ?_; rintro _ w9 ⟨rfl, h4⟩; replace hst := St.call0 hst h4; clear h4; (try simp only [Act.put, List.setIfInBounds_toArray, List.set_cons_zero, List.set_cons_succ]); (repeat ((first | (show wpList _ _ _ (Oper.mk _ (.move _) _ _ _ none :: _) _ _; refine wl_mv rfl rfl rfl ?_) | (show wpList _ _ _ (Oper.mk _ (.pick _ _ _) _ _ _ none :: _) _ _; (first | (refine wl_pickOr rfl rfl rfl rfl rfl ?_; intro q hq) | (refine wl_pickAnd rfl rfl rfl rfl rfl ?_; intro q hq))) | (show wpList _ _ _ (Oper.mk _ (.pick _ _ _) _ _ _ (some _) :: _) _ _; (first | (refine wl_gpickOr rfl (by first | exact wanted_b rfl rfl | exact wanted_g rfl rfl) rfl rfl rfl ?_; intro q hq) | (refine wl_gpickAnd rfl (by first | exact wanted_b rfl rfl | exact wanted_g rfl rfl) rfl rfl rfl ?_; intro q hq))) | (show wpList _ _ _ (Oper.mk _ (.move _) _ _ _ (some _) :: _) _ _; refine wl_gmove rfl (by first | exact wanted_b rfl rfl | exact wanted_g rfl rfl) (by first | exact (fun hg => gvV_on hg) | exact (fun hg => gvV_gA hg) | exact (fun _ => rfl)) ?_)); (try simp only [Act.put, List.setIfInBounds_toArray, List.set_cons_zero, List.set_cons_succ])))) | (go_at_call 55; refine (snap_any x.2.name _ HX.out.2).mono ?_; rintro _ w9 ⟨rfl, h4⟩; replace hst := St.call0 hst h4; clear h4; (try simp only [Act.put, List.setIfInBounds_toArray, List.set_cons_zero, List.set_cons_succ]); (repeat ((first | (show wpList _ _ _ (Oper.mk _ (.move _) _ _ _ none :: _) _ _; refine wl_mv rfl rfl rfl ?_) | (show wpList _ _ _ (Oper.mk _ (.pick _ _ _) _ _ _ none :: _) _ _; (first | (refine wl_pickOr rfl rfl rfl rfl rfl ?_; intro q hq) | (refine wl_pickAnd rfl rfl rfl rfl rfl ?_; intro q hq))) | (show wpList _ _ _ (Oper.mk _ (.pick _ _ _) _ _ _ (some _) :: _) _ _; (first | (refine wl_gpickOr rfl (by first | exact wanted_b rfl rfl | exact wanted_g rfl rfl) rfl rfl rfl ?_; intro q hq) | (refine wl_gpickAnd rfl (by first | exact wanted_b rfl rfl | exact wanted_g rfl rfl) rfl rfl rfl ?_; intro q hq))) | (show wpList _ _ _ (Oper.mk _ (.move _) _ _ _ (some _) :: _) _ _; refine wl_gmove rfl (by first | exact wanted_b rfl rfl | exact wanted_g rfl rfl) (by first | exact (fun hg => gvV_on hg) | exact (fun hg => gvV_gA hg) | exact (fun _ => rfl)) ?_)); (try simp only [Act.put, List.setIfInBounds_toArray, List.set_cons_zero, List.set_cons_succ])))))
  all_goals go_ret
  all_goals refine ⟨congrArg (fun z => Ending.returned (Value.bool z)) (?_ : (_ : Bool) = x.2.aloneB), hst.nil⟩
  all_goals
    have e := alone_eq x
    clear HX HL H35 hst
    rw [e, RC.kindB]
    clear e
    simp only [hid_iff, bNot_eq] at *
    (simp_all only [← Bool.not_and, ← Bool.not_or, bne, Bool.not_eq_true', Bool.not_eq_false', Bool.false_or, Bool.true_or, Bool.or_false, Bool.or_true, Bool.not_true, Bool.not_false, Bool.and_true, Bool.and_false, Bool.true_and, Bool.false_and, if_true, if_false, Bool.false_eq_true]) <;> rfl
end Go.Proofs.Ytifajcblbedcoaa
namespace Go.Proofs.Ytifajcblbedcoaa
set_option linter.unusedVariables false
set_option linter.unusedSimpArgs false
open Go.RowKit Hp
attribute [local irreducible] Go.Calls
set_option maxRecDepth 100000
set_option maxHeartbeats 4000000
attribute [local go_sem ↓] heldInt heldRecs heldStr heldRec
theorem err_no {t : TC} (h : t.ok = false) : t.err = 2 := by unfold TC.err; rw [h]; rfl
theorem err_yes {t : TC} (h : t.ok = true) : t.err = 0 := by unfold TC.err; rw [h]; rfl
theorem ok_size {t : TC} (h : t.sizeB = false) : t.ok = false := by unfold TC.ok; rw [h]; rfl
theorem ok_cur {t : TC} (h : t.curB = false) : t.ok = false := by unfold TC.ok; rw [h]; simp
theorem ok_lives {t : TC} (h : t.livesB = false) : t.ok = false := by unfold TC.ok; rw [h]; simp
theorem ok_each {t : TC} (h : allAt (eachB t.recs) t.recs = false) : t.ok = false := by unfold TC.ok; rw [h]; simp
theorem ok_rel {t : TC} (h : allAt (relB t.next t.recs) t.recs = false) : t.ok = false := by unfold TC.ok; rw [h]; simp
theorem ok_all {t : TC} (h1 : t.sizeB = true) (h2 : t.curB = true) (h3 : t.livesB = true) (h4 : allAt (eachB t.recs) t.recs = true) (h5 : allAt (relB t.next t.recs) t.recs = true) : t.ok = true := by unfold TC.ok; rw [h1, h2, h3, h4, h5]; rfl
theorem lives_any (l : List Int) : (l.any fun n => !(inB n 0 2147483647)) = !(l.all fun n => inB n 0 2147483647) := by
  induction l with
  | nil => rfl
  | cons x l ih => rw [List.any_cons, List.all_cons, ih, Bool.not_and]
theorem map_at {xs : List (Value × RC)} {j : Nat} {x : Value × RC} (h : xs[j]? = some x) : (xs.map (·.2))[j]? = some x.2 := by rw [List.getElem?_map, h]; rfl
theorem less_at {xs : List (Value × RC)} {k : Nat} {y : Value × RC} {r : RC} (h : xs[k]? = some y) : lessAt (xs.map (·.2)) (k + 1) r = lessL y.2.name r.name := by
  show (match (xs.map (·.2))[k]? with
    | some y => lessL y.name r.name
    | none => true) = _
  rw [map_at h]
theorem all_steps {f : Nat → RC → Bool} {xs : List (Value × RC)} {j : Nat} {x : Value × RC} (h : ∀ i y, i < j → xs[i]? = some y → f i y.2 = true) (hx : xs[j]? = some x) (hf : f j x.2 = true) : ∀ i y, i < j + 1 → xs[i]? = some y → f i y.2 = true := fun i y hi hy => by
  by_cases e : i = j
  · subst e
    rw [hx] at hy
    cases hy
    exact hf
  · exact h i y (by omega) hy
theorem all_end {f : Nat → RC → Bool} {xs : List (Value × RC)} (h : ∀ i y, i < xs.length → xs[i]? = some y → f i y.2 = true) : allAt f (xs.map (·.2)) = true := allAt_all fun i r hi => by
  rw [List.getElem?_map] at hi
  cases hy : xs[i]? with
  | none => rw [hy] at hi; cases hi
  | some y =>
    rw [hy] at hi
    cases hi
    exact h i y (List.getElem?_eq_some_iff.1 hy).1 hy
theorem check12_any (t : TC) (ar al : Option Addr) (nr cr nl cl : Nat) (xs : List (Value × RC)) (w : World) (hR : RecsIn w (.slice ar nr cr) nr xs) (hx : xs.map (·.2) = t.recs) (hb : nr ≤ 1000000) (hl : Rd w (.slice al nl cl) 1 nl (numsV t.lives)) (hnl : t.lives.length = nl) (hbl : nl ≤ 1000000) :
    Calls Try.prog 58 #[.agg (tabC t (.slice ar nr cr) (.slice al nl cl)).toArray] w fun e w' => e = .returned (.int .i64 t.err) ∧ St w [] w' [] := by
  have hst0 := St.refl w
  have HR := hid hR
  have HX := hid hx
  have HLV := hid hl
  have HNL := hid hnl
  have hlen : t.recs.length = nr := by rw [← hx, List.length_map, hR.len]
  have HLN := hid hlen
  have HA := hid (lives_any t.lives)
  obtain ⟨E, hE⟩ : ∃ E, E = t.err := ⟨_, rfl⟩
  rw [← hE]
  have HE := hid hE
  have hsz : t.sizeB = ((inB t.next 1 2147483648 && decide ((nr : Int) ≤ 16)) && inB (nl : Int) 2 8) := by unfold TC.sizeB; rw [hlen, hnl]
  have HSZ := hid hsz
  clear hR hx hl hnl hlen hE hsz
  cases d1 : inB t.next 1 2147483648
  · skip
    have hv : E = 2 := by rw [HE.out]; exact err_no (ok_size (by rw [HSZ.out, d1]; rfl))
    rw [hv]
    clear hv
    go_enter Try.func58, Try.ntmps58
    go_wp2_with (first | go_big_skip | go_big_guard | (refine wl_boxA hst0 rfl rfl rfl ?_; intro g1 w1 hst; clear hst0) | (refine wl_loadE rfl rfl rfl ?_; first | refine ⟨_, Loads.at [] hst rfl, ?_⟩ | refine ⟨_, Loads.atA (tabC t (.slice ar nr cr) (.slice al nl cl)) [] hst rfl rfl, ?_⟩) | (go_at_call 74; refine (within_any _ _ _ _).mono ?_; rintro _ w9 ⟨rfl, h4⟩; replace hst := St.call0 hst h4; clear h4) | (go_at_call 75; refine (cursored_any t (.slice ar nr cr) al nl cl HNL.out hbl _).mono ?_; rintro _ w9 ⟨rfl, h4⟩; replace hst := St.call0 hst h4; clear h4) | (go_at_call 76; refine (containsI_any (w0 := w) (M := []) (L := []) 77 (fun n => !(inB n 0 2147483647)) al nl cl t.lives _ (fun _ _ => rfl) (fun n w _ => livesC_any n w) (Rd.old hst HLV.out) HNL.out hbl).mono ?_; rw [HA.out]; rintro _ w9 ⟨rfl, h4⟩; replace hst := St.call0 hst h4; clear h4))
    go_ret
    exact ⟨rfl, hst.nil⟩
  · by_cases k2 : (16 : Int) < (nr : Int)
    · have d2 : decide ((16 : Int) < (nr : Int)) = true := decide_eq_true k2
      have d2' : decide ((nr : Int) > 16) = true := d2
      have hv : E = 2 := by rw [HE.out]; exact err_no (ok_size (by rw [HSZ.out, d1, decide_eq_false (by omega)]; rfl))
      rw [hv]
      clear hv
      go_enter Try.func58, Try.ntmps58
      go_wp2_with (first | go_big_skip | go_big_guard | (refine wl_boxA hst0 rfl rfl rfl ?_; intro g1 w1 hst; clear hst0) | (refine wl_loadE rfl rfl rfl ?_; first | refine ⟨_, Loads.at [] hst rfl, ?_⟩ | refine ⟨_, Loads.atA (tabC t (.slice ar nr cr) (.slice al nl cl)) [] hst rfl rfl, ?_⟩) | (go_at_call 74; refine (within_any _ _ _ _).mono ?_; rintro _ w9 ⟨rfl, h4⟩; replace hst := St.call0 hst h4; clear h4) | (go_at_call 75; refine (cursored_any t (.slice ar nr cr) al nl cl HNL.out hbl _).mono ?_; rintro _ w9 ⟨rfl, h4⟩; replace hst := St.call0 hst h4; clear h4) | (go_at_call 76; refine (containsI_any (w0 := w) (M := []) (L := []) 77 (fun n => !(inB n 0 2147483647)) al nl cl t.lives _ (fun _ _ => rfl) (fun n w _ => livesC_any n w) (Rd.old hst HLV.out) HNL.out hbl).mono ?_; rw [HA.out]; rintro _ w9 ⟨rfl, h4⟩; replace hst := St.call0 hst h4; clear h4))
      go_ret
      exact ⟨rfl, hst.nil⟩
    · have d2 : decide ((16 : Int) < (nr : Int)) = false := decide_eq_false k2
      have d2' : decide ((nr : Int) > 16) = false := d2
      have d3 : decide ((nr : Int) ≤ 16) = true := decide_eq_true (by omega)
      cases d4 : inB (nl : Int) 2 8
      · skip
        have hv : E = 2 := by rw [HE.out]; exact err_no (ok_size (by rw [HSZ.out, d1, d3, d4]; rfl))
        rw [hv]
        clear hv
        go_enter Try.func58, Try.ntmps58
        go_wp2_with (first | go_big_skip | go_big_guard | (refine wl_boxA hst0 rfl rfl rfl ?_; intro g1 w1 hst; clear hst0) | (refine wl_loadE rfl rfl rfl ?_; first | refine ⟨_, Loads.at [] hst rfl, ?_⟩ | refine ⟨_, Loads.atA (tabC t (.slice ar nr cr) (.slice al nl cl)) [] hst rfl rfl, ?_⟩) | (go_at_call 74; refine (within_any _ _ _ _).mono ?_; rintro _ w9 ⟨rfl, h4⟩; replace hst := St.call0 hst h4; clear h4) | (go_at_call 75; refine (cursored_any t (.slice ar nr cr) al nl cl HNL.out hbl _).mono ?_; rintro _ w9 ⟨rfl, h4⟩; replace hst := St.call0 hst h4; clear h4) | (go_at_call 76; refine (containsI_any (w0 := w) (M := []) (L := []) 77 (fun n => !(inB n 0 2147483647)) al nl cl t.lives _ (fun _ _ => rfl) (fun n w _ => livesC_any n w) (Rd.old hst HLV.out) HNL.out hbl).mono ?_; rw [HA.out]; rintro _ w9 ⟨rfl, h4⟩; replace hst := St.call0 hst h4; clear h4))
        go_ret
        exact ⟨rfl, hst.nil⟩
      · cases d5 : t.curB
        · skip
          have hv : E = 2 := by rw [HE.out]; exact err_no (ok_cur d5)
          rw [hv]
          clear hv
          go_enter Try.func58, Try.ntmps58
          go_wp2_with (first | go_big_skip | go_big_guard | (refine wl_boxA hst0 rfl rfl rfl ?_; intro g1 w1 hst; clear hst0) | (refine wl_loadE rfl rfl rfl ?_; first | refine ⟨_, Loads.at [] hst rfl, ?_⟩ | refine ⟨_, Loads.atA (tabC t (.slice ar nr cr) (.slice al nl cl)) [] hst rfl rfl, ?_⟩) | (go_at_call 74; refine (within_any _ _ _ _).mono ?_; rintro _ w9 ⟨rfl, h4⟩; replace hst := St.call0 hst h4; clear h4) | (go_at_call 75; refine (cursored_any t (.slice ar nr cr) al nl cl HNL.out hbl _).mono ?_; rintro _ w9 ⟨rfl, h4⟩; replace hst := St.call0 hst h4; clear h4) | (go_at_call 76; refine (containsI_any (w0 := w) (M := []) (L := []) 77 (fun n => !(inB n 0 2147483647)) al nl cl t.lives _ (fun _ _ => rfl) (fun n w _ => livesC_any n w) (Rd.old hst HLV.out) HNL.out hbl).mono ?_; rw [HA.out]; rintro _ w9 ⟨rfl, h4⟩; replace hst := St.call0 hst h4; clear h4))
          go_ret
          exact ⟨rfl, hst.nil⟩
        · cases d6 : t.lives.all fun n => inB n 0 2147483647
          · skip
            have hv : E = 2 := by rw [HE.out]; exact err_no (ok_lives d6)
            rw [hv]
            clear hv
            go_enter Try.func58, Try.ntmps58
            go_wp2_with (first | go_big_skip | go_big_guard | (refine wl_boxA hst0 rfl rfl rfl ?_; intro g1 w1 hst; clear hst0) | (refine wl_loadE rfl rfl rfl ?_; first | refine ⟨_, Loads.at [] hst rfl, ?_⟩ | refine ⟨_, Loads.atA (tabC t (.slice ar nr cr) (.slice al nl cl)) [] hst rfl rfl, ?_⟩) | (go_at_call 74; refine (within_any _ _ _ _).mono ?_; rintro _ w9 ⟨rfl, h4⟩; replace hst := St.call0 hst h4; clear h4) | (go_at_call 75; refine (cursored_any t (.slice ar nr cr) al nl cl HNL.out hbl _).mono ?_; rintro _ w9 ⟨rfl, h4⟩; replace hst := St.call0 hst h4; clear h4) | (go_at_call 76; refine (containsI_any (w0 := w) (M := []) (L := []) 77 (fun n => !(inB n 0 2147483647)) al nl cl t.lives _ (fun _ _ => rfl) (fun n w _ => livesC_any n w) (Rd.old hst HLV.out) HNL.out hbl).mono ?_; rw [HA.out]; rintro _ w9 ⟨rfl, h4⟩; replace hst := St.call0 hst h4; clear h4))
            go_ret
            exact ⟨rfl, hst.nil⟩
          · have HSZ1 : Hid (t.sizeB = true) := hid (by rw [HSZ.out, d1, d3, d4]; rfl)
            have HC1 := hid d5
            have HL1 : Hid (t.livesB = true) := hid d6
            go_enter Try.func58, Try.ntmps58
            go_wp2_with (first | go_big_skip | go_big_guard | (refine wl_boxA hst0 rfl rfl rfl ?_; intro g1 w1 hst; clear hst0) | (refine wl_loadE rfl rfl rfl ?_; first | refine ⟨_, Loads.at [] hst rfl, ?_⟩ | refine ⟨_, Loads.atA (tabC t (.slice ar nr cr) (.slice al nl cl)) [] hst rfl rfl, ?_⟩) | (go_at_call 74; refine (within_any _ _ _ _).mono ?_; rintro _ w9 ⟨rfl, h4⟩; replace hst := St.call0 hst h4; clear h4) | (go_at_call 75; refine (cursored_any t (.slice ar nr cr) al nl cl HNL.out hbl _).mono ?_; rintro _ w9 ⟨rfl, h4⟩; replace hst := St.call0 hst h4; clear h4) | (go_at_call 76; refine (containsI_any (w0 := w) (M := []) (L := []) 77 (fun n => !(inB n 0 2147483647)) al nl cl t.lives _ (fun _ _ => rfl) (fun n w _ => livesC_any n w) (Rd.old hst HLV.out) HNL.out hbl).mono ?_; rw [HA.out]; rintro _ w9 ⟨rfl, h4⟩; replace hst := St.call0 hst h4; clear h4))
            go_loopw [34] (fun i wr => ∃ j : Nat, j ≤ nr ∧ i = .int .i64 (j : Int) ∧ St w [] wr [.blk g1 27 (tabC t (.slice ar nr cr) (.slice al nl cl))] ∧ Hid (∀ i y, i < j → xs[i]? = some y → eachB (xs.map (·.2)) i y.2 = true)) (fun i _ => nr - (intOf i).toNat)
            case atStart => exact ⟨0, Nat.zero_le _, rfl, hst, hid (fun i y hi _ => by omega)⟩
            case round =>
              clear hst
              obtain ⟨j, hj, rfl, hst, HP⟩ := hrel
              by_cases hlt : j < nr
              · have e1 : decide ((j : Int) < (nr : Int)) = true := decide_eq_true (by omega)
                have z1 : IntKind.i64.wrap ((j : Int) + 1) = (j : Int) + 1 := IntWalk.i64_in _ (by omega)
                obtain ⟨x, lb, lo, hxj, rfl, hin, hr⟩ := RecsIn.at HR.out hlt
                have HXJ := hid hxj
                have HIN := hid hin
                have HL := hid (cellsR_len hin.L)
                have HWR := hid hr
                clear hxj hin hr
                obtain ⟨q, hq⟩ : ∃ q, q = x.2.aloneB := ⟨_, rfl⟩
                have HQ := hid hq
                clear hq
                cases q
                · go_wp2_with (first | go_big_skip | go_big_guard | (refine wl_index rfl rfl rfl rfl hlt ?_) | (refine wl_loadE rfl rfl rfl ?_; first | refine ⟨_, Loads.oldA (cs := cellsR x) hst HL.out HWR.out, ?_⟩) | (refine wl_alloc hst rfl rfl ?_; intro gx w2 hst2; clear hst) | (refine wl_storeA [] hst2 rfl rfl rfl rfl (by exact HL.out) (cellsR_ones HIN.out) rfl ?_; intro w3 hst3; clear hst2))
                  have hX := hst3.drew
                  clear hst3
                  refine wp_region_held_drew (S := (fun w' => (loadVarH 51 ⟨gx, 0, none⟩).run Try.prog w' = .ok (.agg (List.toArray (cellsR x))) w')) (by kernel_rfl) (by exact ldA (cellsR x) [] hX (HL.out) (by simp)) (fun hHeld => ?_)
                  refine tk 0 39 ?_
                  (try simp only [Act.put, List.setIfInBounds_toArray, List.set_cons_zero, List.set_cons_succ])
                  refine wpAnyH_ready (rs := [1]) (by kernel_rfl) (by simp) ?_
                  refine (AllReadyH.cons (o := ⟨some 40, _, _, _, _, _⟩) rfl (fun K hK => ?_) AllReadyH.nil)
                  rw [if_pos (by rfl)]
                  go_simp
                  go_at_call 78
                  refine (alone_any x _ (RC.In.old hX HIN.out)).mono ?_
                  rw [← HQ.out]
                  rintro _ w4 ⟨rfl, h4⟩
                  have hA1 := St.call0 hX h4
                  clear h4
                  refine hK.out _ _ ?_ (fun hHeld => ?_)
                  · exact ldA (cellsR x) [] hA1 (HL.out) (by simp)
                  clear hK K
                  (try simp only [Act.put, List.setIfInBounds_toArray, List.set_cons_zero, List.set_cons_succ])
                  refine tk 2 41 ?_
                  (try simp only [Act.put, List.setIfInBounds_toArray, List.set_cons_zero, List.set_cons_succ])
                  refine tk 3 42 ?_
                  (try simp only [Act.put, List.setIfInBounds_toArray, List.set_cons_zero, List.set_cons_succ])
                  refine wpAnyH_take (i := 4) (oi := ⟨some 43, _, _, _, _, _⟩) (v := undef) rfl (by kernel_rfl) (by kernel_rfl) (by kernel_rfl) (fun _ _ _ h => h) (Or.inr ⟨by rfl, rfl⟩) (by assumption) ?_
                  (try simp only [Act.put, List.setIfInBounds_toArray, List.set_cons_zero, List.set_cons_succ])
                  refine wpAnyH_take (i := 5) (oi := ⟨some 44, _, _, _, _, _⟩) (v := undef) rfl (by kernel_rfl) (by kernel_rfl) (by kernel_rfl) (fun _ _ _ h => h) (Or.inr ⟨by rfl, rfl⟩) (by assumption) ?_
                  (try simp only [Act.put, List.setIfInBounds_toArray, List.set_cons_zero, List.set_cons_succ])
                  refine wpAnyH_take (i := 6) (oi := ⟨some 45, _, _, _, _, _⟩) (v := undef) rfl (by kernel_rfl) (by kernel_rfl) (by kernel_rfl) (fun _ _ _ h => h) (Or.inr ⟨by rfl, rfl⟩) (by assumption) ?_
                  (try simp only [Act.put, List.setIfInBounds_toArray, List.set_cons_zero, List.set_cons_succ])
                  refine wpAnyH_take (i := 7) (oi := ⟨some 46, _, _, _, _, _⟩) (v := undef) rfl (by kernel_rfl) (by kernel_rfl) (by kernel_rfl) (fun _ _ _ h => h) (Or.inr ⟨by rfl, rfl⟩) (by assumption) ?_
                  (try simp only [Act.put, List.setIfInBounds_toArray, List.set_cons_zero, List.set_cons_succ])
                  refine wpAnyH_take (i := 9) (oi := ⟨some 48, _, _, _, _, _⟩) (v := undef) rfl (by kernel_rfl) (by kernel_rfl) (by kernel_rfl) (fun _ _ _ h => h) (Or.inr ⟨by rfl, rfl⟩) (by assumption) ?_
                  (try simp only [Act.put, List.setIfInBounds_toArray, List.set_cons_zero, List.set_cons_succ])
                  refine wpAnyH_take (i := 14) (oi := ⟨some 53, _, _, _, _, _⟩) (v := undef) rfl (by kernel_rfl) (by kernel_rfl) (by kernel_rfl) (fun _ _ _ h => h) (Or.inr ⟨by rfl, rfl⟩) (by assumption) ?_
                  (try simp only [Act.put, List.setIfInBounds_toArray, List.set_cons_zero, List.set_cons_succ])
                  refine wpAnyH_take (i := 8) (oi := ⟨some 47, _, _, _, _, _⟩) (v := undef) rfl (by kernel_rfl) (by kernel_rfl) (by kernel_rfl) (fun _ _ _ h => h) (Or.inr ⟨by rfl, rfl⟩) (by assumption) ?_
                  (try simp only [Act.put, List.setIfInBounds_toArray, List.set_cons_zero, List.set_cons_succ])
                  refine wpAnyH_take (i := 10) (oi := ⟨some 49, _, _, _, _, _⟩) (v := undef) rfl (by kernel_rfl) (by kernel_rfl) (by kernel_rfl) (fun _ _ _ h => h) (Or.inr ⟨by rfl, rfl⟩) (by assumption) ?_
                  (try simp only [Act.put, List.setIfInBounds_toArray, List.set_cons_zero, List.set_cons_succ])
                  refine wpAnyH_take (i := 15) (oi := ⟨some 54, _, _, _, _, _⟩) (v := undef) rfl (by kernel_rfl) (by kernel_rfl) (by kernel_rfl) (fun _ _ _ h => h) (Or.inr ⟨by rfl, rfl⟩) (by assumption) ?_
                  (try simp only [Act.put, List.setIfInBounds_toArray, List.set_cons_zero, List.set_cons_succ])
                  refine wpAnyH_take (i := 11) (oi := ⟨some 50, _, _, _, _, _⟩) (v := undef) rfl (by kernel_rfl) (by kernel_rfl) (by kernel_rfl) (fun _ _ _ h => h) (Or.inr ⟨by rfl, rfl⟩) (by assumption) ?_
                  (try simp only [Act.put, List.setIfInBounds_toArray, List.set_cons_zero, List.set_cons_succ])
                  refine wpAnyH_take (i := 12) (oi := ⟨some 51, _, _, _, _, _⟩) (v := undef) rfl (by kernel_rfl) (by kernel_rfl) (by kernel_rfl) (fun _ _ _ h => h) (Or.inr ⟨by rfl, rfl⟩) (by assumption) ?_
                  (try simp only [Act.put, List.setIfInBounds_toArray, List.set_cons_zero, List.set_cons_succ])
                  refine wpAnyH_take (i := 13) (oi := ⟨some 52, _, _, _, _, _⟩) (v := undef) rfl (by kernel_rfl) (by kernel_rfl) (by kernel_rfl) (fun _ _ _ h => h) (Or.inr ⟨by rfl, rfl⟩) (by assumption) ?_
                  (try simp only [Act.put, List.setIfInBounds_toArray, List.set_cons_zero, List.set_cons_succ])
                  refine wpAnyH_ready (rs := [16]) (by kernel_rfl) (by simp) ?_
                  refine (AllReadyH.cons (o := ⟨some 55, _, _, _, _, _⟩) rfl (fun K hK => ?_) AllReadyH.nil)
                  rw [if_neg (by rw [show Region.wanted _ _ = false from rfl]; exact Bool.false_ne_true)]
                  refine hK.out _ _ ?_ (fun hHeld => ?_)
                  · exact ldA (cellsR x) [] hA1 (HL.out) (by simp)
                  clear hK K
                  (try simp only [Act.put, List.setIfInBounds_toArray, List.set_cons_zero, List.set_cons_succ])
                  refine wpAnyH_take (i := 17) (oi := ⟨some 56, _, _, _, _, _⟩) (v := undef) rfl (by kernel_rfl) (by kernel_rfl) (by kernel_rfl) (fun _ _ _ h => h) (Or.inr ⟨by rfl, rfl⟩) (by assumption) ?_
                  (try simp only [Act.put, List.setIfInBounds_toArray, List.set_cons_zero, List.set_cons_succ])
                  refine wpAnyH_take (i := 18) (oi := ⟨some 57, _, _, _, _, _⟩) (v := undef) rfl (by kernel_rfl) (by kernel_rfl) (by kernel_rfl) (fun _ _ _ h => h) (Or.inr ⟨by rfl, rfl⟩) (by assumption) ?_
                  (try simp only [Act.put, List.setIfInBounds_toArray, List.set_cons_zero, List.set_cons_succ])
                  refine tk 19 58 ?_
                  (try simp only [Act.put, List.setIfInBounds_toArray, List.set_cons_zero, List.set_cons_succ])
                  refine wpAnyH_done (by kernel_rfl) ?_ _
                  clear hHeld
                  have hv : E = 2 := by rw [HE.out]; exact err_no (ok_each (by rw [← HX.out]; exact allAt_no (map_at HXJ.out) (by unfold eachB; rw [← HQ.out]; rfl)))
                  have HV := hid hv
                  clear hv
                  go_wp2_with (first | go_big_skip | go_big_guard | fail)
                  go_ret
                  exact ⟨by have h := HV.out; subst h; rfl, hA1.nil⟩
                · rcases j with _ | k
                  · go_wp2_with (first | go_big_skip | go_big_guard | (refine wl_index rfl rfl rfl rfl hlt ?_) | (refine wl_loadE rfl rfl rfl ?_; first | refine ⟨_, Loads.oldA (cs := cellsR x) hst HL.out HWR.out, ?_⟩) | (refine wl_alloc hst rfl rfl ?_; intro gx w2 hst2; clear hst) | (refine wl_storeA [] hst2 rfl rfl rfl rfl (by exact HL.out) (cellsR_ones HIN.out) rfl ?_; intro w3 hst3; clear hst2))
                    have hX := hst3.drew
                    clear hst3
                    refine wp_region_held_drew (S := (fun w' => (loadVarH 51 ⟨gx, 0, none⟩).run Try.prog w' = .ok (.agg (List.toArray (cellsR x))) w')) (by kernel_rfl) (by exact ldA (cellsR x) [] hX (HL.out) (by simp)) (fun hHeld => ?_)
                    refine tk 0 39 ?_
                    (try simp only [Act.put, List.setIfInBounds_toArray, List.set_cons_zero, List.set_cons_succ])
                    refine wpAnyH_ready (rs := [1]) (by kernel_rfl) (by simp) ?_
                    refine (AllReadyH.cons (o := ⟨some 40, _, _, _, _, _⟩) rfl (fun K hK => ?_) AllReadyH.nil)
                    rw [if_pos (by rfl)]
                    go_simp
                    go_at_call 78
                    refine (alone_any x _ (RC.In.old hX HIN.out)).mono ?_
                    rw [← HQ.out]
                    rintro _ w4 ⟨rfl, h4⟩
                    have hA1 := St.call0 hX h4
                    clear h4
                    refine hK.out _ _ ?_ (fun hHeld => ?_)
                    · exact ldA (cellsR x) [] hA1 (HL.out) (by simp)
                    clear hK K
                    (try simp only [Act.put, List.setIfInBounds_toArray, List.set_cons_zero, List.set_cons_succ])
                    refine tk 2 41 ?_
                    (try simp only [Act.put, List.setIfInBounds_toArray, List.set_cons_zero, List.set_cons_succ])
                    refine tk 3 42 ?_
                    (try simp only [Act.put, List.setIfInBounds_toArray, List.set_cons_zero, List.set_cons_succ])
                    refine tk 4 43 ?_
                    (try simp only [Act.put, List.setIfInBounds_toArray, List.set_cons_zero, List.set_cons_succ])
                    refine tk 5 44 ?_
                    (try simp only [Act.put, List.setIfInBounds_toArray, List.set_cons_zero, List.set_cons_succ])
                    refine tk 6 45 ?_
                    (try simp only [Act.put, List.setIfInBounds_toArray, List.set_cons_zero, List.set_cons_succ])
                    refine wpAnyH_take (i := 7) (oi := ⟨some 46, _, _, _, _, _⟩) (v := undef) rfl (by kernel_rfl) (by kernel_rfl) (by kernel_rfl) (fun _ _ _ h => h) (Or.inr ⟨by rfl, rfl⟩) (by assumption) ?_
                    (try simp only [Act.put, List.setIfInBounds_toArray, List.set_cons_zero, List.set_cons_succ])
                    refine wpAnyH_take (i := 9) (oi := ⟨some 48, _, _, _, _, _⟩) (v := undef) rfl (by kernel_rfl) (by kernel_rfl) (by kernel_rfl) (fun _ _ _ h => h) (Or.inr ⟨by rfl, rfl⟩) (by assumption) ?_
                    (try simp only [Act.put, List.setIfInBounds_toArray, List.set_cons_zero, List.set_cons_succ])
                    refine wpAnyH_take (i := 14) (oi := ⟨some 53, _, _, _, _, _⟩) (v := undef) rfl (by kernel_rfl) (by kernel_rfl) (by kernel_rfl) (fun _ _ _ h => h) (Or.inr ⟨by rfl, rfl⟩) (by assumption) ?_
                    (try simp only [Act.put, List.setIfInBounds_toArray, List.set_cons_zero, List.set_cons_succ])
                    refine wpAnyH_take (i := 8) (oi := ⟨some 47, _, _, _, _, _⟩) (v := undef) rfl (by kernel_rfl) (by kernel_rfl) (by kernel_rfl) (fun _ _ _ h => h) (Or.inr ⟨by rfl, rfl⟩) (by assumption) ?_
                    (try simp only [Act.put, List.setIfInBounds_toArray, List.set_cons_zero, List.set_cons_succ])
                    refine wpAnyH_take (i := 10) (oi := ⟨some 49, _, _, _, _, _⟩) (v := undef) rfl (by kernel_rfl) (by kernel_rfl) (by kernel_rfl) (fun _ _ _ h => h) (Or.inr ⟨by rfl, rfl⟩) (by assumption) ?_
                    (try simp only [Act.put, List.setIfInBounds_toArray, List.set_cons_zero, List.set_cons_succ])
                    refine wpAnyH_take (i := 15) (oi := ⟨some 54, _, _, _, _, _⟩) (v := undef) rfl (by kernel_rfl) (by kernel_rfl) (by kernel_rfl) (fun _ _ _ h => h) (Or.inr ⟨by rfl, rfl⟩) (by assumption) ?_
                    (try simp only [Act.put, List.setIfInBounds_toArray, List.set_cons_zero, List.set_cons_succ])
                    refine wpAnyH_take (i := 11) (oi := ⟨some 50, _, _, _, _, _⟩) (v := undef) rfl (by kernel_rfl) (by kernel_rfl) (by kernel_rfl) (fun _ _ _ h => h) (Or.inr ⟨by rfl, rfl⟩) (by assumption) ?_
                    (try simp only [Act.put, List.setIfInBounds_toArray, List.set_cons_zero, List.set_cons_succ])
                    refine wpAnyH_take (i := 12) (oi := ⟨some 51, _, _, _, _, _⟩) (v := undef) rfl (by kernel_rfl) (by kernel_rfl) (by kernel_rfl) (fun _ _ _ h => h) (Or.inr ⟨by rfl, rfl⟩) (by assumption) ?_
                    (try simp only [Act.put, List.setIfInBounds_toArray, List.set_cons_zero, List.set_cons_succ])
                    refine wpAnyH_take (i := 13) (oi := ⟨some 52, _, _, _, _, _⟩) (v := undef) rfl (by kernel_rfl) (by kernel_rfl) (by kernel_rfl) (fun _ _ _ h => h) (Or.inr ⟨by rfl, rfl⟩) (by assumption) ?_
                    (try simp only [Act.put, List.setIfInBounds_toArray, List.set_cons_zero, List.set_cons_succ])
                    refine wpAnyH_ready (rs := [16]) (by kernel_rfl) (by simp) ?_
                    refine (AllReadyH.cons (o := ⟨some 55, _, _, _, _, _⟩) rfl (fun K hK => ?_) AllReadyH.nil)
                    rw [if_neg (by rw [show Region.wanted _ _ = false from rfl]; exact Bool.false_ne_true)]
                    refine hK.out _ _ ?_ (fun hHeld => ?_)
                    · exact ldA (cellsR x) [] hA1 (HL.out) (by simp)
                    clear hK K
                    (try simp only [Act.put, List.setIfInBounds_toArray, List.set_cons_zero, List.set_cons_succ])
                    refine wpAnyH_take (i := 17) (oi := ⟨some 56, _, _, _, _, _⟩) (v := undef) rfl (by kernel_rfl) (by kernel_rfl) (by kernel_rfl) (fun _ _ _ h => h) (Or.inr ⟨by rfl, rfl⟩) (by assumption) ?_
                    (try simp only [Act.put, List.setIfInBounds_toArray, List.set_cons_zero, List.set_cons_succ])
                    refine tk 18 57 ?_
                    (try simp only [Act.put, List.setIfInBounds_toArray, List.set_cons_zero, List.set_cons_succ])
                    refine tk 19 58 ?_
                    (try simp only [Act.put, List.setIfInBounds_toArray, List.set_cons_zero, List.set_cons_succ])
                    refine wpAnyH_done (by kernel_rfl) ?_ _
                    clear hHeld
                    go_wp2_with (first | go_big_skip | go_big_guard | fail)
                    go_roundw
                    case rel => exact ⟨0 + 1, by omega, by go_num, St.drop (L1 := []) hA1, hid (all_steps HP.out HXJ.out (by unfold eachB; rw [← HQ.out]; rfl))⟩
                    case measure => simp [intOf]; omega
                  · obtain ⟨y, b', o', hy', he, hiny, hry⟩ := RecsIn.at HR.out (k := k) (by omega)
                    cases he
                    have HYK := hid hy'
                    have HINY := hid hiny
                    have HY := hid (show w.cell? ⟨lb, lo + k * 44 + 1, none⟩ = some (.string ⟨y.2.name.toArray⟩) from hry 1 _ rfl)
                    clear hy' hiny hry
                    have z2 : IntKind.i64.wrap (((k + 1 : Nat) : Int) - 1) = (k : Int) := by rw [IntWalk.i64_in _ (by omega)]; omega
                    have z3 : (((k + 1 : Nat) : Int) - 1) = (k : Int) := by omega
                    have z6 : IntKind.i64.wrap (k : Int) = (k : Int) := IntWalk.i64_in _ (by omega)
                    have z4 : decide ((0 : Int) < ((k + 1 : Nat) : Int)) = true := decide_eq_true (by omega)
                    have z5 : decide (((k + 1 : Nat) : Int) > 0) = true := z4
                    have hltk : k < nr := by omega
                    obtain ⟨r, hr⟩ : ∃ r, r = lessL y.2.name x.2.name := ⟨_, rfl⟩
                    have HLE := hid hr
                    have HLA := hid (show lessAt (xs.map (·.2)) (k + 1) x.2 = lessL y.2.name x.2.name from less_at HYK.out)
                    clear hr
                    cases r
                    · go_wp2_with (first | go_big_skip | go_big_guard | (refine wl_index rfl rfl rfl rfl hlt ?_) | (refine wl_loadE rfl rfl rfl ?_; first | refine ⟨_, Loads.oldA (cs := cellsR x) hst HL.out HWR.out, ?_⟩) | (refine wl_alloc hst rfl rfl ?_; intro gx w2 hst2; clear hst) | (refine wl_storeA [] hst2 rfl rfl rfl rfl (by exact HL.out) (cellsR_ones HIN.out) rfl ?_; intro w3 hst3; clear hst2))
                      have hX := hst3.drew
                      clear hst3
                      refine wp_region_held_drew (S := (fun w' => (loadVarH 51 ⟨gx, 0, none⟩).run Try.prog w' = .ok (.agg (List.toArray (cellsR x))) w' ∧ (loadVarH 22 ⟨g1, 1, none⟩).run Try.prog w' = .ok (.slice (some ⟨lb, lo, none⟩) nr cr) w' ∧ (loadVarH 9 ⟨gx, 1, none⟩).run Try.prog w' = .ok (.string ⟨x.2.name.toArray⟩) w' ∧ (loadVarH 9 ⟨lb, lo + k * 44 + 1, none⟩).run Try.prog w' = .ok (.string ⟨y.2.name.toArray⟩) w')) (by kernel_rfl) (by exact ⟨ldA (cellsR x) [] hX (HL.out) (by simp), ldS [_] hX rfl, ldS [] hX rfl, ldO hX (HY.out)⟩) (fun hHeld => ?_)
                      refine tk 0 39 ?_
                      (try simp only [Act.put, List.setIfInBounds_toArray, List.set_cons_zero, List.set_cons_succ])
                      refine wpAnyH_ready (rs := [1]) (by kernel_rfl) (by simp) ?_
                      refine (AllReadyH.cons (o := ⟨some 40, _, _, _, _, _⟩) rfl (fun K hK => ?_) AllReadyH.nil)
                      rw [if_pos (by rfl)]
                      go_simp
                      go_at_call 78
                      refine (alone_any x _ (RC.In.old hX HIN.out)).mono ?_
                      rw [← HQ.out]
                      rintro _ w4 ⟨rfl, h4⟩
                      have hA1 := St.call0 hX h4
                      clear h4
                      refine hK.out _ _ ?_ (fun hHeld => ?_)
                      · exact ⟨ldA (cellsR x) [] hA1 (HL.out) (by simp), ldS [_] hA1 rfl, ldS [] hA1 rfl, ldO hA1 (HY.out)⟩
                      clear hK K
                      (try simp only [Act.put, List.setIfInBounds_toArray, List.set_cons_zero, List.set_cons_succ])
                      refine tk 2 41 ?_
                      (try simp only [Act.put, List.setIfInBounds_toArray, List.set_cons_zero, List.set_cons_succ])
                      refine tk 3 42 ?_
                      (try simp only [Act.put, List.setIfInBounds_toArray, List.set_cons_zero, List.set_cons_succ])
                      refine tk 4 43 ?_
                      (try simp only [Act.put, List.setIfInBounds_toArray, List.set_cons_zero, List.set_cons_succ])
                      refine tk 5 44 ?_
                      (try simp only [Act.put, List.setIfInBounds_toArray, List.set_cons_zero, List.set_cons_succ])
                      refine tk 6 45 ?_
                      (try simp only [Act.put, List.setIfInBounds_toArray, List.set_cons_zero, List.set_cons_succ])
                      refine tk 7 46 ?_
                      (try simp only [Act.put, List.setIfInBounds_toArray, List.set_cons_zero, List.set_cons_succ])
                      refine tk 9 48 ?_
                      (try simp only [Act.put, List.setIfInBounds_toArray, List.set_cons_zero, List.set_cons_succ])
                      refine tk 14 53 ?_
                      (try simp only [Act.put, List.setIfInBounds_toArray, List.set_cons_zero, List.set_cons_succ])
                      refine tk 8 47 ?_
                      (try simp only [Act.put, List.setIfInBounds_toArray, List.set_cons_zero, List.set_cons_succ])
                      refine tk 10 49 ?_
                      (try simp only [Act.put, List.setIfInBounds_toArray, List.set_cons_zero, List.set_cons_succ])
                      refine tk 15 54 ?_
                      (try simp only [Act.put, List.setIfInBounds_toArray, List.set_cons_zero, List.set_cons_succ])
                      refine tk 11 50 ?_
                      (try simp only [Act.put, List.setIfInBounds_toArray, List.set_cons_zero, List.set_cons_succ])
                      refine tk 12 51 ?_
                      (try simp only [Act.put, List.setIfInBounds_toArray, List.set_cons_zero, List.set_cons_succ])
                      refine tk 13 52 ?_
                      (try simp only [Act.put, List.setIfInBounds_toArray, List.set_cons_zero, List.set_cons_succ])
                      refine wpAnyH_ready (rs := [16]) (by kernel_rfl) (by simp) ?_
                      refine (AllReadyH.cons (o := ⟨some 55, _, _, _, _, _⟩) rfl (fun K hK => ?_) AllReadyH.nil)
                      rw [if_pos (by rfl)]
                      go_simp
                      go_at_call 69
                      refine (less_any y.2.name x.2.name _ HINY.out.2 HIN.out.2).mono ?_
                      rw [← HLE.out]
                      rintro _ w5 ⟨rfl, h4⟩
                      have hA2 := St.call0 hA1 h4
                      clear h4
                      refine hK.out _ _ ?_ (fun hHeld => ?_)
                      · exact ⟨ldA (cellsR x) [] hA2 (HL.out) (by simp), ldS [_] hA2 rfl, ldS [] hA2 rfl, ldO hA2 (HY.out)⟩
                      clear hK K
                      (try simp only [Act.put, List.setIfInBounds_toArray, List.set_cons_zero, List.set_cons_succ])
                      refine tk 17 56 ?_
                      (try simp only [Act.put, List.setIfInBounds_toArray, List.set_cons_zero, List.set_cons_succ])
                      refine tk 18 57 ?_
                      (try simp only [Act.put, List.setIfInBounds_toArray, List.set_cons_zero, List.set_cons_succ])
                      refine tk 19 58 ?_
                      (try simp only [Act.put, List.setIfInBounds_toArray, List.set_cons_zero, List.set_cons_succ])
                      refine wpAnyH_done (by kernel_rfl) ?_ _
                      clear hHeld
                      have hv : E = 2 := by rw [HE.out]; exact err_no (ok_each (by rw [← HX.out]; exact allAt_no (map_at HXJ.out) (by unfold eachB; rw [← HQ.out, HLA.out, ← HLE.out]; rfl)))
                      have HV := hid hv
                      clear hv
                      go_wp2_with (first | go_big_skip | go_big_guard | fail)
                      go_ret
                      exact ⟨by have h := HV.out; subst h; rfl, hA2.nil⟩
                    · go_wp2_with (first | go_big_skip | go_big_guard | (refine wl_index rfl rfl rfl rfl hlt ?_) | (refine wl_loadE rfl rfl rfl ?_; first | refine ⟨_, Loads.oldA (cs := cellsR x) hst HL.out HWR.out, ?_⟩) | (refine wl_alloc hst rfl rfl ?_; intro gx w2 hst2; clear hst) | (refine wl_storeA [] hst2 rfl rfl rfl rfl (by exact HL.out) (cellsR_ones HIN.out) rfl ?_; intro w3 hst3; clear hst2))
                      have hX := hst3.drew
                      clear hst3
                      refine wp_region_held_drew (S := (fun w' => (loadVarH 51 ⟨gx, 0, none⟩).run Try.prog w' = .ok (.agg (List.toArray (cellsR x))) w' ∧ (loadVarH 22 ⟨g1, 1, none⟩).run Try.prog w' = .ok (.slice (some ⟨lb, lo, none⟩) nr cr) w' ∧ (loadVarH 9 ⟨gx, 1, none⟩).run Try.prog w' = .ok (.string ⟨x.2.name.toArray⟩) w' ∧ (loadVarH 9 ⟨lb, lo + k * 44 + 1, none⟩).run Try.prog w' = .ok (.string ⟨y.2.name.toArray⟩) w')) (by kernel_rfl) (by exact ⟨ldA (cellsR x) [] hX (HL.out) (by simp), ldS [_] hX rfl, ldS [] hX rfl, ldO hX (HY.out)⟩) (fun hHeld => ?_)
                      refine tk 0 39 ?_
                      (try simp only [Act.put, List.setIfInBounds_toArray, List.set_cons_zero, List.set_cons_succ])
                      refine wpAnyH_ready (rs := [1]) (by kernel_rfl) (by simp) ?_
                      refine (AllReadyH.cons (o := ⟨some 40, _, _, _, _, _⟩) rfl (fun K hK => ?_) AllReadyH.nil)
                      rw [if_pos (by rfl)]
                      go_simp
                      go_at_call 78
                      refine (alone_any x _ (RC.In.old hX HIN.out)).mono ?_
                      rw [← HQ.out]
                      rintro _ w4 ⟨rfl, h4⟩
                      have hA1 := St.call0 hX h4
                      clear h4
                      refine hK.out _ _ ?_ (fun hHeld => ?_)
                      · exact ⟨ldA (cellsR x) [] hA1 (HL.out) (by simp), ldS [_] hA1 rfl, ldS [] hA1 rfl, ldO hA1 (HY.out)⟩
                      clear hK K
                      (try simp only [Act.put, List.setIfInBounds_toArray, List.set_cons_zero, List.set_cons_succ])
                      refine tk 2 41 ?_
                      (try simp only [Act.put, List.setIfInBounds_toArray, List.set_cons_zero, List.set_cons_succ])
                      refine tk 3 42 ?_
                      (try simp only [Act.put, List.setIfInBounds_toArray, List.set_cons_zero, List.set_cons_succ])
                      refine tk 4 43 ?_
                      (try simp only [Act.put, List.setIfInBounds_toArray, List.set_cons_zero, List.set_cons_succ])
                      refine tk 5 44 ?_
                      (try simp only [Act.put, List.setIfInBounds_toArray, List.set_cons_zero, List.set_cons_succ])
                      refine tk 6 45 ?_
                      (try simp only [Act.put, List.setIfInBounds_toArray, List.set_cons_zero, List.set_cons_succ])
                      refine tk 7 46 ?_
                      (try simp only [Act.put, List.setIfInBounds_toArray, List.set_cons_zero, List.set_cons_succ])
                      refine tk 9 48 ?_
                      (try simp only [Act.put, List.setIfInBounds_toArray, List.set_cons_zero, List.set_cons_succ])
                      refine tk 14 53 ?_
                      (try simp only [Act.put, List.setIfInBounds_toArray, List.set_cons_zero, List.set_cons_succ])
                      refine tk 8 47 ?_
                      (try simp only [Act.put, List.setIfInBounds_toArray, List.set_cons_zero, List.set_cons_succ])
                      refine tk 10 49 ?_
                      (try simp only [Act.put, List.setIfInBounds_toArray, List.set_cons_zero, List.set_cons_succ])
                      refine tk 15 54 ?_
                      (try simp only [Act.put, List.setIfInBounds_toArray, List.set_cons_zero, List.set_cons_succ])
                      refine tk 11 50 ?_
                      (try simp only [Act.put, List.setIfInBounds_toArray, List.set_cons_zero, List.set_cons_succ])
                      refine tk 12 51 ?_
                      (try simp only [Act.put, List.setIfInBounds_toArray, List.set_cons_zero, List.set_cons_succ])
                      refine tk 13 52 ?_
                      (try simp only [Act.put, List.setIfInBounds_toArray, List.set_cons_zero, List.set_cons_succ])
                      refine wpAnyH_ready (rs := [16]) (by kernel_rfl) (by simp) ?_
                      refine (AllReadyH.cons (o := ⟨some 55, _, _, _, _, _⟩) rfl (fun K hK => ?_) AllReadyH.nil)
                      rw [if_pos (by rfl)]
                      go_simp
                      go_at_call 69
                      refine (less_any y.2.name x.2.name _ HINY.out.2 HIN.out.2).mono ?_
                      rw [← HLE.out]
                      rintro _ w5 ⟨rfl, h4⟩
                      have hA2 := St.call0 hA1 h4
                      clear h4
                      refine hK.out _ _ ?_ (fun hHeld => ?_)
                      · exact ⟨ldA (cellsR x) [] hA2 (HL.out) (by simp), ldS [_] hA2 rfl, ldS [] hA2 rfl, ldO hA2 (HY.out)⟩
                      clear hK K
                      (try simp only [Act.put, List.setIfInBounds_toArray, List.set_cons_zero, List.set_cons_succ])
                      refine tk 17 56 ?_
                      (try simp only [Act.put, List.setIfInBounds_toArray, List.set_cons_zero, List.set_cons_succ])
                      refine tk 18 57 ?_
                      (try simp only [Act.put, List.setIfInBounds_toArray, List.set_cons_zero, List.set_cons_succ])
                      refine tk 19 58 ?_
                      (try simp only [Act.put, List.setIfInBounds_toArray, List.set_cons_zero, List.set_cons_succ])
                      refine wpAnyH_done (by kernel_rfl) ?_ _
                      clear hHeld
                      go_wp2_with (first | go_big_skip | go_big_guard | fail)
                      go_roundw
                      case rel => exact ⟨k + 1 + 1, by omega, by go_num, St.drop (L1 := []) hA2, hid (all_steps HP.out HXJ.out (by unfold eachB; rw [← HQ.out, HLA.out, ← HLE.out]; rfl))⟩
                      case measure => simp [intOf]; omega
              · have e1 : decide ((j : Int) < (nr : Int)) = false := decide_eq_false (by omega)
                have HE1 : Hid (allAt (eachB t.recs) t.recs = true) := hid (by rw [← HX.out]; exact all_end (fun i y hi hy => HP.out i y (by have := HR.out.len; omega) hy))
                clear HP hj e1
                go_wp2_with (first | go_big_skip | go_big_guard | (refine wl_loadE rfl rfl rfl ?_; first | refine ⟨_, Loads.at [] hst rfl, ?_⟩ | refine ⟨_, Loads.atA (tabC t (.slice ar nr cr) (.slice al nl cl)) [] hst rfl rfl, ?_⟩))
                go_loopw [63] (fun i wr => ∃ j : Nat, j ≤ nr ∧ i = .int .i64 (j : Int) ∧ St w [] wr [.blk g1 27 (tabC t (.slice ar nr cr) (.slice al nl cl))] ∧ Hid (∀ i y, i < j → xs[i]? = some y → relB t.next (xs.map (·.2)) i y.2 = true)) (fun i _ => nr - (intOf i).toNat)
                case atStart => exact ⟨0, Nat.zero_le _, rfl, hst, hid (fun i y hi _ => by omega)⟩
                case round =>
                  clear hst
                  obtain ⟨j, hj, rfl, hst, HP⟩ := hrel
                  by_cases hlt : j < nr
                  · have e1 : decide ((j : Int) < (nr : Int)) = true := decide_eq_true (by omega)
                    have z1 : IntKind.i64.wrap ((j : Int) + 1) = (j : Int) + 1 := IntWalk.i64_in _ (by omega)
                    obtain ⟨x, hxj⟩ : ∃ x, xs[j]? = some x := ⟨_, List.getElem?_eq_getElem (by rw [HR.out.len]; exact hlt)⟩
                    have HXJ := hid hxj
                    clear hxj
                    obtain ⟨q, hq⟩ : ∃ q, q = relB t.next (xs.map (·.2)) j x.2 := ⟨_, rfl⟩
                    have HQ := hid hq
                    clear hq
                    cases q
                    · have hv : E = 2 := by rw [HE.out]; exact err_no (ok_rel (by rw [← HX.out]; exact allAt_no (map_at HXJ.out) HQ.out.symm))
                      have HV := hid hv
                      clear hv
                      go_wp2_with (first | go_big_skip | go_big_guard | (refine wl_loadE rfl rfl rfl ?_; first | refine ⟨_, Loads.at [] hst rfl, ?_⟩ | refine ⟨_, Loads.atA (tabC t (.slice ar nr cr) (.slice al nl cl)) [] hst rfl rfl, ?_⟩) | (go_at_call 79; refine (related_any t (.slice al nl cl) ar nr cr xs _ (HR.out.old hst) hb j x HXJ.out).mono ?_; rw [← HQ.out]; rintro _ w9 ⟨rfl, h4⟩; replace hst := St.call0 hst h4; clear h4))
                      go_ret
                      exact ⟨by have h := HV.out; subst h; rfl, hst.nil⟩
                    · go_wp2_with (first | go_big_skip | go_big_guard | (refine wl_loadE rfl rfl rfl ?_; first | refine ⟨_, Loads.at [] hst rfl, ?_⟩ | refine ⟨_, Loads.atA (tabC t (.slice ar nr cr) (.slice al nl cl)) [] hst rfl rfl, ?_⟩) | (go_at_call 79; refine (related_any t (.slice al nl cl) ar nr cr xs _ (HR.out.old hst) hb j x HXJ.out).mono ?_; rw [← HQ.out]; rintro _ w9 ⟨rfl, h4⟩; replace hst := St.call0 hst h4; clear h4))
                      go_roundw
                      case rel => exact ⟨j + 1, by omega, rfl, hst, hid (all_steps HP.out HXJ.out HQ.out.symm)⟩
                      case measure => simp [intOf]; omega
                  · have e1 : decide ((j : Int) < (nr : Int)) = false := decide_eq_false (by omega)
                    have hv : E = 0 := by rw [HE.out]; exact err_yes (ok_all HSZ1.out HC1.out HL1.out HE1.out (by rw [← HX.out]; exact all_end (fun i y hi hy => HP.out i y (by have := HR.out.len; omega) hy)))
                    have HV := hid hv
                    clear hv
                    go_wp2_with (first | go_big_skip | go_big_guard | fail)
                    go_ret
                    exact ⟨by have h := HV.out; subst h; rfl, hst.nil⟩
end Go.Proofs.Ytifajcblbedcoaa
namespace Go.Proofs.Ytifajcblbedcoaa
set_option linter.unusedVariables false
set_option linter.unusedSimpArgs false
open Go.RowKit Hp
def R64 (z : Int) : Prop := -9223372036854775808 ≤ z ∧ z ≤ 9223372036854775807
/-- A number of at most 31 bits and one more. -/
def R31 (z : Int) : Prop := 0 ≤ z ∧ z ≤ 2147483648
theorem R31.r64 {z : Int} (h : R31 z) : R64 z := ⟨by have := h.1; omega, by have := h.2; omega⟩
theorem inB_31 {z lo hi : Int} (h : inB z lo hi = true) (h0 : 0 ≤ lo) (h1 : hi ≤ 2147483648) : R31 z := by
  unfold inB at h
  simp only [Bool.and_eq_true, decide_eq_true_eq] at h
  exact ⟨by omega, by omega⟩
theorem eq_31 {z k : Int} (h : (z == k) = true) (hk : R31 k) : R31 z := by
  rw [beq_iff_eq] at h
  rw [h]; exact hk
structure RC.Bd (r : RC) : Prop where
  id : R31 r.id
  kind : R31 r.kind
  size : R31 r.size
  made : R31 r.made
  own : R31 r.own
  origin : R31 r.origin
  quota : R31 r.quota
  reserve : R31 r.reserve
  name : r.name.length ≤ 41
  root : (r.pv undef).ok = true
theorem snapB_len {l : List UInt8} (h : snapB l = true) : l.length ≤ 41 := by
  unfold snapB at h
  obtain ⟨⟨a, b, f⟩, hs⟩ : ∃ p, splitL l = p := ⟨_, rfl⟩
  rw [hs] at h
  simp at h
  subst h
  obtain ⟨e, ha, hb⟩ := split_true hs
  have h1 := (part_bd ha).2
  have h2 := (part_bd hb).2
  rw [e]
  simp
  omega
theorem rootB_ok {p : PV} (h : rootB p = true) : p.ok = true := by
  unfold rootB at h
  rcases Bool.or_eq_true_iff.1 h with h | h
  · exact PV.hole_ok h
  · exact (Bool.and_eq_true_iff.1 h).1
theorem alone_bd {r : RC} (h : r.aloneB = true) : r.Bd := by
  unfold RC.aloneB at h
  simp only [Bool.and_eq_true] at h
  obtain ⟨⟨⟨⟨h1, h2⟩, h3⟩, h4⟩, h5⟩ := h
  unfold RC.kindB at h5
  have z : R31 0 := ⟨by decide, by decide⟩
  have one : R31 1 := ⟨by decide, by decide⟩
  have two : R31 2 := ⟨by decide, by decide⟩
  by_cases k1 : (r.kind == 1) = true
  · rw [if_pos k1] at h5
    simp only [Bool.and_eq_true] at h5
    obtain ⟨⟨⟨⟨a1, a2⟩, a3⟩, a4⟩, a5⟩ := h5
    exact ⟨inB_31 h1 (by decide) (by decide), eq_31 k1 one, inB_31 h2 (by decide) (by decide), inB_31 h3 (by decide) (by decide), eq_31 a2 z, inB_31 a3 (by decide) (by decide), inB_31 a4 (by decide) (by decide), inB_31 a5 (by decide) (by decide), by have := (part_bd a1).2; omega, rootB_ok h4⟩
  · rw [if_neg k1] at h5
    by_cases k2 : (r.kind == 2) = true
    · rw [if_pos k2] at h5
      simp only [Bool.and_eq_true] at h5
      obtain ⟨⟨⟨⟨⟨a1, a2⟩, a3⟩, a4⟩, a5⟩, a6⟩ := h5
      exact ⟨inB_31 h1 (by decide) (by decide), eq_31 k2 two, inB_31 h2 (by decide) (by decide), inB_31 h3 (by decide) (by decide), inB_31 a2 (by decide) (by decide), eq_31 a3 z, eq_31 a4 z, eq_31 a5 z, snapB_len a1, rootB_ok h4⟩
    · rw [if_neg k2] at h5
      cases h5
structure TC.Bd (t : TC) : Prop where
  next : R31 t.next
  kind : R31 t.kind
  dev : R31 t.dev
  at_ : R31 t.at_
  txg : R31 t.txg
  many : t.recs.length ≤ 16
  lives : t.lives.length ≤ 8
  recs : ∀ r ∈ t.recs, r.Bd
  live : ∀ z ∈ t.lives, R31 z
theorem cur_bd {t : TC} (h : t.curB = true) (hl : t.lives.length ≤ 8) : R31 t.kind ∧ R31 t.dev ∧ R31 t.at_ ∧ R31 t.txg := by
  have z : R31 0 := ⟨by decide, by decide⟩
  have one : R31 1 := ⟨by decide, by decide⟩
  have two : R31 2 := ⟨by decide, by decide⟩
  unfold TC.curB at h
  rcases Bool.or_eq_true_iff.1 h with h | h
  · unfold TC.cur0 at h
    simp at h
    obtain ⟨h1, h2, h3, h4⟩ := h
    rw [h1, h2, h3, h4]
    exact ⟨z, z, z, z⟩
  · simp only [Bool.and_eq_true] at h
    obtain ⟨⟨h1, h2⟩, h3⟩ := h
    have a1 := inB_31 h1 (by decide) (by decide)
    have a2 := inB_31 h2 (by decide) (by decide)
    rcases Bool.or_eq_true_iff.1 h3 with h | h
    · simp only [Bool.and_eq_true] at h
      exact ⟨eq_31 h.1 one, eq_31 h.2 z, a1, a2⟩
    · simp only [Bool.and_eq_true] at h
      exact ⟨eq_31 h.1 two, inB_31 h.2 (by decide) (by omega), a1, a2⟩
theorem ok_bd {t : TC} (h : t.ok = true) : t.Bd := by
  unfold TC.ok at h
  simp only [Bool.and_eq_true] at h
  obtain ⟨⟨⟨⟨h1, h2⟩, h3⟩, h4⟩, h5⟩ := h
  unfold TC.sizeB at h1
  simp only [Bool.and_eq_true, decide_eq_true_eq] at h1
  obtain ⟨⟨a1, a2⟩, a3⟩ := h1
  have hl : t.lives.length ≤ 8 := by
    unfold inB at a3
    simp only [Bool.and_eq_true, decide_eq_true_eq] at a3
    omega
  obtain ⟨c1, c2, c3, c4⟩ := cur_bd h2 hl
  refine ⟨inB_31 a1 (by decide) (by decide), c1, c2, c3, c4, by omega, hl, fun r hr => ?_, fun z hz => ?_⟩
  · obtain ⟨i, hi⟩ := List.getElem?_of_mem hr
    have := allAt_at h4 hi
    unfold eachB at this
    exact alone_bd (Bool.and_eq_true_iff.1 this).1
  · unfold TC.livesB at h3
    exact inB_31 (List.all_eq_true.1 h3 z hz) (by decide) (by decide)
theorem flat_step {α : Type} (f : α → List UInt8) {l : List α} {j : Nat} {x : α} (h : l[j]? = some x) : (l.take (j + 1)).flatMap f = (l.take j).flatMap f ++ f x := by
  rw [List.take_add_one, h, List.flatMap_append]
  simp
end Go.Proofs.Ytifajcblbedcoaa
