import Derived.Test.YtifajcblbedcoaaGreatTy
import Derived.Test.YtifajcblbedcoaaGreatNum
import Derived.Test.YtifajcblbedcoaaGreatT8
import Derived.Test.YtifajcblbedcoaaGreatT4
import Derived.Test.YtifajcblbedcoaaGreatPtrR
import Derived.Test.YtifajcblbedcoaaGreatSepR
import Derived.Deep.RegionHeld3
import Derived.Deep.DrawnRows
import Derived.Recover
import Derived.Defers
import Derived.Test.YtifajcblbedcoaaGreatT18
import Derived.Test.YtifajcblbedcoaaGreatT9
import Derived.Test.YtifajcblbedcoaaGreatPtrM
import Derived.Test.YtifajcblbedcoaaGreatRegL
import Derived.Test.YtifajcblbedcoaaGreatT5
import Derived.Test.YtifajcblbedcoaaGreatSepY
import Derived.Outline
import Derived.Test.YtifajcblbedcoaaGreatNode
namespace Go.Proofs.YtifajcblbedcoaaGreat
set_option linter.unusedVariables false
set_option linter.unusedSimpArgs false
open Go.RowKit Hp
attribute [local irreducible] Go.Calls
set_option maxHeartbeats 1000000
end Go.Proofs.YtifajcblbedcoaaGreat
namespace Go.Proofs.YtifajcblbedcoaaGreat
set_option linter.unusedVariables false
set_option linter.unusedSimpArgs false
open Go.RowKit Hp
attribute [local go_sem ↓] Go.wp_at_zero Go.wp_at_succ
attribute [local irreducible] Go.Calls
set_option maxHeartbeats 1000000
end Go.Proofs.YtifajcblbedcoaaGreat
namespace Go.Proofs.YtifajcblbedcoaaGreat
set_option linter.unusedVariables false
set_option linter.unusedSimpArgs false
open Go.RowKit Hp
attribute [local go_sem ↓] Go.wp_at_zero Go.wp_at_succ
attribute [local irreducible] Go.Calls
set_option maxHeartbeats 1000000
theorem storedP (A : Addr) (v : Value) : storeVar 32 A v = storeVarH 32 A v := rfl
attribute [local go_sem ↓] storedP
end Go.Proofs.YtifajcblbedcoaaGreat
namespace Go.Proofs.YtifajcblbedcoaaGreat
set_option linter.unusedVariables false
set_option linter.unusedSimpArgs false
open Go.RowKit Hp
attribute [local irreducible] Go.Calls
set_option maxHeartbeats 2000000
theorem loadedL9 (A : Addr) : loadVar 28 A = loadVarH 28 A := rfl
theorem storedL9 (A : Addr) (v : Value) : storeVar 28 A v = storeVarH 28 A v := rfl
attribute [local go_sem ↓] storedP loadedL9 storedL9
end Go.Proofs.YtifajcblbedcoaaGreat
namespace Go.Proofs.YtifajcblbedcoaaGreat
set_option linter.unusedVariables false
set_option linter.unusedSimpArgs false
open Go.RowKit Hp
attribute [local irreducible] Go.Calls
set_option maxHeartbeats 1000000
end Go.Proofs.YtifajcblbedcoaaGreat
namespace Go.Proofs.YtifajcblbedcoaaGreat
set_option linter.unusedVariables false
set_option linter.unusedSimpArgs false
open Go.RowKit Hp
set_option maxHeartbeats 400000
section
variable (ao ao' : Option Addr) (n c n' c' : Nat) (l r : List (Int × Int)) (b v b' v' : Int) (S S' : List UInt8) (w : World) (hS : L32 S) (hS' : L32 S')
 (hA : Rd w (.slice ao n c) 2 n (addrsV l)) (hn : l.length = n) (hB : Rd w (.slice ao' n' c') 2 n' (addrsV r)) (hn' : r.length = n')
include hS hS' hA hn hB hn'
theorem samePointer_any :
  Calls Tryz.prog 17 #[.agg (ptrCells (.slice ao n c) b v S).toArray, .agg (ptrCells (.slice ao' n' c') b' v' S').toArray] w fun e w' => e = .returned (.bool (sameB l r b v b' v' S S')) ∧ St w [] w' [] := by
 have Hn := hid hn; clear hn
 have Hn' := hid hn'; clear hn'
 go_enter Tryz.func17, Tryz.ntmps17
 have hst := St.refl w
 go_wp2_with (first | go_big_skip | go_big_guard | (refine wl_boxA hst rfl rfl rfl ?_; intro g w1 hst1; clear hst) | (refine wl_boxA hst1 rfl rfl rfl ?_; intro g2 w2 hst2; clear hst1) | (refine wl_loadE rfl rfl rfl ?_; first | refine ⟨_, Loads.at [] hst2 rfl, ?_⟩ | refine ⟨_, Loads.at [_] hst2 rfl, ?_⟩ | refine ⟨_, Loads.atA (bytesV S') [] hst2 (hS'.v) (ptr_sum _ _ _ _), ?_⟩ | refine ⟨_, Loads.atA (bytesV S) [_] hst2 (hS.v) (ptr_sum _ _ _ _), ?_⟩) | (go_at_call 46; refine (sameAddrs_any _ _ _ _ _ _ l r _ (Rd.old hst2 hA) Hn.out (Rd.old hst2 hB) Hn'.out).mono ?_; rintro _ _ ⟨rfl, hcall⟩; replace hst2 := St.call0 hst2 hcall; clear hcall) | (refine wl_eql_bytes rfl rfl rfl rfl (hS.two hS') ?_))
 all_goals (go_ret; exact ⟨ret_bool (by unfold sameB; grind), hst2.nil⟩)
end
end Go.Proofs.YtifajcblbedcoaaGreat
namespace Go.Proofs.YtifajcblbedcoaaGreat
set_option linter.unusedVariables false
set_option linter.unusedSimpArgs false
open Go.RowKit Hp
attribute [local irreducible] Go.Calls
set_option maxHeartbeats 1000000
end Go.Proofs.YtifajcblbedcoaaGreat
namespace Go.Proofs.YtifajcblbedcoaaGreat
set_option linter.unusedVariables false
set_option linter.unusedSimpArgs false
open Go.RowKit Hp
attribute [local go_sem ↓] Go.wp_at_zero Go.wp_at_succ
attribute [local irreducible] Go.Calls
set_option maxHeartbeats 2000000
theorem storedA (A : Addr) (v : Value) : storeVar 102 A v = storeVarH 102 A v := rfl
attribute [local go_sem ↓] storedA
end Go.Proofs.YtifajcblbedcoaaGreat
namespace Go.Proofs.YtifajcblbedcoaaGreat
set_option linter.unusedVariables false
set_option linter.unusedSimpArgs false
open Go.RowKit Hp
attribute [local go_sem ↓] Go.wp_at_zero Go.wp_at_succ
attribute [local irreducible] Go.Calls
set_option maxHeartbeats 2000000
theorem loadedP (A : Addr) : loadVar 32 A = loadVarH 32 A := rfl
theorem loadedL (A : Addr) : loadVar 28 A = loadVarH 28 A := rfl
section
variable (ao bo : Option Addr) (n c m d : Nat) (l : List (Int × Int)) (b v : Int) (S bs : List UInt8) (w : World) (hS : L32 S)
 (hA : Rd w (.slice ao n c) 2 n (addrsV l)) (hn : l.length = n) (hB : Rd w (.slice bo m d) 1 m (bytesV bs)) (hm : bs.length = m)
include hS hA hn hB hm
attribute [local go_sem ↓] loadedP loadedL
end
end Go.Proofs.YtifajcblbedcoaaGreat
namespace Go.Proofs.YtifajcblbedcoaaGreat
set_option linter.unusedVariables false
set_option linter.unusedSimpArgs false
open Go.RowKit Hp
attribute [local irreducible] Go.Calls
set_option maxHeartbeats 2000000
theorem PV.open {w : World} {p : PV} (h : p.In w) : ∃ ao n c, p.cells = ptrCells (.slice ao n c) p.b p.v p.S ∧ Rd w (.slice ao n c) 2 n (addrsV p.l) ∧ p.l.length = n := by
 obtain ⟨_, ao, n, c, e, h1, h2⟩ := h
 exact ⟨ao, n, c, by rw [PV.cells, e], h1, h2⟩
section
variable (p q : PV) (w : World) (hp : p.In w) (hq : q.In w)
include hp
theorem hole_pv : Calls Tryz.prog 83 #[.agg p.cells.toArray] w fun e w' => e = .returned (.bool p.hole) ∧ St w [] w' [] := by
 obtain ⟨ao, n, c, e, h1, h2⟩ := PV.open hp
 rw [e, PV.hole, h2]
 exact hole_any ao n c p.b p.v p.S w hp.1
theorem refHole_pv : Calls Tryz.prog 100 #[.agg p.cells.toArray] w fun e w' => e = .returned (.bool p.hole) ∧ St w [] w' [] := by
 obtain ⟨ao, n, c, e, h1, h2⟩ := PV.open hp
 rw [e, PV.hole, h2]
 exact refHole_any ao n c p.b p.v p.S w hp.1
theorem check_pv : Calls Tryz.prog 84 #[.agg p.cells.toArray] w fun e w' => e = .returned (.int .i64 (if p.ok then 0 else 2)) ∧ St w [] w' [] := by
 obtain ⟨ao, n, c, e, h1, h2⟩ := PV.open hp
 rw [e, PV.ok]
 exact check_any ao n c p.l p.b p.v p.S w hp.1 h1 h2
theorem refCheck_pv : Calls Tryz.prog 99 #[.agg p.cells.toArray] w fun e w' => e = .returned (.int .i64 (if p.ok then 0 else 2)) ∧ St w [] w' [] := by
 obtain ⟨ao, n, c, e, h1, h2⟩ := PV.open hp
 rw [e, PV.ok]
 exact refCheck_any ao n c p.l p.b p.v p.S w hp.1 h1 h2
include hq
theorem same_pv : Calls Tryz.prog 17 #[.agg p.cells.toArray, .agg q.cells.toArray] w fun e w' => e = .returned (.bool (p.same q)) ∧ St w [] w' [] := by
 obtain ⟨ao, n, c, e, h1, h2⟩ := PV.open hp
 obtain ⟨ao', n', c', e', h1', h2'⟩ := PV.open hq
 rw [e, e', PV.same]
 exact samePointer_any ao ao' n c n' c' p.l q.l p.b p.v q.b q.v p.S q.S w hp.1 hq.1 h1 h2 h1' h2'
end
end Go.Proofs.YtifajcblbedcoaaGreat
