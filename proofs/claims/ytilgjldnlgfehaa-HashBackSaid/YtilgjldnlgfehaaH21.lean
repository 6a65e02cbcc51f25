import Derived.Test.YtilgjldnlgfehaaH12
import Derived.Test.YtilgjldnlgfehaaHX
import Derived.Test.YtilgjldnlgfehaaStr
import Derived.Lib.Builder
import Derived.Lib.UnsafeStr
import Derived.Laws.Externs
namespace Go.Proofs.Ytilgjldnlgfehaa
set_option linter.unusedVariables false
set_option linter.unusedSimpArgs false
open Go.RowKit Hp
attribute [local irreducible] Go.Calls
set_option maxRecDepth 100000
set_option maxHeartbeats 4000000
instance bSP : TyS Try.prog 68 := ⟨by kernel_rfl⟩
instance bNP : TyN Try.prog 68 1 := ⟨by kernel_rfl⟩
instance bZB : TyZ Try.prog 70 [.pointer none, .slice none 0 0] := ⟨by kernel_rfl⟩
theorem sizeBd : (Try.prog.info? 70).map (·.size) = some 2 := by kernel_rfl
theorem Hp.St.shapeB {w0 w : World} {M : List Nat} {L : List HA} {g : Nat} {T : TypeId} {cs : List Value} (h : St w0 M w (.blk g T cs :: L)) : w.shape? g = some (T, cs.length) := by
  have := h.all (.blk g T cs) (.head _)
  unfold HA.holds at this
  unfold World.shape?
  rw [this]
  simp
theorem copy_fresh {w0 w : World} {M : List Nat} {L : List HA} (g : Nat) (v : Value) (h : St w0 M w (.blk g 70 [.pointer none, v] :: L)) :
    Calls Try.prog 51 #[.pointer (some ⟨g, 0, none⟩)] w fun e w' => e = .returned (.tuple #[]) ∧ St w0 M w' (.blk g 70 [.pointer (some ⟨g, 0, none⟩), v] :: L) := by
  obtain ⟨j, hj, hjs⟩ := Option.map_eq_some_iff.1 sizeBd
  have hsh := hid (St.shapeB h)
  go_enter Try.func51, Try.ntmps51
  go_wp2_with (first | go_big_skip | go_big_guard | (refine wl_loadE rfl rfl rfl ?_; first | refine ⟨_, Loads.at [] h rfl, ?_⟩))
  rw [Lib.run_to_unsafe w ⟨g, 0, none⟩ Try.underlying68 Try.underlying81 hj (by rw [hjs]; decide) hsh.out (by show (0 : Nat) < 2; decide)]
  simp only [Result.andThen]
  rw [Oper.upon_value]
  go_wp2
  rw [run_callFunc_extern Try.func54 (by kernel_rfl) (by kernel_rfl) (by kernel_rfl) (e := Extern.AbiNoEscape.same) (by kernel_rfl)]
  rw [Lib.run_noEscape]
  simp only [Result.andThen]
  rw [Oper.upon_value]
  go_wp2
  rw [Lib.run_from_unsafe w ⟨g, 0, none⟩ Try.underlying81 Try.underlying68 hj hsh.out (by kernel_rfl)]
  simp only [Result.andThen]
  rw [Oper.upon_value]
  go_wp2_with (first | go_big_skip | go_big_guard | (refine wl_store [] h rfl rfl rfl (v := .pointer (some ⟨g, 0, none⟩)) rfl rfl rfl (by show (1 : Nat) ≤ 2; decide) ?_; intro _ h9))
  go_end0
  exact ⟨rfl, h9⟩
theorem copy_used {w0 w : World} {M : List Nat} {L : List HA} (g : Nat) (v : Value) (h : St w0 M w (.blk g 70 [.pointer (some ⟨g, 0, none⟩), v] :: L)) :
    Calls Try.prog 51 #[.pointer (some ⟨g, 0, none⟩)] w fun e w' => e = .returned (.tuple #[]) ∧ St w0 M w' (.blk g 70 [.pointer (some ⟨g, 0, none⟩), v] :: L) := by
  obtain ⟨j, hj, hjs⟩ := Option.map_eq_some_iff.1 sizeBd
  go_enter Try.func51, Try.ntmps51
  go_wp2_with (first | go_big_skip | go_big_guard | (refine wl_loadE rfl rfl rfl ?_; first | refine ⟨_, Loads.at [] h rfl, ?_⟩))
  rw [Lib.run_neq_ptr_same w _ Try.underlying68 hj]
  go_wp2
  go_end0
  exact ⟨rfl, h⟩
/-- A builder's own address, or none as yet. -/
def bAt (g : Nat) (p : Value) : Prop := p = .pointer none ∨ p = .pointer (some ⟨g, 0, none⟩)
theorem copy_any {w0 w : World} {M : List Nat} {L : List HA} (g : Nat) (p v : Value) (hp : bAt g p) (h : St w0 M w (.blk g 70 [p, v] :: L)) :
    Calls Try.prog 51 #[.pointer (some ⟨g, 0, none⟩)] w fun e w' => e = .returned (.tuple #[]) ∧ St w0 M w' (.blk g 70 [.pointer (some ⟨g, 0, none⟩), v] :: L) := by
  rcases hp with rfl | rfl
  · exact copy_fresh g v h
  · exact copy_used g v h
theorem wbyte_any {w0 w : World} {M : List Nat} {L : List HA} (g : Nat) (p v : Value) (bs : List UInt8) (c : UInt8) (hp : bAt g p) (h : St w0 M w (.blk g 70 [p, v] :: .rowP isB v 5 1 bs.length (bytesV bs) :: L)) (hl : bs.length ≤ 100000) :
    Calls Try.prog 43 #[.pointer (some ⟨g, 0, none⟩), .int .u8 (c.toNat : Int)] w fun e w' => e = .returned .nilIface ∧ ∃ v', St w0 M w' (.blk g 70 [.pointer (some ⟨g, 0, none⟩), v'] :: .rowP isB v' 5 1 (bs ++ [c]).length (bytesV (bs ++ [c])) :: L) := by
  obtain ⟨N, hN⟩ : ∃ N, N = bs.length := ⟨_, rfl⟩
  have HN := hid hN
  rw [← hN] at h hl
  have HE := hid (show bytesV (bs ++ [c]) = bytesV bs ++ bytesV [c] by simp [bytesV])
  have HLn := hid (show (bs ++ [c]).length = N + 1 by simp [hN])
  obtain ⟨X, hX⟩ : ∃ X, X = bytesV bs := ⟨_, rfl⟩
  have HX := hid hX
  rw [← hX] at h
  rw [HLn.out, HE.out, ← hX]
  clear hN hX
  go_enter Try.func43, Try.ntmps43
  go_wp2_with (first | go_big_skip | go_big_guard | (go_at_call 51; refine (copy_any g p v hp h).mono ?_; rintro _ w1 ⟨rfl, h1⟩; clear h) | (refine wl_loadE rfl rfl rfl ?_; first | refine ⟨_, Loads.at [] h1 rfl, ?_⟩ | refine ⟨_, Loads.at [_] h2 rfl, ?_⟩) | (apply wl_bsX [.int .u8 (c.toNat : Int)] (bytesV [c]) h1; rfl; rfl; exact rfl; exact rfl; infer_instance; infer_instance; rfl; rfl; rfl; intro g3 w3 h2; clear h1) | (apply wl_appP (ys := bytesV [c]) [_, _] h2; rfl; rfl; exact rfl; exact rfl; infer_instance; infer_instance; infer_instance; infer_instance; exact (Rd.blk0 h2 rfl (by decide)); exact rfl; rfl; exact isB_bytes _; (unfold maxLen; omega); intro v9 w9 h3 _; clear h2; obtain ⟨a9, c9, rfl⟩ := St.rowPSlice [_, _] h3) | (refine wl_store [_] h3 rfl rfl rfl (v := .slice a9 (N + 1) c9) rfl rfl rfl (by show (2 : Nat) ≤ 2; decide) ?_; intro _ h9; clear h3))
  go_ret
  exact ⟨rfl, _, St.sub h9 (.cons _ (List.Sublist.refl _))⟩
end Go.Proofs.Ytilgjldnlgfehaa
