import Derived.Test.YthjafocnfpphlaaT42
import Derived.Test.YthjafocnfpphlaaNodeO
import Derived.Test.YthjafocnfpphlaaT43
import Derived.Test.YthjafocnfpphlaaT29
import Derived.Test.YthjafocnfpphlaaT28
namespace Go.Proofs.Ythjafocnfpphlaa
open Go.RowKit Hp
attribute [local irreducible] Go.Calls
set_option maxHeartbeats 4000000
set_option maxRecDepth 100000
theorem over_blkC (g n c : Nat) (bs : List UInt8) (w : World) (hg : w.heap[g]? = some (.cells (bytesV bs).toArray 5 (0, 0))) (hl : bs.length = c) (hn : n ≤ c) (hb : c ≤ 9223372036854775807) :
    Calls Try.prog 29 #[.slice (some ⟨g, 0, none⟩) n c] w fun e w' => e = .returned (.tuple #[]) ∧ St w [g] w' [.blk g 5 (bytesV (overB bs))] := by
  subst hl
  exact over_blk g n bs w hg hn hb
theorem PV.eqd.symm {p q : PV} (h : p.eqd q) : q.eqd p := ⟨h.1.symm, h.2.1.symm, h.2.2.1.symm, h.2.2.2.symm⟩
theorem eqd_set {x y : NV} {p q : PV} {k : Nat} (hk : k < 4) (h : ∀ j, j < 4 → (y.get j).eqd (x.get j)) (hq : q.eqd p) : ∀ j, j < 4 → ((y.set k q).get j).eqd ((x.set k p).get j) := by
  intro j hj
  by_cases e : j = k
  · subst e; rw [NV.get_set_same y hk, NV.get_set_same x hk]; exact hq
  · rw [NV.get_set_other y hk hj e, NV.get_set_other x hk hj e]; exact h j hj
theorem set_ok_eq {x y : NV} {p q : PV} {k : Nat} (hk : k < 4) (hl : y.lv = x.lv) (h : ∀ j, j < 4 → (y.get j).eqd (x.get j)) (hq : q.eqd p) : (y.set k q).ok = (x.set k p).ok :=
  (NV.eqd (by rw [NV.lv_set, NV.lv_set]; exact hl) (eqd_set hk h hq)).1
theorem re_eqd (p : PV) (s : Value) : (p.re s).eqd p := ⟨rfl, rfl, rfl, rfl⟩
theorem NV.big_len {x : NV} (h : x.big = false) : ∀ k, k < 4 → (x.get k).l.length ≤ 100000 := by
  simp only [NV.big, Bool.or_eq_false_iff, decide_eq_false_iff_not] at h
  intro k hk
  obtain rfl | rfl | rfl | rfl : k = 0 ∨ k = 1 ∨ k = 2 ∨ k = 3 := by omega
  all_goals (simp only [NV.get]; omega)
theorem NV.isO.eqs {E : TypeId} {y x : NV} {R : List HA} (h : y.isO E x R 4) (hl : y.lv = x.lv) : y.ok = x.ok ∧ y.bytes = x.bytes ∧ y.err = x.err ∧ y.empty = x.empty := by
  have h1 := NV.eqd hl (fun j hj => (h j hj).1)
  have hh : ∀ j, j < 4 → (y.get j).hole = (x.get j).hole := fun j hj => ((h j hj).1.ok).2.1
  have a0 : y.p0.hole = x.p0.hole := hh 0 (by omega)
  have a1 : y.p1.hole = x.p1.hole := hh 1 (by omega)
  have a2 : y.p2.hole = x.p2.hole := hh 2 (by omega)
  have a3 : y.p3.hole = x.p3.hole := hh 3 (by omega)
  refine ⟨h1.1, h1.2, by rw [NV.err, NV.err, h1.1], ?_⟩
  rw [NV.empty, NV.empty, a0, a1, a2, a3]
theorem zrows {E : TypeId} {R : List HA} (h : HA.row (.slice none 0 0) E 2 0 [] ∈ R) : rowsIn (zN 0) E R := by
  intro j hj
  refine ⟨none, 0, 0, [], ?_, h⟩
  rw [zN_get]
  rfl
theorem feet (R : List HA) : ∀ k ∈ R.filterMap HA.foot, ∃ x ∈ R, x.foot = some k := fun _ hk => List.mem_filterMap.1 hk
theorem ntells_far (x : NV) (z : Int) (ao : Option Addr) (n c : Nat) (l : List (Int × Int)) (b v : Int) (S : List UInt8) (w : World) (hx : x.In w) (hp : PV.In w ⟨.slice ao n c, l, b, v, S⟩) (hfar : x.big = true ∨ (20 : Int) < n) :
    Calls Try.prog 9 #[.agg x.cells.toArray, .int .i64 z, .agg (PV.cells ⟨.slice ao n c, l, b, v, S⟩).toArray] w fun e w' => e = .returned (.bool true) ∧ St w [] w' [] := by
  have hst := St.refl w
  have Hfar := hid hfar
  clear hfar
  cases hb : x.big with
  | true =>
    go_enter Try.func9, Try.ntmps9
    go_wp2_with (first | go_big_skip | go_big_guard | (refine wl_loadE rfl rfl rfl ?_; first | refine ⟨_, Loads.at [] hst100 rfl, ?_⟩ | refine ⟨_, Loads.atA (x.cells) [] hst100 (NV.len hx.ln) (NV.all x), ?_⟩ | refine ⟨_, Loads.at [] hst101 rfl, ?_⟩ | refine ⟨_, Loads.atA ((PV.cells ⟨.slice ao n c, l, b, v, S⟩)) [] hst101 (PV.len hp.1) (by simp), ?_⟩ | refine ⟨_, Loads.at [_] hst101 rfl, ?_⟩ | refine ⟨_, Loads.atA (x.cells) [_] hst101 (NV.len hx.ln) (NV.all x), ?_⟩ | refine ⟨_, Loads.at [] hst102 rfl, ?_⟩ | refine ⟨_, Loads.atA ((PV.cells ⟨.slice ao n c, l, b, v, S⟩)) [] hst102 (PV.len hp.1) (by simp), ?_⟩ | refine ⟨_, Loads.at [_] hst102 rfl, ?_⟩ | refine ⟨_, Loads.atA (x.cells) [_] hst102 (NV.len hx.ln) (NV.all x), ?_⟩ | refine ⟨_, Loads.at [] hst103 rfl, ?_⟩ | refine ⟨_, Loads.atA ((PV.cells ⟨.slice ao n c, l, b, v, S⟩)) [] hst103 (PV.len hp.1) (by simp), ?_⟩ | refine ⟨_, Loads.at [_] hst103 rfl, ?_⟩ | refine ⟨_, Loads.atA (x.cells) [_] hst103 (NV.len hx.ln) (NV.all x), ?_⟩) | (refine wl_boxA hst rfl rfl rfl ?_; intro g3 _ hst100; clear hst) | (refine wl_boxA hst100 rfl rfl rfl ?_; intro g5 _ hst101; clear hst100) | (go_at_call 38; refine (big_any x _ (NV.In.old hst101 hx)).mono ?_; rw [hb]; rintro _ _ ⟨rfl, h4⟩; have hst102 := St.call0 hst101 h4; clear h4 hst101) | (go_at_call 34; refine (awake5_any _).mono ?_; rintro _ _ ⟨rfl, h4⟩; have hst103 := St.call0 hst102 h4; clear h4 hst102))
    all_goals (go_ret; exact ⟨rfl, hst103.nil⟩)
  | false =>
    have k2 : (20 : Int) < n := Hfar.out.resolve_left (by rw [hb]; exact Bool.false_ne_true)
    have k3 : decide ((20 : Int) < n) = true := decide_eq_true k2
    go_enter Try.func9, Try.ntmps9
    go_wp2_with (first | go_big_skip | go_big_guard | (refine wl_loadE rfl rfl rfl ?_; first | refine ⟨_, Loads.at [] hst104 rfl, ?_⟩ | refine ⟨_, Loads.atA (x.cells) [] hst104 (NV.len hx.ln) (NV.all x), ?_⟩ | refine ⟨_, Loads.at [] hst105 rfl, ?_⟩ | refine ⟨_, Loads.atA ((PV.cells ⟨.slice ao n c, l, b, v, S⟩)) [] hst105 (PV.len hp.1) (by simp), ?_⟩ | refine ⟨_, Loads.at [_] hst105 rfl, ?_⟩ | refine ⟨_, Loads.atA (x.cells) [_] hst105 (NV.len hx.ln) (NV.all x), ?_⟩ | refine ⟨_, Loads.at [] hst106 rfl, ?_⟩ | refine ⟨_, Loads.atA ((PV.cells ⟨.slice ao n c, l, b, v, S⟩)) [] hst106 (PV.len hp.1) (by simp), ?_⟩ | refine ⟨_, Loads.at [_] hst106 rfl, ?_⟩ | refine ⟨_, Loads.atA (x.cells) [_] hst106 (NV.len hx.ln) (NV.all x), ?_⟩ | refine ⟨_, Loads.at [] hst107 rfl, ?_⟩ | refine ⟨_, Loads.atA ((PV.cells ⟨.slice ao n c, l, b, v, S⟩)) [] hst107 (PV.len hp.1) (by simp), ?_⟩ | refine ⟨_, Loads.at [_] hst107 rfl, ?_⟩ | refine ⟨_, Loads.atA (x.cells) [_] hst107 (NV.len hx.ln) (NV.all x), ?_⟩) | (refine wl_boxA hst rfl rfl rfl ?_; intro g3 _ hst104; clear hst) | (refine wl_boxA hst104 rfl rfl rfl ?_; intro g5 _ hst105; clear hst104) | (go_at_call 38; refine (big_any x _ (NV.In.old hst105 hx)).mono ?_; rw [hb]; rintro _ _ ⟨rfl, h4⟩; have hst106 := St.call0 hst105 h4; clear h4 hst105) | (go_at_call 34; refine (awake5_any _).mono ?_; rintro _ _ ⟨rfl, h4⟩; have hst107 := St.call0 hst106 h4; clear h4 hst106))
    all_goals (go_ret; exact ⟨rfl, hst107.nil⟩)
end Go.Proofs.Ythjafocnfpphlaa
