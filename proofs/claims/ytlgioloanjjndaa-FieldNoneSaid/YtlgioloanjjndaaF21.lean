import Derived.Test.YtlgioloanjjndaaF20
import Derived.Test.YtlgioloanjjndaaF16
namespace Go.Proofs.Ytlgioloanjjndaa
set_option linter.unusedVariables false
set_option linter.unusedSimpArgs false
open Go.RowKit Hp
attribute [local irreducible] Go.Calls
set_option maxRecDepth 100000
set_option maxHeartbeats 4000000
/-- A writer behind the first k acts. -/
def foldS (s0 : WR) (xs : List AV) (k : Nat) : WR := (xs.take k).foldl (fun s x => x.step s) s0
theorem foldS_zero (s0 : WR) (xs : List AV) : foldS s0 xs 0 = s0 := by simp [foldS]
theorem foldS_succ {s0 : WR} {xs : List AV} {k : Nat} {x : AV} (h : xs[k]? = some x) : foldS s0 xs (k + 1) = x.step (foldS s0 xs k) := by
  simp [foldS, List.take_add_one, h]
theorem foldS_len {s0 : WR} (h0 : s0.2.length ≤ 65536) (xs : List AV) (k : Nat) : (foldS s0 xs k).2.length ≤ 65536 := by
  unfold foldS
  generalize xs.take k = l
  induction l generalizing s0 with
  | nil => exact h0
  | cons x l ih => exact ih (AV.step_len h0)
theorem AV.Ok.old {x : AV} {w w' : World} {L : List HA} (h : x.Ok w) (hst : St w [] w' L) : x.Ok w' := ⟨Rd.old hst h.rd, h.len, h.m, h.s, h.n, h.size⟩
theorem actsV_at : ∀ {xs : List AV} {k : Nat} {x : AV}, xs[k]? = some x → ∀ j v, x.cells[j]? = some v → (xs.flatMap AV.cells)[k * 5 + j]? = some v
  | y :: xs, 0, x, h, j, v, hj => by
    cases h
    rw [List.flatMap_cons, Nat.zero_mul, Nat.zero_add, List.getElem?_append_left (List.getElem?_eq_some_iff.1 hj).1]
    exact hj
  | y :: xs, k + 1, x, h, j, v, hj => by
    have hl : y.cells.length = 5 := rfl
    rw [List.flatMap_cons, List.getElem?_append_right (by rw [hl]; omega), hl, show (k + 1) * 5 + j - 5 = k * 5 + j by omega]
    exact actsV_at (by simpa using h) j v hj
  | [], _, _, h, _, _, _ => by cases h
theorem acts_range {w : World} {b off n c k : Nat} {xs : List AV} {x : AV} (h : Rd w (.slice (some ⟨b, off, none⟩) n c) 5 n (xs.flatMap AV.cells)) (hk : xs[k]? = some x) : w.rangeAt b (off + k * 5) x.cells := by
  have hr := h.range
  intro j v hj
  have := hr (k * 5 + j) v (actsV_at hk j v hj)
  rwa [← Nat.add_assoc] at this
theorem wF_new {w0 w : World} {g : Nat} {bv : Value} {s : WR} {R : List HA} (h : St w0 [] w (wP g bv s ++ R)) : ∀ k ∈ wF g bv s, w0.heap.size ≤ k := by
  intro k hk
  obtain ⟨x, hx, hf⟩ := List.mem_filterMap.1 hk
  rcases h.own x (List.mem_append_left _ hx) k hf with h1 | h1
  · exact h1
  · cases h1
theorem told_any (ao : Option Addr) (N c : Nat) (xs : List AV) (w : World) (hv : Rd w (.slice ao N c) 5 N (xs.flatMap AV.cells)) (hN : xs.length = N) (hx : ∀ x ∈ xs, x.Ok w) (hN1 : N ≤ 100000) :
    Calls Try.prog 40 #[.slice ao N c] w (OutP w (foldS (0, []) xs N)) := by
  have hst := St.refl w
  have HN := hid hN
  have HXX := hid hx
  have hb1 := hv.bd.1
  have hb2 := hv.bd.2.1
  clear hN hx
  go_enter Try.func40, Try.ntmps40
  go_wp2_with (first | go_big_skip | go_big_guard | (go_at_call 10; refine (new_any _).mono ?_; rintro _ w1 ⟨g, rfl, hst1⟩; clear hst))
  have hst2 : St w [] w1 (wP g (.slice none 0 0) (foldS (0, []) xs 0)) := by rw [foldS_zero]; exact hst1
  clear hst1
  go_loopw [5] (fun q wr => ∃ (k : Nat) (bv : Value), k ≤ N ∧ q = .int .i64 k ∧ St w [] wr (wP g bv (foldS (0, []) xs k))) (fun q _ => N - (intOf q).toNat)
  case atStart => exact ⟨0, _, by omega, rfl, hst2⟩
  case round =>
    clear hst2
    obtain ⟨k, bv, hk, rfl, hst⟩ := hrel
    have hB := foldS_len (s0 := (0, [])) (by decide) xs k
    by_cases hkN : k < N
    · obtain ⟨x, hxk⟩ : ∃ x, xs[k]? = some x := ⟨_, List.getElem?_eq_getElem (by rw [HN.out]; exact hkN)⟩
      obtain ⟨b, off, rfl, _⟩ := hv.at hkN
      have hok := HXX.out x (List.mem_of_getElem? hxk)
      have hra := hid (acts_range hv hxk)
      have HS := hid (foldS_succ (s0 := (0, [])) hxk)
      obtain ⟨S, hS⟩ : ∃ S, S = foldS (0, []) xs k := ⟨_, rfl⟩
      rw [← hS] at hst HS hB
      have hst' : St w [] wr (wP g bv S ++ []) := by simpa using hst
      have ho : Off (.slice x.au x.m x.cu) (wF g bv S) := Off.old hok.rd (by decide) (wF_new hst')
      have hkk : (k : Int) < (N : Int) := by omega
      have d1 : decide ((k : Int) < (N : Int)) = true := decide_eq_true hkk
      clear hS hxk hst'
      go_wp2_with (first | go_big_skip | go_big_guard | (refine wl_loadE rfl rfl rfl ?_; refine ⟨_, Loads.oldA (cs := x.cells) (n := 5) hst rfl hra.out, ?_⟩) | (go_at_call 13; refine (lwrite_any g bv S x _ hst.selfF hB (hok.old hst) ho).mono ?_; rintro _ w9 ⟨rfl, bv', h4⟩; have hst9 := St.thenF hst h4; rw [← HS.out] at hst9; clear h4 hst))
      go_roundw
      case rel => exact ⟨k + 1, bv', by omega, by go_num, hst9⟩
      case measure => simp [intOf]; omega
    · have e : k = N := by omega
      subst e
      have d1 : decide ((k : Int) < (k : Int)) = false := by simp
      obtain ⟨S, hS⟩ : ∃ S, S = foldS (0, []) xs k := ⟨_, rfl⟩
      rw [← hS] at hst hB
      have HSS := hid hS
      clear hS
      go_wp2_with (first | go_big_skip | go_big_guard | (go_at_call 15; refine (wout_any g bv S _ hst hB).mono ?_; rintro _ w9 ⟨u, rfl, h4⟩; have hst9 := St.sub (St.call hst h4) (.cons_cons _ (List.nil_sublist _)); clear h4 hst))
      go_ret2
      refine ⟨u, ?_, ?_⟩
      · rw [← HSS.out]; rfl
      · rw [← HSS.out]; exact hst9
end Go.Proofs.Ytlgioloanjjndaa
