import Derived.Test.YtlgioloanjjndaaOpenA
import Derived.Test.YtlgioloanjjndaaF22
namespace Go.Proofs.Ytlgioloanjjndaa
set_option linter.unusedVariables false
set_option linter.unusedSimpArgs false
open Go.RowKit Hp
attribute [local irreducible] Go.Calls
set_option maxRecDepth 100000
set_option maxHeartbeats 4000000
/-- Acts of at most 300 bytes each, at most 60. -/
def shortA (xs : List AV) (N : Nat) : Prop := N ≤ 60 ∧ ∀ x ∈ xs, x.m ≤ 300 ∧ x.s.length ≤ 300
def longP (xs : List AV) (N : Nat) (e : Ending) : Prop := ∃ b, e = .returned (.bool b) ∧ (b = false ↔ shortA xs N)
theorem long_any (ao : Option Addr) (N c : Nat) (xs : List AV) (w : World) (hv : Rd w (.slice ao N c) 5 N (xs.flatMap AV.cells)) (hN : xs.length = N) (hx : ∀ x ∈ xs, x.Ok0 w) :
    Calls Try.prog 11 #[.slice ao N c] w fun e w' => longP xs N e ∧ St w [] w' [] := by
  have hst := St.refl w
  have HN := hid hN
  have HXX := hid hx
  have hb1 := hv.bd.1
  have hb2 := hv.bd.2.1
  clear hN hx
  go_enter Try.func11, Try.ntmps11
  go_wp2_with (first | go_big_skip | go_big_guard | fail)
  go_loop [3] (fun q => ∃ k : Nat, k ≤ N ∧ q = .int .i64 k ∧ Hid (∀ j x, j < k → xs[j]? = some x → x.m ≤ 300 ∧ x.s.length ≤ 300)) (fun q => N - (intOf q).toNat)
  case atStart => exact ⟨0, by omega, rfl, hid (fun j x hj => absurd hj (Nat.not_lt_zero _))⟩
  case round =>
    obtain ⟨k, hk, rfl, hall⟩ := hrel
    by_cases hkN : k < N
    · obtain ⟨x, hxk⟩ : ∃ x, xs[k]? = some x := ⟨_, List.getElem?_eq_getElem (by rw [HN.out]; exact hkN)⟩
      obtain ⟨b, off, rfl, _⟩ := hv.at hkN
      have hok := HXX.out x (List.mem_of_getElem? hxk)
      have hra := acts_range hv hxk
      have h3 := hid (show w.cell? ⟨b, off + k * 5 + 3, none⟩ = some (.string ⟨x.s.toArray⟩) from hra 3 _ rfl)
      have h4 := hid (show w.cell? ⟨b, off + k * 5 + 4, none⟩ = some (.slice x.au x.m x.cu) from hra 4 _ rfl)
      have HXK := hid hxk
      have hsl : (⟨x.s.toArray⟩ : ByteArray).size = x.s.length := by simp [ByteArray.size]
      have hs1 := hok.s
      have hm1 := hok.rd.bd.1
      have hm2 := hok.rd.bd.2.1
      have hkk : (k : Int) < (N : Int) := by omega
      have d1 : decide ((k : Int) < (N : Int)) = true := decide_eq_true hkk
      clear hra hxk
      by_cases g1 : 300 < x.s.length
      · have d2 : decide (300 < (x.s.length : Int)) = true := decide_eq_true (by omega)
        go_wp2_with (first | go_big_skip | go_big_guard | (refine wl_loadE rfl rfl rfl ?_; first | refine ⟨_, Loads.old hst (h3.out), ?_⟩ | refine ⟨_, Loads.old hst (h4.out), ?_⟩))
        go_ret
        exact ⟨⟨true, rfl, ⟨fun h => (by cases h), fun h => by have := (h.2 x (List.mem_of_getElem? HXK.out)); omega⟩⟩, hst⟩
      · have d2 : decide (300 < (x.s.length : Int)) = false := decide_eq_false (by omega)
        by_cases g2 : 300 < x.m
        · have d3 : decide (300 < (x.m : Int)) = true := decide_eq_true (by omega)
          go_wp2_with (first | go_big_skip | go_big_guard | (refine wl_loadE rfl rfl rfl ?_; first | refine ⟨_, Loads.old hst (h3.out), ?_⟩ | refine ⟨_, Loads.old hst (h4.out), ?_⟩))
          go_ret
          exact ⟨⟨true, rfl, ⟨fun h => (by cases h), fun h => by have := (h.2 x (List.mem_of_getElem? HXK.out)); omega⟩⟩, hst⟩
        · have d3 : decide (300 < (x.m : Int)) = false := decide_eq_false (by omega)
          go_wp2_with (first | go_big_skip | go_big_guard | (refine wl_loadE rfl rfl rfl ?_; first | refine ⟨_, Loads.old hst (h3.out), ?_⟩ | refine ⟨_, Loads.old hst (h4.out), ?_⟩))
          go_round
          case rel =>
            refine ⟨k + 1, by omega, by go_num, hid (fun j y hj hy => ?_)⟩
            rcases Nat.lt_or_ge j k with h9 | h9
            · exact hall.out j y h9 hy
            · obtain rfl : j = k := by omega
              rw [HXK.out] at hy
              cases hy
              omega
          case measure => simp [intOf]; omega
    · have e : k = N := by omega
      subst e
      have d1 : decide ((k : Int) < (k : Int)) = false := by simp
      go_wp2_with (first | go_big_skip | go_big_guard | fail)
      go_ret
      refine ⟨⟨_, rfl, fun hb => ⟨?_, fun x hx => ?_⟩, fun h => decide_eq_false (by have := h.1; omega)⟩, hst⟩
      · have := of_decide_eq_false hb
        omega
      · obtain ⟨j, hj, rfl⟩ := List.getElem_of_mem hx
        exact hall.out j _ (by rw [HN.out] at hj; exact hj) (List.getElem?_eq_getElem hj)
theorem long_no (ao : Option Addr) (N c : Nat) (xs : List AV) (w : World) (hv : Rd w (.slice ao N c) 5 N (xs.flatMap AV.cells)) (hN : xs.length = N) (hx : ∀ x ∈ xs, x.Ok0 w) (h : shortA xs N) :
    Calls Try.prog 11 #[.slice ao N c] w fun e w' => e = .returned (.bool false) ∧ St w [] w' [] :=
  (long_any ao N c xs w hv hN hx).mono fun e w' ⟨⟨b, he, hb⟩, hst⟩ => ⟨by rw [he, hb.2 h], hst⟩
theorem long_yes (ao : Option Addr) (N c : Nat) (xs : List AV) (w : World) (hv : Rd w (.slice ao N c) 5 N (xs.flatMap AV.cells)) (hN : xs.length = N) (hx : ∀ x ∈ xs, x.Ok0 w) (h : ¬ shortA xs N) :
    Calls Try.prog 11 #[.slice ao N c] w fun e w' => e = .returned (.bool true) ∧ St w [] w' [] :=
  (long_any ao N c xs w hv hN hx).mono fun e w' ⟨⟨b, he, hb⟩, hst⟩ => ⟨by
    cases b with
    | true => exact he
    | false => exact absurd (hb.1 rfl) h, hst⟩
end Go.Proofs.Ytlgioloanjjndaa
