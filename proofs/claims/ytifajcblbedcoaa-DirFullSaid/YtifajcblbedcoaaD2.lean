/- The place of the first record that is so; whether a number is. -/
import Derived.Test.YtifajcblbedcoaaD1
namespace Go.Proofs.Ytifajcblbedcoaa
set_option linter.unusedVariables false
set_option linter.unusedSimpArgs false
open Go.RowKit Hp
attribute [local irreducible] Go.Calls
set_option maxRecDepth 100000
set_option maxHeartbeats 4000000
theorem idxI_map {α β : Type} (f : α → β) (p : β → Bool) (l : List α) : idxI p (l.map f) = idxI (fun x => p (f x)) l := by
  induction l with
  | nil => rfl
  | cons x l ih => simp [idxI, ih]
theorem twinC_any {w : World} {g : Nat} {q : Int} (h0 : w.cell? ⟨g, 0, none⟩ = some (.int .i64 q)) (x : Value × RC) (hx : RC.In w x) : Calls Try.prog 90 #[.agg (cellsR x).toArray, .pointer (some ⟨g, 0, none⟩)] w fun e w' => e = .returned (.bool (x.2.id == q)) ∧ St w [] w' [] := by
  have hst0 := St.refl w
  have H0 := hid h0
  clear h0
  go_enter Try.func90, Try.ntmps90
  go_wp2_with (first | go_big_skip | go_big_guard | (refine wl_boxA hst0 rfl rfl rfl ?_; intro g4 w1 hst1; clear hst0) | (refine wl_loadE rfl rfl rfl ?_; first | refine ⟨_, Loads.at [] hst1 rfl, ?_⟩ | refine ⟨_, Loads.old hst1 H0.out, ?_⟩))
  go_ret
  exact ⟨rfl, hst1.nil⟩
theorem originC_any {w : World} {g : Nat} {q : Int} (h0 : w.cell? ⟨g, 41, none⟩ = some (.int .i64 q)) (x : Value × RC) (hx : RC.In w x) : Calls Try.prog 91 #[.agg (cellsR x).toArray, .pointer (some ⟨g, 0, none⟩)] w fun e w' => e = .returned (.bool ((x.2.id == q) && (x.2.kind == 2))) ∧ St w [] w' [] := by
  have hst0 := St.refl w
  have H0 := hid h0
  clear h0
  obtain ⟨k, hk⟩ : ∃ k, k = (x.2.id == q) := ⟨_, rfl⟩
  rw [← hk]
  have d1 : (x.2.id == q) = k := hk.symm
  clear hk
  cases k
  · go_enter Try.func91, Try.ntmps91
    go_wp2_with (first | go_big_skip | go_big_guard | (refine wl_boxA hst0 rfl rfl rfl ?_; intro g4 w1 hst1; clear hst0) | (refine wl_loadE rfl rfl rfl ?_; first | refine ⟨_, Loads.at [] hst1 rfl, ?_⟩ | refine ⟨_, Loads.old hst1 H0.out, ?_⟩))
    go_ret
    exact ⟨rfl, hst1.nil⟩
  · go_enter Try.func91, Try.ntmps91
    go_wp2_with (first | go_big_skip | go_big_guard | (refine wl_boxA hst0 rfl rfl rfl ?_; intro g4 w1 hst1; clear hst0) | (refine wl_loadE rfl rfl rfl ?_; first | refine ⟨_, Loads.at [] hst1 rfl, ?_⟩ | refine ⟨_, Loads.old hst1 H0.out, ?_⟩))
    go_ret
    exact ⟨rfl, hst1.nil⟩
theorem livesC_any (n : Int) (w : World) : Calls Try.prog 77 #[.int .i64 n] w fun e w' => e = .returned (.bool (!(inB n 0 2147483647))) ∧ St w [] w' [] := by
  have hst0 := St.refl w
  go_enter Try.func77, Try.ntmps77
  go_wp2_with (first | go_big_skip | go_big_guard | (go_at_call 74; refine (within_any _ _ _ _).mono ?_; rintro _ w9 ⟨rfl, h4⟩; have hst := St.call0 hst0 h4; clear h4))
  go_ret
  exact ⟨rfl, hst⟩
theorem indexR_any (fn g : Nat) (p : RC → Bool) (ao : Option Addr) (n c : Nat) (xs : List (Value × RC)) (w : World) (hfn : ∀ (a : Array Value) (w : World), (callFunc fn a).run Try.prog w = .ok (.enter fn a) w)
    (hcl : ∀ (x : Value × RC) (w' : World), x ∈ xs → St w [] w' [] → Calls Try.prog fn #[.agg (cellsR x).toArray, .pointer (some ⟨g, 0, none⟩)] w' fun e w2 => e = .returned (.bool (p x.2)) ∧ St w' [] w2 []) (hl : RecsIn w (.slice ao n c) n xs) (hb : n ≤ 1000000) :
    Calls Try.prog 64 #[.slice ao n c, capV fn g] w fun e w' => e = .returned (.int .i64 (idxI p (xs.map (·.2)))) ∧ St w [] w' [] := by
  have hst := St.refl w
  have HR := hid hl
  unfold capV
  rw [idxI_map]
  clear hl
  go_enter Try.func64, Try.ntmps64
  go_wp2_with (first | go_big_skip | go_big_guard | fail)
  go_loopw [8] (fun i wr => ∃ j : Nat, j ≤ n ∧ i = .int .i64 (j : Int) ∧ St w [] wr [] ∧ Hid (∀ x ∈ xs.take j, p x.2 = false)) (fun i _ => n - (intOf i).toNat)
  case atStart => exact ⟨0, Nat.zero_le _, rfl, hst, hid (by simp)⟩
  case round =>
    clear hst
    obtain ⟨j, hj, rfl, hst, HP⟩ := hrel
    by_cases hlt : j < n
    · have d1 : decide ((j : Int) < (n : Int)) = true := decide_eq_true (by omega)
      have z1 : IntKind.i64.wrap ((j : Int) + 1) = (j : Int) + 1 := IntWalk.i64_in _ (by omega)
      obtain ⟨x, b, off, hx, rfl, hin, hr⟩ := RecsIn.at HR.out hlt
      have HX := hid hx
      have HL := hid (cellsR_len hin.L)
      have hm := hid (List.mem_of_getElem? hx)
      have HWR := hid hr
      obtain ⟨q, hq⟩ : ∃ q, q = p x.2 := ⟨_, rfl⟩
      have HQ := hid hq
      clear hx hq hr hin
      cases q
      · go_wp2_with (first | go_big_skip | go_big_guard | (refine wl_index rfl rfl rfl rfl hlt ?_) | (refine wl_loadE rfl rfl rfl ?_; refine ⟨_, Loads.oldA (cs := cellsR x) hst HL.out HWR.out, ?_⟩) | (refine (hcl x _ hm.out hst).mono ?_; rw [← HQ.out]; rintro _ w9 ⟨rfl, h4⟩; have hst1 := St.call0 hst h4; clear h4 hst))
        go_roundw
        case rel =>
          refine ⟨j + 1, by omega, rfl, hst1, hid (fun y hy => ?_)⟩
          rw [List.take_add_one, HX.out] at hy
          rcases List.mem_append.1 hy with hy | hy
          · exact HP.out y hy
          · simp at hy
            rw [hy, ← HQ.out]
        case measure => simp [intOf]; omega
      · go_wp2_with (first | go_big_skip | go_big_guard | (refine wl_index rfl rfl rfl rfl hlt ?_) | (refine wl_loadE rfl rfl rfl ?_; refine ⟨_, Loads.oldA (cs := cellsR x) hst HL.out HWR.out, ?_⟩) | (refine (hcl x _ hm.out hst).mono ?_; rw [← HQ.out]; rintro _ w9 ⟨rfl, h4⟩; have hst1 := St.call0 hst h4; clear h4 hst))
        go_ret
        refine ⟨?_, hst1⟩
        have hjl : j < xs.length := by rw [HR.out.len]; exact hlt
        have e1 : xs[j] = x := by
          have := HX.out
          rw [List.getElem?_eq_getElem hjl] at this
          exact Option.some.inj this
        have e2 : idxI (fun x : Value × RC => p x.2) xs = j := idxI_first hjl (by show p xs[j].2 = true; rw [e1, ← HQ.out]) (fun i hi => HP.out _ (by
          rw [List.mem_take_iff_getElem]
          exact ⟨i, by omega, rfl⟩))
        rw [e2]
        rfl
    · have d1 : decide ((j : Int) < (n : Int)) = false := decide_eq_false (by omega)
      go_wp2_with (first | go_big_skip | go_big_guard | fail)
      go_ret
      refine ⟨?_, hst⟩
      have e2 : idxI (fun x : Value × RC => p x.2) xs = -1 := idxI_none (fun y hy => HP.out y (by rw [List.take_of_length_le (by rw [HR.out.len]; omega)]; exact hy))
      rw [e2]
      rfl
theorem indexI_any {w0 : World} {M : List Nat} {L : List HA} (fn : Nat) (p : Int → Bool) (ao : Option Addr) (n c : Nat) (l : List (Int)) (w : World) (hfn : ∀ (a : Array Value) (w : World), (callFunc fn a).run Try.prog w = .ok (.enter fn a) w)
    (hcl : ∀ (x : Int) (w : World), x ∈ l → Calls Try.prog fn #[(fun x => Value.int .i64 x) x] w fun e w' => e = .returned (.bool (p x)) ∧ St w [] w' []) (hl : Rd w (.slice ao n c) 1 n (numsV l)) (hn : l.length = n) (hb : n ≤ 1000000) :
    Calls Try.prog 88 #[.slice ao n c, .func (.func fn) #[] #[]] w fun e w' => e = .returned (.int .i64 (idxI p l)) ∧ St w [] w' [] := by
  have hst := St.refl w
  have HN := hid hn
  clear hn
  go_enter Try.func88, Try.ntmps88
  go_wp2_with (first | go_big_skip | go_big_guard | fail)
  go_loopw [8] (fun i wr => ∃ j : Nat, j ≤ n ∧ i = .int .i64 (j : Int) ∧ St w [] wr [] ∧ Hid (∀ x ∈ l.take j, p x = false)) (fun i _ => n - (intOf i).toNat)
  case atStart => exact ⟨0, Nat.zero_le _, rfl, hst, hid (by simp)⟩
  case round =>
    clear hst
    obtain ⟨j, hj, rfl, hst, HP⟩ := hrel
    by_cases hlt : j < n
    · have d1 : decide ((j : Int) < (n : Int)) = true := decide_eq_true (by omega)
      have z1 : IntKind.i64.wrap ((j : Int) + 1) = (j : Int) + 1 := IntWalk.i64_in _ (by omega)
      have hjl : j < l.length := by rw [HN.out]; exact hlt
      obtain ⟨x, hx⟩ : ∃ x, l[j]? = some x := ⟨_, List.getElem?_eq_getElem hjl⟩
      have HX := hid hx
      have hm := hid (List.mem_of_getElem? hx)
      obtain ⟨b, off, rfl, hr⟩ := Rd.at hl hlt
      have hcell := hid (hr j _ (numsV_get hx))
      obtain ⟨q, hq⟩ : ∃ q, q = p x := ⟨_, rfl⟩
      have HQ := hid hq
      clear hx hq hr hjl
      cases q
      · go_wp2_with (first | go_big_skip | go_big_guard | (refine wl_index rfl rfl rfl rfl hlt ?_) | (refine wl_loadE rfl rfl rfl ?_; refine ⟨_, Loads.old hst (by rw [Nat.mul_one]; exact hcell.out), ?_⟩) | (refine (hcl x _ hm.out).mono ?_; rw [← HQ.out]; rintro _ w9 ⟨rfl, h4⟩; have hst1 := St.call0 hst h4; clear h4 hst))
        go_roundw
        case rel =>
          refine ⟨j + 1, by omega, rfl, hst1, hid (fun y hy => ?_)⟩
          rw [List.take_add_one, HX.out] at hy
          rcases List.mem_append.1 hy with hy | hy
          · exact HP.out y hy
          · simp at hy
            rw [hy, ← HQ.out]
        case measure => simp [intOf]; omega
      · go_wp2_with (first | go_big_skip | go_big_guard | (refine wl_index rfl rfl rfl rfl hlt ?_) | (refine wl_loadE rfl rfl rfl ?_; refine ⟨_, Loads.old hst (by rw [Nat.mul_one]; exact hcell.out), ?_⟩) | (refine (hcl x _ hm.out).mono ?_; rw [← HQ.out]; rintro _ w9 ⟨rfl, h4⟩; have hst1 := St.call0 hst h4; clear h4 hst))
        go_ret
        refine ⟨?_, hst1⟩
        have hjl : j < l.length := by rw [HN.out]; exact hlt
        have e1 : l[j] = x := by
          have := HX.out
          rw [List.getElem?_eq_getElem hjl] at this
          exact Option.some.inj this
        have e2 : idxI p l = j := idxI_first hjl (by rw [e1, ← HQ.out]) (fun i hi => HP.out _ (by
          rw [List.mem_take_iff_getElem]
          exact ⟨i, by omega, rfl⟩))
        rw [e2]
        rfl
    · have d1 : decide ((j : Int) < (n : Int)) = false := decide_eq_false (by omega)
      go_wp2_with (first | go_big_skip | go_big_guard | fail)
      go_ret
      refine ⟨?_, hst⟩
      have e2 : idxI p l = -1 := idxI_none (fun y hy => HP.out y (by rw [List.take_of_length_le (by rw [HN.out]; omega)]; exact hy))
      rw [e2]
      rfl
theorem containsI_any {w0 : World} {M : List Nat} {L : List HA} (fn : Nat) (p : Int → Bool) (ao : Option Addr) (n c : Nat) (l : List (Int)) (w : World) (hfn : ∀ (a : Array Value) (w : World), (callFunc fn a).run Try.prog w = .ok (.enter fn a) w)
    (hcl : ∀ (x : Int) (w : World), x ∈ l → Calls Try.prog fn #[(fun x => Value.int .i64 x) x] w fun e w' => e = .returned (.bool (p x)) ∧ St w [] w' []) (hl : Rd w (.slice ao n c) 1 n (numsV l)) (hn : l.length = n) (hb : n ≤ 1000000) :
    Calls Try.prog 76 #[.slice ao n c, .func (.func fn) #[] #[]] w fun e w' => e = .returned (.bool (l.any p)) ∧ St w [] w' [] := by
  have hst := St.refl w
  have HN := hid hn
  have HA := hid (idxI_any p l)
  clear hn
  go_enter Try.func76, Try.ntmps76
  go_wp2_with (first | go_big_skip | go_big_guard | (go_at_call 88; refine (indexI_any (w0 := w) (M := []) (L := []) fn p ao n c l _ hfn hcl (Rd.old hst hl) HN.out hb).mono ?_; rintro _ w9 ⟨rfl, h4⟩; have hst1 := St.call0 hst h4; clear h4 hst))
  go_ret
  refine ⟨?_, hst1⟩
  rw [← HA.out]
  rfl
end Go.Proofs.Ytifajcblbedcoaa
