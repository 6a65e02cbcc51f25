/- PROVED: the law FieldNone returns true at any input, and nothing that was there has turned. No condition. -/
import Derived.Test.YtlgioloanjjndaaF29
import Derived.Test.YtlgioloanjjndaaF22
import Derived.Test.YtlgioloanjjndaaF20
import Derived.Test.YtlgioloanjjndaaF10
import Derived.Test.YtlgioloanjjndaaOpenA
import Derived.Test.YtlgioloanjjndaaOpenK
import Derived.Test.YtlgioloanjjndaaPost
namespace Go.Proofs.Ytlgioloanjjndaa
set_option linter.unusedVariables false
set_option linter.unusedSimpArgs false
open Go.RowKit Hp
attribute [local irreducible] Go.Calls
set_option maxRecDepth 100000
set_option maxHeartbeats 4000000
theorem stepR_pos {α : Type} {B : List UInt8} {s : RS} {r : RR α} {d : α} (hp : s.pos ≤ B.length) (hr : ∀ v p, r = .ok v p → p ≤ B.length) : (stepR s r d).1.pos ≤ B.length := by
  unfold stepR
  split
  · exact hp
  · cases r with
    | stop e a => exact hp
    | ok v p => exact hr v p rfl
theorem numRR_pos {B : List UInt8} {p : Nat} {size low high : Int} (v : Int) (p' : Nat) (h : numRR B p size low high = .ok v p') : p' ≤ B.length := by
  unfold numRR at h
  split at h
  · cases h
  · split at h
    · cases h
    · split at h
      · cases h
      · simp only [RR.ok.injEq] at h
        omega
theorem textRR_pos {B : List UInt8} {p : Nat} {most : Int} (v : List UInt8) (p' : Nat) (h : textRR B p most = .ok v p') : p' ≤ B.length := by
  unfold textRR at h
  split at h
  · cases h
  · split at h
    · cases h
    · split at h
      · cases h
      · split at h
        · cases h
        · simp only [RR.ok.injEq] at h
          omega
theorem rawRR_pos {B : List UInt8} {p : Nat} {m : Int} (v : List UInt8) (p' : Nat) (h : rawRR B p m = .ok v p') : p' ≤ B.length := by
  unfold rawRR at h
  split at h
  · cases h
  · split at h
    · cases h
    · simp only [RR.ok.injEq] at h
      omega
theorem restRR_pos {B : List UInt8} {p : Nat} (v : Unit) (p' : Nat) (h : restRR B p = .ok v p') : p' ≤ B.length := by
  unfold restRR at h
  split at h
  · cases h
  · simp only [RR.ok.injEq] at h
    omega
theorem KV.step_pos {B : List UInt8} {x : KV} {s : RS} (hp : s.pos ≤ B.length) : (x.step B s).pos ≤ B.length := by
  unfold KV.step
  split
  · exact stepR_pos hp numRR_pos
  · split
    · exact stepR_pos hp textRR_pos
    · split
      · exact stepR_pos hp rawRR_pos
      · split
        · exact stepR_pos hp restRR_pos
        · exact hp
/-- A reader behind the first k questions. -/
def foldK (B : List UInt8) (ks : List KV) (k : Nat) : RS := (ks.take k).foldl (fun s x => x.step B s) ⟨0, 0, 0⟩
theorem foldK_zero (B : List UInt8) (ks : List KV) : foldK B ks 0 = ⟨0, 0, 0⟩ := by simp [foldK]
theorem foldK_succ {B : List UInt8} {ks : List KV} {k : Nat} {x : KV} (h : ks[k]? = some x) : foldK B ks (k + 1) = x.step B (foldK B ks k) := by
  simp [foldK, List.take_add_one, h]
theorem foldK_pos (B : List UInt8) (ks : List KV) (k : Nat) : (foldK B ks k).pos ≤ B.length := by
  unfold foldK
  generalize ks.take k = l
  have : ∀ (s : RS), s.pos ≤ B.length → (l.foldl (fun s x => x.step B s) s).pos ≤ B.length := by
    induction l with
    | nil => exact fun s h => h
    | cons x l ih => exact fun s h => ih _ (KV.step_pos h)
  exact this _ (Nat.zero_le _)
theorem asksV_at : ∀ {ks : List KV} {k : Nat} {x : KV}, ks[k]? = some x → ∀ j v, x.cells[j]? = some v → (ks.flatMap KV.cells)[k * 4 + j]? = some v
  | y :: ks, 0, x, h, j, v, hj => by
    cases h
    rw [List.flatMap_cons, Nat.zero_mul, Nat.zero_add, List.getElem?_append_left (List.getElem?_eq_some_iff.1 hj).1]
    exact hj
  | y :: ks, k + 1, x, h, j, v, hj => by
    have hl : y.cells.length = 4 := rfl
    rw [List.flatMap_cons, List.getElem?_append_right (by rw [hl]; omega), hl, show (k + 1) * 4 + j - 4 = k * 4 + j by omega]
    exact asksV_at (by simpa using h) j v hj
  | [], _, _, h, _, _, _ => by cases h
theorem asks_range {w : World} {b off n c k : Nat} {ks : List KV} {x : KV} (h : Rd w (.slice (some ⟨b, off, none⟩) n c) 4 n (ks.flatMap KV.cells)) (hk : ks[k]? = some x) : w.rangeAt b (off + k * 4) x.cells := by
  have hr := h.range
  intro j v hj
  have := hr (k * 4 + j) v (asksV_at hk j v hj)
  rwa [← Nat.add_assoc] at this
end Go.Proofs.Ytlgioloanjjndaa
namespace Go.Proofs.Ytlgioloanjjndaa
set_option linter.unusedVariables false
set_option linter.unusedSimpArgs false
open Go.RowKit Hp
attribute [local irreducible] Go.Calls
set_option maxRecDepth 100000
set_option maxHeartbeats 4000000
theorem reads_big (ao : Option Addr) (n c : Nat) (al : Option Addr) (nl cl : Nat) (w : World) (hn : n ≤ 9223372036854775807) (hnl : nl ≤ 9223372036854775807) (hb : 1000 < n ∨ 60 < nl) :
    Calls Try.prog 6 #[.slice ao n c, .slice al nl cl] w fun e w' => e = .returned (.bool true) ∧ St w [] w' [] := by
  have hst := St.refl w
  by_cases h1 : 1000 < n
  · have d1 : decide (1000 < (n : Int)) = true := decide_eq_true (by omega)
    go_enter Try.func6, Try.ntmps6
    go_wp2_with (first | go_big_skip | go_big_guard | (go_at_call 12; refine (awake_any _).mono ?_; rintro _ _ ⟨rfl, h4⟩; have hfin := St.call0 hst h4; clear h4 hst))
    go_ret
    exact ⟨rfl, hfin⟩
  · have d1 : decide (1000 < (n : Int)) = false := decide_eq_false (by omega)
    have d2 : decide (60 < (nl : Int)) = true := decide_eq_true (by omega)
    go_enter Try.func6, Try.ntmps6
    go_wp2_with (first | go_big_skip | go_big_guard | (go_at_call 12; refine (awake_any _).mono ?_; rintro _ _ ⟨rfl, h4⟩; have hfin := St.call0 hst h4; clear h4 hst))
    go_ret
    exact ⟨rfl, hfin⟩
end Go.Proofs.Ytlgioloanjjndaa
namespace Go.Proofs.Ytlgioloanjjndaa
set_option linter.unusedVariables false
set_option linter.unusedSimpArgs false
open Go.RowKit Hp
attribute [local irreducible] Go.Calls
set_option maxRecDepth 100000
set_option maxHeartbeats 4000000
/-- None, or one that was not made. -/
def unM (w : World) (v : Value) : Prop := v = .pointer none ∨ ∃ g, v = .pointer (some ⟨g, 0, none⟩) ∧ w.cell? ⟨g, 0, none⟩ = some (.bool false)
theorem unM.old {w0 w : World} {L : List HA} {v : Value} (h : unM w0 v) (hst : St w0 [] w L) : unM w v := by
  rcases h with h | ⟨g, h, hc⟩
  · exact .inl h
  · exact .inr ⟨g, h, hst.old_cell hc (by simp)⟩
theorem unM.from {w0 w w' : World} {L : List HA} {v : Value} (h : unM w v) (h' : St w [] w' L) : unM w' v := h.old h'
instance uZFt : TyZ Try.prog 50 [.int .i64 0, .int .i64 0] := ⟨by kernel_rfl⟩
theorem wwrite_un (v : Value) (f : Value) (w : World) (hu : unM w v) :
    Calls Try.prog 60 #[v, f] w fun e w' => e = .returned (.tuple #[]) ∧ St w [] w' [] := by
  have hst := St.refl w
  rcases hu with rfl | ⟨g, rfl, hc⟩
  · go_enter Try.func60, Try.ntmps60
    go_wp2_with (first | go_big_skip | go_big_guard | fail)
    exact bodyPost_ret (results_none rfl _ _ _) rfl ⟨rfl, hst⟩
  · go_enter Try.func60, Try.ntmps60
    go_wp2_with (first | go_big_skip | go_big_guard | (refine wl_loadE rfl rfl rfl ?_; first | refine ⟨_, Loads.old hst (hc), ?_⟩))
    exact bodyPost_ret (results_none rfl _ _ _) rfl ⟨rfl, hst⟩
theorem wout_un (v : Value)  (w : World) (hu : unM w v) :
    Calls Try.prog 15 #[v] w fun e w' => e = .returned (.tuple #[.slice none 0 0, .int .i64 1]) ∧ St w [] w' [] := by
  have hst := St.refl w
  rcases hu with rfl | ⟨g, rfl, hc⟩
  · go_enter Try.func15, Try.ntmps15
    go_wp2_with (first | go_big_skip | go_big_guard | fail)
    go_ret2
    exact ⟨rfl, hst⟩
  · go_enter Try.func15, Try.ntmps15
    go_wp2_with (first | go_big_skip | go_big_guard | (refine wl_loadE rfl rfl rfl ?_; first | refine ⟨_, Loads.old hst (hc), ?_⟩))
    go_ret2
    exact ⟨rfl, hst⟩
theorem none_un (v : Value)  (w : World) (hu : unM w v) :
    Calls Try.prog 54 #[v] w fun e w' => e = .returned (.bool true) ∧ St w [] w' [] := by
  have hst := St.refl w
  rcases hu with rfl | ⟨g, rfl, hc⟩
  · go_enter Try.func54, Try.ntmps54
    go_wp2_with (first | go_big_skip | go_big_guard | fail)
    go_ret
    exact ⟨rfl, hst⟩
  · go_enter Try.func54, Try.ntmps54
    go_wp2_with (first | go_big_skip | go_big_guard | (refine wl_loadE rfl rfl rfl ?_; first | refine ⟨_, Loads.old hst (hc), ?_⟩))
    go_ret
    exact ⟨rfl, hst⟩
theorem wnum_un (v : Value) (n size : Int) (w : World) (hu : unM w v) :
    Calls Try.prog 41 #[v, .int .i64 n, .int .i64 size] w fun e w' => e = .returned (.tuple #[]) ∧ St w [] w' [] := by
  obtain ⟨po, rfl⟩ : ∃ po, v = .pointer po := by rcases hu with rfl | ⟨g, rfl, _⟩ <;> exact ⟨_, rfl⟩
  have hst := St.refl w
  have hmf : ∀ (fn : Fn) (first cap : Array Value) (w : World), (Instr.makeFunc fn first cap).run Try.prog w = .ok (.func fn first cap) w := fun _ _ _ _ => rfl
  go_enter Try.func41, Try.ntmps41
  go_wp2_with (first | go_big_skip | go_big_guard | (refine wl_box hst rfl rfl rfl ?_; intro g1 _ hst1; clear hst) | (refine wl_box hst1 rfl rfl rfl ?_; intro g2 _ hst2; clear hst1) | (go_at_call 60; refine (wwrite_un (.pointer po) _ _ (hu.old hst2)).mono ?_; rintro _ _ ⟨rfl, h4⟩; have hs9 := (St.call0 hst2 h4).nil; clear h4 hst2))
  go_end0
  exact ⟨rfl, hs9⟩
theorem wtext_un (v : Value) (s : List UInt8) (size : Int) (w : World) (hu : unM w v) :
    Calls Try.prog 42 #[v, .string ⟨s.toArray⟩, .int .i64 size] w fun e w' => e = .returned (.tuple #[]) ∧ St w [] w' [] := by
  obtain ⟨po, rfl⟩ : ∃ po, v = .pointer po := by rcases hu with rfl | ⟨g, rfl, _⟩ <;> exact ⟨_, rfl⟩
  have hst := St.refl w
  have hmf : ∀ (fn : Fn) (first cap : Array Value) (w : World), (Instr.makeFunc fn first cap).run Try.prog w = .ok (.func fn first cap) w := fun _ _ _ _ => rfl
  go_enter Try.func42, Try.ntmps42
  go_wp2_with (first | go_big_skip | go_big_guard | (refine wl_box hst rfl rfl rfl ?_; intro g1 _ hst1; clear hst) | (refine wl_box hst1 rfl rfl rfl ?_; intro g2 _ hst2; clear hst1) | (go_at_call 60; refine (wwrite_un (.pointer po) _ _ (hu.old hst2)).mono ?_; rintro _ _ ⟨rfl, h4⟩; have hs9 := (St.call0 hst2 h4).nil; clear h4 hst2))
  go_end0
  exact ⟨rfl, hs9⟩
theorem wraw_un (v : Value) (b : Value) (w : World) (hu : unM w v) :
    Calls Try.prog 43 #[v, b] w fun e w' => e = .returned (.tuple #[]) ∧ St w [] w' [] := by
  obtain ⟨po, rfl⟩ : ∃ po, v = .pointer po := by rcases hu with rfl | ⟨g, rfl, _⟩ <;> exact ⟨_, rfl⟩
  have hst := St.refl w
  have hmf : ∀ (fn : Fn) (first cap : Array Value) (w : World), (Instr.makeFunc fn first cap).run Try.prog w = .ok (.func fn first cap) w := fun _ _ _ _ => rfl
  go_enter Try.func43, Try.ntmps43
  go_wp2_with (first | go_big_skip | go_big_guard | (refine wl_box hst rfl rfl rfl ?_; intro g1 _ hst1; clear hst) | (go_at_call 60; refine (wwrite_un (.pointer po) _ _ (hu.old hst1)).mono ?_; rintro _ _ ⟨rfl, h4⟩; have hs9 := (St.call0 hst1 h4).nil; clear h4 hst1))
  go_end0
  exact ⟨rfl, hs9⟩
theorem wpad_un (v : Value) (n : Int) (w : World) (hu : unM w v) :
    Calls Try.prog 38 #[v, .int .i64 n] w fun e w' => e = .returned (.tuple #[]) ∧ St w [] w' [] := by
  obtain ⟨po, rfl⟩ : ∃ po, v = .pointer po := by rcases hu with rfl | ⟨g, rfl, _⟩ <;> exact ⟨_, rfl⟩
  have hst := St.refl w
  have hmf : ∀ (fn : Fn) (first cap : Array Value) (w : World), (Instr.makeFunc fn first cap).run Try.prog w = .ok (.func fn first cap) w := fun _ _ _ _ => rfl
  go_enter Try.func38, Try.ntmps38
  go_wp2_with (first | go_big_skip | go_big_guard | (refine wl_loadE rfl rfl rfl ?_; first | refine ⟨_, Loads.at [_] hst2 rfl, ?_⟩) | (refine wl_box hst rfl rfl rfl ?_; intro g1 _ hst1; clear hst) | (refine wl_box hst1 rfl rfl rfl ?_; intro g2 _ hst2; clear hst1) | (go_at_call 60; refine (wwrite_un (.pointer po) _ _ (hu.old hst2)).mono ?_; rintro _ _ ⟨rfl, h4⟩; have hs9 := (St.call0 hst2 h4).nil; clear h4 hst2))
  go_end0
  exact ⟨rfl, hs9⟩
theorem rread_un (v f : Value) (w : World) (hu : unM w v) :
    Calls Try.prog 49 #[v, f] w fun e w' => e = .returned (.tuple #[]) ∧ St w [] w' [] := by
  obtain ⟨po, rfl⟩ : ∃ po, v = .pointer po := by rcases hu with rfl | ⟨g, rfl, _⟩ <;> exact ⟨_, rfl⟩
  have hst := St.refl w
  have hmf : ∀ (fn : Fn) (first cap : Array Value) (w : World), (Instr.makeFunc fn first cap).run Try.prog w = .ok (.func fn first cap) w := fun _ _ _ _ => rfl
  go_enter_defers Try.func49, Try.ntmps49
  go_wp2_with (first | go_big_skip | go_big_guard | (refine wl_loadE rfl rfl rfl ?_; first | refine ⟨_, Loads.at [] hst1 rfl, ?_⟩) | (refine wl_box hst rfl rfl rfl ?_; intro g1 _ hst1; clear hst) | (go_at_call 54; refine (none_un (.pointer po) _ (hu.old hst1)).mono ?_; rintro _ _ ⟨rfl, h4⟩; have hs2 := St.call0 hst1 h4; clear h4 hst1))
  exact ⟨.tuple #[], results_none rfl _ _ _, rfl, hs2.nil⟩
theorem rnum_un (v : Value) (a b c : Int) (w : World) (hu : unM w v) :
    Calls Try.prog 23 #[v, .int .i64 a, .int .i64 b, .int .i64 c] w fun e w' => e = .returned (.int .i64 0) ∧ St w [] w' [] := by
  obtain ⟨po, rfl⟩ : ∃ po, v = .pointer po := by rcases hu with rfl | ⟨g, rfl, _⟩ <;> exact ⟨_, rfl⟩
  have hst := St.refl w
  have hmf : ∀ (fn : Fn) (first cap : Array Value) (w : World), (Instr.makeFunc fn first cap).run Try.prog w = .ok (.func fn first cap) w := fun _ _ _ _ => rfl
  go_enter Try.func23, Try.ntmps23
  go_wp2_with (first | go_big_skip | go_big_guard | (refine wl_loadE rfl rfl rfl ?_; first | refine ⟨_, Loads.at [_, _, _, _] hst6 rfl, ?_⟩ | refine ⟨_, Loads.at [] hs9 rfl, ?_⟩) | (refine wl_box hst rfl rfl rfl ?_; intro g1 _ hst1; clear hst) | (refine wl_box hst1 rfl rfl rfl ?_; intro g2 _ hst2; clear hst1) | (refine wl_box hst2 rfl rfl rfl ?_; intro g3 _ hst3; clear hst2) | (refine wl_box hst3 rfl rfl rfl ?_; intro g4 _ hst4; clear hst3) | (refine wl_alloc hst4 rfl rfl ?_; intro g5 _ hst5; clear hst4) | (refine wl_store [] hst5 rfl rfl rfl (v := .int .i64 0) rfl rfl rfl (by show (1 : Nat) ≤ 1; decide) ?_; intro _ h9; have hst6 := h9; clear h9 hst5) | (go_at_call 49; refine (rread_un (.pointer po) _ _ (hu.old hst6)).mono ?_; rintro _ _ ⟨rfl, h4⟩; have hs9 := St.call0 hst6 h4; clear h4 hst6))
  go_ret
  exact ⟨rfl, hs9.nil⟩
theorem rtext_un (v : Value) (a : Int) (w : World) (hu : unM w v) :
    Calls Try.prog 24 #[v, .int .i64 a] w fun e w' => e = .returned (.string ⟨#[]⟩) ∧ St w [] w' [] := by
  obtain ⟨po, rfl⟩ : ∃ po, v = .pointer po := by rcases hu with rfl | ⟨g, rfl, _⟩ <;> exact ⟨_, rfl⟩
  have hst := St.refl w
  have hmf : ∀ (fn : Fn) (first cap : Array Value) (w : World), (Instr.makeFunc fn first cap).run Try.prog w = .ok (.func fn first cap) w := fun _ _ _ _ => rfl
  go_enter Try.func24, Try.ntmps24
  go_wp2_with (first | go_big_skip | go_big_guard | (refine wl_loadE rfl rfl rfl ?_; first | refine ⟨_, Loads.at [_, _] hst4 rfl, ?_⟩ | refine ⟨_, Loads.at [] hs9 rfl, ?_⟩) | (refine wl_box hst rfl rfl rfl ?_; intro g1 _ hst1; clear hst) | (refine wl_box hst1 rfl rfl rfl ?_; intro g2 _ hst2; clear hst1) | (refine wl_alloc hst2 rfl rfl ?_; intro g3 _ hst3; clear hst2) | (refine wl_store [] hst3 rfl rfl rfl (v := .string ⟨#[]⟩) rfl rfl rfl (by show (1 : Nat) ≤ 1; decide) ?_; intro _ h9; have hst4 := h9; clear h9 hst3) | (go_at_call 49; refine (rread_un (.pointer po) _ _ (hu.old hst4)).mono ?_; rintro _ _ ⟨rfl, h4⟩; have hs9 := St.call0 hst4 h4; clear h4 hst4))
  go_ret
  exact ⟨rfl, hs9.nil⟩
theorem rraw_un (v : Value) (a : Int) (w : World) (hu : unM w v) :
    Calls Try.prog 36 #[v, .int .i64 a] w fun e w' => e = .returned (.slice none 0 0) ∧ St w [] w' [] := by
  obtain ⟨po, rfl⟩ : ∃ po, v = .pointer po := by rcases hu with rfl | ⟨g, rfl, _⟩ <;> exact ⟨_, rfl⟩
  have hst := St.refl w
  have hmf : ∀ (fn : Fn) (first cap : Array Value) (w : World), (Instr.makeFunc fn first cap).run Try.prog w = .ok (.func fn first cap) w := fun _ _ _ _ => rfl
  go_enter Try.func36, Try.ntmps36
  go_wp2_with (first | go_big_skip | go_big_guard | (refine wl_loadE rfl rfl rfl ?_; first | refine ⟨_, Loads.at [_, _] hst3 rfl, ?_⟩ | refine ⟨_, Loads.at [] hs9 rfl, ?_⟩) | (refine wl_box hst rfl rfl rfl ?_; intro g1 _ hst1; clear hst) | (refine wl_box hst1 rfl rfl rfl ?_; intro g2 _ hst2; clear hst1) | (refine wl_alloc hst2 rfl rfl ?_; intro g3 _ hst3; clear hst2) | (go_at_call 49; refine (rread_un (.pointer po) _ _ (hu.old hst3)).mono ?_; rintro _ _ ⟨rfl, h4⟩; have hs9 := St.call0 hst3 h4; clear h4 hst3))
  go_ret
  exact ⟨rfl, hs9.nil⟩
theorem rrest_un (v : Value)  (w : World) (hu : unM w v) :
    Calls Try.prog 25 #[v] w fun e w' => e = .returned (.tuple #[]) ∧ St w [] w' [] := by
  obtain ⟨po, rfl⟩ : ∃ po, v = .pointer po := by rcases hu with rfl | ⟨g, rfl, _⟩ <;> exact ⟨_, rfl⟩
  have hst := St.refl w
  have hmf : ∀ (fn : Fn) (first cap : Array Value) (w : World), (Instr.makeFunc fn first cap).run Try.prog w = .ok (.func fn first cap) w := fun _ _ _ _ => rfl
  go_enter Try.func25, Try.ntmps25
  go_wp2_with (first | go_big_skip | go_big_guard | (refine wl_loadE rfl rfl rfl ?_; first | refine ⟨_, Loads.at [] hst1 rfl, ?_⟩) | (refine wl_box hst rfl rfl rfl ?_; intro g1 _ hst1; clear hst) | (go_at_call 49; refine (rread_un (.pointer po) _ _ (hu.old hst1)).mono ?_; rintro _ _ ⟨rfl, h4⟩; have hs9 := St.call0 hst1 h4; clear h4 hst1))
  go_end0
  exact ⟨rfl, hs9.nil⟩
theorem rat_un (v : Value)  (w : World) (hu : unM w v) :
    Calls Try.prog 31 #[v] w fun e w' => e = .returned (.int .i64 0) ∧ St w [] w' [] := by
  obtain ⟨po, rfl⟩ : ∃ po, v = .pointer po := by rcases hu with rfl | ⟨g, rfl, _⟩ <;> exact ⟨_, rfl⟩
  have hst := St.refl w
  have hmf : ∀ (fn : Fn) (first cap : Array Value) (w : World), (Instr.makeFunc fn first cap).run Try.prog w = .ok (.func fn first cap) w := fun _ _ _ _ => rfl
  go_enter Try.func31, Try.ntmps31
  go_wp2_with (first | go_big_skip | go_big_guard | (go_at_call 54; refine (none_un (.pointer po) _ (hu.old hst)).mono ?_; rintro _ _ ⟨rfl, h4⟩; have hs9 := St.call0 hst h4; clear h4 hst))
  go_ret
  exact ⟨rfl, hs9⟩
theorem rleft_un (v : Value)  (w : World) (hu : unM w v) :
    Calls Try.prog 32 #[v] w fun e w' => e = .returned (.int .i64 0) ∧ St w [] w' [] := by
  obtain ⟨po, rfl⟩ : ∃ po, v = .pointer po := by rcases hu with rfl | ⟨g, rfl, _⟩ <;> exact ⟨_, rfl⟩
  have hst := St.refl w
  have hmf : ∀ (fn : Fn) (first cap : Array Value) (w : World), (Instr.makeFunc fn first cap).run Try.prog w = .ok (.func fn first cap) w := fun _ _ _ _ => rfl
  go_enter Try.func32, Try.ntmps32
  go_wp2_with (first | go_big_skip | go_big_guard | (go_at_call 54; refine (none_un (.pointer po) _ (hu.old hst)).mono ?_; rintro _ _ ⟨rfl, h4⟩; have hs9 := St.call0 hst h4; clear h4 hst))
  go_ret
  exact ⟨rfl, hs9⟩
theorem rfault_un (v : Value)  (w : World) (hu : unM w v) :
    Calls Try.prog 26 #[v] w fun e w' => e = .returned (.agg #[.int .i64 1, .int .i64 0]) ∧ St w [] w' [] := by
  obtain ⟨po, rfl⟩ : ∃ po, v = .pointer po := by rcases hu with rfl | ⟨g, rfl, _⟩ <;> exact ⟨_, rfl⟩
  have hst := St.refl w
  have hmf : ∀ (fn : Fn) (first cap : Array Value) (w : World), (Instr.makeFunc fn first cap).run Try.prog w = .ok (.func fn first cap) w := fun _ _ _ _ => rfl
  go_enter Try.func26, Try.ntmps26
  go_wp2_with (first | go_big_skip | go_big_guard | (refine wl_alloc hst rfl rfl ?_; intro g2 _ hst1; clear hst) | (go_at_call 54; refine (none_un (.pointer po) _ (hu.old hst1)).mono ?_; rintro _ _ ⟨rfl, h4⟩; have hst2 := St.call0 hst1 h4; clear h4 hst1) | (refine wl_buildX (cs := [.int .i64 1, .int .i64 0]) [(0, .int .i64 1)] rfl rfl (by exact rfl) (by kernel_rfl) ?_) | (refine wl_storeA [] hst2 rfl rfl rfl rfl rfl rfl rfl ?_; intro _ hst3; clear hst2))
  have hl := Loads.atA (P := Try.prog) (off := 0) (T := 50) [.int .i64 1, .int .i64 0] [] hst3 rfl rfl
  refine bodyPost_ret (results_cellL rfl rfl hl) rfl ⟨rfl, hst3.nil⟩
end Go.Proofs.Ytlgioloanjjndaa
namespace Go.Proofs.Ytlgioloanjjndaa
set_option linter.unusedVariables false
set_option linter.unusedSimpArgs false
open Go.RowKit Hp
attribute [local irreducible] Go.Calls
set_option maxRecDepth 100000
set_option maxHeartbeats 4000000
/-- Acts of at most 300 bytes each, at most 60. -/
def shortA (xs : List AV) (N : Nat) : Prop := N ≤ 60 ∧ ∀ x ∈ xs, x.m ≤ 300 ∧ x.s.length ≤ 300
def longP (xs : List AV) (N : Nat) (e : Ending) : Prop := ∃ b, e = .returned (.bool b) ∧ (b = false ↔ shortA xs N)
theorem long_any (ao : Option Addr) (N c : Nat) (xs : List AV) (w : World) (hv : Rd w (.slice ao N c) 5 N (xs.flatMap AV.cells)) (hN : xs.length = N) (hx : ∀ x ∈ xs, x.Ok0 w) :
    Calls Try.prog 11 #[.slice ao N c] w fun e w' => longP xs N e ∧ St w [] w' [] := by
  have hst := St.refl w
  have HN := hid hN
  have HXX := hid hx
  have hb1 := hv.bd.1
  have hb2 := hv.bd.2.1
  clear hN hx
  go_enter Try.func11, Try.ntmps11
  go_wp2_with (first | go_big_skip | go_big_guard | fail)
  go_loop [3] (fun q => ∃ k : Nat, k ≤ N ∧ q = .int .i64 k ∧ Hid (∀ j x, j < k → xs[j]? = some x → x.m ≤ 300 ∧ x.s.length ≤ 300)) (fun q => N - (intOf q).toNat)
  case atStart => exact ⟨0, by omega, rfl, hid (fun j x hj => absurd hj (Nat.not_lt_zero _))⟩
  case round =>
    obtain ⟨k, hk, rfl, hall⟩ := hrel
    by_cases hkN : k < N
    · obtain ⟨x, hxk⟩ : ∃ x, xs[k]? = some x := ⟨_, List.getElem?_eq_getElem (by rw [HN.out]; exact hkN)⟩
      obtain ⟨b, off, rfl, _⟩ := hv.at hkN
      have hok := HXX.out x (List.mem_of_getElem? hxk)
      have hra := acts_range hv hxk
      have h3 := hid (show w.cell? ⟨b, off + k * 5 + 3, none⟩ = some (.string ⟨x.s.toArray⟩) from hra 3 _ rfl)
      have h4 := hid (show w.cell? ⟨b, off + k * 5 + 4, none⟩ = some (.slice x.au x.m x.cu) from hra 4 _ rfl)
      have HXK := hid hxk
      have hsl : (⟨x.s.toArray⟩ : ByteArray).size = x.s.length := by simp [ByteArray.size]
      have hs1 := hok.s
      have hm1 := hok.rd.bd.1
      have hm2 := hok.rd.bd.2.1
      have hkk : (k : Int) < (N : Int) := by omega
      have d1 : decide ((k : Int) < (N : Int)) = true := decide_eq_true hkk
      clear hra hxk
      by_cases g1 : 300 < x.s.length
      · have d2 : decide (300 < (x.s.length : Int)) = true := decide_eq_true (by omega)
        go_wp2_with (first | go_big_skip | go_big_guard | (refine wl_loadE rfl rfl rfl ?_; first | refine ⟨_, Loads.old hst (h3.out), ?_⟩ | refine ⟨_, Loads.old hst (h4.out), ?_⟩))
        go_ret
        exact ⟨⟨true, rfl, ⟨fun h => (by cases h), fun h => by have := (h.2 x (List.mem_of_getElem? HXK.out)); omega⟩⟩, hst⟩
      · have d2 : decide (300 < (x.s.length : Int)) = false := decide_eq_false (by omega)
        by_cases g2 : 300 < x.m
        · have d3 : decide (300 < (x.m : Int)) = true := decide_eq_true (by omega)
          go_wp2_with (first | go_big_skip | go_big_guard | (refine wl_loadE rfl rfl rfl ?_; first | refine ⟨_, Loads.old hst (h3.out), ?_⟩ | refine ⟨_, Loads.old hst (h4.out), ?_⟩))
          go_ret
          exact ⟨⟨true, rfl, ⟨fun h => (by cases h), fun h => by have := (h.2 x (List.mem_of_getElem? HXK.out)); omega⟩⟩, hst⟩
        · have d3 : decide (300 < (x.m : Int)) = false := decide_eq_false (by omega)
          go_wp2_with (first | go_big_skip | go_big_guard | (refine wl_loadE rfl rfl rfl ?_; first | refine ⟨_, Loads.old hst (h3.out), ?_⟩ | refine ⟨_, Loads.old hst (h4.out), ?_⟩))
          go_round
          case rel =>
            refine ⟨k + 1, by omega, by go_num, hid (fun j y hj hy => ?_)⟩
            rcases Nat.lt_or_ge j k with h9 | h9
            · exact hall.out j y h9 hy
            · obtain rfl : j = k := by omega
              rw [HXK.out] at hy
              cases hy
              omega
          case measure => simp [intOf]; omega
    · have e : k = N := by omega
      subst e
      have d1 : decide ((k : Int) < (k : Int)) = false := by simp
      go_wp2_with (first | go_big_skip | go_big_guard | fail)
      go_ret
      refine ⟨⟨_, rfl, fun hb => ⟨?_, fun x hx => ?_⟩, fun h => decide_eq_false (by have := h.1; omega)⟩, hst⟩
      · have := of_decide_eq_false hb
        omega
      · obtain ⟨j, hj, rfl⟩ := List.getElem_of_mem hx
        exact hall.out j _ (by rw [HN.out] at hj; exact hj) (List.getElem?_eq_getElem hj)
theorem long_no (ao : Option Addr) (N c : Nat) (xs : List AV) (w : World) (hv : Rd w (.slice ao N c) 5 N (xs.flatMap AV.cells)) (hN : xs.length = N) (hx : ∀ x ∈ xs, x.Ok0 w) (h : shortA xs N) :
    Calls Try.prog 11 #[.slice ao N c] w fun e w' => e = .returned (.bool false) ∧ St w [] w' [] :=
  (long_any ao N c xs w hv hN hx).mono fun e w' ⟨⟨b, he, hb⟩, hst⟩ => ⟨by rw [he, hb.2 h], hst⟩
theorem long_yes (ao : Option Addr) (N c : Nat) (xs : List AV) (w : World) (hv : Rd w (.slice ao N c) 5 N (xs.flatMap AV.cells)) (hN : xs.length = N) (hx : ∀ x ∈ xs, x.Ok0 w) (h : ¬ shortA xs N) :
    Calls Try.prog 11 #[.slice ao N c] w fun e w' => e = .returned (.bool true) ∧ St w [] w' [] :=
  (long_any ao N c xs w hv hN hx).mono fun e w' ⟨⟨b, he, hb⟩, hst⟩ => ⟨by
    cases b with
    | true => exact he
    | false => exact absurd (hb.1 rfl) h, hst⟩
end Go.Proofs.Ytlgioloanjjndaa
namespace Go.Proofs.Ytlgioloanjjndaa
set_option linter.unusedVariables false
set_option linter.unusedSimpArgs false
open Go.RowKit Hp
attribute [local irreducible] Go.Calls
set_option maxRecDepth 100000
set_option maxHeartbeats 4000000
instance nBW : TyB Try.prog 64 [.bool false, .slice none 0 0, .int .i64 0] := ⟨by kernel_rfl⟩
instance nBR : TyB Try.prog 67 [.bool false, .slice none 0 0, .int .i64 0, .int .i64 0, .int .i64 0] := ⟨by kernel_rfl⟩
instance nSlW : TySl Try.prog 65 23 := ⟨by kernel_rfl⟩
instance nEW : TyE Try.prog 23 1 8 := ⟨by kernel_rfl⟩
instance nSlR : TySl Try.prog 68 45 := ⟨by kernel_rfl⟩
instance nER : TyE Try.prog 45 1 8 := ⟨by kernel_rfl⟩
theorem loadedAct (A : Addr) : loadVar 34 A = loadVarH 34 A := rfl
theorem nwrite_0 (v : Value) (x : AV) (w : World) (hu : unM w v) (hx : x.Ok w) (hk : x.kind = 0) :
    Calls Try.prog 13 #[v, .agg x.cells.toArray] w fun e w' => e = .returned (.bool true) ∧ St w [] w' [] := by
  have hst := St.refl w
  have HX := hid hx
  have hxm := hx.m
  have HXL := hid hx.len
  obtain ⟨kd, hkd⟩ : ∃ kd, kd = x.kind := ⟨_, rfl⟩
  have d0 : (x.kind == 0) = true := by rw [hk]; rfl
  clear hk hkd hx
  show Calls Try.prog 13 #[v, .agg ([.int .i64 x.kind, .int .i64 x.n, .int .i64 x.size, .string ⟨x.s.toArray⟩, .slice x.au x.m x.cu] : List Value).toArray] w _
  go_enter Try.func13, Try.ntmps13
  go_wp2_with (first | go_big_skip | go_big_guard | (refine wl_loadE rfl rfl rfl ?_; first | refine ⟨_, Loads.at [] hst1 rfl, ?_⟩ | refine ⟨_, Loads.at [_] hst2 rfl, ?_⟩ | refine ⟨_, Loads.at [_] hst3 rfl, ?_⟩ | refine ⟨_, Loads.at [_] hst4 rfl, ?_⟩) | (refine wl_boxA hst rfl rfl rfl ?_; intro gx w1 hst1; clear hst) | (go_at_call 41; refine (wnum_un v x.n x.size _ (hu.old hst1)).mono ?_; rintro _ _ ⟨rfl, h4⟩; have hs9 := St.call0 hst1 h4; clear h4 hst1))
  go_ret
  exact ⟨rfl, hs9.nil⟩
theorem nwrite_1 (v : Value) (x : AV) (w : World) (hu : unM w v) (hx : x.Ok w) (hk : x.kind = 1) :
    Calls Try.prog 13 #[v, .agg x.cells.toArray] w fun e w' => e = .returned (.bool true) ∧ St w [] w' [] := by
  have hst := St.refl w
  have HX := hid hx
  have hxm := hx.m
  have HXL := hid hx.len
  obtain ⟨kd, hkd⟩ : ∃ kd, kd = x.kind := ⟨_, rfl⟩
  have d0 : (x.kind == 0) = false := by rw [hk]; rfl
  have d1 : (x.kind == 1) = true := by rw [hk]; rfl
  clear hk hkd hx
  show Calls Try.prog 13 #[v, .agg ([.int .i64 x.kind, .int .i64 x.n, .int .i64 x.size, .string ⟨x.s.toArray⟩, .slice x.au x.m x.cu] : List Value).toArray] w _
  go_enter Try.func13, Try.ntmps13
  go_wp2_with (first | go_big_skip | go_big_guard | (refine wl_loadE rfl rfl rfl ?_; first | refine ⟨_, Loads.at [] hst1 rfl, ?_⟩ | refine ⟨_, Loads.at [_] hst2 rfl, ?_⟩ | refine ⟨_, Loads.at [_] hst3 rfl, ?_⟩ | refine ⟨_, Loads.at [_] hst4 rfl, ?_⟩) | (refine wl_boxA hst rfl rfl rfl ?_; intro gx w1 hst1; clear hst) | (go_at_call 42; refine (wtext_un v x.s x.size _ (hu.old hst1)).mono ?_; rintro _ _ ⟨rfl, h4⟩; have hs9 := St.call0 hst1 h4; clear h4 hst1))
  go_ret
  exact ⟨rfl, hs9.nil⟩
theorem nwrite_2 (v : Value) (x : AV) (w : World) (hu : unM w v) (hx : x.Ok w) (hk : x.kind = 2) :
    Calls Try.prog 13 #[v, .agg x.cells.toArray] w fun e w' => e = .returned (.bool true) ∧ St w [] w' [] := by
  have hst := St.refl w
  have HX := hid hx
  have hxm := hx.m
  have HXL := hid hx.len
  obtain ⟨kd, hkd⟩ : ∃ kd, kd = x.kind := ⟨_, rfl⟩
  have d0 : (x.kind == 0) = false := by rw [hk]; rfl
  have d1 : (x.kind == 1) = false := by rw [hk]; rfl
  have d2 : (x.kind == 2) = true := by rw [hk]; rfl
  clear hk hkd hx
  show Calls Try.prog 13 #[v, .agg ([.int .i64 x.kind, .int .i64 x.n, .int .i64 x.size, .string ⟨x.s.toArray⟩, .slice x.au x.m x.cu] : List Value).toArray] w _
  go_enter Try.func13, Try.ntmps13
  go_wp2_with (first | go_big_skip | go_big_guard | (refine wl_loadE rfl rfl rfl ?_; first | refine ⟨_, Loads.at [] hst1 rfl, ?_⟩ | refine ⟨_, Loads.at [_] hst2 rfl, ?_⟩ | refine ⟨_, Loads.at [_] hst3 rfl, ?_⟩ | refine ⟨_, Loads.at [_] hst4 rfl, ?_⟩) | (refine wl_boxA hst rfl rfl rfl ?_; intro gx w1 hst1; clear hst) | (go_at_call 28; refine (lent_any x.au x.m x.cu x.B _ (Rd.old hst1 HX.out.rd) HXL.out (by omega)).mono ?_; rintro _ _ ⟨gl, rfl, h4⟩; have hst2 := St.call hst1 h4; clear h4 hst1) | (go_at_call 43; refine (wraw_un v _ _ (hu.old hst2)).mono ?_; rintro _ _ ⟨rfl, h4⟩; have hst3 := St.call0 hst2 h4; clear h4 hst2) | (go_at_call 35; refine (kept_g x.au gl x.m x.cu x.B _ (hst3.all _ (.head _)) (Rd.old hst3 HX.out.rd) HXL.out (by omega)).mono ?_; rintro _ _ ⟨rfl, h4⟩; have hst4 := St.call0 hst3 h4; clear h4 hst3) | (go_at_call 18; refine (over_blkL gl x.m (x.m + 3) (lentB x.B) _ (hst4.all _ (.head _)) (by rw [length_lentB, HXL.out]) (by rw [length_lentB, HXL.out]; omega) (by rw [length_lentB, HXL.out]; omega)).mono ?_; rintro _ _ ⟨rfl, h4⟩; have hs9 := St.callF [_] hst4 h4; clear h4 hst4))
  go_ret
  exact ⟨rfl, hs9.nil⟩
theorem nwrite_3 (v : Value) (x : AV) (w : World) (hu : unM w v) (hx : x.Ok w) (hk : x.kind = 3) :
    Calls Try.prog 13 #[v, .agg x.cells.toArray] w fun e w' => e = .returned (.bool true) ∧ St w [] w' [] := by
  have hst := St.refl w
  have HX := hid hx
  have hxm := hx.m
  have HXL := hid hx.len
  obtain ⟨kd, hkd⟩ : ∃ kd, kd = x.kind := ⟨_, rfl⟩
  have d0 : (x.kind == 0) = false := by rw [hk]; rfl
  have d1 : (x.kind == 1) = false := by rw [hk]; rfl
  have d2 : (x.kind == 2) = false := by rw [hk]; rfl
  have d3 : (x.kind == 3) = true := by rw [hk]; rfl
  clear hk hkd hx
  show Calls Try.prog 13 #[v, .agg ([.int .i64 x.kind, .int .i64 x.n, .int .i64 x.size, .string ⟨x.s.toArray⟩, .slice x.au x.m x.cu] : List Value).toArray] w _
  go_enter Try.func13, Try.ntmps13
  go_wp2_with (first | go_big_skip | go_big_guard | (refine wl_loadE rfl rfl rfl ?_; first | refine ⟨_, Loads.at [] hst1 rfl, ?_⟩ | refine ⟨_, Loads.at [_] hst2 rfl, ?_⟩ | refine ⟨_, Loads.at [_] hst3 rfl, ?_⟩ | refine ⟨_, Loads.at [_] hst4 rfl, ?_⟩) | (refine wl_boxA hst rfl rfl rfl ?_; intro gx w1 hst1; clear hst) | (go_at_call 38; refine (wpad_un v x.size _ (hu.old hst1)).mono ?_; rintro _ _ ⟨rfl, h4⟩; have hs9 := St.call0 hst1 h4; clear h4 hst1))
  go_ret
  exact ⟨rfl, hs9.nil⟩
theorem nwrite_4 (v : Value) (x : AV) (w : World) (hu : unM w v) (hx : x.Ok w) (hk0 : x.kind ≠ 0) (hk1 : x.kind ≠ 1) (hk2 : x.kind ≠ 2) (hk3 : x.kind ≠ 3) :
    Calls Try.prog 13 #[v, .agg x.cells.toArray] w fun e w' => e = .returned (.bool true) ∧ St w [] w' [] := by
  have hst := St.refl w
  have HX := hid hx
  have hxm := hx.m
  have HXL := hid hx.len
  have d0 : (x.kind == 0) = false := by simpa using hk0
  have d1 : (x.kind == 1) = false := by simpa using hk1
  have d2 : (x.kind == 2) = false := by simpa using hk2
  have d3 : (x.kind == 3) = false := by simpa using hk3
  clear hk0 hk1 hk2 hk3 hx
  show Calls Try.prog 13 #[v, .agg ([.int .i64 x.kind, .int .i64 x.n, .int .i64 x.size, .string ⟨x.s.toArray⟩, .slice x.au x.m x.cu] : List Value).toArray] w _
  go_enter Try.func13, Try.ntmps13
  go_wp2_with (first | go_big_skip | go_big_guard | (refine wl_loadE rfl rfl rfl ?_; first | refine ⟨_, Loads.at [] hst1 rfl, ?_⟩ | refine ⟨_, Loads.at [_] hst2 rfl, ?_⟩ | refine ⟨_, Loads.at [_] hst3 rfl, ?_⟩ | refine ⟨_, Loads.at [_] hst4 rfl, ?_⟩) | (refine wl_boxA hst rfl rfl rfl ?_; intro gx w1 hst1; clear hst))
  go_ret
  exact ⟨rfl, hst1.nil⟩
theorem nwrite_any (v : Value) (x : AV) (w : World) (hu : unM w v) (hx : x.Ok w) :
    Calls Try.prog 13 #[v, .agg x.cells.toArray] w fun e w' => e = .returned (.bool true) ∧ St w [] w' [] := by
  by_cases h0 : x.kind = 0
  · exact nwrite_0 v x w hu hx h0
  · by_cases h1 : x.kind = 1
    · exact nwrite_1 v x w hu hx h1
    · by_cases h2 : x.kind = 2
      · exact nwrite_2 v x w hu hx h2
      · by_cases h3 : x.kind = 3
        · exact nwrite_3 v x w hu hx h3
        · exact nwrite_4 v x w hu hx h0 h1 h2 h3
section
attribute [local go_sem ↓] loadedInt loadedFt loadedE loadedRp loadedWp loadedAct
theorem rend_un (v : Value) (w : World) (hu : unM w v) :
    Calls Try.prog 27 #[v] w fun e w' => e = .returned (.agg #[.int .i64 1, .int .i64 0]) ∧ St w [] w' [] := by
  obtain ⟨po, rfl⟩ : ∃ po, v = .pointer po := by rcases hu with rfl | ⟨g, rfl, _⟩ <;> exact ⟨_, rfl⟩
  have hst := St.refl w
  go_enter Try.func27, Try.ntmps27
  go_wp2_with (first | go_big_skip | go_big_guard | (refine wl_alloc hst rfl rfl ?_; intro g2 _ hst1; clear hst) | (go_at_call 26; refine (rfault_un (.pointer po) _ (hu.old hst1)).mono ?_; rintro _ _ ⟨rfl, h4⟩; have hst2 := St.call0 hst1 h4; clear h4 hst1) | (refine wl_alloc hst2 rfl rfl ?_; intro g3 _ hst3; clear hst2) | (refine wl_storeA [] hst3 rfl rfl rfl rfl rfl rfl rfl ?_; intro _ hst4; clear hst3))
  have hD := hst4.drew
  clear hst4
  refine wp_region_held_drew (S := (fun w' => (loadVarH 27 ⟨g3, 0, none⟩).run Try.prog w' = .ok (.int .i64 1) w')) (by kernel_rfl) (by exact ldS [] hD rfl) (fun hHeld => ?_)
  refine wpAnyH_take (i := 0) (oi := ⟨some 6, _, _, _, _, _⟩) (v := ?_) rfl (by kernel_rfl) (by kernel_rfl) (by kernel_rfl) (fun _ _ _ h => h) (Or.inl ⟨by rfl, ?_⟩) (by assumption) ?_
  rotate_left
  · intro w hSw; (try dsimp only at hSw); go_simp; try with_reducible rfl
  (try simp only [Act.put, List.setIfInBounds_toArray, List.set_cons_zero, List.set_cons_succ])
  refine wpAnyH_take (i := 1) (oi := ⟨some 7, _, _, _, _, _⟩) (v := ?_) rfl (by kernel_rfl) (by kernel_rfl) (by kernel_rfl) (fun _ _ _ h => h) (Or.inl ⟨by rfl, ?_⟩) (by assumption) ?_
  rotate_left
  · intro w hSw; (try dsimp only at hSw); go_simp; try with_reducible rfl
  (try simp only [Act.put, List.setIfInBounds_toArray, List.set_cons_zero, List.set_cons_succ])
  refine wpAnyH_take (i := 2) (oi := ⟨some 8, _, _, _, _, _⟩) (v := ?_) rfl (by kernel_rfl) (by kernel_rfl) (by kernel_rfl) (fun _ _ _ h => h) (Or.inl ⟨by rfl, ?_⟩) (by assumption) ?_
  rotate_left
  · intro w hSw; (try dsimp only at hSw); go_simp; try with_reducible rfl
  (try simp only [Act.put, List.setIfInBounds_toArray, List.set_cons_zero, List.set_cons_succ])
  refine wpAnyH_take (i := 3) (oi := ⟨some 9, _, _, _, _, _⟩) (v := ?_) rfl (by kernel_rfl) (by kernel_rfl) (by kernel_rfl) (fun _ _ _ h => h) (Or.inl ⟨by rfl, ?_⟩) (by assumption) ?_
  rotate_left
  · intro w hSw; (try dsimp only at hSw); go_simp; try with_reducible rfl
  (try simp only [Act.put, List.setIfInBounds_toArray, List.set_cons_zero, List.set_cons_succ])
  refine wpAnyH_take (i := 4) (oi := ⟨some 10, _, _, _, _, _⟩) (v := undef) rfl (by kernel_rfl) (by kernel_rfl) (by kernel_rfl) (fun _ _ _ h => h) (Or.inr ⟨by rfl, rfl⟩) (by assumption) ?_
  (try simp only [Act.put, List.setIfInBounds_toArray, List.set_cons_zero, List.set_cons_succ])
  refine wpAnyH_take (i := 8) (oi := ⟨some 14, _, _, _, _, _⟩) (v := undef) rfl (by kernel_rfl) (by kernel_rfl) (by kernel_rfl) (fun _ _ _ h => h) (Or.inr ⟨by rfl, rfl⟩) (by assumption) ?_
  (try simp only [Act.put, List.setIfInBounds_toArray, List.set_cons_zero, List.set_cons_succ])
  refine wpAnyH_take (i := 5) (oi := ⟨some 11, _, _, _, _, _⟩) (v := undef) rfl (by kernel_rfl) (by kernel_rfl) (by kernel_rfl) (fun _ _ _ h => h) (Or.inr ⟨by rfl, rfl⟩) (by assumption) ?_
  (try simp only [Act.put, List.setIfInBounds_toArray, List.set_cons_zero, List.set_cons_succ])
  refine wpAnyH_take (i := 9) (oi := ⟨some 15, _, _, _, _, _⟩) (v := undef) rfl (by kernel_rfl) (by kernel_rfl) (by kernel_rfl) (fun _ _ _ h => h) (Or.inr ⟨by rfl, rfl⟩) (by assumption) ?_
  (try simp only [Act.put, List.setIfInBounds_toArray, List.set_cons_zero, List.set_cons_succ])
  refine wpAnyH_take (i := 6) (oi := ⟨some 12, _, _, _, _, _⟩) (v := undef) rfl (by kernel_rfl) (by kernel_rfl) (by kernel_rfl) (fun _ _ _ h => h) (Or.inr ⟨by rfl, rfl⟩) (by assumption) ?_
  (try simp only [Act.put, List.setIfInBounds_toArray, List.set_cons_zero, List.set_cons_succ])
  refine wpAnyH_take (i := 10) (oi := ⟨some 16, _, _, _, _, _⟩) (v := undef) rfl (by kernel_rfl) (by kernel_rfl) (by kernel_rfl) (fun _ _ _ h => h) (Or.inr ⟨by rfl, rfl⟩) (by assumption) ?_
  (try simp only [Act.put, List.setIfInBounds_toArray, List.set_cons_zero, List.set_cons_succ])
  refine wpAnyH_take (i := 7) (oi := ⟨some 13, _, _, _, _, _⟩) (v := undef) rfl (by kernel_rfl) (by kernel_rfl) (by kernel_rfl) (fun _ _ _ h => h) (Or.inr ⟨by rfl, rfl⟩) (by assumption) ?_
  (try simp only [Act.put, List.setIfInBounds_toArray, List.set_cons_zero, List.set_cons_succ])
  refine wpAnyH_take (i := 11) (oi := ⟨some 17, _, _, _, _, _⟩) (v := undef) rfl (by kernel_rfl) (by kernel_rfl) (by kernel_rfl) (fun _ _ _ h => h) (Or.inr ⟨by rfl, rfl⟩) (by assumption) ?_
  (try simp only [Act.put, List.setIfInBounds_toArray, List.set_cons_zero, List.set_cons_succ])
  refine wpAnyH_take (i := 12) (oi := ⟨some 18, _, _, _, _, _⟩) (v := undef) rfl (by kernel_rfl) (by kernel_rfl) (by kernel_rfl) (fun _ _ _ h => h) (Or.inr ⟨by rfl, rfl⟩) (by assumption) ?_
  (try simp only [Act.put, List.setIfInBounds_toArray, List.set_cons_zero, List.set_cons_succ])
  refine wpAnyH_take (i := 13) (oi := ⟨some 19, _, _, _, _, _⟩) (v := undef) rfl (by kernel_rfl) (by kernel_rfl) (by kernel_rfl) (fun _ _ _ h => h) (Or.inr ⟨by rfl, rfl⟩) (by assumption) ?_
  (try simp only [Act.put, List.setIfInBounds_toArray, List.set_cons_zero, List.set_cons_succ])
  refine wpAnyH_take (i := 14) (oi := ⟨some 20, _, _, _, _, _⟩) (v := ?_) rfl (by kernel_rfl) (by kernel_rfl) (by kernel_rfl) (fun _ _ _ h => h) (Or.inl ⟨by rfl, ?_⟩) (by assumption) ?_
  rotate_left
  · intro w hSw; (try dsimp only at hSw); go_simp; try with_reducible rfl
  (try simp only [Act.put, List.setIfInBounds_toArray, List.set_cons_zero, List.set_cons_succ])
  refine wpAnyH_done (by kernel_rfl) ?_ _
  clear hHeld
  go_wp2_with (first | go_big_skip | go_big_guard | (refine wl_loadE rfl rfl rfl ?_; first | refine ⟨_, Loads.atA ([.int .i64 1, .int .i64 0]) [] hD (rfl) (rfl), ?_⟩) | (refine wl_storeA [_] hD rfl rfl rfl rfl rfl rfl rfl ?_; intro _ hst6; clear hD))
  have hl := Loads.atA (P := Try.prog) (off := 0) (T := 50) [.int .i64 1, .int .i64 0] [_] hst6 rfl rfl
  refine bodyPost_ret (results_cellL rfl rfl hl) rfl ⟨rfl, hst6.nil⟩
theorem none_law (x : AV) (y : KV) (w : World) (hx0 : x.Ok0 w) :
    Calls Try.prog 7 #[.agg x.cells.toArray, .agg y.cells.toArray] w fun e w' => e = .returned (.bool true) ∧ St w [] w' [] := by
  have hst := St.refl w
  have HX0 := hid hx0
  clear hx0
  show Calls Try.prog 7 #[.agg ([.int .i64 x.kind, .int .i64 x.n, .int .i64 x.size, .string ⟨x.s.toArray⟩, .slice x.au x.m x.cu] : List Value).toArray, .agg ([.int .i64 y.kind, .int .i64 y.size, .int .i64 y.low, .int .i64 y.high] : List Value).toArray] w _
  by_cases hs : shortA [x] 1
  · go_enter Try.func7, Try.ntmps7
    go_wp2_with (first | go_big_skip | go_big_guard | (refine wl_boxA hst rfl rfl rfl ?_; intro gx _ hst1; clear hst) | (refine wl_boxA hst1 rfl rfl rfl ?_; intro gk _ hst2; clear hst1) | (refine wl_loadE rfl rfl rfl ?_; first | refine ⟨_, Loads.atA ([.int .i64 x.kind, .int .i64 x.n, .int .i64 x.size, .string ⟨x.s.toArray⟩, .slice x.au x.m x.cu]) [_] hst2 (rfl) (rfl), ?_⟩) | (apply wl_bsX [.agg (List.toArray [.int .i64 x.kind, .int .i64 x.n, .int .i64 x.size, .string ⟨x.s.toArray⟩, .slice x.au x.m x.cu])] ([x].flatMap AV.cells) hst2; rfl; rfl; (kernel_rfl); (kernel_rfl); infer_instance; infer_instance; rfl; rfl; rfl; intro gs _ hst3; clear hst2) | (go_at_call 11; refine (long_no (some ⟨gs, 0, none⟩) 1 1 [x] _ (Rd.blk0 hst3 rfl (by decide)) rfl (fun z hz => by rw [List.mem_singleton] at hz; subst hz; exact HX0.out.old hst3) hs).mono ?_; rintro _ _ ⟨rfl, h4⟩; have hst4 := (St.call0 hst3 h4).sub (.cons _ (List.Sublist.refl _)); clear h4 hst3) | (refine wl_build0 (T := 64) rfl rfl ?_) | (refine wl_boxA (T := 64) hst4 rfl rfl rfl ?_; intro gz _ hst5; clear hst4) | (apply wl_bsX [.pointer none, .pointer (some ⟨gz, 0, none⟩)] [.pointer none, .pointer (some ⟨gz, 0, none⟩)] hst5; rfl; rfl; exact rfl; exact rfl; infer_instance; infer_instance; rfl; rfl; rfl; intro gw _ hst6; clear hst5) | (refine wl_build0 (T := 67) rfl rfl ?_) | (refine wl_boxA (T := 67) hst6 rfl rfl rfl ?_; intro gy _ hst7; clear hst6) | (apply wl_bsX [.pointer none, .pointer (some ⟨gy, 0, none⟩)] [.pointer none, .pointer (some ⟨gy, 0, none⟩)] hst7; rfl; rfl; exact rfl; exact rfl; infer_instance; infer_instance; rfl; rfl; rfl; intro gr _ hst8; clear hst7))
    have hok := hid (HX0.out.ok (hs.2 x (List.mem_singleton.2 rfl)).1 (hs.2 x (List.mem_singleton.2 rfl)).2)
    have hst9 : St w [] _ [.blk gr 45 [.pointer none, .pointer (some ⟨gy, 0, none⟩)], .blk gy 67 [.bool false, .slice none 0 0, .int .i64 0, .int .i64 0, .int .i64 0], .blk gw 23 [.pointer none, .pointer (some ⟨gz, 0, none⟩)], .blk gz 64 [.bool false, .slice none 0 0, .int .i64 0], .blk gk 58 [.int .i64 y.kind, .int .i64 y.size, .int .i64 y.low, .int .i64 y.high], .blk gx 34 [.int .i64 x.kind, .int .i64 x.n, .int .i64 x.size, .string ⟨x.s.toArray⟩, .slice x.au x.m x.cu]] := hst8
    clear hst8
    go_loopw [9] (fun q wr => (q = .int .i64 0 ∨ q = .int .i64 1 ∨ q = .int .i64 2) ∧ St w [] wr [.blk gr 45 [.pointer none, .pointer (some ⟨gy, 0, none⟩)], .blk gy 67 [.bool false, .slice none 0 0, .int .i64 0, .int .i64 0, .int .i64 0], .blk gw 23 [.pointer none, .pointer (some ⟨gz, 0, none⟩)], .blk gz 64 [.bool false, .slice none 0 0, .int .i64 0], .blk gk 58 [.int .i64 y.kind, .int .i64 y.size, .int .i64 y.low, .int .i64 y.high], .blk gx 34 [.int .i64 x.kind, .int .i64 x.n, .int .i64 x.size, .string ⟨x.s.toArray⟩, .slice x.au x.m x.cu]]) (fun q _ => 2 - (intOf q).toNat)
    case atStart => exact ⟨.inl rfl, hst9⟩
    case round =>
      clear hst9
      obtain ⟨rfl | rfl | rfl, hst⟩ := hrel
      · go_wp2_with (first | go_big_skip | go_big_guard | fail)
        have hN1 := hst.drew
        clear hst
        refine wp_region_held_drew (S := (fun w' => (loadVarH 23 ⟨gw, 0, none⟩).run Try.prog w' = .ok (.pointer none) w' ∧ (loadVarH 34 ⟨gx, 0, none⟩).run Try.prog w' = .ok (.agg (List.toArray ([.int .i64 x.kind, .int .i64 x.n, .int .i64 x.size, .string ⟨x.s.toArray⟩, .slice x.au x.m x.cu]))) w')) (by kernel_rfl) (by exact ⟨ldS [_, _] hN1 rfl, ldA ([.int .i64 x.kind, .int .i64 x.n, .int .i64 x.size, .string ⟨x.s.toArray⟩, .slice x.au x.m x.cu]) [_, _, _, _, _] hN1 (rfl) (rfl)⟩) (fun hHeld => ?_)
        refine wpAnyH_take (i := 0) (oi := ⟨some 32, _, _, _, _, _⟩) (v := ?_) rfl (by kernel_rfl) (by kernel_rfl) (by kernel_rfl) (fun _ _ _ h => h) (Or.inl ⟨by rfl, ?_⟩) (by assumption) ?_
        rotate_left
        · intro w hSw; (try dsimp only at hSw); go_simp; try with_reducible rfl
        (try simp only [Act.put, List.setIfInBounds_toArray, List.set_cons_zero, List.set_cons_succ])
        refine wpAnyH_take (i := 1) (oi := ⟨some 33, _, _, _, _, _⟩) (v := ?_) rfl (by kernel_rfl) (by kernel_rfl) (by kernel_rfl) (fun _ _ _ h => h) (Or.inl ⟨by rfl, ?_⟩) (by assumption) ?_
        rotate_left
        · intro w hSw; (try dsimp only at hSw); go_simp; try with_reducible rfl
        (try simp only [Act.put, List.setIfInBounds_toArray, List.set_cons_zero, List.set_cons_succ])
        refine wpAnyH_take (i := 4) (oi := ⟨some 36, _, _, _, _, _⟩) (v := ?_) rfl (by kernel_rfl) (by kernel_rfl) (by kernel_rfl) (fun _ _ _ h => h) (Or.inl ⟨by rfl, ?_⟩) (by assumption) ?_
        rotate_left
        · intro w hSw; (try dsimp only at hSw); go_simp; try with_reducible rfl
        (try simp only [Act.put, List.setIfInBounds_toArray, List.set_cons_zero, List.set_cons_succ])
        refine wpAnyH_take (i := 2) (oi := ⟨some 34, _, _, _, _, _⟩) (v := ?_) rfl (by kernel_rfl) (by kernel_rfl) (by kernel_rfl) (fun _ _ _ h => h) (Or.inl ⟨by rfl, ?_⟩) (by assumption) ?_
        rotate_left
        · intro w hSw; (try dsimp only at hSw); go_simp; try with_reducible rfl
        (try simp only [Act.put, List.setIfInBounds_toArray, List.set_cons_zero, List.set_cons_succ])
        refine wpAnyH_take (i := 3) (oi := ⟨some 35, _, _, _, _, _⟩) (v := ?_) rfl (by kernel_rfl) (by kernel_rfl) (by kernel_rfl) (fun _ _ _ h => h) (Or.inl ⟨by rfl, ?_⟩) (by assumption) ?_
        rotate_left
        · intro w hSw; (try dsimp only at hSw); go_simp; try with_reducible rfl
        (try simp only [Act.put, List.setIfInBounds_toArray, List.set_cons_zero, List.set_cons_succ])
        refine wpAnyH_ready (rs := [5]) (by kernel_rfl) (by simp) ?_
        refine (AllReadyH.cons (o := ⟨some 37, _, _, _, _, _⟩) rfl (fun K hK => ?_) AllReadyH.nil)
        go_simp
        go_at_call 13
        refine (nwrite_any (.pointer none) x _ (.inl rfl) (hok.out.old hN1)).mono ?_
        rintro _ _ ⟨rfl, h4⟩
        have hN2 := St.call0 hN1 h4
        clear h4
        refine hK.out _ _ ?_ (fun hHeld => ?_)
        · exact ⟨ldS [_, _] hN2 rfl, ldA ([.int .i64 x.kind, .int .i64 x.n, .int .i64 x.size, .string ⟨x.s.toArray⟩, .slice x.au x.m x.cu]) [_, _, _, _, _] hN2 (rfl) (rfl)⟩
        clear hK K
        (try simp only [Act.put, List.setIfInBounds_toArray, List.set_cons_zero, List.set_cons_succ])
        refine wpAnyH_take (i := 6) (oi := ⟨some 38, _, _, _, _, _⟩) (v := ?_) rfl (by kernel_rfl) (by kernel_rfl) (by kernel_rfl) (fun _ _ _ h => h) (Or.inl ⟨by rfl, ?_⟩) (by assumption) ?_
        rotate_left
        · intro w hSw; (try dsimp only at hSw); go_simp; try with_reducible rfl
        (try simp only [Act.put, List.setIfInBounds_toArray, List.set_cons_zero, List.set_cons_succ])
        refine wpAnyH_done (by kernel_rfl) ?_ _
        clear hHeld
        go_wp2_with (first | go_big_skip | go_big_guard | (refine wl_loadE rfl rfl rfl ?_; first | refine ⟨_, Loads.at [_, _] hN2 rfl, ?_⟩) | (go_at_call 15; refine (wout_un (.pointer none) _ (.inl rfl)).mono ?_; rintro _ _ ⟨rfl, h4⟩; have hN3 := St.call0 hN2 h4; clear h4 hN2))
        have hN4 := hN3.drew
        clear hN3
        refine wp_region_held_drew (S := (fun w' => (loadVarH 45 ⟨gr, 0, none⟩).run Try.prog w' = .ok (.pointer none) w' ∧ (loadVarH 3 ⟨gk, 1, none⟩).run Try.prog w' = .ok (.int .i64 y.size) w' ∧ (loadVarH 3 ⟨gk, 2, none⟩).run Try.prog w' = .ok (.int .i64 y.low) w' ∧ (loadVarH 3 ⟨gk, 3, none⟩).run Try.prog w' = .ok (.int .i64 y.high) w')) (by kernel_rfl) (by exact ⟨ldS [] hN4 rfl, ldS [_, _, _, _] hN4 rfl, ldS [_, _, _, _] hN4 rfl, ldS [_, _, _, _] hN4 rfl⟩) (fun hHeld => ?_)
        refine wpAnyH_take (i := 0) (oi := ⟨some 54, _, _, _, _, _⟩) (v := ?_) rfl (by kernel_rfl) (by kernel_rfl) (by kernel_rfl) (fun _ _ _ h => h) (Or.inl ⟨by rfl, ?_⟩) (by assumption) ?_
        rotate_left
        · intro w hSw; (try dsimp only at hSw); go_simp; try with_reducible rfl
        (try simp only [Act.put, List.setIfInBounds_toArray, List.set_cons_zero, List.set_cons_succ])
        refine wpAnyH_take (i := 1) (oi := ⟨some 55, _, _, _, _, _⟩) (v := ?_) rfl (by kernel_rfl) (by kernel_rfl) (by kernel_rfl) (fun _ _ _ h => h) (Or.inl ⟨by rfl, ?_⟩) (by assumption) ?_
        rotate_left
        · intro w hSw; (try dsimp only at hSw); go_simp; try with_reducible rfl
        (try simp only [Act.put, List.setIfInBounds_toArray, List.set_cons_zero, List.set_cons_succ])
        refine wpAnyH_take (i := 4) (oi := ⟨some 58, _, _, _, _, _⟩) (v := ?_) rfl (by kernel_rfl) (by kernel_rfl) (by kernel_rfl) (fun _ _ _ h => h) (Or.inl ⟨by rfl, ?_⟩) (by assumption) ?_
        rotate_left
        · intro w hSw; (try dsimp only at hSw); go_simp; try with_reducible rfl
        (try simp only [Act.put, List.setIfInBounds_toArray, List.set_cons_zero, List.set_cons_succ])
        refine wpAnyH_take (i := 6) (oi := ⟨some 60, _, _, _, _, _⟩) (v := ?_) rfl (by kernel_rfl) (by kernel_rfl) (by kernel_rfl) (fun _ _ _ h => h) (Or.inl ⟨by rfl, ?_⟩) (by assumption) ?_
        rotate_left
        · intro w hSw; (try dsimp only at hSw); go_simp; try with_reducible rfl
        (try simp only [Act.put, List.setIfInBounds_toArray, List.set_cons_zero, List.set_cons_succ])
        refine wpAnyH_take (i := 8) (oi := ⟨some 62, _, _, _, _, _⟩) (v := ?_) rfl (by kernel_rfl) (by kernel_rfl) (by kernel_rfl) (fun _ _ _ h => h) (Or.inl ⟨by rfl, ?_⟩) (by assumption) ?_
        rotate_left
        · intro w hSw; (try dsimp only at hSw); go_simp; try with_reducible rfl
        (try simp only [Act.put, List.setIfInBounds_toArray, List.set_cons_zero, List.set_cons_succ])
        refine wpAnyH_take (i := 2) (oi := ⟨some 56, _, _, _, _, _⟩) (v := ?_) rfl (by kernel_rfl) (by kernel_rfl) (by kernel_rfl) (fun _ _ _ h => h) (Or.inl ⟨by rfl, ?_⟩) (by assumption) ?_
        rotate_left
        · intro w hSw; (try dsimp only at hSw); go_simp; try with_reducible rfl
        (try simp only [Act.put, List.setIfInBounds_toArray, List.set_cons_zero, List.set_cons_succ])
        refine wpAnyH_take (i := 5) (oi := ⟨some 59, _, _, _, _, _⟩) (v := ?_) rfl (by kernel_rfl) (by kernel_rfl) (by kernel_rfl) (fun _ _ _ h => h) (Or.inl ⟨by rfl, ?_⟩) (by assumption) ?_
        rotate_left
        · intro w hSw; (try dsimp only at hSw); go_simp; try with_reducible rfl
        (try simp only [Act.put, List.setIfInBounds_toArray, List.set_cons_zero, List.set_cons_succ])
        refine wpAnyH_take (i := 7) (oi := ⟨some 61, _, _, _, _, _⟩) (v := ?_) rfl (by kernel_rfl) (by kernel_rfl) (by kernel_rfl) (fun _ _ _ h => h) (Or.inl ⟨by rfl, ?_⟩) (by assumption) ?_
        rotate_left
        · intro w hSw; (try dsimp only at hSw); go_simp; try with_reducible rfl
        (try simp only [Act.put, List.setIfInBounds_toArray, List.set_cons_zero, List.set_cons_succ])
        refine wpAnyH_take (i := 9) (oi := ⟨some 63, _, _, _, _, _⟩) (v := ?_) rfl (by kernel_rfl) (by kernel_rfl) (by kernel_rfl) (fun _ _ _ h => h) (Or.inl ⟨by rfl, ?_⟩) (by assumption) ?_
        rotate_left
        · intro w hSw; (try dsimp only at hSw); go_simp; try with_reducible rfl
        (try simp only [Act.put, List.setIfInBounds_toArray, List.set_cons_zero, List.set_cons_succ])
        refine wpAnyH_take (i := 3) (oi := ⟨some 57, _, _, _, _, _⟩) (v := ?_) rfl (by kernel_rfl) (by kernel_rfl) (by kernel_rfl) (fun _ _ _ h => h) (Or.inl ⟨by rfl, ?_⟩) (by assumption) ?_
        rotate_left
        · intro w hSw; (try dsimp only at hSw); go_simp; try with_reducible rfl
        (try simp only [Act.put, List.setIfInBounds_toArray, List.set_cons_zero, List.set_cons_succ])
        refine wpAnyH_ready (rs := [10]) (by kernel_rfl) (by simp) ?_
        refine (AllReadyH.cons (o := ⟨some 64, _, _, _, _, _⟩) rfl (fun K hK => ?_) AllReadyH.nil)
        go_simp
        go_at_call 23
        refine (rnum_un (.pointer none) y.size y.low y.high _ (.inl rfl)).mono ?_
        rintro _ _ ⟨rfl, h4⟩
        have hN5 := St.call0 hN4 h4
        clear h4
        refine hK.out _ _ ?_ (fun hHeld => ?_)
        · exact ⟨ldS [] hN5 rfl, ldS [_, _, _, _] hN5 rfl, ldS [_, _, _, _] hN5 rfl, ldS [_, _, _, _] hN5 rfl⟩
        clear hK K
        (try simp only [Act.put, List.setIfInBounds_toArray, List.set_cons_zero, List.set_cons_succ])
        refine wpAnyH_take (i := 11) (oi := ⟨some 12, _, _, _, _, _⟩) (v := ?_) rfl (by kernel_rfl) (by kernel_rfl) (by kernel_rfl) (fun _ _ _ h => h) (Or.inl ⟨by rfl, ?_⟩) (by assumption) ?_
        rotate_left
        · intro w hSw; (try dsimp only at hSw); go_simp; try with_reducible rfl
        (try simp only [Act.put, List.setIfInBounds_toArray, List.set_cons_zero, List.set_cons_succ])
        refine wpAnyH_done (by kernel_rfl) ?_ _
        clear hHeld
        go_wp2_with (first | go_big_skip | go_big_guard | fail)
        have hN6 := hN5.drew
        clear hN5
        refine wp_region_held_drew (S := (fun w' => (loadVarH 45 ⟨gr, 0, none⟩).run Try.prog w' = .ok (.pointer none) w' ∧ (loadVarH 3 ⟨gk, 1, none⟩).run Try.prog w' = .ok (.int .i64 y.size) w')) (by kernel_rfl) (by exact ⟨ldS [] hN6 rfl, ldS [_, _, _, _] hN6 rfl⟩) (fun hHeld => ?_)
        refine wpAnyH_take (i := 0) (oi := ⟨some 65, _, _, _, _, _⟩) (v := ?_) rfl (by kernel_rfl) (by kernel_rfl) (by kernel_rfl) (fun _ _ _ h => h) (Or.inl ⟨by rfl, ?_⟩) (by assumption) ?_
        rotate_left
        · intro w hSw; (try dsimp only at hSw); go_simp; try with_reducible rfl
        (try simp only [Act.put, List.setIfInBounds_toArray, List.set_cons_zero, List.set_cons_succ])
        refine wpAnyH_take (i := 1) (oi := ⟨some 66, _, _, _, _, _⟩) (v := ?_) rfl (by kernel_rfl) (by kernel_rfl) (by kernel_rfl) (fun _ _ _ h => h) (Or.inl ⟨by rfl, ?_⟩) (by assumption) ?_
        rotate_left
        · intro w hSw; (try dsimp only at hSw); go_simp; try with_reducible rfl
        (try simp only [Act.put, List.setIfInBounds_toArray, List.set_cons_zero, List.set_cons_succ])
        refine wpAnyH_take (i := 4) (oi := ⟨some 69, _, _, _, _, _⟩) (v := ?_) rfl (by kernel_rfl) (by kernel_rfl) (by kernel_rfl) (fun _ _ _ h => h) (Or.inl ⟨by rfl, ?_⟩) (by assumption) ?_
        rotate_left
        · intro w hSw; (try dsimp only at hSw); go_simp; try with_reducible rfl
        (try simp only [Act.put, List.setIfInBounds_toArray, List.set_cons_zero, List.set_cons_succ])
        refine wpAnyH_take (i := 2) (oi := ⟨some 67, _, _, _, _, _⟩) (v := ?_) rfl (by kernel_rfl) (by kernel_rfl) (by kernel_rfl) (fun _ _ _ h => h) (Or.inl ⟨by rfl, ?_⟩) (by assumption) ?_
        rotate_left
        · intro w hSw; (try dsimp only at hSw); go_simp; try with_reducible rfl
        (try simp only [Act.put, List.setIfInBounds_toArray, List.set_cons_zero, List.set_cons_succ])
        refine wpAnyH_take (i := 5) (oi := ⟨some 70, _, _, _, _, _⟩) (v := ?_) rfl (by kernel_rfl) (by kernel_rfl) (by kernel_rfl) (fun _ _ _ h => h) (Or.inl ⟨by rfl, ?_⟩) (by assumption) ?_
        rotate_left
        · intro w hSw; (try dsimp only at hSw); go_simp; try with_reducible rfl
        (try simp only [Act.put, List.setIfInBounds_toArray, List.set_cons_zero, List.set_cons_succ])
        refine wpAnyH_take (i := 3) (oi := ⟨some 68, _, _, _, _, _⟩) (v := ?_) rfl (by kernel_rfl) (by kernel_rfl) (by kernel_rfl) (fun _ _ _ h => h) (Or.inl ⟨by rfl, ?_⟩) (by assumption) ?_
        rotate_left
        · intro w hSw; (try dsimp only at hSw); go_simp; try with_reducible rfl
        (try simp only [Act.put, List.setIfInBounds_toArray, List.set_cons_zero, List.set_cons_succ])
        refine wpAnyH_ready (rs := [6]) (by kernel_rfl) (by simp) ?_
        refine (AllReadyH.cons (o := ⟨some 71, _, _, _, _, _⟩) rfl (fun K hK => ?_) AllReadyH.nil)
        go_simp
        go_at_call 24
        refine (rtext_un (.pointer none) y.size _ (.inl rfl)).mono ?_
        rintro _ _ ⟨rfl, h4⟩
        have hN7 := St.call0 hN6 h4
        clear h4
        refine hK.out _ _ ?_ (fun hHeld => ?_)
        · exact ⟨ldS [] hN7 rfl, ldS [_, _, _, _] hN7 rfl⟩
        clear hK K
        (try simp only [Act.put, List.setIfInBounds_toArray, List.set_cons_zero, List.set_cons_succ])
        refine wpAnyH_take (i := 7) (oi := ⟨some 13, _, _, _, _, _⟩) (v := ?_) rfl (by kernel_rfl) (by kernel_rfl) (by kernel_rfl) (fun _ _ _ h => h) (Or.inl ⟨by rfl, ?_⟩) (by assumption) ?_
        rotate_left
        · intro w hSw; (try dsimp only at hSw); go_simp; try with_reducible rfl
        (try simp only [Act.put, List.setIfInBounds_toArray, List.set_cons_zero, List.set_cons_succ])
        refine wpAnyH_done (by kernel_rfl) ?_ _
        clear hHeld
        go_wp2_with (first | go_big_skip | go_big_guard | fail)
        have hN8 := hN7.drew
        clear hN7
        refine wp_region_held_drew (S := (fun w' => (loadVarH 45 ⟨gr, 0, none⟩).run Try.prog w' = .ok (.pointer none) w' ∧ (loadVarH 3 ⟨gk, 1, none⟩).run Try.prog w' = .ok (.int .i64 y.size) w')) (by kernel_rfl) (by exact ⟨ldS [] hN8 rfl, ldS [_, _, _, _] hN8 rfl⟩) (fun hHeld => ?_)
        refine wpAnyH_take (i := 0) (oi := ⟨some 72, _, _, _, _, _⟩) (v := ?_) rfl (by kernel_rfl) (by kernel_rfl) (by kernel_rfl) (fun _ _ _ h => h) (Or.inl ⟨by rfl, ?_⟩) (by assumption) ?_
        rotate_left
        · intro w hSw; (try dsimp only at hSw); go_simp; try with_reducible rfl
        (try simp only [Act.put, List.setIfInBounds_toArray, List.set_cons_zero, List.set_cons_succ])
        refine wpAnyH_take (i := 1) (oi := ⟨some 73, _, _, _, _, _⟩) (v := ?_) rfl (by kernel_rfl) (by kernel_rfl) (by kernel_rfl) (fun _ _ _ h => h) (Or.inl ⟨by rfl, ?_⟩) (by assumption) ?_
        rotate_left
        · intro w hSw; (try dsimp only at hSw); go_simp; try with_reducible rfl
        (try simp only [Act.put, List.setIfInBounds_toArray, List.set_cons_zero, List.set_cons_succ])
        refine wpAnyH_take (i := 4) (oi := ⟨some 76, _, _, _, _, _⟩) (v := ?_) rfl (by kernel_rfl) (by kernel_rfl) (by kernel_rfl) (fun _ _ _ h => h) (Or.inl ⟨by rfl, ?_⟩) (by assumption) ?_
        rotate_left
        · intro w hSw; (try dsimp only at hSw); go_simp; try with_reducible rfl
        (try simp only [Act.put, List.setIfInBounds_toArray, List.set_cons_zero, List.set_cons_succ])
        refine wpAnyH_take (i := 2) (oi := ⟨some 74, _, _, _, _, _⟩) (v := ?_) rfl (by kernel_rfl) (by kernel_rfl) (by kernel_rfl) (fun _ _ _ h => h) (Or.inl ⟨by rfl, ?_⟩) (by assumption) ?_
        rotate_left
        · intro w hSw; (try dsimp only at hSw); go_simp; try with_reducible rfl
        (try simp only [Act.put, List.setIfInBounds_toArray, List.set_cons_zero, List.set_cons_succ])
        refine wpAnyH_take (i := 5) (oi := ⟨some 77, _, _, _, _, _⟩) (v := ?_) rfl (by kernel_rfl) (by kernel_rfl) (by kernel_rfl) (fun _ _ _ h => h) (Or.inl ⟨by rfl, ?_⟩) (by assumption) ?_
        rotate_left
        · intro w hSw; (try dsimp only at hSw); go_simp; try with_reducible rfl
        (try simp only [Act.put, List.setIfInBounds_toArray, List.set_cons_zero, List.set_cons_succ])
        refine wpAnyH_take (i := 3) (oi := ⟨some 75, _, _, _, _, _⟩) (v := ?_) rfl (by kernel_rfl) (by kernel_rfl) (by kernel_rfl) (fun _ _ _ h => h) (Or.inl ⟨by rfl, ?_⟩) (by assumption) ?_
        rotate_left
        · intro w hSw; (try dsimp only at hSw); go_simp; try with_reducible rfl
        (try simp only [Act.put, List.setIfInBounds_toArray, List.set_cons_zero, List.set_cons_succ])
        refine wpAnyH_ready (rs := [6]) (by kernel_rfl) (by simp) ?_
        refine (AllReadyH.cons (o := ⟨some 78, _, _, _, _, _⟩) rfl (fun K hK => ?_) AllReadyH.nil)
        go_simp
        go_at_call 36
        refine (rraw_un (.pointer none) y.size _ (.inl rfl)).mono ?_
        rintro _ _ ⟨rfl, h4⟩
        have hN9 := St.call0 hN8 h4
        clear h4
        refine hK.out _ _ ?_ (fun hHeld => ?_)
        · exact ⟨ldS [] hN9 rfl, ldS [_, _, _, _] hN9 rfl⟩
        clear hK K
        (try simp only [Act.put, List.setIfInBounds_toArray, List.set_cons_zero, List.set_cons_succ])
        refine wpAnyH_take (i := 7) (oi := ⟨some 14, _, _, _, _, _⟩) (v := ?_) rfl (by kernel_rfl) (by kernel_rfl) (by kernel_rfl) (fun _ _ _ h => h) (Or.inl ⟨by rfl, ?_⟩) (by assumption) ?_
        rotate_left
        · intro w hSw; (try dsimp only at hSw); go_simp; try with_reducible rfl
        (try simp only [Act.put, List.setIfInBounds_toArray, List.set_cons_zero, List.set_cons_succ])
        refine wpAnyH_done (by kernel_rfl) ?_ _
        clear hHeld
        go_wp2_with (first | go_big_skip | go_big_guard | (refine wl_loadE rfl rfl rfl ?_; first | refine ⟨_, Loads.at [] hN9 rfl, ?_⟩) | (go_at_call 25; refine (rrest_un (.pointer none) _ (.inl rfl)).mono ?_; rintro _ _ ⟨rfl, h4⟩; have hN10 := St.call0 hN9 h4; clear h4 hN9) | (refine wl_buildX (cs := [.int .i64 1, .int .i64 0]) [(0, .int .i64 1)] rfl rfl (by exact rfl) (by kernel_rfl) ?_) | (refine wl_alloc hN10 rfl rfl ?_; intro gg _ hN11; clear hN10) | (refine wl_storeA [] hN11 rfl rfl rfl rfl rfl rfl rfl ?_; intro _ hN12; clear hN11))
        have hN13 := hN12.drew
        clear hN12
        refine wp_region_held_drew (S := (fun w' => (loadVarH 45 ⟨gr, 0, none⟩).run Try.prog w' = .ok (.pointer none) w' ∧ (loadVarH 50 ⟨gg, 0, none⟩).run Try.prog w' = .ok (.agg (List.toArray ([.int .i64 1, .int .i64 0]))) w')) (by kernel_rfl) (by exact ⟨ldS [_] hN13 rfl, ldA ([.int .i64 1, .int .i64 0]) [] hN13 (rfl) (rfl)⟩) (fun hHeld => ?_)
        refine wpAnyH_take (i := 0) (oi := ⟨some 85, _, _, _, _, _⟩) (v := ?_) rfl (by kernel_rfl) (by kernel_rfl) (by kernel_rfl) (fun _ _ _ h => h) (Or.inl ⟨by rfl, ?_⟩) (by assumption) ?_
        rotate_left
        · intro w hSw; (try dsimp only at hSw); go_simp; try with_reducible rfl
        (try simp only [Act.put, List.setIfInBounds_toArray, List.set_cons_zero, List.set_cons_succ])
        refine wpAnyH_take (i := 1) (oi := ⟨some 86, _, _, _, _, _⟩) (v := ?_) rfl (by kernel_rfl) (by kernel_rfl) (by kernel_rfl) (fun _ _ _ h => h) (Or.inl ⟨by rfl, ?_⟩) (by assumption) ?_
        rotate_left
        · intro w hSw; (try dsimp only at hSw); go_simp; try with_reducible rfl
        (try simp only [Act.put, List.setIfInBounds_toArray, List.set_cons_zero, List.set_cons_succ])
        refine wpAnyH_take (i := 2) (oi := ⟨some 87, _, _, _, _, _⟩) (v := ?_) rfl (by kernel_rfl) (by kernel_rfl) (by kernel_rfl) (fun _ _ _ h => h) (Or.inl ⟨by rfl, ?_⟩) (by assumption) ?_
        rotate_left
        · intro w hSw; (try dsimp only at hSw); go_simp; try with_reducible rfl
        (try simp only [Act.put, List.setIfInBounds_toArray, List.set_cons_zero, List.set_cons_succ])
        refine wpAnyH_take (i := 3) (oi := ⟨some 88, _, _, _, _, _⟩) (v := ?_) rfl (by kernel_rfl) (by kernel_rfl) (by kernel_rfl) (fun _ _ _ h => h) (Or.inl ⟨by rfl, ?_⟩) (by assumption) ?_
        rotate_left
        · intro w hSw; (try dsimp only at hSw); go_simp; try with_reducible rfl
        (try simp only [Act.put, List.setIfInBounds_toArray, List.set_cons_zero, List.set_cons_succ])
        refine wpAnyH_take (i := 4) (oi := ⟨some 89, _, _, _, _, _⟩) (v := ?_) rfl (by kernel_rfl) (by kernel_rfl) (by kernel_rfl) (fun _ _ _ h => h) (Or.inl ⟨by rfl, ?_⟩) (by assumption) ?_
        rotate_left
        · intro w hSw; (try dsimp only at hSw); go_simp; try with_reducible rfl
        (try simp only [Act.put, List.setIfInBounds_toArray, List.set_cons_zero, List.set_cons_succ])
        refine wpAnyH_take (i := 5) (oi := ⟨some 90, _, _, _, _, _⟩) (v := ?_) rfl (by kernel_rfl) (by kernel_rfl) (by kernel_rfl) (fun _ _ _ h => h) (Or.inl ⟨by rfl, ?_⟩) (by assumption) ?_
        rotate_left
        · intro w hSw; (try dsimp only at hSw); go_simp; try with_reducible rfl
        (try simp only [Act.put, List.setIfInBounds_toArray, List.set_cons_zero, List.set_cons_succ])
        refine wpAnyH_take (i := 6) (oi := ⟨some 91, _, _, _, _, _⟩) (v := ?_) rfl (by kernel_rfl) (by kernel_rfl) (by kernel_rfl) (fun _ _ _ h => h) (Or.inl ⟨by rfl, ?_⟩) (by assumption) ?_
        rotate_left
        · intro w hSw; (try dsimp only at hSw); go_simp; try with_reducible rfl
        (try simp only [Act.put, List.setIfInBounds_toArray, List.set_cons_zero, List.set_cons_succ])
        refine wpAnyH_take (i := 7) (oi := ⟨some 92, _, _, _, _, _⟩) (v := ?_) rfl (by kernel_rfl) (by kernel_rfl) (by kernel_rfl) (fun _ _ _ h => h) (Or.inl ⟨by rfl, ?_⟩) (by assumption) ?_
        rotate_left
        · intro w hSw; (try dsimp only at hSw); go_simp; try with_reducible rfl
        (try simp only [Act.put, List.setIfInBounds_toArray, List.set_cons_zero, List.set_cons_succ])
        refine wpAnyH_take (i := 8) (oi := ⟨some 93, _, _, _, _, _⟩) (v := ?_) rfl (by kernel_rfl) (by kernel_rfl) (by kernel_rfl) (fun _ _ _ h => h) (Or.inl ⟨by rfl, ?_⟩) (by assumption) ?_
        rotate_left
        · intro w hSw; (try dsimp only at hSw); go_simp; try with_reducible rfl
        (try simp only [Act.put, List.setIfInBounds_toArray, List.set_cons_zero, List.set_cons_succ])
        refine wpAnyH_take (i := 9) (oi := ⟨some 94, _, _, _, _, _⟩) (v := ?_) rfl (by kernel_rfl) (by kernel_rfl) (by kernel_rfl) (fun _ _ _ h => h) (Or.inl ⟨by rfl, ?_⟩) (by assumption) ?_
        rotate_left
        · intro w hSw; (try dsimp only at hSw); go_simp; try with_reducible rfl
        (try simp only [Act.put, List.setIfInBounds_toArray, List.set_cons_zero, List.set_cons_succ])
        refine wpAnyH_take (i := 10) (oi := ⟨some 95, _, _, _, _, _⟩) (v := ?_) rfl (by kernel_rfl) (by kernel_rfl) (by kernel_rfl) (fun _ _ _ h => h) (Or.inl ⟨by rfl, ?_⟩) (by assumption) ?_
        rotate_left
        · intro w hSw; (try dsimp only at hSw); go_simp; try with_reducible rfl
        (try simp only [Act.put, List.setIfInBounds_toArray, List.set_cons_zero, List.set_cons_succ])
        refine wpAnyH_take (i := 11) (oi := ⟨some 96, _, _, _, _, _⟩) (v := ?_) rfl (by kernel_rfl) (by kernel_rfl) (by kernel_rfl) (fun _ _ _ h => h) (Or.inl ⟨by rfl, ?_⟩) (by assumption) ?_
        rotate_left
        · intro w hSw; (try dsimp only at hSw); go_simp; try with_reducible rfl
        (try simp only [Act.put, List.setIfInBounds_toArray, List.set_cons_zero, List.set_cons_succ])
        refine wpAnyH_take (i := 12) (oi := ⟨some 97, _, _, _, _, _⟩) (v := ?_) rfl (by kernel_rfl) (by kernel_rfl) (by kernel_rfl) (fun _ _ _ h => h) (Or.inl ⟨by rfl, ?_⟩) (by assumption) ?_
        rotate_left
        · intro w hSw; (try dsimp only at hSw); go_simp; try with_reducible rfl
        (try simp only [Act.put, List.setIfInBounds_toArray, List.set_cons_zero, List.set_cons_succ])
        refine wpAnyH_take (i := 13) (oi := ⟨some 98, _, _, _, _, _⟩) (v := ?_) rfl (by kernel_rfl) (by kernel_rfl) (by kernel_rfl) (fun _ _ _ h => h) (Or.inl ⟨by rfl, ?_⟩) (by assumption) ?_
        rotate_left
        · intro w hSw; (try dsimp only at hSw); go_simp; try with_reducible rfl
        (try simp only [Act.put, List.setIfInBounds_toArray, List.set_cons_zero, List.set_cons_succ])
        refine wpAnyH_take (i := 14) (oi := ⟨some 99, _, _, _, _, _⟩) (v := ?_) rfl (by kernel_rfl) (by kernel_rfl) (by kernel_rfl) (fun _ _ _ h => h) (Or.inl ⟨by rfl, ?_⟩) (by assumption) ?_
        rotate_left
        · intro w hSw; (try dsimp only at hSw); go_simp; try with_reducible rfl
        (try simp only [Act.put, List.setIfInBounds_toArray, List.set_cons_zero, List.set_cons_succ])
        refine wpAnyH_take (i := 15) (oi := ⟨some 100, _, _, _, _, _⟩) (v := ?_) rfl (by kernel_rfl) (by kernel_rfl) (by kernel_rfl) (fun _ _ _ h => h) (Or.inl ⟨by rfl, ?_⟩) (by assumption) ?_
        rotate_left
        · intro w hSw; (try dsimp only at hSw); go_simp; try with_reducible rfl
        (try simp only [Act.put, List.setIfInBounds_toArray, List.set_cons_zero, List.set_cons_succ])
        refine wpAnyH_ready (rs := [16]) (by kernel_rfl) (by simp) ?_
        refine (AllReadyH.cons (o := ⟨some 101, _, _, _, _, _⟩) rfl (fun K hK => ?_) AllReadyH.nil)
        go_simp
        go_at_call 31
        refine (rat_un (.pointer none) _ (.inl rfl)).mono ?_
        rintro _ _ ⟨rfl, h4⟩
        have hN14 := St.call0 hN13 h4
        clear h4
        refine hK.out _ _ ?_ (fun hHeld => ?_)
        · exact ⟨ldS [_] hN14 rfl, ldA ([.int .i64 1, .int .i64 0]) [] hN14 (rfl) (rfl)⟩
        clear hK K
        (try simp only [Act.put, List.setIfInBounds_toArray, List.set_cons_zero, List.set_cons_succ])
        refine wpAnyH_take (i := 17) (oi := ⟨some 102, _, _, _, _, _⟩) (v := ?_) rfl (by kernel_rfl) (by kernel_rfl) (by kernel_rfl) (fun _ _ _ h => h) (Or.inl ⟨by rfl, ?_⟩) (by assumption) ?_
        rotate_left
        · intro w hSw; (try dsimp only at hSw); go_simp; try with_reducible rfl
        (try simp only [Act.put, List.setIfInBounds_toArray, List.set_cons_zero, List.set_cons_succ])
        refine wpAnyH_take (i := 18) (oi := ⟨some 103, _, _, _, _, _⟩) (v := ?_) rfl (by kernel_rfl) (by kernel_rfl) (by kernel_rfl) (fun _ _ _ h => h) (Or.inl ⟨by rfl, ?_⟩) (by assumption) ?_
        rotate_left
        · intro w hSw; (try dsimp only at hSw); go_simp; try with_reducible rfl
        (try simp only [Act.put, List.setIfInBounds_toArray, List.set_cons_zero, List.set_cons_succ])
        refine wpAnyH_take (i := 19) (oi := ⟨some 104, _, _, _, _, _⟩) (v := ?_) rfl (by kernel_rfl) (by kernel_rfl) (by kernel_rfl) (fun _ _ _ h => h) (Or.inl ⟨by rfl, ?_⟩) (by assumption) ?_
        rotate_left
        · intro w hSw; (try dsimp only at hSw); go_simp; try with_reducible rfl
        (try simp only [Act.put, List.setIfInBounds_toArray, List.set_cons_zero, List.set_cons_succ])
        refine wpAnyH_take (i := 20) (oi := ⟨some 105, _, _, _, _, _⟩) (v := ?_) rfl (by kernel_rfl) (by kernel_rfl) (by kernel_rfl) (fun _ _ _ h => h) (Or.inl ⟨by rfl, ?_⟩) (by assumption) ?_
        rotate_left
        · intro w hSw; (try dsimp only at hSw); go_simp; try with_reducible rfl
        (try simp only [Act.put, List.setIfInBounds_toArray, List.set_cons_zero, List.set_cons_succ])
        refine wpAnyH_take (i := 21) (oi := ⟨some 106, _, _, _, _, _⟩) (v := ?_) rfl (by kernel_rfl) (by kernel_rfl) (by kernel_rfl) (fun _ _ _ h => h) (Or.inl ⟨by rfl, ?_⟩) (by assumption) ?_
        rotate_left
        · intro w hSw; (try dsimp only at hSw); go_simp; try with_reducible rfl
        (try simp only [Act.put, List.setIfInBounds_toArray, List.set_cons_zero, List.set_cons_succ])
        refine wpAnyH_take (i := 22) (oi := ⟨some 107, _, _, _, _, _⟩) (v := ?_) rfl (by kernel_rfl) (by kernel_rfl) (by kernel_rfl) (fun _ _ _ h => h) (Or.inl ⟨by rfl, ?_⟩) (by assumption) ?_
        rotate_left
        · intro w hSw; (try dsimp only at hSw); go_simp; try with_reducible rfl
        (try simp only [Act.put, List.setIfInBounds_toArray, List.set_cons_zero, List.set_cons_succ])
        refine wpAnyH_take (i := 23) (oi := ⟨some 108, _, _, _, _, _⟩) (v := ?_) rfl (by kernel_rfl) (by kernel_rfl) (by kernel_rfl) (fun _ _ _ h => h) (Or.inl ⟨by rfl, ?_⟩) (by assumption) ?_
        rotate_left
        · intro w hSw; (try dsimp only at hSw); go_simp; try with_reducible rfl
        (try simp only [Act.put, List.setIfInBounds_toArray, List.set_cons_zero, List.set_cons_succ])
        refine wpAnyH_ready (rs := [24]) (by kernel_rfl) (by simp) ?_
        refine (AllReadyH.cons (o := ⟨some 109, _, _, _, _, _⟩) rfl (fun K hK => ?_) AllReadyH.nil)
        go_simp
        go_at_call 32
        refine (rleft_un (.pointer none) _ (.inl rfl)).mono ?_
        rintro _ _ ⟨rfl, h4⟩
        have hN15 := St.call0 hN14 h4
        clear h4
        refine hK.out _ _ ?_ (fun hHeld => ?_)
        · exact ⟨ldS [_] hN15 rfl, ldA ([.int .i64 1, .int .i64 0]) [] hN15 (rfl) (rfl)⟩
        clear hK K
        (try simp only [Act.put, List.setIfInBounds_toArray, List.set_cons_zero, List.set_cons_succ])
        refine wpAnyH_take (i := 25) (oi := ⟨some 110, _, _, _, _, _⟩) (v := ?_) rfl (by kernel_rfl) (by kernel_rfl) (by kernel_rfl) (fun _ _ _ h => h) (Or.inl ⟨by rfl, ?_⟩) (by assumption) ?_
        rotate_left
        · intro w hSw; (try dsimp only at hSw); go_simp; try with_reducible rfl
        (try simp only [Act.put, List.setIfInBounds_toArray, List.set_cons_zero, List.set_cons_succ])
        refine wpAnyH_take (i := 26) (oi := ⟨some 111, _, _, _, _, _⟩) (v := ?_) rfl (by kernel_rfl) (by kernel_rfl) (by kernel_rfl) (fun _ _ _ h => h) (Or.inl ⟨by rfl, ?_⟩) (by assumption) ?_
        rotate_left
        · intro w hSw; (try dsimp only at hSw); go_simp; try with_reducible rfl
        (try simp only [Act.put, List.setIfInBounds_toArray, List.set_cons_zero, List.set_cons_succ])
        refine wpAnyH_take (i := 27) (oi := ⟨some 112, _, _, _, _, _⟩) (v := ?_) rfl (by kernel_rfl) (by kernel_rfl) (by kernel_rfl) (fun _ _ _ h => h) (Or.inl ⟨by rfl, ?_⟩) (by assumption) ?_
        rotate_left
        · intro w hSw; (try dsimp only at hSw); go_simp; try with_reducible rfl
        (try simp only [Act.put, List.setIfInBounds_toArray, List.set_cons_zero, List.set_cons_succ])
        refine wpAnyH_take (i := 28) (oi := ⟨some 113, _, _, _, _, _⟩) (v := ?_) rfl (by kernel_rfl) (by kernel_rfl) (by kernel_rfl) (fun _ _ _ h => h) (Or.inl ⟨by rfl, ?_⟩) (by assumption) ?_
        rotate_left
        · intro w hSw; (try dsimp only at hSw); go_simp; try with_reducible rfl
        (try simp only [Act.put, List.setIfInBounds_toArray, List.set_cons_zero, List.set_cons_succ])
        refine wpAnyH_take (i := 29) (oi := ⟨some 114, _, _, _, _, _⟩) (v := ?_) rfl (by kernel_rfl) (by kernel_rfl) (by kernel_rfl) (fun _ _ _ h => h) (Or.inl ⟨by rfl, ?_⟩) (by assumption) ?_
        rotate_left
        · intro w hSw; (try dsimp only at hSw); go_simp; try with_reducible rfl
        (try simp only [Act.put, List.setIfInBounds_toArray, List.set_cons_zero, List.set_cons_succ])
        refine wpAnyH_take (i := 33) (oi := ⟨some 118, _, _, _, _, _⟩) (v := ?_) rfl (by kernel_rfl) (by kernel_rfl) (by kernel_rfl) (fun _ _ _ h => h) (Or.inl ⟨by rfl, ?_⟩) (by assumption) ?_
        rotate_left
        · intro w hSw; (try dsimp only at hSw); go_simp; try with_reducible rfl
        (try simp only [Act.put, List.setIfInBounds_toArray, List.set_cons_zero, List.set_cons_succ])
        refine wpAnyH_take (i := 30) (oi := ⟨some 115, _, _, _, _, _⟩) (v := ?_) rfl (by kernel_rfl) (by kernel_rfl) (by kernel_rfl) (fun _ _ _ h => h) (Or.inl ⟨by rfl, ?_⟩) (by assumption) ?_
        rotate_left
        · intro w hSw; (try dsimp only at hSw); go_simp; try with_reducible rfl
        (try simp only [Act.put, List.setIfInBounds_toArray, List.set_cons_zero, List.set_cons_succ])
        refine wpAnyH_take (i := 31) (oi := ⟨some 116, _, _, _, _, _⟩) (v := ?_) rfl (by kernel_rfl) (by kernel_rfl) (by kernel_rfl) (fun _ _ _ h => h) (Or.inl ⟨by rfl, ?_⟩) (by assumption) ?_
        rotate_left
        · intro w hSw; (try dsimp only at hSw); go_simp; try with_reducible rfl
        (try simp only [Act.put, List.setIfInBounds_toArray, List.set_cons_zero, List.set_cons_succ])
        refine wpAnyH_ready (rs := [32]) (by kernel_rfl) (by simp) ?_
        refine (AllReadyH.cons (o := ⟨some 117, _, _, _, _, _⟩) rfl (fun K hK => ?_) AllReadyH.nil)
        go_simp
        go_at_call 26
        refine (rfault_un (.pointer none) _ (.inl rfl)).mono ?_
        rintro _ _ ⟨rfl, h4⟩
        have hN16 := St.call0 hN15 h4
        clear h4
        refine hK.out _ _ ?_ (fun hHeld => ?_)
        · exact ⟨ldS [_] hN16 rfl, ldA ([.int .i64 1, .int .i64 0]) [] hN16 (rfl) (rfl)⟩
        clear hK K
        (try simp only [Act.put, List.setIfInBounds_toArray, List.set_cons_zero, List.set_cons_succ])
        refine wpAnyH_take (i := 34) (oi := ⟨some 119, _, _, _, _, _⟩) (v := ?_) rfl (by kernel_rfl) (by kernel_rfl) (by kernel_rfl) (fun _ _ _ h => h) (Or.inl ⟨by rfl, ?_⟩) (by assumption) ?_
        rotate_left
        · intro w hSw; (try dsimp only at hSw); go_simp; try with_reducible rfl
        (try simp only [Act.put, List.setIfInBounds_toArray, List.set_cons_zero, List.set_cons_succ])
        refine wpAnyH_take (i := 35) (oi := ⟨some 120, _, _, _, _, _⟩) (v := ?_) rfl (by kernel_rfl) (by kernel_rfl) (by kernel_rfl) (fun _ _ _ h => h) (Or.inl ⟨by rfl, ?_⟩) (by assumption) ?_
        rotate_left
        · intro w hSw; (try dsimp only at hSw); go_simp; try with_reducible rfl
        (try simp only [Act.put, List.setIfInBounds_toArray, List.set_cons_zero, List.set_cons_succ])
        refine wpAnyH_take (i := 36) (oi := ⟨some 121, _, _, _, _, _⟩) (v := ?_) rfl (by kernel_rfl) (by kernel_rfl) (by kernel_rfl) (fun _ _ _ h => h) (Or.inl ⟨by rfl, ?_⟩) (by assumption) ?_
        rotate_left
        · intro w hSw; (try dsimp only at hSw); go_simp; try with_reducible rfl
        (try simp only [Act.put, List.setIfInBounds_toArray, List.set_cons_zero, List.set_cons_succ])
        refine wpAnyH_take (i := 37) (oi := ⟨some 122, _, _, _, _, _⟩) (v := ?_) rfl (by kernel_rfl) (by kernel_rfl) (by kernel_rfl) (fun _ _ _ h => h) (Or.inl ⟨by rfl, ?_⟩) (by assumption) ?_
        rotate_left
        · intro w hSw; (try dsimp only at hSw); go_simp; try with_reducible rfl
        (try simp only [Act.put, List.setIfInBounds_toArray, List.set_cons_zero, List.set_cons_succ])
        refine wpAnyH_take (i := 38) (oi := ⟨some 123, _, _, _, _, _⟩) (v := ?_) rfl (by kernel_rfl) (by kernel_rfl) (by kernel_rfl) (fun _ _ _ h => h) (Or.inl ⟨by rfl, ?_⟩) (by assumption) ?_
        rotate_left
        · intro w hSw; (try dsimp only at hSw); go_simp; try with_reducible rfl
        (try simp only [Act.put, List.setIfInBounds_toArray, List.set_cons_zero, List.set_cons_succ])
        refine wpAnyH_take (i := 42) (oi := ⟨some 127, _, _, _, _, _⟩) (v := ?_) rfl (by kernel_rfl) (by kernel_rfl) (by kernel_rfl) (fun _ _ _ h => h) (Or.inl ⟨by rfl, ?_⟩) (by assumption) ?_
        rotate_left
        · intro w hSw; (try dsimp only at hSw); go_simp; try with_reducible rfl
        (try simp only [Act.put, List.setIfInBounds_toArray, List.set_cons_zero, List.set_cons_succ])
        refine wpAnyH_take (i := 39) (oi := ⟨some 124, _, _, _, _, _⟩) (v := ?_) rfl (by kernel_rfl) (by kernel_rfl) (by kernel_rfl) (fun _ _ _ h => h) (Or.inl ⟨by rfl, ?_⟩) (by assumption) ?_
        rotate_left
        · intro w hSw; (try dsimp only at hSw); go_simp; try with_reducible rfl
        (try simp only [Act.put, List.setIfInBounds_toArray, List.set_cons_zero, List.set_cons_succ])
        refine wpAnyH_take (i := 40) (oi := ⟨some 125, _, _, _, _, _⟩) (v := ?_) rfl (by kernel_rfl) (by kernel_rfl) (by kernel_rfl) (fun _ _ _ h => h) (Or.inl ⟨by rfl, ?_⟩) (by assumption) ?_
        rotate_left
        · intro w hSw; (try dsimp only at hSw); go_simp; try with_reducible rfl
        (try simp only [Act.put, List.setIfInBounds_toArray, List.set_cons_zero, List.set_cons_succ])
        refine wpAnyH_ready (rs := [41]) (by kernel_rfl) (by simp) ?_
        refine (AllReadyH.cons (o := ⟨some 126, _, _, _, _, _⟩) rfl (fun K hK => ?_) AllReadyH.nil)
        go_simp
        go_at_call 27
        refine (rend_un (.pointer none) _ (.inl rfl)).mono ?_
        rintro _ _ ⟨rfl, h4⟩
        have hN17 := St.call0 hN16 h4
        clear h4
        refine hK.out _ _ ?_ (fun hHeld => ?_)
        · exact ⟨ldS [_] hN17 rfl, ldA ([.int .i64 1, .int .i64 0]) [] hN17 (rfl) (rfl)⟩
        clear hK K
        (try simp only [Act.put, List.setIfInBounds_toArray, List.set_cons_zero, List.set_cons_succ])
        refine wpAnyH_take (i := 43) (oi := ⟨some 128, _, _, _, _, _⟩) (v := ?_) rfl (by kernel_rfl) (by kernel_rfl) (by kernel_rfl) (fun _ _ _ h => h) (Or.inl ⟨by rfl, ?_⟩) (by assumption) ?_
        rotate_left
        · intro w hSw; (try dsimp only at hSw); go_simp; try with_reducible rfl
        (try simp only [Act.put, List.setIfInBounds_toArray, List.set_cons_zero, List.set_cons_succ])
        refine wpAnyH_take (i := 44) (oi := ⟨some 129, _, _, _, _, _⟩) (v := ?_) rfl (by kernel_rfl) (by kernel_rfl) (by kernel_rfl) (fun _ _ _ h => h) (Or.inl ⟨by rfl, ?_⟩) (by assumption) ?_
        rotate_left
        · intro w hSw; (try dsimp only at hSw); go_simp; try with_reducible rfl
        (try simp only [Act.put, List.setIfInBounds_toArray, List.set_cons_zero, List.set_cons_succ])
        refine wpAnyH_done (by kernel_rfl) ?_ _
        clear hHeld
        go_wp2_with (first | go_big_skip | go_big_guard | fail)
        go_roundw
        case rel => exact ⟨.inr (.inl rfl), St.sub hN17 (.cons _ (List.Sublist.refl _))⟩
        case measure => simp [intOf]
      · go_wp2_with (first | go_big_skip | go_big_guard | fail)
        have hN18 := hst.drew
        clear hst
        refine wp_region_held_drew (S := (fun w' => (loadVarH 23 ⟨gw, 1, none⟩).run Try.prog w' = .ok (.pointer (some ⟨gz, 0, none⟩)) w' ∧ (loadVarH 34 ⟨gx, 0, none⟩).run Try.prog w' = .ok (.agg (List.toArray ([.int .i64 x.kind, .int .i64 x.n, .int .i64 x.size, .string ⟨x.s.toArray⟩, .slice x.au x.m x.cu]))) w')) (by kernel_rfl) (by exact ⟨ldS [_, _] hN18 rfl, ldA ([.int .i64 x.kind, .int .i64 x.n, .int .i64 x.size, .string ⟨x.s.toArray⟩, .slice x.au x.m x.cu]) [_, _, _, _, _] hN18 (rfl) (rfl)⟩) (fun hHeld => ?_)
        refine wpAnyH_take (i := 0) (oi := ⟨some 32, _, _, _, _, _⟩) (v := ?_) rfl (by kernel_rfl) (by kernel_rfl) (by kernel_rfl) (fun _ _ _ h => h) (Or.inl ⟨by rfl, ?_⟩) (by assumption) ?_
        rotate_left
        · intro w hSw; (try dsimp only at hSw); go_simp; try with_reducible rfl
        (try simp only [Act.put, List.setIfInBounds_toArray, List.set_cons_zero, List.set_cons_succ])
        refine wpAnyH_take (i := 1) (oi := ⟨some 33, _, _, _, _, _⟩) (v := ?_) rfl (by kernel_rfl) (by kernel_rfl) (by kernel_rfl) (fun _ _ _ h => h) (Or.inl ⟨by rfl, ?_⟩) (by assumption) ?_
        rotate_left
        · intro w hSw; (try dsimp only at hSw); go_simp; try with_reducible rfl
        (try simp only [Act.put, List.setIfInBounds_toArray, List.set_cons_zero, List.set_cons_succ])
        refine wpAnyH_take (i := 4) (oi := ⟨some 36, _, _, _, _, _⟩) (v := ?_) rfl (by kernel_rfl) (by kernel_rfl) (by kernel_rfl) (fun _ _ _ h => h) (Or.inl ⟨by rfl, ?_⟩) (by assumption) ?_
        rotate_left
        · intro w hSw; (try dsimp only at hSw); go_simp; try with_reducible rfl
        (try simp only [Act.put, List.setIfInBounds_toArray, List.set_cons_zero, List.set_cons_succ])
        refine wpAnyH_take (i := 2) (oi := ⟨some 34, _, _, _, _, _⟩) (v := ?_) rfl (by kernel_rfl) (by kernel_rfl) (by kernel_rfl) (fun _ _ _ h => h) (Or.inl ⟨by rfl, ?_⟩) (by assumption) ?_
        rotate_left
        · intro w hSw; (try dsimp only at hSw); go_simp; try with_reducible rfl
        (try simp only [Act.put, List.setIfInBounds_toArray, List.set_cons_zero, List.set_cons_succ])
        refine wpAnyH_take (i := 3) (oi := ⟨some 35, _, _, _, _, _⟩) (v := ?_) rfl (by kernel_rfl) (by kernel_rfl) (by kernel_rfl) (fun _ _ _ h => h) (Or.inl ⟨by rfl, ?_⟩) (by assumption) ?_
        rotate_left
        · intro w hSw; (try dsimp only at hSw); go_simp; try with_reducible rfl
        (try simp only [Act.put, List.setIfInBounds_toArray, List.set_cons_zero, List.set_cons_succ])
        refine wpAnyH_ready (rs := [5]) (by kernel_rfl) (by simp) ?_
        refine (AllReadyH.cons (o := ⟨some 37, _, _, _, _, _⟩) rfl (fun K hK => ?_) AllReadyH.nil)
        go_simp
        go_at_call 13
        refine (nwrite_any (.pointer (some ⟨gz, 0, none⟩)) x _ (.inr ⟨gz, rfl, St.cell hN18 (off := 0) (.tail _ (.tail _ (.tail _ (.head _)))) rfl⟩) (hok.out.old hN18)).mono ?_
        rintro _ _ ⟨rfl, h4⟩
        have hN19 := St.call0 hN18 h4
        clear h4
        refine hK.out _ _ ?_ (fun hHeld => ?_)
        · exact ⟨ldS [_, _] hN19 rfl, ldA ([.int .i64 x.kind, .int .i64 x.n, .int .i64 x.size, .string ⟨x.s.toArray⟩, .slice x.au x.m x.cu]) [_, _, _, _, _] hN19 (rfl) (rfl)⟩
        clear hK K
        (try simp only [Act.put, List.setIfInBounds_toArray, List.set_cons_zero, List.set_cons_succ])
        refine wpAnyH_take (i := 6) (oi := ⟨some 38, _, _, _, _, _⟩) (v := ?_) rfl (by kernel_rfl) (by kernel_rfl) (by kernel_rfl) (fun _ _ _ h => h) (Or.inl ⟨by rfl, ?_⟩) (by assumption) ?_
        rotate_left
        · intro w hSw; (try dsimp only at hSw); go_simp; try with_reducible rfl
        (try simp only [Act.put, List.setIfInBounds_toArray, List.set_cons_zero, List.set_cons_succ])
        refine wpAnyH_done (by kernel_rfl) ?_ _
        clear hHeld
        go_wp2_with (first | go_big_skip | go_big_guard | (refine wl_loadE rfl rfl rfl ?_; first | refine ⟨_, Loads.at [_, _] hN19 rfl, ?_⟩) | (go_at_call 15; refine (wout_un (.pointer (some ⟨gz, 0, none⟩)) _ (.inr ⟨gz, rfl, St.cell hN19 (off := 0) (.tail _ (.tail _ (.tail _ (.head _)))) rfl⟩)).mono ?_; rintro _ _ ⟨rfl, h4⟩; have hN20 := St.call0 hN19 h4; clear h4 hN19))
        have hN21 := hN20.drew
        clear hN20
        refine wp_region_held_drew (S := (fun w' => (loadVarH 45 ⟨gr, 1, none⟩).run Try.prog w' = .ok (.pointer (some ⟨gy, 0, none⟩)) w' ∧ (loadVarH 3 ⟨gk, 1, none⟩).run Try.prog w' = .ok (.int .i64 y.size) w' ∧ (loadVarH 3 ⟨gk, 2, none⟩).run Try.prog w' = .ok (.int .i64 y.low) w' ∧ (loadVarH 3 ⟨gk, 3, none⟩).run Try.prog w' = .ok (.int .i64 y.high) w')) (by kernel_rfl) (by exact ⟨ldS [] hN21 rfl, ldS [_, _, _, _] hN21 rfl, ldS [_, _, _, _] hN21 rfl, ldS [_, _, _, _] hN21 rfl⟩) (fun hHeld => ?_)
        refine wpAnyH_take (i := 0) (oi := ⟨some 54, _, _, _, _, _⟩) (v := ?_) rfl (by kernel_rfl) (by kernel_rfl) (by kernel_rfl) (fun _ _ _ h => h) (Or.inl ⟨by rfl, ?_⟩) (by assumption) ?_
        rotate_left
        · intro w hSw; (try dsimp only at hSw); go_simp; try with_reducible rfl
        (try simp only [Act.put, List.setIfInBounds_toArray, List.set_cons_zero, List.set_cons_succ])
        refine wpAnyH_take (i := 1) (oi := ⟨some 55, _, _, _, _, _⟩) (v := ?_) rfl (by kernel_rfl) (by kernel_rfl) (by kernel_rfl) (fun _ _ _ h => h) (Or.inl ⟨by rfl, ?_⟩) (by assumption) ?_
        rotate_left
        · intro w hSw; (try dsimp only at hSw); go_simp; try with_reducible rfl
        (try simp only [Act.put, List.setIfInBounds_toArray, List.set_cons_zero, List.set_cons_succ])
        refine wpAnyH_take (i := 4) (oi := ⟨some 58, _, _, _, _, _⟩) (v := ?_) rfl (by kernel_rfl) (by kernel_rfl) (by kernel_rfl) (fun _ _ _ h => h) (Or.inl ⟨by rfl, ?_⟩) (by assumption) ?_
        rotate_left
        · intro w hSw; (try dsimp only at hSw); go_simp; try with_reducible rfl
        (try simp only [Act.put, List.setIfInBounds_toArray, List.set_cons_zero, List.set_cons_succ])
        refine wpAnyH_take (i := 6) (oi := ⟨some 60, _, _, _, _, _⟩) (v := ?_) rfl (by kernel_rfl) (by kernel_rfl) (by kernel_rfl) (fun _ _ _ h => h) (Or.inl ⟨by rfl, ?_⟩) (by assumption) ?_
        rotate_left
        · intro w hSw; (try dsimp only at hSw); go_simp; try with_reducible rfl
        (try simp only [Act.put, List.setIfInBounds_toArray, List.set_cons_zero, List.set_cons_succ])
        refine wpAnyH_take (i := 8) (oi := ⟨some 62, _, _, _, _, _⟩) (v := ?_) rfl (by kernel_rfl) (by kernel_rfl) (by kernel_rfl) (fun _ _ _ h => h) (Or.inl ⟨by rfl, ?_⟩) (by assumption) ?_
        rotate_left
        · intro w hSw; (try dsimp only at hSw); go_simp; try with_reducible rfl
        (try simp only [Act.put, List.setIfInBounds_toArray, List.set_cons_zero, List.set_cons_succ])
        refine wpAnyH_take (i := 2) (oi := ⟨some 56, _, _, _, _, _⟩) (v := ?_) rfl (by kernel_rfl) (by kernel_rfl) (by kernel_rfl) (fun _ _ _ h => h) (Or.inl ⟨by rfl, ?_⟩) (by assumption) ?_
        rotate_left
        · intro w hSw; (try dsimp only at hSw); go_simp; try with_reducible rfl
        (try simp only [Act.put, List.setIfInBounds_toArray, List.set_cons_zero, List.set_cons_succ])
        refine wpAnyH_take (i := 5) (oi := ⟨some 59, _, _, _, _, _⟩) (v := ?_) rfl (by kernel_rfl) (by kernel_rfl) (by kernel_rfl) (fun _ _ _ h => h) (Or.inl ⟨by rfl, ?_⟩) (by assumption) ?_
        rotate_left
        · intro w hSw; (try dsimp only at hSw); go_simp; try with_reducible rfl
        (try simp only [Act.put, List.setIfInBounds_toArray, List.set_cons_zero, List.set_cons_succ])
        refine wpAnyH_take (i := 7) (oi := ⟨some 61, _, _, _, _, _⟩) (v := ?_) rfl (by kernel_rfl) (by kernel_rfl) (by kernel_rfl) (fun _ _ _ h => h) (Or.inl ⟨by rfl, ?_⟩) (by assumption) ?_
        rotate_left
        · intro w hSw; (try dsimp only at hSw); go_simp; try with_reducible rfl
        (try simp only [Act.put, List.setIfInBounds_toArray, List.set_cons_zero, List.set_cons_succ])
        refine wpAnyH_take (i := 9) (oi := ⟨some 63, _, _, _, _, _⟩) (v := ?_) rfl (by kernel_rfl) (by kernel_rfl) (by kernel_rfl) (fun _ _ _ h => h) (Or.inl ⟨by rfl, ?_⟩) (by assumption) ?_
        rotate_left
        · intro w hSw; (try dsimp only at hSw); go_simp; try with_reducible rfl
        (try simp only [Act.put, List.setIfInBounds_toArray, List.set_cons_zero, List.set_cons_succ])
        refine wpAnyH_take (i := 3) (oi := ⟨some 57, _, _, _, _, _⟩) (v := ?_) rfl (by kernel_rfl) (by kernel_rfl) (by kernel_rfl) (fun _ _ _ h => h) (Or.inl ⟨by rfl, ?_⟩) (by assumption) ?_
        rotate_left
        · intro w hSw; (try dsimp only at hSw); go_simp; try with_reducible rfl
        (try simp only [Act.put, List.setIfInBounds_toArray, List.set_cons_zero, List.set_cons_succ])
        refine wpAnyH_ready (rs := [10]) (by kernel_rfl) (by simp) ?_
        refine (AllReadyH.cons (o := ⟨some 64, _, _, _, _, _⟩) rfl (fun K hK => ?_) AllReadyH.nil)
        go_simp
        go_at_call 23
        refine (rnum_un (.pointer (some ⟨gy, 0, none⟩)) y.size y.low y.high _ (.inr ⟨gy, rfl, St.cell hN21 (off := 0) (.tail _ (.head _)) rfl⟩)).mono ?_
        rintro _ _ ⟨rfl, h4⟩
        have hN22 := St.call0 hN21 h4
        clear h4
        refine hK.out _ _ ?_ (fun hHeld => ?_)
        · exact ⟨ldS [] hN22 rfl, ldS [_, _, _, _] hN22 rfl, ldS [_, _, _, _] hN22 rfl, ldS [_, _, _, _] hN22 rfl⟩
        clear hK K
        (try simp only [Act.put, List.setIfInBounds_toArray, List.set_cons_zero, List.set_cons_succ])
        refine wpAnyH_take (i := 11) (oi := ⟨some 12, _, _, _, _, _⟩) (v := ?_) rfl (by kernel_rfl) (by kernel_rfl) (by kernel_rfl) (fun _ _ _ h => h) (Or.inl ⟨by rfl, ?_⟩) (by assumption) ?_
        rotate_left
        · intro w hSw; (try dsimp only at hSw); go_simp; try with_reducible rfl
        (try simp only [Act.put, List.setIfInBounds_toArray, List.set_cons_zero, List.set_cons_succ])
        refine wpAnyH_done (by kernel_rfl) ?_ _
        clear hHeld
        go_wp2_with (first | go_big_skip | go_big_guard | fail)
        have hN23 := hN22.drew
        clear hN22
        refine wp_region_held_drew (S := (fun w' => (loadVarH 45 ⟨gr, 1, none⟩).run Try.prog w' = .ok (.pointer (some ⟨gy, 0, none⟩)) w' ∧ (loadVarH 3 ⟨gk, 1, none⟩).run Try.prog w' = .ok (.int .i64 y.size) w')) (by kernel_rfl) (by exact ⟨ldS [] hN23 rfl, ldS [_, _, _, _] hN23 rfl⟩) (fun hHeld => ?_)
        refine wpAnyH_take (i := 0) (oi := ⟨some 65, _, _, _, _, _⟩) (v := ?_) rfl (by kernel_rfl) (by kernel_rfl) (by kernel_rfl) (fun _ _ _ h => h) (Or.inl ⟨by rfl, ?_⟩) (by assumption) ?_
        rotate_left
        · intro w hSw; (try dsimp only at hSw); go_simp; try with_reducible rfl
        (try simp only [Act.put, List.setIfInBounds_toArray, List.set_cons_zero, List.set_cons_succ])
        refine wpAnyH_take (i := 1) (oi := ⟨some 66, _, _, _, _, _⟩) (v := ?_) rfl (by kernel_rfl) (by kernel_rfl) (by kernel_rfl) (fun _ _ _ h => h) (Or.inl ⟨by rfl, ?_⟩) (by assumption) ?_
        rotate_left
        · intro w hSw; (try dsimp only at hSw); go_simp; try with_reducible rfl
        (try simp only [Act.put, List.setIfInBounds_toArray, List.set_cons_zero, List.set_cons_succ])
        refine wpAnyH_take (i := 4) (oi := ⟨some 69, _, _, _, _, _⟩) (v := ?_) rfl (by kernel_rfl) (by kernel_rfl) (by kernel_rfl) (fun _ _ _ h => h) (Or.inl ⟨by rfl, ?_⟩) (by assumption) ?_
        rotate_left
        · intro w hSw; (try dsimp only at hSw); go_simp; try with_reducible rfl
        (try simp only [Act.put, List.setIfInBounds_toArray, List.set_cons_zero, List.set_cons_succ])
        refine wpAnyH_take (i := 2) (oi := ⟨some 67, _, _, _, _, _⟩) (v := ?_) rfl (by kernel_rfl) (by kernel_rfl) (by kernel_rfl) (fun _ _ _ h => h) (Or.inl ⟨by rfl, ?_⟩) (by assumption) ?_
        rotate_left
        · intro w hSw; (try dsimp only at hSw); go_simp; try with_reducible rfl
        (try simp only [Act.put, List.setIfInBounds_toArray, List.set_cons_zero, List.set_cons_succ])
        refine wpAnyH_take (i := 5) (oi := ⟨some 70, _, _, _, _, _⟩) (v := ?_) rfl (by kernel_rfl) (by kernel_rfl) (by kernel_rfl) (fun _ _ _ h => h) (Or.inl ⟨by rfl, ?_⟩) (by assumption) ?_
        rotate_left
        · intro w hSw; (try dsimp only at hSw); go_simp; try with_reducible rfl
        (try simp only [Act.put, List.setIfInBounds_toArray, List.set_cons_zero, List.set_cons_succ])
        refine wpAnyH_take (i := 3) (oi := ⟨some 68, _, _, _, _, _⟩) (v := ?_) rfl (by kernel_rfl) (by kernel_rfl) (by kernel_rfl) (fun _ _ _ h => h) (Or.inl ⟨by rfl, ?_⟩) (by assumption) ?_
        rotate_left
        · intro w hSw; (try dsimp only at hSw); go_simp; try with_reducible rfl
        (try simp only [Act.put, List.setIfInBounds_toArray, List.set_cons_zero, List.set_cons_succ])
        refine wpAnyH_ready (rs := [6]) (by kernel_rfl) (by simp) ?_
        refine (AllReadyH.cons (o := ⟨some 71, _, _, _, _, _⟩) rfl (fun K hK => ?_) AllReadyH.nil)
        go_simp
        go_at_call 24
        refine (rtext_un (.pointer (some ⟨gy, 0, none⟩)) y.size _ (.inr ⟨gy, rfl, St.cell hN23 (off := 0) (.tail _ (.head _)) rfl⟩)).mono ?_
        rintro _ _ ⟨rfl, h4⟩
        have hN24 := St.call0 hN23 h4
        clear h4
        refine hK.out _ _ ?_ (fun hHeld => ?_)
        · exact ⟨ldS [] hN24 rfl, ldS [_, _, _, _] hN24 rfl⟩
        clear hK K
        (try simp only [Act.put, List.setIfInBounds_toArray, List.set_cons_zero, List.set_cons_succ])
        refine wpAnyH_take (i := 7) (oi := ⟨some 13, _, _, _, _, _⟩) (v := ?_) rfl (by kernel_rfl) (by kernel_rfl) (by kernel_rfl) (fun _ _ _ h => h) (Or.inl ⟨by rfl, ?_⟩) (by assumption) ?_
        rotate_left
        · intro w hSw; (try dsimp only at hSw); go_simp; try with_reducible rfl
        (try simp only [Act.put, List.setIfInBounds_toArray, List.set_cons_zero, List.set_cons_succ])
        refine wpAnyH_done (by kernel_rfl) ?_ _
        clear hHeld
        go_wp2_with (first | go_big_skip | go_big_guard | fail)
        have hN25 := hN24.drew
        clear hN24
        refine wp_region_held_drew (S := (fun w' => (loadVarH 45 ⟨gr, 1, none⟩).run Try.prog w' = .ok (.pointer (some ⟨gy, 0, none⟩)) w' ∧ (loadVarH 3 ⟨gk, 1, none⟩).run Try.prog w' = .ok (.int .i64 y.size) w')) (by kernel_rfl) (by exact ⟨ldS [] hN25 rfl, ldS [_, _, _, _] hN25 rfl⟩) (fun hHeld => ?_)
        refine wpAnyH_take (i := 0) (oi := ⟨some 72, _, _, _, _, _⟩) (v := ?_) rfl (by kernel_rfl) (by kernel_rfl) (by kernel_rfl) (fun _ _ _ h => h) (Or.inl ⟨by rfl, ?_⟩) (by assumption) ?_
        rotate_left
        · intro w hSw; (try dsimp only at hSw); go_simp; try with_reducible rfl
        (try simp only [Act.put, List.setIfInBounds_toArray, List.set_cons_zero, List.set_cons_succ])
        refine wpAnyH_take (i := 1) (oi := ⟨some 73, _, _, _, _, _⟩) (v := ?_) rfl (by kernel_rfl) (by kernel_rfl) (by kernel_rfl) (fun _ _ _ h => h) (Or.inl ⟨by rfl, ?_⟩) (by assumption) ?_
        rotate_left
        · intro w hSw; (try dsimp only at hSw); go_simp; try with_reducible rfl
        (try simp only [Act.put, List.setIfInBounds_toArray, List.set_cons_zero, List.set_cons_succ])
        refine wpAnyH_take (i := 4) (oi := ⟨some 76, _, _, _, _, _⟩) (v := ?_) rfl (by kernel_rfl) (by kernel_rfl) (by kernel_rfl) (fun _ _ _ h => h) (Or.inl ⟨by rfl, ?_⟩) (by assumption) ?_
        rotate_left
        · intro w hSw; (try dsimp only at hSw); go_simp; try with_reducible rfl
        (try simp only [Act.put, List.setIfInBounds_toArray, List.set_cons_zero, List.set_cons_succ])
        refine wpAnyH_take (i := 2) (oi := ⟨some 74, _, _, _, _, _⟩) (v := ?_) rfl (by kernel_rfl) (by kernel_rfl) (by kernel_rfl) (fun _ _ _ h => h) (Or.inl ⟨by rfl, ?_⟩) (by assumption) ?_
        rotate_left
        · intro w hSw; (try dsimp only at hSw); go_simp; try with_reducible rfl
        (try simp only [Act.put, List.setIfInBounds_toArray, List.set_cons_zero, List.set_cons_succ])
        refine wpAnyH_take (i := 5) (oi := ⟨some 77, _, _, _, _, _⟩) (v := ?_) rfl (by kernel_rfl) (by kernel_rfl) (by kernel_rfl) (fun _ _ _ h => h) (Or.inl ⟨by rfl, ?_⟩) (by assumption) ?_
        rotate_left
        · intro w hSw; (try dsimp only at hSw); go_simp; try with_reducible rfl
        (try simp only [Act.put, List.setIfInBounds_toArray, List.set_cons_zero, List.set_cons_succ])
        refine wpAnyH_take (i := 3) (oi := ⟨some 75, _, _, _, _, _⟩) (v := ?_) rfl (by kernel_rfl) (by kernel_rfl) (by kernel_rfl) (fun _ _ _ h => h) (Or.inl ⟨by rfl, ?_⟩) (by assumption) ?_
        rotate_left
        · intro w hSw; (try dsimp only at hSw); go_simp; try with_reducible rfl
        (try simp only [Act.put, List.setIfInBounds_toArray, List.set_cons_zero, List.set_cons_succ])
        refine wpAnyH_ready (rs := [6]) (by kernel_rfl) (by simp) ?_
        refine (AllReadyH.cons (o := ⟨some 78, _, _, _, _, _⟩) rfl (fun K hK => ?_) AllReadyH.nil)
        go_simp
        go_at_call 36
        refine (rraw_un (.pointer (some ⟨gy, 0, none⟩)) y.size _ (.inr ⟨gy, rfl, St.cell hN25 (off := 0) (.tail _ (.head _)) rfl⟩)).mono ?_
        rintro _ _ ⟨rfl, h4⟩
        have hN26 := St.call0 hN25 h4
        clear h4
        refine hK.out _ _ ?_ (fun hHeld => ?_)
        · exact ⟨ldS [] hN26 rfl, ldS [_, _, _, _] hN26 rfl⟩
        clear hK K
        (try simp only [Act.put, List.setIfInBounds_toArray, List.set_cons_zero, List.set_cons_succ])
        refine wpAnyH_take (i := 7) (oi := ⟨some 14, _, _, _, _, _⟩) (v := ?_) rfl (by kernel_rfl) (by kernel_rfl) (by kernel_rfl) (fun _ _ _ h => h) (Or.inl ⟨by rfl, ?_⟩) (by assumption) ?_
        rotate_left
        · intro w hSw; (try dsimp only at hSw); go_simp; try with_reducible rfl
        (try simp only [Act.put, List.setIfInBounds_toArray, List.set_cons_zero, List.set_cons_succ])
        refine wpAnyH_done (by kernel_rfl) ?_ _
        clear hHeld
        go_wp2_with (first | go_big_skip | go_big_guard | (refine wl_loadE rfl rfl rfl ?_; first | refine ⟨_, Loads.at [] hN26 rfl, ?_⟩) | (go_at_call 25; refine (rrest_un (.pointer (some ⟨gy, 0, none⟩)) _ (.inr ⟨gy, rfl, St.cell hN26 (off := 0) (.tail _ (.head _)) rfl⟩)).mono ?_; rintro _ _ ⟨rfl, h4⟩; have hN27 := St.call0 hN26 h4; clear h4 hN26) | (refine wl_buildX (cs := [.int .i64 1, .int .i64 0]) [(0, .int .i64 1)] rfl rfl (by exact rfl) (by kernel_rfl) ?_) | (refine wl_alloc hN27 rfl rfl ?_; intro gg _ hN28; clear hN27) | (refine wl_storeA [] hN28 rfl rfl rfl rfl rfl rfl rfl ?_; intro _ hN29; clear hN28))
        have hN30 := hN29.drew
        clear hN29
        refine wp_region_held_drew (S := (fun w' => (loadVarH 45 ⟨gr, 1, none⟩).run Try.prog w' = .ok (.pointer (some ⟨gy, 0, none⟩)) w' ∧ (loadVarH 50 ⟨gg, 0, none⟩).run Try.prog w' = .ok (.agg (List.toArray ([.int .i64 1, .int .i64 0]))) w')) (by kernel_rfl) (by exact ⟨ldS [_] hN30 rfl, ldA ([.int .i64 1, .int .i64 0]) [] hN30 (rfl) (rfl)⟩) (fun hHeld => ?_)
        refine wpAnyH_take (i := 0) (oi := ⟨some 85, _, _, _, _, _⟩) (v := ?_) rfl (by kernel_rfl) (by kernel_rfl) (by kernel_rfl) (fun _ _ _ h => h) (Or.inl ⟨by rfl, ?_⟩) (by assumption) ?_
        rotate_left
        · intro w hSw; (try dsimp only at hSw); go_simp; try with_reducible rfl
        (try simp only [Act.put, List.setIfInBounds_toArray, List.set_cons_zero, List.set_cons_succ])
        refine wpAnyH_take (i := 1) (oi := ⟨some 86, _, _, _, _, _⟩) (v := ?_) rfl (by kernel_rfl) (by kernel_rfl) (by kernel_rfl) (fun _ _ _ h => h) (Or.inl ⟨by rfl, ?_⟩) (by assumption) ?_
        rotate_left
        · intro w hSw; (try dsimp only at hSw); go_simp; try with_reducible rfl
        (try simp only [Act.put, List.setIfInBounds_toArray, List.set_cons_zero, List.set_cons_succ])
        refine wpAnyH_take (i := 2) (oi := ⟨some 87, _, _, _, _, _⟩) (v := ?_) rfl (by kernel_rfl) (by kernel_rfl) (by kernel_rfl) (fun _ _ _ h => h) (Or.inl ⟨by rfl, ?_⟩) (by assumption) ?_
        rotate_left
        · intro w hSw; (try dsimp only at hSw); go_simp; try with_reducible rfl
        (try simp only [Act.put, List.setIfInBounds_toArray, List.set_cons_zero, List.set_cons_succ])
        refine wpAnyH_take (i := 3) (oi := ⟨some 88, _, _, _, _, _⟩) (v := ?_) rfl (by kernel_rfl) (by kernel_rfl) (by kernel_rfl) (fun _ _ _ h => h) (Or.inl ⟨by rfl, ?_⟩) (by assumption) ?_
        rotate_left
        · intro w hSw; (try dsimp only at hSw); go_simp; try with_reducible rfl
        (try simp only [Act.put, List.setIfInBounds_toArray, List.set_cons_zero, List.set_cons_succ])
        refine wpAnyH_take (i := 4) (oi := ⟨some 89, _, _, _, _, _⟩) (v := ?_) rfl (by kernel_rfl) (by kernel_rfl) (by kernel_rfl) (fun _ _ _ h => h) (Or.inl ⟨by rfl, ?_⟩) (by assumption) ?_
        rotate_left
        · intro w hSw; (try dsimp only at hSw); go_simp; try with_reducible rfl
        (try simp only [Act.put, List.setIfInBounds_toArray, List.set_cons_zero, List.set_cons_succ])
        refine wpAnyH_take (i := 5) (oi := ⟨some 90, _, _, _, _, _⟩) (v := ?_) rfl (by kernel_rfl) (by kernel_rfl) (by kernel_rfl) (fun _ _ _ h => h) (Or.inl ⟨by rfl, ?_⟩) (by assumption) ?_
        rotate_left
        · intro w hSw; (try dsimp only at hSw); go_simp; try with_reducible rfl
        (try simp only [Act.put, List.setIfInBounds_toArray, List.set_cons_zero, List.set_cons_succ])
        refine wpAnyH_take (i := 6) (oi := ⟨some 91, _, _, _, _, _⟩) (v := ?_) rfl (by kernel_rfl) (by kernel_rfl) (by kernel_rfl) (fun _ _ _ h => h) (Or.inl ⟨by rfl, ?_⟩) (by assumption) ?_
        rotate_left
        · intro w hSw; (try dsimp only at hSw); go_simp; try with_reducible rfl
        (try simp only [Act.put, List.setIfInBounds_toArray, List.set_cons_zero, List.set_cons_succ])
        refine wpAnyH_take (i := 7) (oi := ⟨some 92, _, _, _, _, _⟩) (v := ?_) rfl (by kernel_rfl) (by kernel_rfl) (by kernel_rfl) (fun _ _ _ h => h) (Or.inl ⟨by rfl, ?_⟩) (by assumption) ?_
        rotate_left
        · intro w hSw; (try dsimp only at hSw); go_simp; try with_reducible rfl
        (try simp only [Act.put, List.setIfInBounds_toArray, List.set_cons_zero, List.set_cons_succ])
        refine wpAnyH_take (i := 8) (oi := ⟨some 93, _, _, _, _, _⟩) (v := ?_) rfl (by kernel_rfl) (by kernel_rfl) (by kernel_rfl) (fun _ _ _ h => h) (Or.inl ⟨by rfl, ?_⟩) (by assumption) ?_
        rotate_left
        · intro w hSw; (try dsimp only at hSw); go_simp; try with_reducible rfl
        (try simp only [Act.put, List.setIfInBounds_toArray, List.set_cons_zero, List.set_cons_succ])
        refine wpAnyH_take (i := 9) (oi := ⟨some 94, _, _, _, _, _⟩) (v := ?_) rfl (by kernel_rfl) (by kernel_rfl) (by kernel_rfl) (fun _ _ _ h => h) (Or.inl ⟨by rfl, ?_⟩) (by assumption) ?_
        rotate_left
        · intro w hSw; (try dsimp only at hSw); go_simp; try with_reducible rfl
        (try simp only [Act.put, List.setIfInBounds_toArray, List.set_cons_zero, List.set_cons_succ])
        refine wpAnyH_take (i := 10) (oi := ⟨some 95, _, _, _, _, _⟩) (v := ?_) rfl (by kernel_rfl) (by kernel_rfl) (by kernel_rfl) (fun _ _ _ h => h) (Or.inl ⟨by rfl, ?_⟩) (by assumption) ?_
        rotate_left
        · intro w hSw; (try dsimp only at hSw); go_simp; try with_reducible rfl
        (try simp only [Act.put, List.setIfInBounds_toArray, List.set_cons_zero, List.set_cons_succ])
        refine wpAnyH_take (i := 11) (oi := ⟨some 96, _, _, _, _, _⟩) (v := ?_) rfl (by kernel_rfl) (by kernel_rfl) (by kernel_rfl) (fun _ _ _ h => h) (Or.inl ⟨by rfl, ?_⟩) (by assumption) ?_
        rotate_left
        · intro w hSw; (try dsimp only at hSw); go_simp; try with_reducible rfl
        (try simp only [Act.put, List.setIfInBounds_toArray, List.set_cons_zero, List.set_cons_succ])
        refine wpAnyH_take (i := 12) (oi := ⟨some 97, _, _, _, _, _⟩) (v := ?_) rfl (by kernel_rfl) (by kernel_rfl) (by kernel_rfl) (fun _ _ _ h => h) (Or.inl ⟨by rfl, ?_⟩) (by assumption) ?_
        rotate_left
        · intro w hSw; (try dsimp only at hSw); go_simp; try with_reducible rfl
        (try simp only [Act.put, List.setIfInBounds_toArray, List.set_cons_zero, List.set_cons_succ])
        refine wpAnyH_take (i := 13) (oi := ⟨some 98, _, _, _, _, _⟩) (v := ?_) rfl (by kernel_rfl) (by kernel_rfl) (by kernel_rfl) (fun _ _ _ h => h) (Or.inl ⟨by rfl, ?_⟩) (by assumption) ?_
        rotate_left
        · intro w hSw; (try dsimp only at hSw); go_simp; try with_reducible rfl
        (try simp only [Act.put, List.setIfInBounds_toArray, List.set_cons_zero, List.set_cons_succ])
        refine wpAnyH_take (i := 14) (oi := ⟨some 99, _, _, _, _, _⟩) (v := ?_) rfl (by kernel_rfl) (by kernel_rfl) (by kernel_rfl) (fun _ _ _ h => h) (Or.inl ⟨by rfl, ?_⟩) (by assumption) ?_
        rotate_left
        · intro w hSw; (try dsimp only at hSw); go_simp; try with_reducible rfl
        (try simp only [Act.put, List.setIfInBounds_toArray, List.set_cons_zero, List.set_cons_succ])
        refine wpAnyH_take (i := 15) (oi := ⟨some 100, _, _, _, _, _⟩) (v := ?_) rfl (by kernel_rfl) (by kernel_rfl) (by kernel_rfl) (fun _ _ _ h => h) (Or.inl ⟨by rfl, ?_⟩) (by assumption) ?_
        rotate_left
        · intro w hSw; (try dsimp only at hSw); go_simp; try with_reducible rfl
        (try simp only [Act.put, List.setIfInBounds_toArray, List.set_cons_zero, List.set_cons_succ])
        refine wpAnyH_ready (rs := [16]) (by kernel_rfl) (by simp) ?_
        refine (AllReadyH.cons (o := ⟨some 101, _, _, _, _, _⟩) rfl (fun K hK => ?_) AllReadyH.nil)
        go_simp
        go_at_call 31
        refine (rat_un (.pointer (some ⟨gy, 0, none⟩)) _ (.inr ⟨gy, rfl, St.cell hN30 (off := 0) (.tail _ (.tail _ (.head _))) rfl⟩)).mono ?_
        rintro _ _ ⟨rfl, h4⟩
        have hN31 := St.call0 hN30 h4
        clear h4
        refine hK.out _ _ ?_ (fun hHeld => ?_)
        · exact ⟨ldS [_] hN31 rfl, ldA ([.int .i64 1, .int .i64 0]) [] hN31 (rfl) (rfl)⟩
        clear hK K
        (try simp only [Act.put, List.setIfInBounds_toArray, List.set_cons_zero, List.set_cons_succ])
        refine wpAnyH_take (i := 17) (oi := ⟨some 102, _, _, _, _, _⟩) (v := ?_) rfl (by kernel_rfl) (by kernel_rfl) (by kernel_rfl) (fun _ _ _ h => h) (Or.inl ⟨by rfl, ?_⟩) (by assumption) ?_
        rotate_left
        · intro w hSw; (try dsimp only at hSw); go_simp; try with_reducible rfl
        (try simp only [Act.put, List.setIfInBounds_toArray, List.set_cons_zero, List.set_cons_succ])
        refine wpAnyH_take (i := 18) (oi := ⟨some 103, _, _, _, _, _⟩) (v := ?_) rfl (by kernel_rfl) (by kernel_rfl) (by kernel_rfl) (fun _ _ _ h => h) (Or.inl ⟨by rfl, ?_⟩) (by assumption) ?_
        rotate_left
        · intro w hSw; (try dsimp only at hSw); go_simp; try with_reducible rfl
        (try simp only [Act.put, List.setIfInBounds_toArray, List.set_cons_zero, List.set_cons_succ])
        refine wpAnyH_take (i := 19) (oi := ⟨some 104, _, _, _, _, _⟩) (v := ?_) rfl (by kernel_rfl) (by kernel_rfl) (by kernel_rfl) (fun _ _ _ h => h) (Or.inl ⟨by rfl, ?_⟩) (by assumption) ?_
        rotate_left
        · intro w hSw; (try dsimp only at hSw); go_simp; try with_reducible rfl
        (try simp only [Act.put, List.setIfInBounds_toArray, List.set_cons_zero, List.set_cons_succ])
        refine wpAnyH_take (i := 20) (oi := ⟨some 105, _, _, _, _, _⟩) (v := ?_) rfl (by kernel_rfl) (by kernel_rfl) (by kernel_rfl) (fun _ _ _ h => h) (Or.inl ⟨by rfl, ?_⟩) (by assumption) ?_
        rotate_left
        · intro w hSw; (try dsimp only at hSw); go_simp; try with_reducible rfl
        (try simp only [Act.put, List.setIfInBounds_toArray, List.set_cons_zero, List.set_cons_succ])
        refine wpAnyH_take (i := 21) (oi := ⟨some 106, _, _, _, _, _⟩) (v := ?_) rfl (by kernel_rfl) (by kernel_rfl) (by kernel_rfl) (fun _ _ _ h => h) (Or.inl ⟨by rfl, ?_⟩) (by assumption) ?_
        rotate_left
        · intro w hSw; (try dsimp only at hSw); go_simp; try with_reducible rfl
        (try simp only [Act.put, List.setIfInBounds_toArray, List.set_cons_zero, List.set_cons_succ])
        refine wpAnyH_take (i := 22) (oi := ⟨some 107, _, _, _, _, _⟩) (v := ?_) rfl (by kernel_rfl) (by kernel_rfl) (by kernel_rfl) (fun _ _ _ h => h) (Or.inl ⟨by rfl, ?_⟩) (by assumption) ?_
        rotate_left
        · intro w hSw; (try dsimp only at hSw); go_simp; try with_reducible rfl
        (try simp only [Act.put, List.setIfInBounds_toArray, List.set_cons_zero, List.set_cons_succ])
        refine wpAnyH_take (i := 23) (oi := ⟨some 108, _, _, _, _, _⟩) (v := ?_) rfl (by kernel_rfl) (by kernel_rfl) (by kernel_rfl) (fun _ _ _ h => h) (Or.inl ⟨by rfl, ?_⟩) (by assumption) ?_
        rotate_left
        · intro w hSw; (try dsimp only at hSw); go_simp; try with_reducible rfl
        (try simp only [Act.put, List.setIfInBounds_toArray, List.set_cons_zero, List.set_cons_succ])
        refine wpAnyH_ready (rs := [24]) (by kernel_rfl) (by simp) ?_
        refine (AllReadyH.cons (o := ⟨some 109, _, _, _, _, _⟩) rfl (fun K hK => ?_) AllReadyH.nil)
        go_simp
        go_at_call 32
        refine (rleft_un (.pointer (some ⟨gy, 0, none⟩)) _ (.inr ⟨gy, rfl, St.cell hN31 (off := 0) (.tail _ (.tail _ (.head _))) rfl⟩)).mono ?_
        rintro _ _ ⟨rfl, h4⟩
        have hN32 := St.call0 hN31 h4
        clear h4
        refine hK.out _ _ ?_ (fun hHeld => ?_)
        · exact ⟨ldS [_] hN32 rfl, ldA ([.int .i64 1, .int .i64 0]) [] hN32 (rfl) (rfl)⟩
        clear hK K
        (try simp only [Act.put, List.setIfInBounds_toArray, List.set_cons_zero, List.set_cons_succ])
        refine wpAnyH_take (i := 25) (oi := ⟨some 110, _, _, _, _, _⟩) (v := ?_) rfl (by kernel_rfl) (by kernel_rfl) (by kernel_rfl) (fun _ _ _ h => h) (Or.inl ⟨by rfl, ?_⟩) (by assumption) ?_
        rotate_left
        · intro w hSw; (try dsimp only at hSw); go_simp; try with_reducible rfl
        (try simp only [Act.put, List.setIfInBounds_toArray, List.set_cons_zero, List.set_cons_succ])
        refine wpAnyH_take (i := 26) (oi := ⟨some 111, _, _, _, _, _⟩) (v := ?_) rfl (by kernel_rfl) (by kernel_rfl) (by kernel_rfl) (fun _ _ _ h => h) (Or.inl ⟨by rfl, ?_⟩) (by assumption) ?_
        rotate_left
        · intro w hSw; (try dsimp only at hSw); go_simp; try with_reducible rfl
        (try simp only [Act.put, List.setIfInBounds_toArray, List.set_cons_zero, List.set_cons_succ])
        refine wpAnyH_take (i := 27) (oi := ⟨some 112, _, _, _, _, _⟩) (v := ?_) rfl (by kernel_rfl) (by kernel_rfl) (by kernel_rfl) (fun _ _ _ h => h) (Or.inl ⟨by rfl, ?_⟩) (by assumption) ?_
        rotate_left
        · intro w hSw; (try dsimp only at hSw); go_simp; try with_reducible rfl
        (try simp only [Act.put, List.setIfInBounds_toArray, List.set_cons_zero, List.set_cons_succ])
        refine wpAnyH_take (i := 28) (oi := ⟨some 113, _, _, _, _, _⟩) (v := ?_) rfl (by kernel_rfl) (by kernel_rfl) (by kernel_rfl) (fun _ _ _ h => h) (Or.inl ⟨by rfl, ?_⟩) (by assumption) ?_
        rotate_left
        · intro w hSw; (try dsimp only at hSw); go_simp; try with_reducible rfl
        (try simp only [Act.put, List.setIfInBounds_toArray, List.set_cons_zero, List.set_cons_succ])
        refine wpAnyH_take (i := 29) (oi := ⟨some 114, _, _, _, _, _⟩) (v := ?_) rfl (by kernel_rfl) (by kernel_rfl) (by kernel_rfl) (fun _ _ _ h => h) (Or.inl ⟨by rfl, ?_⟩) (by assumption) ?_
        rotate_left
        · intro w hSw; (try dsimp only at hSw); go_simp; try with_reducible rfl
        (try simp only [Act.put, List.setIfInBounds_toArray, List.set_cons_zero, List.set_cons_succ])
        refine wpAnyH_take (i := 33) (oi := ⟨some 118, _, _, _, _, _⟩) (v := ?_) rfl (by kernel_rfl) (by kernel_rfl) (by kernel_rfl) (fun _ _ _ h => h) (Or.inl ⟨by rfl, ?_⟩) (by assumption) ?_
        rotate_left
        · intro w hSw; (try dsimp only at hSw); go_simp; try with_reducible rfl
        (try simp only [Act.put, List.setIfInBounds_toArray, List.set_cons_zero, List.set_cons_succ])
        refine wpAnyH_take (i := 30) (oi := ⟨some 115, _, _, _, _, _⟩) (v := ?_) rfl (by kernel_rfl) (by kernel_rfl) (by kernel_rfl) (fun _ _ _ h => h) (Or.inl ⟨by rfl, ?_⟩) (by assumption) ?_
        rotate_left
        · intro w hSw; (try dsimp only at hSw); go_simp; try with_reducible rfl
        (try simp only [Act.put, List.setIfInBounds_toArray, List.set_cons_zero, List.set_cons_succ])
        refine wpAnyH_take (i := 31) (oi := ⟨some 116, _, _, _, _, _⟩) (v := ?_) rfl (by kernel_rfl) (by kernel_rfl) (by kernel_rfl) (fun _ _ _ h => h) (Or.inl ⟨by rfl, ?_⟩) (by assumption) ?_
        rotate_left
        · intro w hSw; (try dsimp only at hSw); go_simp; try with_reducible rfl
        (try simp only [Act.put, List.setIfInBounds_toArray, List.set_cons_zero, List.set_cons_succ])
        refine wpAnyH_ready (rs := [32]) (by kernel_rfl) (by simp) ?_
        refine (AllReadyH.cons (o := ⟨some 117, _, _, _, _, _⟩) rfl (fun K hK => ?_) AllReadyH.nil)
        go_simp
        go_at_call 26
        refine (rfault_un (.pointer (some ⟨gy, 0, none⟩)) _ (.inr ⟨gy, rfl, St.cell hN32 (off := 0) (.tail _ (.tail _ (.head _))) rfl⟩)).mono ?_
        rintro _ _ ⟨rfl, h4⟩
        have hN33 := St.call0 hN32 h4
        clear h4
        refine hK.out _ _ ?_ (fun hHeld => ?_)
        · exact ⟨ldS [_] hN33 rfl, ldA ([.int .i64 1, .int .i64 0]) [] hN33 (rfl) (rfl)⟩
        clear hK K
        (try simp only [Act.put, List.setIfInBounds_toArray, List.set_cons_zero, List.set_cons_succ])
        refine wpAnyH_take (i := 34) (oi := ⟨some 119, _, _, _, _, _⟩) (v := ?_) rfl (by kernel_rfl) (by kernel_rfl) (by kernel_rfl) (fun _ _ _ h => h) (Or.inl ⟨by rfl, ?_⟩) (by assumption) ?_
        rotate_left
        · intro w hSw; (try dsimp only at hSw); go_simp; try with_reducible rfl
        (try simp only [Act.put, List.setIfInBounds_toArray, List.set_cons_zero, List.set_cons_succ])
        refine wpAnyH_take (i := 35) (oi := ⟨some 120, _, _, _, _, _⟩) (v := ?_) rfl (by kernel_rfl) (by kernel_rfl) (by kernel_rfl) (fun _ _ _ h => h) (Or.inl ⟨by rfl, ?_⟩) (by assumption) ?_
        rotate_left
        · intro w hSw; (try dsimp only at hSw); go_simp; try with_reducible rfl
        (try simp only [Act.put, List.setIfInBounds_toArray, List.set_cons_zero, List.set_cons_succ])
        refine wpAnyH_take (i := 36) (oi := ⟨some 121, _, _, _, _, _⟩) (v := ?_) rfl (by kernel_rfl) (by kernel_rfl) (by kernel_rfl) (fun _ _ _ h => h) (Or.inl ⟨by rfl, ?_⟩) (by assumption) ?_
        rotate_left
        · intro w hSw; (try dsimp only at hSw); go_simp; try with_reducible rfl
        (try simp only [Act.put, List.setIfInBounds_toArray, List.set_cons_zero, List.set_cons_succ])
        refine wpAnyH_take (i := 37) (oi := ⟨some 122, _, _, _, _, _⟩) (v := ?_) rfl (by kernel_rfl) (by kernel_rfl) (by kernel_rfl) (fun _ _ _ h => h) (Or.inl ⟨by rfl, ?_⟩) (by assumption) ?_
        rotate_left
        · intro w hSw; (try dsimp only at hSw); go_simp; try with_reducible rfl
        (try simp only [Act.put, List.setIfInBounds_toArray, List.set_cons_zero, List.set_cons_succ])
        refine wpAnyH_take (i := 38) (oi := ⟨some 123, _, _, _, _, _⟩) (v := ?_) rfl (by kernel_rfl) (by kernel_rfl) (by kernel_rfl) (fun _ _ _ h => h) (Or.inl ⟨by rfl, ?_⟩) (by assumption) ?_
        rotate_left
        · intro w hSw; (try dsimp only at hSw); go_simp; try with_reducible rfl
        (try simp only [Act.put, List.setIfInBounds_toArray, List.set_cons_zero, List.set_cons_succ])
        refine wpAnyH_take (i := 42) (oi := ⟨some 127, _, _, _, _, _⟩) (v := ?_) rfl (by kernel_rfl) (by kernel_rfl) (by kernel_rfl) (fun _ _ _ h => h) (Or.inl ⟨by rfl, ?_⟩) (by assumption) ?_
        rotate_left
        · intro w hSw; (try dsimp only at hSw); go_simp; try with_reducible rfl
        (try simp only [Act.put, List.setIfInBounds_toArray, List.set_cons_zero, List.set_cons_succ])
        refine wpAnyH_take (i := 39) (oi := ⟨some 124, _, _, _, _, _⟩) (v := ?_) rfl (by kernel_rfl) (by kernel_rfl) (by kernel_rfl) (fun _ _ _ h => h) (Or.inl ⟨by rfl, ?_⟩) (by assumption) ?_
        rotate_left
        · intro w hSw; (try dsimp only at hSw); go_simp; try with_reducible rfl
        (try simp only [Act.put, List.setIfInBounds_toArray, List.set_cons_zero, List.set_cons_succ])
        refine wpAnyH_take (i := 40) (oi := ⟨some 125, _, _, _, _, _⟩) (v := ?_) rfl (by kernel_rfl) (by kernel_rfl) (by kernel_rfl) (fun _ _ _ h => h) (Or.inl ⟨by rfl, ?_⟩) (by assumption) ?_
        rotate_left
        · intro w hSw; (try dsimp only at hSw); go_simp; try with_reducible rfl
        (try simp only [Act.put, List.setIfInBounds_toArray, List.set_cons_zero, List.set_cons_succ])
        refine wpAnyH_ready (rs := [41]) (by kernel_rfl) (by simp) ?_
        refine (AllReadyH.cons (o := ⟨some 126, _, _, _, _, _⟩) rfl (fun K hK => ?_) AllReadyH.nil)
        go_simp
        go_at_call 27
        refine (rend_un (.pointer (some ⟨gy, 0, none⟩)) _ (.inr ⟨gy, rfl, St.cell hN33 (off := 0) (.tail _ (.tail _ (.head _))) rfl⟩)).mono ?_
        rintro _ _ ⟨rfl, h4⟩
        have hN34 := St.call0 hN33 h4
        clear h4
        refine hK.out _ _ ?_ (fun hHeld => ?_)
        · exact ⟨ldS [_] hN34 rfl, ldA ([.int .i64 1, .int .i64 0]) [] hN34 (rfl) (rfl)⟩
        clear hK K
        (try simp only [Act.put, List.setIfInBounds_toArray, List.set_cons_zero, List.set_cons_succ])
        refine wpAnyH_take (i := 43) (oi := ⟨some 128, _, _, _, _, _⟩) (v := ?_) rfl (by kernel_rfl) (by kernel_rfl) (by kernel_rfl) (fun _ _ _ h => h) (Or.inl ⟨by rfl, ?_⟩) (by assumption) ?_
        rotate_left
        · intro w hSw; (try dsimp only at hSw); go_simp; try with_reducible rfl
        (try simp only [Act.put, List.setIfInBounds_toArray, List.set_cons_zero, List.set_cons_succ])
        refine wpAnyH_take (i := 44) (oi := ⟨some 129, _, _, _, _, _⟩) (v := ?_) rfl (by kernel_rfl) (by kernel_rfl) (by kernel_rfl) (fun _ _ _ h => h) (Or.inl ⟨by rfl, ?_⟩) (by assumption) ?_
        rotate_left
        · intro w hSw; (try dsimp only at hSw); go_simp; try with_reducible rfl
        (try simp only [Act.put, List.setIfInBounds_toArray, List.set_cons_zero, List.set_cons_succ])
        refine wpAnyH_done (by kernel_rfl) ?_ _
        clear hHeld
        go_wp2_with (first | go_big_skip | go_big_guard | fail)
        go_roundw
        case rel => exact ⟨.inr (.inr rfl), St.sub hN34 (.cons _ (List.Sublist.refl _))⟩
        case measure => simp [intOf]
      · go_wp2_with (first | go_big_skip | go_big_guard | (go_at_call 12; refine (awake_any _).mono ?_; rintro _ _ ⟨rfl, h4⟩; have hfin := (St.call0 hst h4).nil; clear h4 hst))
        go_ret
        exact ⟨rfl, hfin⟩
  · go_enter Try.func7, Try.ntmps7
    go_wp2_with (first | go_big_skip | go_big_guard | (refine wl_boxA hst rfl rfl rfl ?_; intro gx _ hst1; clear hst) | (refine wl_boxA hst1 rfl rfl rfl ?_; intro gk _ hst2; clear hst1) | (refine wl_loadE rfl rfl rfl ?_; first | refine ⟨_, Loads.atA ([.int .i64 x.kind, .int .i64 x.n, .int .i64 x.size, .string ⟨x.s.toArray⟩, .slice x.au x.m x.cu]) [_] hst2 (rfl) (rfl), ?_⟩) | (apply wl_bsX [.agg (List.toArray [.int .i64 x.kind, .int .i64 x.n, .int .i64 x.size, .string ⟨x.s.toArray⟩, .slice x.au x.m x.cu])] ([x].flatMap AV.cells) hst2; rfl; rfl; (kernel_rfl); (kernel_rfl); infer_instance; infer_instance; rfl; rfl; rfl; intro gs _ hst3; clear hst2) | (go_at_call 11; refine (long_yes (some ⟨gs, 0, none⟩) 1 1 [x] _ (Rd.blk0 hst3 rfl (by decide)) rfl (fun z hz => by rw [List.mem_singleton] at hz; subst hz; exact HX0.out.old hst3) hs).mono ?_; rintro _ _ ⟨rfl, h4⟩; have hst4 := (St.call0 hst3 h4).sub (.cons _ (List.Sublist.refl _)); clear h4 hst3) | (go_at_call 12; refine (awake_any _).mono ?_; rintro _ _ ⟨rfl, h4⟩; have hfin := (St.call0 hst4 h4).nil; clear h4 hst4))
    go_ret
    exact ⟨rfl, hfin⟩
end
end Go.Proofs.Ytlgioloanjjndaa
namespace Go.Proofs.Ytlgioloanjjndaa
set_option linter.unusedVariables false
set_option linter.unusedSimpArgs false
open Go.ChangeShapes Go.WideShapes Go.ChangeAt Go.RowKit Go.Deep Go.Lib Go.Joins Hp
theorem open_actV {H : Type} {enc : TypeId × Value → H} {W : World} {base fuel : Nat} {v : Value} {x : DataW H × List MemPlace} (hv : Value.okWide Try.prog W .any base 34 v)
    (h : DataW.trod enc Try.prog W 0 (fun _ => true) true fuel 34 v.cells.toList = some x) : ∃ a : AV, v = .agg a.cells.toArray ∧ a.Ok0 W := by
  unfold Value.okWide at hv
  rw [Try.underlying34] at hv
  obtain ⟨cs, rfl, hsz, _⟩ := hv
  rw [cellsA] at hsz
  obtain ⟨L, rfl⟩ : ∃ L : List Value, cs = L.toArray := ⟨cs.toList, rfl⟩
  have hL : L.length = 5 := by simpa using hsz
  obtain ⟨a, rfl, ha⟩ := open_act hL h
  exact ⟨a, rfl, ha⟩
theorem open_askV {H : Type} {enc : TypeId × Value → H} {W : World} {base fuel : Nat} {v : Value} {x : DataW H × List MemPlace} (hv : Value.okWide Try.prog W .any base 58 v)
    (h : DataW.trod enc Try.prog W 0 (fun _ => true) true fuel 58 v.cells.toList = some x) : ∃ a : KV, v = .agg a.cells.toArray ∧ a.Ok := by
  unfold Value.okWide at hv
  rw [Try.underlying58] at hv
  obtain ⟨cs, rfl, hsz, _⟩ := hv
  rw [cellsK] at hsz
  obtain ⟨L, rfl⟩ : ∃ L : List Value, cs = L.toArray := ⟨cs.toList, rfl⟩
  have hL : L.length = 4 := by simpa using hsz
  obtain ⟨a, rfl, ha⟩ := open_ask hL h
  exact ⟨a, rfl, ha⟩
end Go.Proofs.Ytlgioloanjjndaa
namespace Go.Proofs.Ytlgioloanjjndaa
set_option linter.unusedVariables false
set_option linter.unusedSimpArgs false
open Go.ChangeShapes Go.WideShapes Go.ChangeAt Go.RowKit Hp
set_option maxRecDepth 100000 in
theorem fieldNone_lifted (os : Os) (started : os.Started) (H : Type) (enc : TypeId × Value → H) :
    ReturnsInHanded {} Try.checked os 7 .any (Rows.fieldNoneSpec.pre6 enc Try.prog Try.f7 Rows.fieldNoneRow.domain false) (Rows.fieldNoneSpec.post enc Try.prog Try.f7 false true false false) := by
  refine returnsInHanded_of_change (C := Try.checked) own started (by kernel_rfl) Try.func7
    (ChangeSpec.witness6 (enc := enc) (C := Try.checked) false ⟨#[], #[.agg #[.int .i64 0, .int .i64 0, .int .i64 0, .string ⟨#[]⟩, .slice none 0 0], .agg #[.int .i64 0, .int .i64 0, .int .i64 0, .int .i64 0]], []⟩ 8 (by kernel_rfl) (by kernel_rfl) (by kernel_rfl) (by kernel_rfl)) ?_
  intro W base args ds gs before hval0 hW hcnd _
  have hval : ∀ (j : Nat) t v, Try.f7.params[j]? = some t → args[j]? = some v → Value.okWide Try.prog W .any base t v := hval0
  have hW' := hW
  obtain ⟨p, q, hAA0, hV, rfl, hfz, hnd⟩ := hW
  have hA : DataW.TrodAll enc Try.prog W 0 (fun _ => true) true Try.f7.params.toList args.toList ds p := hAA0
  rw [Try.params7] at hA hval
  have hk := hA
  obtain ⟨v0, v1, d0, d1, p0, p1, rfl, rfl, rfl, h0, h1⟩ := trodAll_two hA
  obtain ⟨rfl, rfl⟩ := trodVars_none hV
  obtain ⟨n0, h0⟩ := h0
  obtain ⟨x0, rfl, hx0⟩ := open_actV (hval 0 _ v0 rfl rfl) h0
  obtain ⟨n1, h1⟩ := h1
  obtain ⟨x1, rfl, hx1⟩ := open_askV (hval 1 _ v1 rfl rfl) h1
  clear hAA0 hval0
  simp only [List.append_nil] at hW'
  refine (none_law x0 x1 W hx0).mono fun e W' ⟨he, hg⟩ => ?_
  subst he
  exact ⟨_, rfl, post_of_kept (pv := []) hW' (fun _ _ _ => (trodAll_cons_mk (shut_bool Try.underlying4 _) trodAll_mk0)) (fun sp hsp => by
      rw [Try.params7]
      exact args_kept (by decide) hk hg.below (fun p hp => hW'.lt p hp) sp hsp) (fun _ _ => rfl) (by simp)
    (hg.below.frame _)⟩
theorem fieldNone_over : Rows.fieldNoneRow.holds Try.pinned (OpenSpec.ofChange Rows.fieldNoneSpec) :=
  OpenClaim.holds_of_wide 7 Try.f7 rfl rfl rfl rfl rfl rfl rfl ⟨rfl, rfl, rfl, rfl, rfl⟩ rfl rfl rfl rfl rfl (by kernel_rfl) Try.func7 (by kernel_rfl)
    (of_decide_eq_true (by kernel_rfl)) (by unfold Func.isWrapper; first | (rw [if_pos (by decide +kernel)]; kernel_rfl) | (rw [if_neg (by decide +kernel)]; exact ⟨rfl, rfl⟩))
    (fun os started H enc _ => fieldNone_lifted os started H enc)

theorem fieldNone_proved : Rows.FieldNoneSaid :=
  fieldNone_over
end Go.Proofs.Ytlgioloanjjndaa
