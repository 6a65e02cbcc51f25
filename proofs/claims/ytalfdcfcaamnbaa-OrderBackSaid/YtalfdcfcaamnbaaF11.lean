import Derived.Test.YtalfdcfcaamnbaaF10
namespace Go.Proofs.Ytalfdcfcaamnbaa
set_option linter.unusedVariables false
set_option linter.unusedSimpArgs false
open Go.RowKit Hp
attribute [local irreducible] Go.Calls
set_option maxRecDepth 100000
set_option maxHeartbeats 4000000
theorem or256w (q x : Int) (hq : 0 ≤ q) (hq' : q < 281474976710656) (hx : 0 ≤ x) (hx' : x < 256) : bits .or .i64 (q * 256) x = q * 256 + x :=
  bits_join .i64 63 (by decide) (fun n h0 h1 => by rw [IntKind.wrap_i64]; omega) 8 _ _ (by omega) (by omega) (by omega) hx (by omega) (by omega)
/-- What a closure that reads leaves: a fault, and all as it was; or what Q says. -/
def ReadP {α : Type} (w : World) (F : List Nat) (T : TypeId) (r : RR α) (L0 : List HA) (Q : α → Nat → World → Prop) (e : Ending) (w' : World) : Prop :=
  match r with
  | .stop f a => e = stopE T f a ∧ St w F w' L0
  | .ok v p => e = .returned (.tuple #[]) ∧ Q v p w'
def rL (g : Nat) (bv : Value) (B : List UInt8) (s : RS) (X : List HA) : List HA := rP g bv B s ++ X
theorem rL_sub {w0 w : World} {M : List Nat} {g : Nat} {bv : Value} {B : List UInt8} {s : RS} {X : List HA} (h : St w0 M w (rL g bv B s X)) : St w0 M w (rP g bv B s) := St.sub h (List.sublist_append_left _ _)
theorem byte_at {w : World} {b off n c k : Nat} {l : List UInt8} (h : Rd w (.slice (some ⟨b, off, none⟩) n c) 1 n (bytesV l)) (hk : k < l.length) : w.cell? ⟨b, off + k, none⟩ = some (.int .u8 ((l.getD k 0).toNat : Int)) := by
  have hr := h.range
  refine hr k _ ?_
  rw [bytesV, List.getElem?_map, List.getElem?_eq_getElem hk]
  simp [List.getD, hk]
section
attribute [local go_sem ↓] loadedInt loadedRp
theorem rnum_arg (g : Nat) (bv : Value) (B : List UInt8) (s : RS) (gs gw gl gh go : Nat) (size low high : Int) (F : List Nat) (w : World) (h : St w F w (rL g bv B s [.blk go 3 [.int .i64 0]])) (hp : s.pos ≤ B.length) (hB : B.length ≤ 1000000)
    (c0 : w.cell? ⟨gs, 0, none⟩ = some (.int .i64 size)) (c1 : w.cell? ⟨gw, 0, none⟩ = some (.pointer (some ⟨g, 0, none⟩))) (c2 : w.cell? ⟨gl, 0, none⟩ = some (.int .i64 low)) (c3 : w.cell? ⟨gh, 0, none⟩ = some (.int .i64 high)) (n0 : gs ∉ F) (n1 : gw ∉ F) (n2 : gl ∉ F) (n3 : gh ∉ F) (hs : -9223372036854775808 ≤ size ∧ size ≤ 9223372036854775807) (h1 : size < 1 ∨ 7 < size) :
    Calls Try.prog 93 #[.pointer (some ⟨gs, 0, none⟩), .pointer (some ⟨gw, 0, none⟩), .pointer (some ⟨gl, 0, none⟩), .pointer (some ⟨gh, 0, none⟩), .pointer (some ⟨go, 0, none⟩)] w
      (ReadP w F 115 (numRR B s.pos size low high) (rL g bv B s [.blk go 3 [.int .i64 0]]) (fun v p w' => St w F w' (rL g bv B ⟨p, s.e, s.fa⟩ [.blk go 3 [.int .i64 v]]))) := by
  have hR : numRR B s.pos size low high = .stop 2 s.pos := by unfold numRR; rw [if_pos h1]
  rw [hR]
  clear hR
  have hst := h
  rcases h1 with h1 | h1
  · have d1 : decide (size < 1) = true := decide_eq_true h1
    go_enter Try.func93, Try.ntmps93
    go_wp2_with (first | go_big_skip | go_big_guard | (refine wl_loadE rfl rfl rfl ?_; first | refine ⟨_, Loads.oldM hst c0 n0, ?_⟩ | refine ⟨_, Loads.oldM hst c1 n1, ?_⟩ | refine ⟨_, Loads.oldM hst c2 n2, ?_⟩ | refine ⟨_, Loads.oldM hst c3 n3, ?_⟩ | refine ⟨_, Loads.at [] hst rfl, ?_⟩) | (refine wl_buildS (cs := [.int .i64 2, .int .i64 (s.pos : Int)]) rfl rfl (by kernel_rfl) ?_))
    exact ⟨rfl, rfl, hst⟩
  · have d1 : decide (size < 1) = false := decide_eq_false (by omega)
    have d2 : decide (7 < size) = true := decide_eq_true h1
    go_enter Try.func93, Try.ntmps93
    go_wp2_with (first | go_big_skip | go_big_guard | (refine wl_loadE rfl rfl rfl ?_; first | refine ⟨_, Loads.oldM hst c0 n0, ?_⟩ | refine ⟨_, Loads.oldM hst c1 n1, ?_⟩ | refine ⟨_, Loads.oldM hst c2 n2, ?_⟩ | refine ⟨_, Loads.oldM hst c3 n3, ?_⟩ | refine ⟨_, Loads.at [] hst rfl, ?_⟩) | (refine wl_buildS (cs := [.int .i64 2, .int .i64 (s.pos : Int)]) rfl rfl (by kernel_rfl) ?_))
    exact ⟨rfl, rfl, hst⟩
theorem rnum_short (g : Nat) (bv : Value) (B : List UInt8) (s : RS) (gs gw gl gh go : Nat) (size low high : Int) (F : List Nat) (w : World) (h : St w F w (rL g bv B s [.blk go 3 [.int .i64 0]])) (hp : s.pos ≤ B.length) (hB : B.length ≤ 1000000)
    (c0 : w.cell? ⟨gs, 0, none⟩ = some (.int .i64 size)) (c1 : w.cell? ⟨gw, 0, none⟩ = some (.pointer (some ⟨g, 0, none⟩))) (c2 : w.cell? ⟨gl, 0, none⟩ = some (.int .i64 low)) (c3 : w.cell? ⟨gh, 0, none⟩ = some (.int .i64 high)) (n0 : gs ∉ F) (n1 : gw ∉ F) (n2 : gl ∉ F) (n3 : gh ∉ F) (hs : -9223372036854775808 ≤ size ∧ size ≤ 9223372036854775807) (h1 : ¬ (size < 1 ∨ 7 < size)) (h2 : (B.length : Int) - s.pos < size) :
    Calls Try.prog 93 #[.pointer (some ⟨gs, 0, none⟩), .pointer (some ⟨gw, 0, none⟩), .pointer (some ⟨gl, 0, none⟩), .pointer (some ⟨gh, 0, none⟩), .pointer (some ⟨go, 0, none⟩)] w
      (ReadP w F 115 (numRR B s.pos size low high) (rL g bv B s [.blk go 3 [.int .i64 0]]) (fun v p w' => St w F w' (rL g bv B ⟨p, s.e, s.fa⟩ [.blk go 3 [.int .i64 v]]))) := by
  have hR : numRR B s.pos size low high = .stop 4 B.length := by unfold numRR; rw [if_neg h1, if_pos h2]
  rw [hR]
  clear hR
  obtain ⟨k, rfl⟩ : ∃ k : Nat, size = (k : Int) := ⟨size.toNat, by omega⟩
  have hk1 : 1 ≤ k := by omega
  have hk7 : k ≤ 7 := by omega
  have d1 : decide ((k : Int) < 1) = false := decide_eq_false (by omega)
  have d2 : decide (7 < (k : Int)) = false := decide_eq_false (by omega)
  have hst := h
  have H2 := hid h2
  clear h1 h2
  go_enter Try.func93, Try.ntmps93
  go_wp2_with (first | go_big_skip | go_big_guard | (refine wl_loadE rfl rfl rfl ?_; first | refine ⟨_, Loads.oldM hst c0 n0, ?_⟩ | refine ⟨_, Loads.oldM hst c1 n1, ?_⟩ | refine ⟨_, Loads.oldM hst c2 n2, ?_⟩ | refine ⟨_, Loads.oldM hst c3 n3, ?_⟩ | refine ⟨_, Loads.at [] hst rfl, ?_⟩) | (go_at_call 94; refine (need_no g bv B s _ (rL_sub hst) k hp hB (by have := H2.out; omega)).mono ?_; rintro _ _ ⟨he, h4⟩; unfold stopE at he; subst he; have hst2 := St.call0 hst h4; clear h4 hst))
  exact ⟨rfl, rfl, hst2⟩
theorem rnum_low (g : Nat) (bv : Value) (B : List UInt8) (s : RS) (gs gw gl gh go : Nat) (size low high : Int) (F : List Nat) (w : World) (h : St w F w (rL g bv B s [.blk go 3 [.int .i64 0]])) (hp : s.pos ≤ B.length) (hB : B.length ≤ 1000000)
    (c0 : w.cell? ⟨gs, 0, none⟩ = some (.int .i64 size)) (c1 : w.cell? ⟨gw, 0, none⟩ = some (.pointer (some ⟨g, 0, none⟩))) (c2 : w.cell? ⟨gl, 0, none⟩ = some (.int .i64 low)) (c3 : w.cell? ⟨gh, 0, none⟩ = some (.int .i64 high)) (n0 : gs ∉ F) (n1 : gw ∉ F) (n2 : gl ∉ F) (n3 : gh ∉ F) (hs : -9223372036854775808 ≤ size ∧ size ≤ 9223372036854775807) (h1 : ¬ (size < 1 ∨ 7 < size)) (h2 : ¬ (B.length : Int) - s.pos < size) (X : Int) (hX : X = beN ((B.drop s.pos).take size.toNat)) (h3 : X < low) :
    Calls Try.prog 93 #[.pointer (some ⟨gs, 0, none⟩), .pointer (some ⟨gw, 0, none⟩), .pointer (some ⟨gl, 0, none⟩), .pointer (some ⟨gh, 0, none⟩), .pointer (some ⟨go, 0, none⟩)] w
      (ReadP w F 115 (numRR B s.pos size low high) (rL g bv B s [.blk go 3 [.int .i64 0]]) (fun v p w' => St w F w' (rL g bv B ⟨p, s.e, s.fa⟩ [.blk go 3 [.int .i64 v]]))) := by
  have hR : numRR B s.pos size low high = .stop 5 s.pos := by unfold numRR; rw [if_neg h1, if_neg h2, ← hX, if_pos (.inl h3)]
  rw [hR]
  clear hR
  obtain ⟨k, rfl⟩ : ∃ k : Nat, size = (k : Int) := ⟨size.toNat, by omega⟩
  have hk1 : 1 ≤ k := by omega
  have hk7 : k ≤ 7 := by omega
  have d1 : decide ((k : Int) < 1) = false := decide_eq_false (by omega)
  have d2 : decide (7 < (k : Int)) = false := decide_eq_false (by omega)
  have hst := h
  obtain ⟨Y, hY⟩ : ∃ Y, Y = (B.drop s.pos).take k := ⟨_, rfl⟩
  have hYl : Y.length = k := by rw [hY, List.length_take, List.length_drop]; omega
  rw [Int.toNat_natCast, ← hY] at hX
  have HY := hid hY
  have HYl := hid hYl
  have HX := hid hX
  have H2 := hid h2
  have d3 : decide (X < low) = true := decide_eq_true h3
  clear h1 h2 hX hY hYl
  go_enter Try.func93, Try.ntmps93
  go_wp2_with (first | go_big_skip | go_big_guard | (refine wl_loadE rfl rfl rfl ?_; first | refine ⟨_, Loads.oldM hst c0 n0, ?_⟩ | refine ⟨_, Loads.oldM hst c1 n1, ?_⟩ | refine ⟨_, Loads.oldM hst c2 n2, ?_⟩ | refine ⟨_, Loads.oldM hst c3 n3, ?_⟩ | refine ⟨_, Loads.at [] hst rfl, ?_⟩) | (go_at_call 94; refine (need_any g bv B s _ (rL_sub hst) k hp hB (by have := H2.out; omega)).mono ?_; rw [← HY.out]; rintro _ w2 ⟨u, rfl, h4, hu⟩; have hst2 := St.call0 hst h4; clear h4 hst; obtain ⟨ao, m, c, rfl, hm⟩ := Rd.form hu; subst hm; obtain ⟨b, off, rfl, _⟩ := hu.at (k := 0) (by omega)))
  go_loopw [5, 24] (fun v i wr => ∃ j : Nat, j ≤ m ∧ i = .int .i64 j ∧ v = .int .i64 (beN (Y.take j)) ∧ St w2 [] wr []) (fun _ i _ => m - (intOf i).toNat)
  case atStart => exact ⟨0, Nat.zero_le _, rfl, by simp [beN], St.refl _⟩
  case round =>
    obtain ⟨j, hj, rfl, rfl, hL⟩ := hrel
    by_cases hlt : j < m
    · have hx := byte_at hu (k := j) (by rw [HYl.out]; omega)
      have hsucc := beN_take_succ Y j (by rw [HYl.out]; omega)
      have hqlt := beN_lt (Y.take j)
      have hq3 : beN (Y.take j) < 281474976710656 := by
        refine Nat.lt_of_lt_of_le hqlt ?_
        have : (Y.take j).length ≤ 6 := by rw [List.length_take]; omega
        calc 256 ^ (Y.take j).length ≤ 256 ^ 6 := Nat.pow_le_pow_right (by decide) this
          _ = 281474976710656 := by decide
      obtain ⟨x, hxx⟩ : ∃ x, x = Y.getD j 0 := ⟨_, rfl⟩
      rw [← hxx] at hx hsucc
      obtain ⟨q, hqq⟩ : ∃ q, q = beN (Y.take j) := ⟨_, rfl⟩
      rw [← hqq] at hsucc hq3
      rw [← hqq]
      have Hs := hid hsucc
      have HX0 := hid hx
      clear hsucc hqq hxx hqlt hx
      have hxb := x.toNat_lt
      have hor := or256w q x.toNat (by omega) (by omega) (by omega) (by omega)
      have z0 : IntKind.i64.wrap ((q : Int) * 256) = (q : Int) * 256 := IntWalk.i64_in _ (by omega)
      have dj : decide ((j : Int) < (m : Int)) = true := decide_eq_true (by omega)
      go_wp2_with (first | go_big_skip | go_big_guard | (refine wl_loadE rfl rfl rfl ?_; first | refine ⟨_, Loads.old hL (HX0.out), ?_⟩))
      go_roundw
      case rel => exact ⟨j + 1, by omega, by go_num, by rw [Hs.out]; go_num, hL⟩
      case measure => simp [intOf]; omega
    · have hjk : j = m := by omega
      subst hjk
      have dj : decide ((j : Int) < (j : Int)) = false := by simp
      have ht : Y.take j = Y := by rw [← HYl.out]; exact List.take_length
      have hst3 := St.of hL hst2
      rw [ht, ← HX.out]
      clear hL hst2 ht hlt hj
      go_wp2_with (first | go_big_skip | go_big_guard | (refine wl_loadE rfl rfl rfl ?_; first | refine ⟨_, Loads.oldM hst3 c0 n0, ?_⟩ | refine ⟨_, Loads.oldM hst3 c1 n1, ?_⟩ | refine ⟨_, Loads.oldM hst3 c2 n2, ?_⟩ | refine ⟨_, Loads.oldM hst3 c3 n3, ?_⟩ | refine ⟨_, Loads.at [] hst3 rfl, ?_⟩) | (refine wl_buildS (cs := [.int .i64 5, .int .i64 (s.pos : Int)]) rfl rfl (by kernel_rfl) ?_))
      exact ⟨rfl, rfl, hst3⟩
theorem rnum_high (g : Nat) (bv : Value) (B : List UInt8) (s : RS) (gs gw gl gh go : Nat) (size low high : Int) (F : List Nat) (w : World) (h : St w F w (rL g bv B s [.blk go 3 [.int .i64 0]])) (hp : s.pos ≤ B.length) (hB : B.length ≤ 1000000)
    (c0 : w.cell? ⟨gs, 0, none⟩ = some (.int .i64 size)) (c1 : w.cell? ⟨gw, 0, none⟩ = some (.pointer (some ⟨g, 0, none⟩))) (c2 : w.cell? ⟨gl, 0, none⟩ = some (.int .i64 low)) (c3 : w.cell? ⟨gh, 0, none⟩ = some (.int .i64 high)) (n0 : gs ∉ F) (n1 : gw ∉ F) (n2 : gl ∉ F) (n3 : gh ∉ F) (hs : -9223372036854775808 ≤ size ∧ size ≤ 9223372036854775807) (h1 : ¬ (size < 1 ∨ 7 < size)) (h2 : ¬ (B.length : Int) - s.pos < size) (X : Int) (hX : X = beN ((B.drop s.pos).take size.toNat)) (h3 : ¬ X < low) (h4 : high < X) :
    Calls Try.prog 93 #[.pointer (some ⟨gs, 0, none⟩), .pointer (some ⟨gw, 0, none⟩), .pointer (some ⟨gl, 0, none⟩), .pointer (some ⟨gh, 0, none⟩), .pointer (some ⟨go, 0, none⟩)] w
      (ReadP w F 115 (numRR B s.pos size low high) (rL g bv B s [.blk go 3 [.int .i64 0]]) (fun v p w' => St w F w' (rL g bv B ⟨p, s.e, s.fa⟩ [.blk go 3 [.int .i64 v]]))) := by
  have hR : numRR B s.pos size low high = .stop 5 s.pos := by unfold numRR; rw [if_neg h1, if_neg h2, ← hX, if_pos (.inr h4)]
  rw [hR]
  clear hR
  obtain ⟨k, rfl⟩ : ∃ k : Nat, size = (k : Int) := ⟨size.toNat, by omega⟩
  have hk1 : 1 ≤ k := by omega
  have hk7 : k ≤ 7 := by omega
  have d1 : decide ((k : Int) < 1) = false := decide_eq_false (by omega)
  have d2 : decide (7 < (k : Int)) = false := decide_eq_false (by omega)
  have hst := h
  obtain ⟨Y, hY⟩ : ∃ Y, Y = (B.drop s.pos).take k := ⟨_, rfl⟩
  have hYl : Y.length = k := by rw [hY, List.length_take, List.length_drop]; omega
  rw [Int.toNat_natCast, ← hY] at hX
  have HY := hid hY
  have HYl := hid hYl
  have HX := hid hX
  have H2 := hid h2
  have d3 : decide (X < low) = false := decide_eq_false h3
  have d4 : decide (high < X) = true := decide_eq_true h4
  clear h1 h2 hX hY hYl
  go_enter Try.func93, Try.ntmps93
  go_wp2_with (first | go_big_skip | go_big_guard | (refine wl_loadE rfl rfl rfl ?_; first | refine ⟨_, Loads.oldM hst c0 n0, ?_⟩ | refine ⟨_, Loads.oldM hst c1 n1, ?_⟩ | refine ⟨_, Loads.oldM hst c2 n2, ?_⟩ | refine ⟨_, Loads.oldM hst c3 n3, ?_⟩ | refine ⟨_, Loads.at [] hst rfl, ?_⟩) | (go_at_call 94; refine (need_any g bv B s _ (rL_sub hst) k hp hB (by have := H2.out; omega)).mono ?_; rw [← HY.out]; rintro _ w2 ⟨u, rfl, h4, hu⟩; have hst2 := St.call0 hst h4; clear h4 hst; obtain ⟨ao, m, c, rfl, hm⟩ := Rd.form hu; subst hm; obtain ⟨b, off, rfl, _⟩ := hu.at (k := 0) (by omega)))
  go_loopw [5, 24] (fun v i wr => ∃ j : Nat, j ≤ m ∧ i = .int .i64 j ∧ v = .int .i64 (beN (Y.take j)) ∧ St w2 [] wr []) (fun _ i _ => m - (intOf i).toNat)
  case atStart => exact ⟨0, Nat.zero_le _, rfl, by simp [beN], St.refl _⟩
  case round =>
    obtain ⟨j, hj, rfl, rfl, hL⟩ := hrel
    by_cases hlt : j < m
    · have hx := byte_at hu (k := j) (by rw [HYl.out]; omega)
      have hsucc := beN_take_succ Y j (by rw [HYl.out]; omega)
      have hqlt := beN_lt (Y.take j)
      have hq3 : beN (Y.take j) < 281474976710656 := by
        refine Nat.lt_of_lt_of_le hqlt ?_
        have : (Y.take j).length ≤ 6 := by rw [List.length_take]; omega
        calc 256 ^ (Y.take j).length ≤ 256 ^ 6 := Nat.pow_le_pow_right (by decide) this
          _ = 281474976710656 := by decide
      obtain ⟨x, hxx⟩ : ∃ x, x = Y.getD j 0 := ⟨_, rfl⟩
      rw [← hxx] at hx hsucc
      obtain ⟨q, hqq⟩ : ∃ q, q = beN (Y.take j) := ⟨_, rfl⟩
      rw [← hqq] at hsucc hq3
      rw [← hqq]
      have Hs := hid hsucc
      have HX0 := hid hx
      clear hsucc hqq hxx hqlt hx
      have hxb := x.toNat_lt
      have hor := or256w q x.toNat (by omega) (by omega) (by omega) (by omega)
      have z0 : IntKind.i64.wrap ((q : Int) * 256) = (q : Int) * 256 := IntWalk.i64_in _ (by omega)
      have dj : decide ((j : Int) < (m : Int)) = true := decide_eq_true (by omega)
      go_wp2_with (first | go_big_skip | go_big_guard | (refine wl_loadE rfl rfl rfl ?_; first | refine ⟨_, Loads.old hL (HX0.out), ?_⟩))
      go_roundw
      case rel => exact ⟨j + 1, by omega, by go_num, by rw [Hs.out]; go_num, hL⟩
      case measure => simp [intOf]; omega
    · have hjk : j = m := by omega
      subst hjk
      have dj : decide ((j : Int) < (j : Int)) = false := by simp
      have ht : Y.take j = Y := by rw [← HYl.out]; exact List.take_length
      have hst3 := St.of hL hst2
      rw [ht, ← HX.out]
      clear hL hst2 ht hlt hj
      go_wp2_with (first | go_big_skip | go_big_guard | (refine wl_loadE rfl rfl rfl ?_; first | refine ⟨_, Loads.oldM hst3 c0 n0, ?_⟩ | refine ⟨_, Loads.oldM hst3 c1 n1, ?_⟩ | refine ⟨_, Loads.oldM hst3 c2 n2, ?_⟩ | refine ⟨_, Loads.oldM hst3 c3 n3, ?_⟩ | refine ⟨_, Loads.at [] hst3 rfl, ?_⟩) | (refine wl_buildS (cs := [.int .i64 5, .int .i64 (s.pos : Int)]) rfl rfl (by kernel_rfl) ?_))
      exact ⟨rfl, rfl, hst3⟩
theorem rnum_ok (g : Nat) (bv : Value) (B : List UInt8) (s : RS) (gs gw gl gh go : Nat) (size low high : Int) (F : List Nat) (w : World) (h : St w F w (rL g bv B s [.blk go 3 [.int .i64 0]])) (hp : s.pos ≤ B.length) (hB : B.length ≤ 1000000)
    (c0 : w.cell? ⟨gs, 0, none⟩ = some (.int .i64 size)) (c1 : w.cell? ⟨gw, 0, none⟩ = some (.pointer (some ⟨g, 0, none⟩))) (c2 : w.cell? ⟨gl, 0, none⟩ = some (.int .i64 low)) (c3 : w.cell? ⟨gh, 0, none⟩ = some (.int .i64 high)) (n0 : gs ∉ F) (n1 : gw ∉ F) (n2 : gl ∉ F) (n3 : gh ∉ F) (hs : -9223372036854775808 ≤ size ∧ size ≤ 9223372036854775807) (h1 : ¬ (size < 1 ∨ 7 < size)) (h2 : ¬ (B.length : Int) - s.pos < size) (X : Int) (hX : X = beN ((B.drop s.pos).take size.toNat)) (h3 : ¬ X < low) (h4 : ¬ high < X) :
    Calls Try.prog 93 #[.pointer (some ⟨gs, 0, none⟩), .pointer (some ⟨gw, 0, none⟩), .pointer (some ⟨gl, 0, none⟩), .pointer (some ⟨gh, 0, none⟩), .pointer (some ⟨go, 0, none⟩)] w
      (ReadP w F 115 (numRR B s.pos size low high) (rL g bv B s [.blk go 3 [.int .i64 0]]) (fun v p w' => St w F w' (rL g bv B ⟨p, s.e, s.fa⟩ [.blk go 3 [.int .i64 v]]))) := by
  have hR : numRR B s.pos size low high = .ok X (s.pos + size.toNat) := by unfold numRR; rw [if_neg h1, if_neg h2, ← hX, if_neg (by rintro (h | h) <;> contradiction)]
  rw [hR]
  clear hR
  obtain ⟨k, rfl⟩ : ∃ k : Nat, size = (k : Int) := ⟨size.toNat, by omega⟩
  have hk1 : 1 ≤ k := by omega
  have hk7 : k ≤ 7 := by omega
  have d1 : decide ((k : Int) < 1) = false := decide_eq_false (by omega)
  have d2 : decide (7 < (k : Int)) = false := decide_eq_false (by omega)
  have hst := h
  obtain ⟨Y, hY⟩ : ∃ Y, Y = (B.drop s.pos).take k := ⟨_, rfl⟩
  have hYl : Y.length = k := by rw [hY, List.length_take, List.length_drop]; omega
  rw [Int.toNat_natCast, ← hY] at hX
  have HY := hid hY
  have HYl := hid hYl
  have HX := hid hX
  have H2 := hid h2
  have d3 : decide (X < low) = false := decide_eq_false h3
  have d4 : decide (high < X) = false := decide_eq_false h4
  clear h1 h2 hX hY hYl
  go_enter Try.func93, Try.ntmps93
  go_wp2_with (first | go_big_skip | go_big_guard | (refine wl_loadE rfl rfl rfl ?_; first | refine ⟨_, Loads.oldM hst c0 n0, ?_⟩ | refine ⟨_, Loads.oldM hst c1 n1, ?_⟩ | refine ⟨_, Loads.oldM hst c2 n2, ?_⟩ | refine ⟨_, Loads.oldM hst c3 n3, ?_⟩ | refine ⟨_, Loads.at [] hst rfl, ?_⟩) | (go_at_call 94; refine (need_any g bv B s _ (rL_sub hst) k hp hB (by have := H2.out; omega)).mono ?_; rw [← HY.out]; rintro _ w2 ⟨u, rfl, h4, hu⟩; have hst2 := St.call0 hst h4; clear h4 hst; obtain ⟨ao, m, c, rfl, hm⟩ := Rd.form hu; subst hm; obtain ⟨b, off, rfl, _⟩ := hu.at (k := 0) (by omega)))
  go_loopw [5, 24] (fun v i wr => ∃ j : Nat, j ≤ m ∧ i = .int .i64 j ∧ v = .int .i64 (beN (Y.take j)) ∧ St w2 [] wr []) (fun _ i _ => m - (intOf i).toNat)
  case atStart => exact ⟨0, Nat.zero_le _, rfl, by simp [beN], St.refl _⟩
  case round =>
    obtain ⟨j, hj, rfl, rfl, hL⟩ := hrel
    by_cases hlt : j < m
    · have hx := byte_at hu (k := j) (by rw [HYl.out]; omega)
      have hsucc := beN_take_succ Y j (by rw [HYl.out]; omega)
      have hqlt := beN_lt (Y.take j)
      have hq3 : beN (Y.take j) < 281474976710656 := by
        refine Nat.lt_of_lt_of_le hqlt ?_
        have : (Y.take j).length ≤ 6 := by rw [List.length_take]; omega
        calc 256 ^ (Y.take j).length ≤ 256 ^ 6 := Nat.pow_le_pow_right (by decide) this
          _ = 281474976710656 := by decide
      obtain ⟨x, hxx⟩ : ∃ x, x = Y.getD j 0 := ⟨_, rfl⟩
      rw [← hxx] at hx hsucc
      obtain ⟨q, hqq⟩ : ∃ q, q = beN (Y.take j) := ⟨_, rfl⟩
      rw [← hqq] at hsucc hq3
      rw [← hqq]
      have Hs := hid hsucc
      have HX0 := hid hx
      clear hsucc hqq hxx hqlt hx
      have hxb := x.toNat_lt
      have hor := or256w q x.toNat (by omega) (by omega) (by omega) (by omega)
      have z0 : IntKind.i64.wrap ((q : Int) * 256) = (q : Int) * 256 := IntWalk.i64_in _ (by omega)
      have dj : decide ((j : Int) < (m : Int)) = true := decide_eq_true (by omega)
      go_wp2_with (first | go_big_skip | go_big_guard | (refine wl_loadE rfl rfl rfl ?_; first | refine ⟨_, Loads.old hL (HX0.out), ?_⟩))
      go_roundw
      case rel => exact ⟨j + 1, by omega, by go_num, by rw [Hs.out]; go_num, hL⟩
      case measure => simp [intOf]; omega
    · have hjk : j = m := by omega
      subst hjk
      have dj : decide ((j : Int) < (j : Int)) = false := by simp
      have ht : Y.take j = Y := by rw [← HYl.out]; exact List.take_length
      have hst3 := St.of hL hst2
      rw [ht, ← HX.out]
      clear hL hst2 ht hlt hj
      go_wp2_with (first | go_big_skip | go_big_guard | (refine wl_loadE rfl rfl rfl ?_; first | refine ⟨_, Loads.oldM hst3 c0 n0, ?_⟩ | refine ⟨_, Loads.oldM hst3 c1 n1, ?_⟩ | refine ⟨_, Loads.oldM hst3 c2 n2, ?_⟩ | refine ⟨_, Loads.oldM hst3 c3 n3, ?_⟩ | refine ⟨_, Loads.at [] hst3 rfl, ?_⟩))
      have zz : IntKind.i64.wrap ((s.pos : Int) + (j : Int)) = ((s.pos + j : Nat) : Int) := by rw [IntWalk.i64_in _ (by omega)]; omega
      have hst4 : St w F _ (rP g bv B s ++ [.blk go 3 [.int .i64 0]]) := hst3
      unfold rP at hst4
      clear hst3
      have hD := hst4.drew
      clear hst4
      refine wp_region_held_drew (S := (fun w' => (loadVarH 99 ⟨gw, 0, none⟩).run Try.prog w' = .ok (.pointer (some ⟨g, 0, none⟩)) w' ∧ (loadVarH 3 ⟨gs, 0, none⟩).run Try.prog w' = .ok (.int .i64 (j : Int)) w')) (by kernel_rfl) (by exact ⟨ldOMx hD c1 n1, ldOMx hD c0 n0⟩) (fun hHeld => ?_)
      refine wpAnyH_take (i := 0) (oi := ⟨some 48, _, _, _, _, _⟩) (v := ?_) rfl (by kernel_rfl) (by kernel_rfl) (by kernel_rfl) (fun _ _ _ h => h) (Or.inl ⟨by rfl, ?_⟩) (by assumption) ?_
      rotate_left
      · intro w hSw; (try dsimp only at hSw); go_simp; try with_reducible rfl
      (try simp only [Act.put, List.setIfInBounds_toArray, List.set_cons_zero, List.set_cons_succ])
      refine wpAnyH_take (i := 1) (oi := ⟨some 49, _, _, _, _, _⟩) (v := ?_) rfl (by kernel_rfl) (by kernel_rfl) (by kernel_rfl) (fun _ _ _ h => h) (Or.inl ⟨by rfl, ?_⟩) (by assumption) ?_
      rotate_left
      · intro w hSw; (try dsimp only at hSw); go_simp; try with_reducible rfl
      (try simp only [Act.put, List.setIfInBounds_toArray, List.set_cons_zero, List.set_cons_succ])
      refine wpAnyH_take (i := 2) (oi := ⟨some 50, _, _, _, _, _⟩) (v := ?_) rfl (by kernel_rfl) (by kernel_rfl) (by kernel_rfl) (fun _ _ _ h => h) (Or.inl ⟨by rfl, ?_⟩) (by assumption) ?_
      rotate_left
      · intro w hSw; (try dsimp only at hSw); go_simp; try with_reducible rfl
      (try simp only [Act.put, List.setIfInBounds_toArray, List.set_cons_zero, List.set_cons_succ])
      refine wpAnyH_take (i := 6) (oi := ⟨some 54, _, _, _, _, _⟩) (v := ?_) rfl (by kernel_rfl) (by kernel_rfl) (by kernel_rfl) (fun _ _ _ h => h) (Or.inl ⟨by rfl, ?_⟩) (by assumption) ?_
      rotate_left
      · intro w hSw; (try dsimp only at hSw); go_simp; try with_reducible rfl
      (try simp only [Act.put, List.setIfInBounds_toArray, List.set_cons_zero, List.set_cons_succ])
      refine wpAnyH_take (i := 3) (oi := ⟨some 51, _, _, _, _, _⟩) (v := ?_) rfl (by kernel_rfl) (by kernel_rfl) (by kernel_rfl) (fun _ _ _ h => h) (Or.inl ⟨by rfl, ?_⟩) (by assumption) ?_
      rotate_left
      · intro w hSw; (try dsimp only at hSw); go_simp; try with_reducible rfl
      (try simp only [Act.put, List.setIfInBounds_toArray, List.set_cons_zero, List.set_cons_succ])
      refine wpAnyH_take (i := 4) (oi := ⟨some 52, _, _, _, _, _⟩) (v := ?_) rfl (by kernel_rfl) (by kernel_rfl) (by kernel_rfl) (fun _ _ _ h => h) (Or.inl ⟨by rfl, ?_⟩) (by assumption) ?_
      rotate_left
      · intro w hSw; (try dsimp only at hSw); go_simp; try with_reducible rfl
      (try simp only [Act.put, List.setIfInBounds_toArray, List.set_cons_zero, List.set_cons_succ])
      refine wpAnyH_ready (rs := [5]) (by kernel_rfl) (by simp) ?_
      refine (AllReadyH.cons (o := ⟨some 53, _, _, _, _, _⟩) rfl (fun K hK => ?_) AllReadyH.nil)
      rw [if_pos (by rfl)]
      refine ow_of_wl (ops := #[]) (by rfl) ?_
      refine wl_loadE rfl rfl rfl ?_
      refine ⟨_, Loads.at [] hD rfl, ?_⟩
      refine q0_nil ?_
      refine hK.out _ _ ?_ (fun hHeld => ?_)
      · exact ⟨ldOMx hD c1 n1, ldOMx hD c0 n0⟩
      clear hK K
      (try simp only [Act.put, List.setIfInBounds_toArray, List.set_cons_zero, List.set_cons_succ])
      refine wpAnyH_take (i := 7) (oi := ⟨some 55, _, _, _, _, _⟩) (v := ?_) rfl (by kernel_rfl) (by kernel_rfl) (by kernel_rfl) (fun _ _ _ h => h) (Or.inl ⟨by rfl, ?_⟩) (by assumption) ?_
      rotate_left
      · intro w hSw; (try dsimp only at hSw); go_simp; try with_reducible rfl
      (try simp only [Act.put, List.setIfInBounds_toArray, List.set_cons_zero, List.set_cons_succ])
      refine wpAnyH_ready (rs := [8]) (by kernel_rfl) (by simp) ?_
      refine (AllReadyH.cons (o := ⟨none, _, _, _, _, _⟩) rfl (fun K hK => ?_) AllReadyH.nil)
      rw [if_pos (by rfl)]
      refine ow_storeS (off := 0) (v := .int .i64 X) [_, _] hD rfl rfl rfl inferInstance rfl rfl (by decide) ?_
      intro _ hN1
      refine hK.out _ _ ?_ (fun hHeld => ?_)
      · exact ⟨ldOMx hN1 c1 n1, ldOMx hN1 c0 n0⟩
      clear hK K
      (try simp only [Act.put, List.setIfInBounds_toArray, List.set_cons_zero, List.set_cons_succ])
      refine wpAnyH_take (i := 9) (oi := ⟨some 56, _, _, _, _, _⟩) (v := ?_) rfl (by kernel_rfl) (by kernel_rfl) (by kernel_rfl) (fun _ _ _ h => h) (Or.inl ⟨by rfl, ?_⟩) (by assumption) ?_
      rotate_left
      · intro w hSw; (try dsimp only at hSw); go_simp; try with_reducible rfl
      (try simp only [Act.put, List.setIfInBounds_toArray, List.set_cons_zero, List.set_cons_succ])
      refine wpAnyH_take (i := 10) (oi := ⟨some 57, _, _, _, _, _⟩) (v := ?_) rfl (by kernel_rfl) (by kernel_rfl) (by kernel_rfl) (fun _ _ _ h => h) (Or.inl ⟨by rfl, ?_⟩) (by assumption) ?_
      rotate_left
      · intro w hSw; (try dsimp only at hSw); go_simp; try with_reducible rfl
      (try simp only [Act.put, List.setIfInBounds_toArray, List.set_cons_zero, List.set_cons_succ])
      refine wpAnyH_ready (rs := [11]) (by kernel_rfl) (by simp) ?_
      refine (AllReadyH.cons (o := ⟨none, _, _, _, _, _⟩) rfl (fun K hK => ?_) AllReadyH.nil)
      rw [if_pos (by rfl)]
      refine ow_storeS (off := 2) (v := .int .i64 ((s.pos + j : Nat) : Int)) [] hN1 rfl rfl rfl inferInstance rfl rfl (by show (3 : Nat) ≤ 5; decide) ?_
      intro _ hN2
      refine hK.out _ _ ?_ (fun hHeld => ?_)
      · exact ⟨ldOMx hN2 c1 n1, ldOMx hN2 c0 n0⟩
      clear hK K
      (try simp only [Act.put, List.setIfInBounds_toArray, List.set_cons_zero, List.set_cons_succ])
      refine wpAnyH_done (by kernel_rfl) ?_ _
      clear hHeld
      go_wp2_with (first | go_big_skip | go_big_guard | fail)
      go_end0
      exact ⟨rfl, hN2⟩
theorem rnum_any (g : Nat) (bv : Value) (B : List UInt8) (s : RS) (gs gw gl gh go : Nat) (size low high : Int) (F : List Nat) (w : World) (h : St w F w (rL g bv B s [.blk go 3 [.int .i64 0]])) (hp : s.pos ≤ B.length) (hB : B.length ≤ 1000000)
    (c0 : w.cell? ⟨gs, 0, none⟩ = some (.int .i64 size)) (c1 : w.cell? ⟨gw, 0, none⟩ = some (.pointer (some ⟨g, 0, none⟩))) (c2 : w.cell? ⟨gl, 0, none⟩ = some (.int .i64 low)) (c3 : w.cell? ⟨gh, 0, none⟩ = some (.int .i64 high)) (n0 : gs ∉ F) (n1 : gw ∉ F) (n2 : gl ∉ F) (n3 : gh ∉ F) (hs : -9223372036854775808 ≤ size ∧ size ≤ 9223372036854775807)  :
    Calls Try.prog 93 #[.pointer (some ⟨gs, 0, none⟩), .pointer (some ⟨gw, 0, none⟩), .pointer (some ⟨gl, 0, none⟩), .pointer (some ⟨gh, 0, none⟩), .pointer (some ⟨go, 0, none⟩)] w
      (ReadP w F 115 (numRR B s.pos size low high) (rL g bv B s [.blk go 3 [.int .i64 0]]) (fun v p w' => St w F w' (rL g bv B ⟨p, s.e, s.fa⟩ [.blk go 3 [.int .i64 v]]))) := by
  by_cases h1 : size < 1 ∨ 7 < size
  · exact rnum_arg g bv B s gs gw gl gh go size low high F w h hp hB c0 c1 c2 c3 n0 n1 n2 n3 hs h1
  · by_cases h2 : (B.length : Int) - s.pos < size
    · exact rnum_short g bv B s gs gw gl gh go size low high F w h hp hB c0 c1 c2 c3 n0 n1 n2 n3 hs h1 h2
    · obtain ⟨X, hX⟩ : ∃ X : Int, X = beN ((B.drop s.pos).take size.toNat) := ⟨_, rfl⟩
      by_cases h3 : X < low
      · exact rnum_low g bv B s gs gw gl gh go size low high F w h hp hB c0 c1 c2 c3 n0 n1 n2 n3 hs h1 h2 X hX h3
      · by_cases h4 : high < X
        · exact rnum_high g bv B s gs gw gl gh go size low high F w h hp hB c0 c1 c2 c3 n0 n1 n2 n3 hs h1 h2 X hX h3 h4
        · exact rnum_ok g bv B s gs gw gl gh go size low high F w h hp hB c0 c1 c2 c3 n0 n1 n2 n3 hs h1 h2 X hX h3 h4
end
end Go.Proofs.Ytalfdcfcaamnbaa
