import Derived.Test.YtalfdcfcaamnbaaF1
import Derived.Test.YtalfdcfcaamnbaaSepT
namespace Go.Proofs.Ytalfdcfcaamnbaa
set_option linter.unusedVariables false
set_option linter.unusedSimpArgs false
open Go.RowKit Hp
attribute [local irreducible] Go.Calls
set_option maxRecDepth 100000
set_option maxHeartbeats 4000000
theorem loadedStr (A : Addr) : loadVar 9 A = loadVarH 9 A := rfl
theorem loadedInt (A : Addr) : loadVar 3 A = loadVarH 3 A := rfl
theorem loadedWp (A : Addr) : loadVar 84 A = loadVarH 84 A := rfl
theorem loadedSl (A : Addr) : loadVar 23 A = loadVarH 23 A := rfl
attribute [local go_sem ↓] loadedStr
theorem put_text (Y : UInt8) (s : List UInt8) (k : Nat) (h : s.length ≤ k) : putAt (bytesV (Y :: List.replicate k 0)) 1 (bytesV s) = bytesV (Y :: (s ++ List.replicate (k - s.length) 0)) := by
  simp only [putAt, bytesV, List.map_cons, List.take_succ_cons, List.take_zero, List.length_map, Nat.add_comm 1, List.drop_succ_cons, List.map_replicate, List.drop_replicate, List.map_append, List.cons_append, List.nil_append]
/-- From the bytes of a new block to what a closure tells. -/
theorem Told.blk {w w' : World} {F : List Nat} {g n : Nat} {cs : List Value} {B : List UInt8} (h : St w [] w' ([] ++ [.blk g 5 cs])) (hc : cs = bytesV B) (hn : B.length = n) (hn2 : n ≤ 100000) (hF : ∀ k ∈ F, k < w.heap.size) :
    Told w F (0, B) (.returned (.tuple #[.slice (some ⟨g, 0, none⟩) n n, .int .i64 0])) w' := by
  subst hc hn
  exact ⟨_, _, rfl, h, Rd.blk0 h (by simp) (by omega), Off.blk h (.head _) hF _ _ _⟩
theorem text1_arg (p q : Nat) (most : Int) (s : List UInt8) (F : List Nat) (w : World) (hp : w.cell? ⟨p, 0, none⟩ = some (.int .i64 most)) (hq : w.cell? ⟨q, 0, none⟩ = some (.string ⟨s.toArray⟩)) (hF : ∀ k ∈ F, k < w.heap.size) (hs : -9223372036854775808 ≤ most ∧ most ≤ 9223372036854775807) (hl : s.length ≤ 9223372036854775807) (h1 : most < 0 ∨ 255 < most) :
    Calls Try.prog 95 #[.pointer (some ⟨p, 0, none⟩), .pointer (some ⟨q, 0, none⟩)] w (Told w F (textR s most)) := by
  have hst := St.refl w
  have hR : textR s most = (2, []) := by unfold textR; rw [if_pos h1]
  rw [hR]
  by_cases h2 : most < 0
  · have d1 : decide (most < 0) = true := decide_eq_true h2
    clear h1 hR
    go_enter Try.func95, Try.ntmps95
    go_wp2_with (first | go_big_skip | go_big_guard | (refine wl_loadE rfl rfl rfl ?_; first | refine ⟨_, Loads.old hst (hp), ?_⟩ | refine ⟨_, Loads.old hst (hq), ?_⟩))
    go_ret2
    exact Told.no hst
  · have d1 : decide (most < 0) = false := decide_eq_false (by omega)
    have d2 : decide (255 < most) = true := decide_eq_true (by omega)
    clear h1 hR h2
    go_enter Try.func95, Try.ntmps95
    go_wp2_with (first | go_big_skip | go_big_guard | (refine wl_loadE rfl rfl rfl ?_; first | refine ⟨_, Loads.old hst (hp), ?_⟩ | refine ⟨_, Loads.old hst (hq), ?_⟩))
    go_ret2
    exact Told.no hst
theorem text1_long (p q : Nat) (most : Int) (s : List UInt8) (F : List Nat) (w : World) (hp : w.cell? ⟨p, 0, none⟩ = some (.int .i64 most)) (hq : w.cell? ⟨q, 0, none⟩ = some (.string ⟨s.toArray⟩)) (hF : ∀ k ∈ F, k < w.heap.size) (hs : -9223372036854775808 ≤ most ∧ most ≤ 9223372036854775807) (hl : s.length ≤ 9223372036854775807) (h1 : ¬ (most < 0 ∨ 255 < most)) (h2 : most < s.length) :
    Calls Try.prog 95 #[.pointer (some ⟨p, 0, none⟩), .pointer (some ⟨q, 0, none⟩)] w (Told w F (textR s most)) := by
  have hst := St.refl w
  have hR : textR s most = (3, []) := by unfold textR; rw [if_neg h1, if_pos h2]
  rw [hR]
  have d1 : decide (most < 0) = false := decide_eq_false (by omega)
  have d2 : decide (255 < most) = false := decide_eq_false (by omega)
  have hsz : (⟨s.toArray⟩ : ByteArray).size = s.length := by simp [ByteArray.size]
  have d3 : decide (most < (s.length : Int)) = true := decide_eq_true h2
  clear h1 hR h2
  go_enter Try.func95, Try.ntmps95
  go_wp2_with (first | go_big_skip | go_big_guard | (refine wl_loadE rfl rfl rfl ?_; first | refine ⟨_, Loads.old hst (hp), ?_⟩ | refine ⟨_, Loads.old hst (hq), ?_⟩))
  go_ret2
  exact Told.no hst
theorem text1_ok (p q : Nat) (most : Int) (s : List UInt8) (F : List Nat) (w : World) (hp : w.cell? ⟨p, 0, none⟩ = some (.int .i64 most)) (hq : w.cell? ⟨q, 0, none⟩ = some (.string ⟨s.toArray⟩)) (hF : ∀ k ∈ F, k < w.heap.size) (hs : -9223372036854775808 ≤ most ∧ most ≤ 9223372036854775807) (hl : s.length ≤ 9223372036854775807) (h1 : ¬ (most < 0 ∨ 255 < most)) (h2 : ¬ most < s.length) :
    Calls Try.prog 95 #[.pointer (some ⟨p, 0, none⟩), .pointer (some ⟨q, 0, none⟩)] w (Told w F (textR s most)) := by
  have hst := St.refl w
  have hR : textR s most = (0, UInt8.ofNat s.length :: (s ++ List.replicate (most.toNat - s.length) 0)) := by unfold textR; rw [if_neg h1, if_neg h2]
  rw [hR]
  clear hR
  obtain ⟨k, rfl⟩ : ∃ k : Nat, most = (k : Int) := ⟨most.toNat, by omega⟩
  have hk : k ≤ 255 := by omega
  have hsk : s.length ≤ k := by omega
  have d1 : decide ((k : Int) < 0) = false := decide_eq_false (by omega)
  have d2 : decide (255 < (k : Int)) = false := decide_eq_false (by omega)
  have d3 : decide ((k : Int) < (s.length : Int)) = false := decide_eq_false (by omega)
  have z0 : IntKind.i64.wrap (1 + (k : Int)) = 1 + (k : Int) := IntWalk.i64_in _ (by omega)
  have hsz : (⟨s.toArray⟩ : ByteArray).size = s.length := by simp [ByteArray.size]
  obtain ⟨Y, hY⟩ : ∃ Y : UInt8, Y = UInt8.ofNat s.length := ⟨_, rfl⟩
  have f2 : IntKind.u8.wrap (s.length : Int) = (Y.toNat : Int) := by
    rw [hY, UInt8.toNat_ofNat']
    show (s.length : Int) % 256 = _
    omega
  have f3 : (s.length : Int) % 256 = (Y.toNat : Int) := f2
  rw [← hY, Int.toNat_natCast]
  clear h1 h2 hY
  have HS := hid hsk
  go_enter Try.func95, Try.ntmps95
  go_wp2_with (first | go_big_skip | go_big_guard | (refine wl_loadE rfl rfl rfl ?_; first | refine ⟨_, Loads.old hst (hp), ?_⟩ | refine ⟨_, Loads.old hst (hq), ?_⟩ | refine ⟨_, Loads.old hst1 (hp), ?_⟩ | refine ⟨_, Loads.old hst1 (hq), ?_⟩ | refine ⟨_, Loads.old hst2 (hp), ?_⟩ | refine ⟨_, Loads.old hst2 (hq), ?_⟩) | (apply wl_make (k + 1) (k + 1) hst; rfl; rfl; exact rfl; exact rfl; infer_instance; infer_instance; infer_instance; omega; omega; exact Nat.le_refl _; (constructor <;> omega); intro g _ hst1; clear hst) | (refine wl_store [] hst1 rfl rfl rfl (v := .int _ _) rfl rfl rfl (by simp [Value.cells]) ?_; intro w5 hst2; clear hst1))

  (try simp only [Act.put, List.setIfInBounds_toArray, List.set_cons_zero, List.set_cons_succ])
  have hst3 : St w [] w5 [.blk g 5 (bytesV (Y :: List.replicate k 0))] := by
    have e : putAt (List.replicate (k + 1) (.int .u8 0)) 0 (Value.int .u8 (Y.toNat : Int)).cells.toList = bytesV (Y :: List.replicate k 0) := by
      simp [putAt, bytesV, Value.cells, List.replicate_succ]
    rw [← e]; exact hst2
  clear hst2 d1 d2 d3 z0 f2 f3
  have hR : ∃ w6, True := ⟨w, trivial⟩
  clear hR
  rcases k with _ | k
  · have hs0 : s = [] := List.eq_nil_of_length_eq_zero (by omega)
    subst hs0
    have hD := hst3.drew
    clear hst3
    refine wp_region_held_drew (S := (fun w' => (loadVarH 9 ⟨q, 0, none⟩).run Try.prog w' = .ok (.string ⟨([] : List UInt8).toArray⟩) w')) (by kernel_rfl) (by exact ldO hD (hq)) (fun hHeld => ?_)
    refine wpAnyH_take (i := 0) (oi := ⟨some 25, _, _, _, _, _⟩) (v := ?_) rfl (by kernel_rfl) (by kernel_rfl) (by kernel_rfl) (fun _ _ _ h => h) (Or.inl ⟨by rfl, ?_⟩) (by assumption) ?_
    rotate_left
    · intro w hSw; (try dsimp only at hSw); go_simp; try with_reducible rfl
    (try simp only [Act.put, List.setIfInBounds_toArray, List.set_cons_zero, List.set_cons_succ])
    refine wpAnyH_take (i := 1) (oi := ⟨some 26, _, _, _, _, _⟩) (v := ?_) rfl (by kernel_rfl) (by kernel_rfl) (by kernel_rfl) (fun _ _ _ h => h) (Or.inl ⟨by rfl, ?_⟩) (by assumption) ?_
    rotate_left
    · intro w hSw; (try dsimp only at hSw); go_simp; try with_reducible rfl
    (try simp only [Act.put, List.setIfInBounds_toArray, List.set_cons_zero, List.set_cons_succ])
    refine wpAnyH_take (i := 2) (oi := ⟨some 27, _, _, _, _, _⟩) (v := ?_) rfl (by kernel_rfl) (by kernel_rfl) (by kernel_rfl) (fun _ _ _ h => h) (Or.inl ⟨by rfl, ?_⟩) (by assumption) ?_
    rotate_left
    · intro w hSw; (try dsimp only at hSw); go_simp; try with_reducible rfl
    (try simp only [Act.put, List.setIfInBounds_toArray, List.set_cons_zero, List.set_cons_succ])
    refine wpAnyH_ready (rs := [3]) (by kernel_rfl) (by simp) ?_
    refine (AllReadyH.cons (o := ⟨some 28, _, _, _, _, _⟩) rfl (fun K hK => ?_) AllReadyH.nil)
    rw [if_pos (by rfl)]
    apply ow_copyStr [] hD
    rfl
    exact rfl
    exact rfl
    infer_instance
    infer_instance
    · exact Nat.le_refl _
    · simp
    intro w6 hE
    refine hK.out _ _ ?_ (fun hHeld => ?_)
    · exact ldO hE (hq)
    clear hK K
    (try simp only [Act.put, List.setIfInBounds_toArray, List.set_cons_zero, List.set_cons_succ])
    refine wpAnyH_done (by kernel_rfl) ?_ _
    clear hHeld
    go_wp2_with (first | go_big_skip | go_big_guard | fail)
    go_ret2
    exact Told.blk hE (by rfl) (by rfl) (by decide) hF
  · have h11 : (1 : Int) ≤ (k : Int) + 1 + 1 := by omega
    have hD := hst3.drew
    clear hst3
    refine wp_region_held_drew (S := (fun w' => (loadVarH 9 ⟨q, 0, none⟩).run Try.prog w' = .ok (.string ⟨s.toArray⟩) w')) (by kernel_rfl) (by exact ldO hD (hq)) (fun hHeld => ?_)
    refine wpAnyH_take (i := 0) (oi := ⟨some 25, _, _, _, _, _⟩) (v := ?_) rfl (by kernel_rfl) (by kernel_rfl) (by kernel_rfl) (fun _ _ _ h => h) (Or.inl ⟨by rfl, ?_⟩) (by assumption) ?_
    rotate_left
    · intro w hSw; (try dsimp only at hSw); go_simp; try with_reducible rfl
    (try simp only [Act.put, List.setIfInBounds_toArray, List.set_cons_zero, List.set_cons_succ])
    refine wpAnyH_take (i := 1) (oi := ⟨some 26, _, _, _, _, _⟩) (v := ?_) rfl (by kernel_rfl) (by kernel_rfl) (by kernel_rfl) (fun _ _ _ h => h) (Or.inl ⟨by rfl, ?_⟩) (by assumption) ?_
    rotate_left
    · intro w hSw; (try dsimp only at hSw); go_simp; try with_reducible rfl
    (try simp only [Act.put, List.setIfInBounds_toArray, List.set_cons_zero, List.set_cons_succ])
    refine wpAnyH_take (i := 2) (oi := ⟨some 27, _, _, _, _, _⟩) (v := ?_) rfl (by kernel_rfl) (by kernel_rfl) (by kernel_rfl) (fun _ _ _ h => h) (Or.inl ⟨by rfl, ?_⟩) (by assumption) ?_
    rotate_left
    · intro w hSw; (try dsimp only at hSw); go_simp; try with_reducible rfl
    (try simp only [Act.put, List.setIfInBounds_toArray, List.set_cons_zero, List.set_cons_succ])
    refine wpAnyH_ready (rs := [3]) (by kernel_rfl) (by simp) ?_
    refine (AllReadyH.cons (o := ⟨some 28, _, _, _, _, _⟩) rfl (fun K hK => ?_) AllReadyH.nil)
    rw [if_pos (by rfl)]
    apply ow_copyStr [] hD
    rfl
    exact rfl
    exact rfl
    infer_instance
    infer_instance
    · omega
    · simp; omega
    intro w6 hE
    refine hK.out _ _ ?_ (fun hHeld => ?_)
    · exact ldO hE (hq)
    clear hK K
    (try simp only [Act.put, List.setIfInBounds_toArray, List.set_cons_zero, List.set_cons_succ])
    refine wpAnyH_done (by kernel_rfl) ?_ _
    clear hHeld
    go_wp2_with (first | go_big_skip | go_big_guard | fail)
    go_ret2
    exact Told.blk hE (put_text _ _ _ HS.out) (by simp; have := HS.out; omega) (by omega) hF
theorem text1_any (p q : Nat) (most : Int) (s : List UInt8) (F : List Nat) (w : World) (hp : w.cell? ⟨p, 0, none⟩ = some (.int .i64 most)) (hq : w.cell? ⟨q, 0, none⟩ = some (.string ⟨s.toArray⟩)) (hF : ∀ k ∈ F, k < w.heap.size) (hs : -9223372036854775808 ≤ most ∧ most ≤ 9223372036854775807) (hl : s.length ≤ 9223372036854775807)  :
    Calls Try.prog 95 #[.pointer (some ⟨p, 0, none⟩), .pointer (some ⟨q, 0, none⟩)] w (Told w F (textR s most)) := by
  by_cases h1 : most < 0 ∨ 255 < most
  · exact text1_arg p q most s F w hp hq hF hs hl h1
  · by_cases h2 : most < s.length
    · exact text1_long p q most s F w hp hq hF hs hl h1 h2
    · exact text1_ok p q most s F w hp hq hF hs hl h1 h2
end Go.Proofs.Ytalfdcfcaamnbaa
