import Derived.Test.YtalfdcfcaamnbaaF4
namespace Go.Proofs.Ytalfdcfcaamnbaa
set_option linter.unusedVariables false
set_option linter.unusedSimpArgs false
open Go.RowKit Hp
attribute [local irreducible] Go.Calls
set_option maxRecDepth 100000
set_option maxHeartbeats 4000000
theorem Hp.St.notFeet {w0 w : World} {M : List Nat} {L1 L2 C : List HA} {q : Nat} {T : TypeId} {cs : List Value} (h : St w0 M w (L1 ++ .blk q T cs :: L2)) (hC : ∀ x ∈ C, x ∈ L1 ∨ x ∈ L2) : q ∉ C.filterMap HA.foot := by
  intro hq
  obtain ⟨x, hx, hf⟩ := List.mem_filterMap.1 hq
  have hap := h.apart
  unfold Apart at hap
  rw [List.pairwise_append, List.pairwise_cons] at hap
  rcases hC x hx with h1 | h1
  · exact hap.2.2 x h1 (.blk q T cs) (by simp) q hf rfl
  · exact hap.2.1.1 x h1 q rfl hf
theorem numR_len (n size : Int) : (numR n size).2.length ≤ 100000 := by
  unfold numR
  split
  · simp
  · split
    · simp
    · simp [length_numB]; omega
theorem textR_len (s : List UInt8) (most : Int) : (textR s most).2.length ≤ 100000 := by
  unfold textR
  split
  · simp
  · split
    · simp
    · simp; omega
theorem padR_len (to : Int) (m : Nat) : (padR to m).2.length ≤ 100000 := by
  unfold padR
  split
  · simp
  · simp; omega
theorem wP_form {w0 w : World} {M : List Nat} {g : Nat} {bv : Value} {s : WR} (h : St w0 M w (wP g bv s)) : ∃ ao c, bv = .slice ao s.2.length c := by
  obtain ⟨ao, c, e, _⟩ := rowP_form h (.tail _ (.head _))
  exact ⟨ao, c, e⟩
theorem wP_cell {w0 w : World} {M : List Nat} {g : Nat} {bv : Value} {s : WR} (h : St w0 M w (wP g bv s)) : w.cell? ⟨g, 1, none⟩ = some bv := h.cell (.head _) rfl
theorem wnum_any (g : Nat) (bv : Value) (s : WR) (n size : Int) (w : World) (h : St w (wF g bv s) w (wP g bv s)) (hB : s.2.length ≤ 65536) (hs : -9223372036854775808 ≤ size ∧ size ≤ 9223372036854775807) (hn : -9223372036854775808 ≤ n ∧ n ≤ 9223372036854775807) :
    Calls Try.prog 73 #[.pointer (some ⟨g, 0, none⟩), .int .i64 n, .int .i64 size] w (wrote g w (wF g bv s) (putW s (numR n size))) := by
  have hmf : ∀ (fn : Fn) (first cap : Array Value) (w : World), (Instr.makeFunc fn first cap).run Try.prog w = .ok (.func fn first cap) w := fun _ _ _ _ => rfl
  have hst := h
  obtain ⟨W0, hW⟩ : ∃ W0, W0 = wP g bv s := ⟨_, rfl⟩
  obtain ⟨R, hR⟩ : ∃ R, R = putW s (numR n size) := ⟨_, rfl⟩
  have HW := hid hW
  have HR := hid hR
  rw [← hR]
  rw [← hW] at hst
  obtain ⟨F, hF⟩ : ∃ F, F = wF g bv s := ⟨_, rfl⟩
  have HF := hid hF
  rw [← hF] at hst ⊢
  clear h hW hF hR
  go_enter Try.func73, Try.ntmps73
  go_wp2_with (first | go_big_skip | go_big_guard | (refine wl_box hst rfl rfl rfl ?_; intro gn w1 hst1; clear hst) | (refine wl_box hst1 rfl rfl rfl ?_; intro gz w2 hst2; clear hst1) | (go_at_call 90; have hQ := (St.perm hst2 (List.perm_append_comm (l₁ := [_, _]) (l₂ := W0))); rw [HW.out] at hQ; have hS := (St.sub hQ (List.sublist_append_left _ _)).selfF; have hlt := wF_lt hQ; have hngz := St.notFeet (C := wP g bv s) (L1 := []) (hQ.perm (List.perm_append_comm)) (fun x hx => Or.inr (by simp [hx])); have hcgz := St.cell (w := _) (off := 0) hQ (List.mem_append_right _ (.head _)) rfl; have hngn := St.notFeet (C := wP g bv s) (L1 := [_]) (hQ.perm (List.perm_append_comm)) (fun x hx => Or.inr (by simp [hx])); have hcgn := St.cell (w := _) (off := 0) hQ (List.mem_append_right _ (.tail _ (.head _))) rfl; refine (write_any g bv s 91 _ (numR n size) _ hS hB (numR_len _ _) (fun _ _ => rfl) (fun w1 hw1 => num1_any ⟨gz, 0, none⟩ ⟨gn, 0, none⟩ n size _ w1 (hw1.old_cell hcgz hngz) (hw1.old_cell hcgn hngn) (fun k hk => Nat.lt_of_lt_of_le (hlt k hk) hw1.size) hs hn)).mono ?_; rintro _ w9 ⟨rfl, bv', h4⟩; rw [← HR.out] at h4; have hst9 := St.sub (St.callF (wP g bv s) hQ h4) (List.sublist_append_left _ _); clear h4))
  go_end0
  exact ⟨rfl, _, hst9⟩
theorem wtext_any (g : Nat) (bv : Value) (s : WR) (t : List UInt8) (most : Int) (w : World) (h : St w (wF g bv s) w (wP g bv s)) (hB : s.2.length ≤ 65536) (hs : -9223372036854775808 ≤ most ∧ most ≤ 9223372036854775807) (hl : t.length ≤ 9223372036854775807) :
    Calls Try.prog 77 #[.pointer (some ⟨g, 0, none⟩), .string ⟨t.toArray⟩, .int .i64 most] w (wrote g w (wF g bv s) (putW s (textR t most))) := by
  have hmf : ∀ (fn : Fn) (first cap : Array Value) (w : World), (Instr.makeFunc fn first cap).run Try.prog w = .ok (.func fn first cap) w := fun _ _ _ _ => rfl
  have hst := h
  obtain ⟨W0, hW⟩ : ∃ W0, W0 = wP g bv s := ⟨_, rfl⟩
  obtain ⟨R, hR⟩ : ∃ R, R = putW s (textR t most) := ⟨_, rfl⟩
  have HW := hid hW
  have HR := hid hR
  rw [← hR]
  rw [← hW] at hst
  obtain ⟨F, hF⟩ : ∃ F, F = wF g bv s := ⟨_, rfl⟩
  have HF := hid hF
  rw [← hF] at hst ⊢
  clear h hW hF hR
  go_enter Try.func77, Try.ntmps77
  go_wp2_with (first | go_big_skip | go_big_guard | (refine wl_box hst rfl rfl rfl ?_; intro gn w1 hst1; clear hst) | (refine wl_box hst1 rfl rfl rfl ?_; intro gz w2 hst2; clear hst1) | (go_at_call 90; have hQ := (St.perm hst2 (List.perm_append_comm (l₁ := [_, _]) (l₂ := W0))); rw [HW.out] at hQ; have hS := (St.sub hQ (List.sublist_append_left _ _)).selfF; have hlt := wF_lt hQ; have hngz := St.notFeet (C := wP g bv s) (L1 := []) (hQ.perm (List.perm_append_comm)) (fun x hx => Or.inr (by simp [hx])); have hcgz := St.cell (w := _) (off := 0) hQ (List.mem_append_right _ (.head _)) rfl; have hngn := St.notFeet (C := wP g bv s) (L1 := [_]) (hQ.perm (List.perm_append_comm)) (fun x hx => Or.inr (by simp [hx])); have hcgn := St.cell (w := _) (off := 0) hQ (List.mem_append_right _ (.tail _ (.head _))) rfl; refine (write_any g bv s 95 _ (textR t most) _ hS hB (textR_len _ _) (fun _ _ => rfl) (fun w1 hw1 => text1_any gz gn most t _ w1 (hw1.old_cell hcgz hngz) (hw1.old_cell hcgn hngn) (fun k hk => Nat.lt_of_lt_of_le (hlt k hk) hw1.size) hs hl)).mono ?_; rintro _ w9 ⟨rfl, bv', h4⟩; rw [← HR.out] at h4; have hst9 := St.sub (St.callF (wP g bv s) hQ h4) (List.sublist_append_left _ _); clear h4))
  go_end0
  exact ⟨rfl, _, hst9⟩
theorem wraw_any (g : Nat) (bv : Value) (s : WR) (au : Option Addr) (m cu : Nat) (b : List UInt8) (w : World) (h : St w (wF g bv s) w (wP g bv s)) (hB : s.2.length ≤ 65536) (hu : Rd w (.slice au m cu) 1 m (bytesV b)) (ho : Off (.slice au m cu) (wF g bv s)) (hb : b.length ≤ 100000) :
    Calls Try.prog 83 #[.pointer (some ⟨g, 0, none⟩), .slice au m cu] w (wrote g w (wF g bv s) (putW s ((0, b) : WR))) := by
  have hmf : ∀ (fn : Fn) (first cap : Array Value) (w : World), (Instr.makeFunc fn first cap).run Try.prog w = .ok (.func fn first cap) w := fun _ _ _ _ => rfl
  have hst := h
  obtain ⟨W0, hW⟩ : ∃ W0, W0 = wP g bv s := ⟨_, rfl⟩
  obtain ⟨R, hR⟩ : ∃ R, R = putW s ((0, b) : WR) := ⟨_, rfl⟩
  have HW := hid hW
  have HR := hid hR
  rw [← hR]
  rw [← hW] at hst
  obtain ⟨F, hF⟩ : ∃ F, F = wF g bv s := ⟨_, rfl⟩
  have HF := hid hF
  rw [← hF] at hst ⊢
  clear h hW hF hR
  go_enter Try.func83, Try.ntmps83
  go_wp2_with (first | go_big_skip | go_big_guard | (refine wl_box hst rfl rfl rfl ?_; intro gn w1 hst1; clear hst) | (go_at_call 90; have hQ := (St.perm hst1 (List.perm_append_comm (l₁ := [_]) (l₂ := W0))); rw [HW.out] at hQ; have hS := (St.sub hQ (List.sublist_append_left _ _)).selfF; have hlt := wF_lt hQ; have hngn := St.notFeet (C := wP g bv s) (L1 := []) (hQ.perm (List.perm_append_comm)) (fun x hx => Or.inr (by simp [hx])); have hcgn := St.cell (w := _) (off := 0) hQ (List.mem_append_right _ (.head _)) rfl; refine (write_any g bv s 97 _ ((0, b) : WR) _ hS hB hb (fun _ _ => rfl) (fun w1 hw1 => raw1_any ⟨gn, 0, none⟩ (.slice au m cu) m b _ w1 (hw1.old_cell hcgn hngn) (Rd.oldM hw1 (Rd.oldM hst1 hu (by rw [HF.out]; exact ho)) ho) ho)).mono ?_; rintro _ w9 ⟨rfl, bv', h4⟩; rw [← HR.out] at h4; have hst9 := St.sub (St.callF (wP g bv s) hQ h4) (List.sublist_append_left _ _); clear h4))
  go_end0
  exact ⟨rfl, _, hst9⟩
end Go.Proofs.Ytalfdcfcaamnbaa
