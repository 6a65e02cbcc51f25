import Derived.Test.YtalfdcfcaamnbaaF15
namespace Go.Proofs.Ytalfdcfcaamnbaa
set_option linter.unusedVariables false
set_option linter.unusedSimpArgs false
open Go.RowKit Hp
attribute [local irreducible] Go.Calls
set_option maxRecDepth 100000
set_option maxHeartbeats 4000000
theorem ReadP.mono {α : Type} {w w' : World} {F : List Nat} {T : TypeId} {r : RR α} {L0 : List HA} {Q Q' : α → Nat → World → Prop} {e : Ending} (h : ReadP w F T r L0 Q e w') (hq : ∀ v p, Q v p w' → Q' v p w') : ReadP w F T r L0 Q' e w' := by
  cases r with
  | stop f a => exact h
  | ok v p => exact ⟨h.1, hq v p h.2⟩
def rF0 (g : Nat) (bv : Value) (B : List UInt8) (s : RS) : List Nat := (rP g bv B s).filterMap HA.foot
/-- One cell of its own that takes what was read. -/
theorem readPost_cell {α : Type} {w w' : World} {F : List Nat} {g go : Nat} {T : TypeId} {bv : Value} {B : List UInt8} {s : RS} {r : RR α} {d : α} {enc : α → Value} {e : Ending}
    (h : readPost w F g bv B s [.blk go T [enc d]] r (fun v p L' => L' = rL g bv B ⟨p, s.e, s.fa⟩ [.blk go T [enc v]]) e w') :
    e = .returned (.tuple #[]) ∧ St w F w' (rL g bv B (stepR s r d).1 [.blk go T [enc (stepR s r d).2]]) := by
  refine ⟨h.1, ?_⟩
  have h2 := h.2
  unfold stepR
  split at h2
  · rename_i h0
    rw [if_pos h0]
    exact h2
  · rename_i h0
    rw [if_neg h0]
    cases r with
    | stop f a => exact h2
    | ok v p =>
      obtain ⟨L', rfl, h3⟩ := h2
      exact h3
theorem readPost_row {w w' : World} {F : List Nat} {g go : Nat} {T : TypeId} {bv : Value} {B : List UInt8} {s : RS} {r : RR (List UInt8)} {e : Ending}
    (h : readPost w F g bv B s [.blk go T [.slice none 0 0]] r (fun v p L' => ∃ u, L' = rL g bv B ⟨p, s.e, s.fa⟩ [.blk go T [u], .rowP isB u 5 1 v.length (bytesV v)]) e w') :
    e = .returned (.tuple #[]) ∧ ∃ u, St w F w' (rL g bv B (stepR s r []).1 [.blk go T [u], .rowP isB u 5 1 (stepR s r []).2.length (bytesV (stepR s r []).2)]) := by
  refine ⟨h.1, ?_⟩
  have h2 := h.2
  have hnil : ∀ s' : RS, St w F w' (rL g bv B s' [.blk go T [.slice none 0 0]]) → ∃ u, St w F w' (rL g bv B s' [.blk go T [u], .rowP isB u 5 1 ([] : List UInt8).length (bytesV [])]) := fun s' h3 =>
    ⟨.slice none 0 0, St.perm (St.nilPQ isB 5 1 h3) (List.perm_append_comm (l₁ := [_]) (l₂ := rL g bv B s' [.blk go T [.slice none 0 0]]))⟩
  unfold stepR
  split at h2
  · rename_i h0
    rw [if_pos h0]
    exact hnil s h2
  · rename_i h0
    rw [if_neg h0]
    cases r with
    | stop f a => exact hnil _ h2
    | ok v p =>
      obtain ⟨L', ⟨u, rfl⟩, h3⟩ := h2
      exact ⟨u, h3⟩
theorem rNum_any (g : Nat) (bv : Value) (B : List UInt8) (s : RS) (size low high : Int) (w : World) (h : St w (rF0 g bv B s) w (rP g bv B s)) (hp : s.pos ≤ B.length) (hB : B.length ≤ 100000) (hs : -9223372036854775808 ≤ size ∧ size ≤ 9223372036854775807) :
    Calls Try.prog 75 #[.pointer (some ⟨g, 0, none⟩), .int .i64 size, .int .i64 low, .int .i64 high] w fun e w' => e = .returned (.int .i64 (stepR s (numRR B s.pos size low high) 0).2) ∧ St w (rF0 g bv B s) w' (rP g bv B (stepR s (numRR B s.pos size low high) 0).1) := by
  have hmf : ∀ (fn : Fn) (first cap : Array Value) (w : World), (Instr.makeFunc fn first cap).run Try.prog w = .ok (.func fn first cap) w := fun _ _ _ _ => rfl
  have hst := h
  obtain ⟨W0, hW⟩ : ∃ W0, W0 = rP g bv B s := ⟨_, rfl⟩
  have HW := hid hW
  rw [← hW] at hst
  obtain ⟨F, hF⟩ : ∃ F, F = rF0 g bv B s := ⟨_, rfl⟩
  have HF := hid hF
  rw [← hF] at hst ⊢
  clear h hW hF
  obtain ⟨S', hS'⟩ : ∃ S', S' = stepR s (numRR B s.pos size low high) 0 := ⟨_, rfl⟩
  have HS := hid hS'
  rw [← hS']
  clear hS'
  go_enter Try.func75, Try.ntmps75
  go_wp2_with (first | go_big_skip | go_big_guard | (refine wl_loadE rfl rfl rfl ?_; first | refine ⟨_, Loads.at [] hst4 rfl, ?_⟩ | refine ⟨_, Loads.at [_] hst4 rfl, ?_⟩ | refine ⟨_, Loads.at [_, _] hst4 rfl, ?_⟩ | refine ⟨_, Loads.at [_, _, _] hst4 rfl, ?_⟩ | refine ⟨_, Loads.at [_, _, _, _] hst4 rfl, ?_⟩ | refine ⟨_, Loads.at [] hst8 rfl, ?_⟩ | refine ⟨_, Loads.at [_] hst8 rfl, ?_⟩ | refine ⟨_, Loads.at [_, _] hst8 rfl, ?_⟩ | refine ⟨_, Loads.at [_, _, _] hst8 rfl, ?_⟩ | refine ⟨_, Loads.at [_, _, _, _] hst8 rfl, ?_⟩ | refine ⟨_, Loads.at [] hst9 rfl, ?_⟩ | refine ⟨_, Loads.at [_] hst9 rfl, ?_⟩ | refine ⟨_, Loads.at [_, _] hst9 rfl, ?_⟩ | refine ⟨_, Loads.at [_, _, _] hst9 rfl, ?_⟩ | refine ⟨_, Loads.at [_, _, _, _] hst9 rfl, ?_⟩ | refine ⟨_, Loads.at [_, _] hst10 rfl, ?_⟩) | (refine wl_box hst rfl rfl rfl ?_; intro gw w1 hst1; clear hst) | (refine wl_box hst1 rfl rfl rfl ?_; intro gz w2 hst2; clear hst1) | (refine wl_box hst2 rfl rfl rfl ?_; intro gl w3 hst3; clear hst2) | (refine wl_box hst3 rfl rfl rfl ?_; intro gh w4 hst4; clear hst3) | (refine wl_alloc hst4 rfl rfl ?_; intro go w8 hst8; clear hst4) | (refine wl_store [] hst8 rfl rfl rfl (v := .int _ _) rfl rfl rfl (Nat.le_refl _) ?_; intro w9 hst9; clear hst8) | (go_at_call 92; have hQ : St w F _ (rL g bv B s [.blk go 3 [.int .i64 0]] ++ [_, _, _, _]) := (by have hq := St.perm hst9 (List.perm_append_comm (l₁ := [_, _, _, _, _]) (l₂ := W0)); rw [HW.out] at hq; exact hq); have hS := (St.sub hQ (List.sublist_append_left _ _)).selfF; have hngh : gh ∉ rF g bv B s [.blk go 3 [.int .i64 0]] := St.notFeet (C := rL g bv B s [.blk go 3 [.int .i64 0]]) (L1 := []) (hQ.perm List.perm_append_comm) (fun x hx => Or.inr (List.mem_append_right _ hx)); have hcgh := St.cell (w := _) (off := 0) hQ (List.mem_append_right _ (.head _)) rfl; have hngl : gl ∉ rF g bv B s [.blk go 3 [.int .i64 0]] := St.notFeet (C := rL g bv B s [.blk go 3 [.int .i64 0]]) (L1 := [_]) (hQ.perm List.perm_append_comm) (fun x hx => Or.inr (List.mem_append_right _ hx)); have hcgl := St.cell (w := _) (off := 0) hQ (List.mem_append_right _ (.tail _ (.head _))) rfl; have hngz : gz ∉ rF g bv B s [.blk go 3 [.int .i64 0]] := St.notFeet (C := rL g bv B s [.blk go 3 [.int .i64 0]]) (L1 := [_, _]) (hQ.perm List.perm_append_comm) (fun x hx => Or.inr (List.mem_append_right _ hx)); have hcgz := St.cell (w := _) (off := 0) hQ (List.mem_append_right _ (.tail _ (.tail _ (.head _)))) rfl; have hngw : gw ∉ rF g bv B s [.blk go 3 [.int .i64 0]] := St.notFeet (C := rL g bv B s [.blk go 3 [.int .i64 0]]) (L1 := [_, _, _]) (hQ.perm List.perm_append_comm) (fun x hx => Or.inr (List.mem_append_right _ hx)); have hcgw := St.cell (w := _) (off := 0) hQ (List.mem_append_right _ (.tail _ (.tail _ (.tail _ (.head _))))) rfl; refine (read_any g bv B s [.blk go 3 [.int .i64 0]] 93 _ (numRR B s.pos size low high) (fun v p L' => L' = rL g bv B ⟨p, s.e, s.fa⟩ [.blk go 3 [.int .i64 v]]) _ hS (fun _ _ => rfl) (fun _ w1 hw1 => (rnum_any g bv B s gz gw gl gh go size low high _ w1 hw1.selfF hp (by omega) (hw1.old_cell hcgz hngz) (hw1.old_cell hcgw hngw) (hw1.old_cell hcgl hngl) (hw1.old_cell hcgh hngh) hngz hngw hngl hngh hs).mono fun e w' hh => ReadP.mono hh (fun v p hh => ⟨_, rfl, hh⟩))).mono ?_; intro e w10 hh; obtain ⟨rfl, h4⟩ := readPost_cell (enc := fun x => .int .i64 x) hh; rw [← HS.out] at h4; have hst10 : St w F w10 (.blk g 111 [.bool true, bv, .int .i64 S'.1.pos, .int .i64 S'.1.e, .int .i64 S'.1.fa] :: .rowP isB bv 5 1 B.length (bytesV B) :: .blk go 3 [.int .i64 S'.2] :: [_, _, _, _]) := St.callF (rL g bv B s [.blk go 3 [.int .i64 0]]) hQ h4; clear h4 hQ hh hst9))
  go_ret
  exact ⟨rfl, St.sub hst10 (.cons_cons _ (.cons_cons _ (List.nil_sublist _)))⟩
theorem rText_any (g : Nat) (bv : Value) (B : List UInt8) (s : RS) (most : Int) (w : World) (h : St w (rF0 g bv B s) w (rP g bv B s)) (hp : s.pos ≤ B.length) (hB : B.length ≤ 100000) (hs : -9223372036854775808 ≤ most ∧ most ≤ 9223372036854775807) :
    Calls Try.prog 79 #[.pointer (some ⟨g, 0, none⟩), .int .i64 most] w fun e w' => e = .returned (.string ⟨(stepR s (textRR B s.pos most) []).2.toArray⟩) ∧ St w (rF0 g bv B s) w' (rP g bv B (stepR s (textRR B s.pos most) []).1) := by
  have hmf : ∀ (fn : Fn) (first cap : Array Value) (w : World), (Instr.makeFunc fn first cap).run Try.prog w = .ok (.func fn first cap) w := fun _ _ _ _ => rfl
  have hst := h
  obtain ⟨W0, hW⟩ : ∃ W0, W0 = rP g bv B s := ⟨_, rfl⟩
  have HW := hid hW
  rw [← hW] at hst
  obtain ⟨F, hF⟩ : ∃ F, F = rF0 g bv B s := ⟨_, rfl⟩
  have HF := hid hF
  rw [← hF] at hst ⊢
  clear h hW hF
  obtain ⟨S', hS'⟩ : ∃ S', S' = stepR s (textRR B s.pos most) [] := ⟨_, rfl⟩
  have HS := hid hS'
  rw [← hS']
  clear hS'
  go_enter Try.func79, Try.ntmps79
  go_wp2_with (first | go_big_skip | go_big_guard | (refine wl_loadE rfl rfl rfl ?_; first | refine ⟨_, Loads.at [] hst2 rfl, ?_⟩ | refine ⟨_, Loads.at [_] hst2 rfl, ?_⟩ | refine ⟨_, Loads.at [_, _] hst2 rfl, ?_⟩ | refine ⟨_, Loads.at [] hst8 rfl, ?_⟩ | refine ⟨_, Loads.at [_] hst8 rfl, ?_⟩ | refine ⟨_, Loads.at [_, _] hst8 rfl, ?_⟩ | refine ⟨_, Loads.at [] hst9 rfl, ?_⟩ | refine ⟨_, Loads.at [_] hst9 rfl, ?_⟩ | refine ⟨_, Loads.at [_, _] hst9 rfl, ?_⟩ | refine ⟨_, Loads.at [_, _] hst10 rfl, ?_⟩) | (refine wl_box hst rfl rfl rfl ?_; intro gw w1 hst1; clear hst) | (refine wl_box hst1 rfl rfl rfl ?_; intro gz w2 hst2; clear hst1) | (refine wl_alloc hst2 rfl rfl ?_; intro go w8 hst8; clear hst2) | (refine wl_store [] hst8 rfl rfl rfl (v := .string _) rfl rfl rfl (Nat.le_refl _) ?_; intro w9 hst9; clear hst8) | (go_at_call 92; have hQ : St w F _ (rL g bv B s [.blk go 9 [.string ⟨List.toArray []⟩]] ++ [_, _]) := (by have hq := St.perm hst9 (List.perm_append_comm (l₁ := [_, _, _]) (l₂ := W0)); rw [HW.out] at hq; exact hq); have hS := (St.sub hQ (List.sublist_append_left _ _)).selfF; have hngz : gz ∉ rF g bv B s [.blk go 9 [.string ⟨List.toArray []⟩]] := St.notFeet (C := rL g bv B s [.blk go 9 [.string ⟨List.toArray []⟩]]) (L1 := []) (hQ.perm List.perm_append_comm) (fun x hx => Or.inr (List.mem_append_right _ hx)); have hcgz := St.cell (w := _) (off := 0) hQ (List.mem_append_right _ (.head _)) rfl; have hngw : gw ∉ rF g bv B s [.blk go 9 [.string ⟨List.toArray []⟩]] := St.notFeet (C := rL g bv B s [.blk go 9 [.string ⟨List.toArray []⟩]]) (L1 := [_]) (hQ.perm List.perm_append_comm) (fun x hx => Or.inr (List.mem_append_right _ hx)); have hcgw := St.cell (w := _) (off := 0) hQ (List.mem_append_right _ (.tail _ (.head _))) rfl; refine (read_any g bv B s [.blk go 9 [.string ⟨List.toArray []⟩]] 96 _ (textRR B s.pos most) (fun v p L' => L' = rL g bv B ⟨p, s.e, s.fa⟩ [.blk go 9 [.string ⟨List.toArray v⟩]]) _ hS (fun _ _ => rfl) (fun _ w1 hw1 => (rtext_any g bv B s gz gw go most _ w1 hw1.selfF hp hB (hw1.old_cell hcgz hngz) (hw1.old_cell hcgw hngw) hngz hngw hs).mono fun e w' hh => ReadP.mono hh (fun v p hh => ⟨_, rfl, hh⟩))).mono ?_; intro e w10 hh; obtain ⟨rfl, h4⟩ := readPost_cell (enc := fun x => .string ⟨List.toArray x⟩) hh; rw [← HS.out] at h4; have hst10 : St w F w10 (.blk g 111 [.bool true, bv, .int .i64 S'.1.pos, .int .i64 S'.1.e, .int .i64 S'.1.fa] :: .rowP isB bv 5 1 B.length (bytesV B) :: .blk go 9 [.string ⟨List.toArray S'.2⟩] :: [_, _]) := St.callF (rL g bv B s [.blk go 9 [.string ⟨List.toArray []⟩]]) hQ h4; clear h4 hQ hh hst9))
  go_ret
  exact ⟨rfl, St.sub hst10 (.cons_cons _ (.cons_cons _ (List.nil_sublist _)))⟩
theorem rRaw_any (g : Nat) (bv : Value) (B : List UInt8) (s : RS) (size : Int) (w : World) (h : St w (rF0 g bv B s) w (rP g bv B s)) (hp : s.pos ≤ B.length) (hB : B.length ≤ 100000) (hs : -9223372036854775808 ≤ size ∧ size ≤ 9223372036854775807) :
    Calls Try.prog 85 #[.pointer (some ⟨g, 0, none⟩), .int .i64 size] w fun e w' => ∃ u, e = .returned u ∧ St w (rF0 g bv B s) w' (rP g bv B (stepR s (rawRR B s.pos size) []).1 ++ [.rowP isB u 5 1 (stepR s (rawRR B s.pos size) []).2.length (bytesV (stepR s (rawRR B s.pos size) []).2)]) := by
  have hmf : ∀ (fn : Fn) (first cap : Array Value) (w : World), (Instr.makeFunc fn first cap).run Try.prog w = .ok (.func fn first cap) w := fun _ _ _ _ => rfl
  have hst := h
  obtain ⟨W0, hW⟩ : ∃ W0, W0 = rP g bv B s := ⟨_, rfl⟩
  have HW := hid hW
  rw [← hW] at hst
  obtain ⟨F, hF⟩ : ∃ F, F = rF0 g bv B s := ⟨_, rfl⟩
  have HF := hid hF
  rw [← hF] at hst ⊢
  clear h hW hF
  obtain ⟨S', hS'⟩ : ∃ S', S' = stepR s (rawRR B s.pos size) [] := ⟨_, rfl⟩
  have HS := hid hS'
  rw [← hS']
  clear hS'
  go_enter Try.func85, Try.ntmps85
  go_wp2_with (first | go_big_skip | go_big_guard | (refine wl_loadE rfl rfl rfl ?_; first | refine ⟨_, Loads.at [] hst2 rfl, ?_⟩ | refine ⟨_, Loads.at [_] hst2 rfl, ?_⟩ | refine ⟨_, Loads.at [_, _] hst2 rfl, ?_⟩ | refine ⟨_, Loads.at [] hst8 rfl, ?_⟩ | refine ⟨_, Loads.at [_] hst8 rfl, ?_⟩ | refine ⟨_, Loads.at [_, _] hst8 rfl, ?_⟩ | refine ⟨_, Loads.at [_, _] hst10 rfl, ?_⟩) | (refine wl_box hst rfl rfl rfl ?_; intro gw w1 hst1; clear hst) | (refine wl_box hst1 rfl rfl rfl ?_; intro gz w2 hst2; clear hst1) | (refine wl_alloc hst2 rfl rfl ?_; intro go w8 hst8; clear hst2) | (go_at_call 92; have hQ : St w F _ (rL g bv B s [.blk go 23 [.slice none 0 0]] ++ [_, _]) := (by have hq := St.perm hst8 (List.perm_append_comm (l₁ := [_, _, _]) (l₂ := W0)); rw [HW.out] at hq; exact hq); have hS := (St.sub hQ (List.sublist_append_left _ _)).selfF; have hngz : gz ∉ rF g bv B s [.blk go 23 [.slice none 0 0]] := St.notFeet (C := rL g bv B s [.blk go 23 [.slice none 0 0]]) (L1 := []) (hQ.perm List.perm_append_comm) (fun x hx => Or.inr (List.mem_append_right _ hx)); have hcgz := St.cell (w := _) (off := 0) hQ (List.mem_append_right _ (.head _)) rfl; have hngw : gw ∉ rF g bv B s [.blk go 23 [.slice none 0 0]] := St.notFeet (C := rL g bv B s [.blk go 23 [.slice none 0 0]]) (L1 := [_]) (hQ.perm List.perm_append_comm) (fun x hx => Or.inr (List.mem_append_right _ hx)); have hcgw := St.cell (w := _) (off := 0) hQ (List.mem_append_right _ (.tail _ (.head _))) rfl; refine (read_any g bv B s [.blk go 23 [.slice none 0 0]] 98 _ (rawRR B s.pos size) (fun v p L' => ∃ u, L' = rL g bv B ⟨p, s.e, s.fa⟩ [.blk go 23 [u], .rowP isB u 5 1 v.length (bytesV v)]) _ hS (fun _ _ => rfl) (fun _ w1 hw1 => (rraw_any g bv B s gz gw go size _ w1 hw1.selfF hp hB (hw1.old_cell hcgz hngz) (hw1.old_cell hcgw hngw) hngz hngw hs).mono fun e w' hh => ReadP.mono hh (fun v p ⟨u, hh⟩ => ⟨_, ⟨u, rfl⟩, hh⟩))).mono ?_; intro e w10 hh; obtain ⟨rfl, u, h4⟩ := readPost_row hh; rw [← HS.out] at h4; have hst10 : St w F w10 (.blk g 111 [.bool true, bv, .int .i64 S'.1.pos, .int .i64 S'.1.e, .int .i64 S'.1.fa] :: .rowP isB bv 5 1 B.length (bytesV B) :: .blk go 23 [u] :: .rowP isB u 5 1 S'.2.length (bytesV S'.2) :: [_, _]) := St.callF (rL g bv B s [.blk go 23 [.slice none 0 0]]) hQ h4; clear h4 hQ hh hst8))
  go_ret
  exact ⟨u, rfl, St.sub hst10 (.cons_cons _ (.cons_cons _ (.cons _ (.cons_cons _ (List.nil_sublist _)))))⟩
theorem readPost_none {w w' : World} {F : List Nat} {g : Nat} {bv : Value} {B : List UInt8} {s : RS} {r : RR Unit} {e : Ending}
    (h : readPost w F g bv B s [] r (fun _ p L' => L' = rL g bv B ⟨p, s.e, s.fa⟩ []) e w') : e = .returned (.tuple #[]) ∧ St w F w' (rL g bv B (stepR s r ()).1 []) := by
  refine ⟨h.1, ?_⟩
  have h2 := h.2
  unfold stepR
  split at h2
  · rename_i h0
    rw [if_pos h0]
    exact h2
  · rename_i h0
    rw [if_neg h0]
    cases r with
    | stop f a => exact h2
    | ok v p =>
      obtain ⟨L', rfl, h3⟩ := h2
      exact h3
end Go.Proofs.Ytalfdcfcaamnbaa
