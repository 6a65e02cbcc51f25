import Derived.Test.YtilgjldnlgfehaaH25
namespace Go.Proofs.Ytilgjldnlgfehaa
set_option linter.unusedVariables false
set_option linter.unusedSimpArgs false
open Go.RowKit Hp
attribute [local irreducible] Go.Calls
set_option maxRecDepth 100000
set_option maxHeartbeats 4000000
theorem cmp_self : ∀ a : List UInt8, Lib.compareBytes a a = 0
  | [] => rfl
  | x :: a => by
    unfold Lib.compareBytes
    have : ¬ x < x := UInt8.lt_irrefl x
    simp [this, cmp_self a]
theorem cmp_at : ∀ (k : Nat) (a b : List UInt8) (x y : UInt8), a[k]? = some x → b[k]? = some y → (∀ j, j < k → a[j]? = b[j]?) → x ≠ y → Lib.compareBytes a b = if x < y then -1 else 1
  | 0, p :: a, q :: b, x, y, hx, hy, _, hne => by
    simp at hx hy
    subst hx; subst hy
    unfold Lib.compareBytes
    by_cases h : p < q
    · simp [h]
    · have : q < p := UInt8.lt_of_le_of_ne (UInt8.not_lt.1 h) (Ne.symm hne)
      simp [h, this]
  | k + 1, p :: a, q :: b, x, y, hx, hy, h, hne => by
    have h0 := h 0 (by omega)
    simp at h0
    subst h0
    have ih := cmp_at k a b x y (by simpa using hx) (by simpa using hy) (fun j hj => by simpa using h (j + 1) (by omega)) hne
    unfold Lib.compareBytes
    have : ¬ p < p := UInt8.lt_irrefl p
    simp [this, ih]
  | 0, [], _, _, _, hx, _, _, _ => by simp at hx
  | _ + 1, [], _, _, _, hx, _, _, _ => by simp at hx
  | 0, _ :: _, [], _, _, _, hy, _, _ => by simp at hy
  | _ + 1, _ :: _, [], _, _, _, hy, _, _ => by simp at hy
theorem run_xload {P : Program} {w : World} : ∀ (l : List UInt8) (b o : Nat) (acc : ByteArray), (∀ j x, l[j]? = some x → w.cell? ⟨b, o + j, none⟩ = some (.int .u8 x.toNat)) →
    (Extern.Bytes.loadBytes ⟨b, o, none⟩ l.length acc).run P w = .ok ⟨acc.data ++ l.toArray⟩ w
  | [], b, o, acc, _ => by simp [Extern.Bytes.loadBytes]
  | x :: l, b, o, acc, h => by
    have h0 : w.cell? ⟨b, o, none⟩ = some (.int .u8 x.toNat) := h 0 x rfl
    have ih := run_xload (P := P) l b (o + 1) (acc.push x) (fun j y hy => by
      have := h (j + 1) y (by simpa using hy)
      rwa [show o + 1 + j = o + (j + 1) by omega])
    have hx : ((x.toNat : Int).toNat).toUInt8 = x := by simp
    have e : (⟨b, o, none⟩ : Addr).add 1 = ⟨b, o + 1, none⟩ := rfl
    simp only [List.length_cons, Extern.Bytes.loadBytes, Sem.run_bind, run_load, h0, Result.andThen, hx, e]
    rw [ih]
    congr 1
    apply ByteArray.ext
    simp
theorem run_compareSl {P : Program} {w : World} {b1 o1 n1 c1 b2 o2 n2 c2 : Nat} {l k : List UInt8} (h1 : Rd w (.slice (some ⟨b1, o1, none⟩) n1 c1) 1 n1 (bytesV l)) (h2 : Rd w (.slice (some ⟨b2, o2, none⟩) n2 c2) 1 n2 (bytesV k)) :
    (Extern.BytealgCompare.compare #[.slice (some ⟨b1, o1, none⟩) n1 c1, .slice (some ⟨b2, o2, none⟩) n2 c2]).run P w = .ok (.int .i64 (Lib.compareBytes l k)) w := by
  have hl : l.length = n1 := by have := h1.bd.2.2; simpa using this
  have hk : k.length = n2 := by have := h2.bd.2.2; simpa using this
  subst hl hk
  have r1 := run_xload (P := P) (w := w) l b1 o1 .empty (fun j x hj => by exact h1.range j _ (by unfold bytesV; rw [List.getElem?_map, hj]; rfl))
  have r2 := run_xload (P := P) (w := w) k b2 o2 .empty (fun j x hj => by exact h2.range j _ (by unfold bytesV; rw [List.getElem?_map, hj]; rfl))
  change Sem.run P (do pure (goInt (Extern.BytealgCompare.cmp (← Extern.Bytes.bytesOf (.slice (some ⟨b1, o1, none⟩) l.length c1)) (← Extern.Bytes.bytesOf (.slice (some ⟨b2, o2, none⟩) k.length c2))))) w = _
  simp only [Extern.Bytes.bytesOf, Sem.run_bind, Sem.run_pure, Result.andThen, r1, r2]
  rw [Lib.cmp_eq]
  simp [goInt]
theorem bcmp_any (b1 o1 n1 c1 b2 o2 n2 c2 : Nat) (l k : List UInt8) (w : World) (h1 : Rd w (.slice (some ⟨b1, o1, none⟩) n1 c1) 1 n1 (bytesV l)) (h2 : Rd w (.slice (some ⟨b2, o2, none⟩) n2 c2) 1 n2 (bytesV k)) :
    Calls Try.prog 41 #[.slice (some ⟨b1, o1, none⟩) n1 c1, .slice (some ⟨b2, o2, none⟩) n2 c2] w fun e w' => e = .returned (.int .i64 (Lib.compareBytes l k)) ∧ w' = w := by
  have hr := run_compareSl (P := Try.prog) h1 h2
  go_enter Try.func41, Try.ntmps41
  go_wp2
  rw [run_callFunc_extern Try.func50 (by kernel_rfl) (by kernel_rfl) (by kernel_rfl) (e := Extern.BytealgCompare.compare) (by kernel_rfl), hr]
  simp only [Result.andThen]
  rw [Oper.upon_value]
  go_wp2
  go_ret
  exact ⟨rfl, rfl⟩
section
attribute [local go_sem ↓] loadedU8h
/-- Is an ID the lesser? -/
def lessB (a b : List UInt8) : Bool := decide (Lib.compareBytes a b < 0)
theorem less_any (a b : List UInt8) (ha : a.length = 32) (hb : b.length = 32) (w : World) :
    Calls Try.prog 29 #[.agg (bytesV a).toArray, .agg (bytesV b).toArray] w fun e w' => e = .returned (.bool (lessB a b)) ∧ St w [] w' [] := by
  have hst := St.refl w
  have HA := hid (show (bytesV a).length = 32 * 1 by rw [length_bytesV, ha])
  have HB := hid (show (bytesV b).length = 32 * 1 by rw [length_bytesV, hb])
  clear ha hb
  go_enter Try.func29, Try.ntmps29
  go_wp2_with (first | go_big_skip | go_big_guard | (refine wl_boxA hst rfl rfl rfl ?_; intro g1 _ hst1; clear hst) | (refine wl_boxA hst1 rfl rfl rfl ?_; intro g2 _ hst2; clear hst1))
  have hD := hst2.drew
  clear hst2
  refine wp_region_held_drew (S := (fun w' => True)) (by kernel_rfl) (by exact trivial) (fun hHeld => ?_)
  refine wpAnyH_take (i := 0) (oi := ⟨some 5, _, _, _, _, _⟩) (v := ?_) rfl (by kernel_rfl) (by kernel_rfl) (by kernel_rfl) (fun _ _ _ h => h) (Or.inl ⟨by rfl, ?_⟩) (by assumption) ?_
  rotate_left
  · intro w hSw; (try dsimp only at hSw); go_simp; try with_reducible rfl
  (try simp only [Act.put, List.setIfInBounds_toArray, List.set_cons_zero, List.set_cons_succ])
  refine wpAnyH_take (i := 1) (oi := ⟨some 6, _, _, _, _, _⟩) (v := ?_) rfl (by kernel_rfl) (by kernel_rfl) (by kernel_rfl) (fun _ _ _ h => h) (Or.inl ⟨by rfl, ?_⟩) (by assumption) ?_
  rotate_left
  · intro w hSw; (try dsimp only at hSw); go_simp; try with_reducible rfl
  (try simp only [Act.put, List.setIfInBounds_toArray, List.set_cons_zero, List.set_cons_succ])
  refine wpAnyH_ready (rs := [2]) (by kernel_rfl) (by simp) ?_
  refine (AllReadyH.cons (o := ⟨some 7, _, _, _, _, _⟩) rfl (fun K hK => ?_) AllReadyH.nil)
  go_simp
  go_at_call 41
  refine (bcmp_any g1 0 32 32 g2 0 32 32 a b _ (Rd.blk hD (.tail _ (.head _)) (Nat.le_refl _) (by decide) HA.out (by rw [List.drop_zero, List.take_length])) (Rd.blk hD (.head _) (Nat.le_refl _) (by decide) HB.out (by rw [List.drop_zero, List.take_length]))).mono ?_
  rintro _ _ ⟨rfl, rfl⟩
  refine hK.out _ _ ?_ (fun hHeld => ?_)
  · exact trivial
  clear hK K
  (try simp only [Act.put, List.setIfInBounds_toArray, List.set_cons_zero, List.set_cons_succ])
  refine wpAnyH_take (i := 3) (oi := ⟨some 8, _, _, _, _, _⟩) (v := ?_) rfl (by kernel_rfl) (by kernel_rfl) (by kernel_rfl) (fun _ _ _ h => h) (Or.inl ⟨by rfl, ?_⟩) (by assumption) ?_
  rotate_left
  · intro w hSw; (try dsimp only at hSw); go_simp; try with_reducible rfl
  (try simp only [Act.put, List.setIfInBounds_toArray, List.set_cons_zero, List.set_cons_succ])
  refine wpAnyH_take (i := 4) (oi := ⟨some 4, _, _, _, _, _⟩) (v := ?_) rfl (by kernel_rfl) (by kernel_rfl) (by kernel_rfl) (fun _ _ _ h => h) (Or.inl ⟨by rfl, ?_⟩) (by assumption) ?_
  rotate_left
  · intro w hSw; (try dsimp only at hSw); go_simp; try with_reducible rfl
  (try simp only [Act.put, List.setIfInBounds_toArray, List.set_cons_zero, List.set_cons_succ])
  refine wpAnyH_done (by kernel_rfl) ?_ _
  clear hHeld
  go_wp2_with (first | go_big_skip | go_big_guard | fail)
  go_ret
  exact ⟨rfl, hD.nil⟩
theorem qless_any (a b : List UInt8) (ha : a.length = 32) (hb : b.length = 32) (w : World) :
    Calls Try.prog 31 #[.agg (bytesV a).toArray, .agg (bytesV b).toArray] w fun e w' => e = .returned (.bool (lessB a b)) ∧ St w [] w' [] := by
  have hst := St.refl w
  have HA := hid ha
  have HB := hid hb
  clear ha hb
  go_enter Try.func31, Try.ntmps31
  go_wp2_with (first | go_big_skip | go_big_guard | (refine wl_boxA hst rfl rfl rfl ?_; intro g1 _ hst1; clear hst) | (refine wl_boxA hst1 rfl rfl rfl ?_; intro g2 _ hst2; clear hst1))
  go_loopw [5] (fun q wr => ∃ k : Nat, k ≤ 32 ∧ q = .int .i64 k ∧ Hid (∀ j, j < k → a[j]? = b[j]?) ∧ St w [] wr [.blk g2 29 (bytesV b), .blk g1 29 (bytesV a)]) (fun q _ => 32 - (intOf q).toNat)
  case atStart => exact ⟨0, by omega, rfl, hid (fun j hj => absurd hj (Nat.not_lt_zero _)), hst2⟩
  case round =>
    clear hst2
    obtain ⟨k, hk, rfl, hall, hst⟩ := hrel
    by_cases hk32 : k < 32
    · obtain ⟨x, hx⟩ : ∃ c, a[k]? = some c := ⟨_, List.getElem?_eq_getElem (by rw [HA.out]; exact hk32)⟩
      obtain ⟨y, hy⟩ : ∃ c, b[k]? = some c := ⟨_, List.getElem?_eq_getElem (by rw [HB.out]; exact hk32)⟩
      have hxv := hid (show (bytesV a)[k]? = some (.int .u8 (x.toNat : Int)) by unfold bytesV; rw [List.getElem?_map, hx]; rfl)
      have hyv := hid (show (bytesV b)[k]? = some (.int .u8 (y.toNat : Int)) by unfold bytesV; rw [List.getElem?_map, hy]; rfl)
      have d1 : decide ((k : Int) < 32) = true := decide_eq_true (by omega)
      have hkk : (k : Int) < 32 := by omega
      by_cases h : x = y
      · have e1 : ((x.toNat : Int) != (y.toNat : Int)) = false := by rw [h]; exact bne_self_eq_false _
        have hall2 := hid (show ∀ j, j < k + 1 → a[j]? = b[j]? from fun j hj => by
          rcases Nat.lt_succ_iff_lt_or_eq.1 hj with h1 | h1
          · exact hall.out j h1
          · rw [h1, hx, hy, h])
        clear hx hy h
        go_wp2_with (first | go_big_skip | go_big_guard | fail)
        have hD := hst.drew
        clear hst
        refine wp_region_held_drew (S := (fun w' => (loadVarH 5 ⟨g1, k, none⟩).run Try.prog w' = .ok (.int .u8 (x.toNat : Int)) w' ∧ (loadVarH 5 ⟨g2, k, none⟩).run Try.prog w' = .ok (.int .u8 (y.toNat : Int)) w')) (by kernel_rfl) (by exact ⟨ldS [_] hD (hxv.out), ldS [] hD (hyv.out)⟩) (fun hHeld => ?_)
        refine wpAnyH_take (i := 0) (oi := ⟨some 10, _, _, _, _, _⟩) (v := ?_) rfl (by kernel_rfl) (by kernel_rfl) (by kernel_rfl) (fun _ _ _ h => h) (Or.inl ⟨by rfl, ?_⟩) (by assumption) ?_
        rotate_left
        · intro w hSw; (try dsimp only at hSw); go_simp; try with_reducible rfl
        (try simp only [Act.put, List.setIfInBounds_toArray, List.set_cons_zero, List.set_cons_succ])
        refine wpAnyH_take (i := 3) (oi := ⟨some 13, _, _, _, _, _⟩) (v := ?_) rfl (by kernel_rfl) (by kernel_rfl) (by kernel_rfl) (fun _ _ _ h => h) (Or.inl ⟨by rfl, ?_⟩) (by assumption) ?_
        rotate_left
        · intro w hSw; (try dsimp only at hSw); go_simp; try with_reducible rfl
        (try simp only [Act.put, List.setIfInBounds_toArray, List.set_cons_zero, List.set_cons_succ])
        refine wpAnyH_take (i := 1) (oi := ⟨some 11, _, _, _, _, _⟩) (v := ?_) rfl (by kernel_rfl) (by kernel_rfl) (by kernel_rfl) (fun _ _ _ h => h) (Or.inl ⟨by rfl, ?_⟩) (by assumption) ?_
        rotate_left
        · intro w hSw; (try dsimp only at hSw); go_simp; try with_reducible rfl
        (try simp only [Act.put, List.setIfInBounds_toArray, List.set_cons_zero, List.set_cons_succ])
        refine wpAnyH_take (i := 4) (oi := ⟨some 14, _, _, _, _, _⟩) (v := ?_) rfl (by kernel_rfl) (by kernel_rfl) (by kernel_rfl) (fun _ _ _ h => h) (Or.inl ⟨by rfl, ?_⟩) (by assumption) ?_
        rotate_left
        · intro w hSw; (try dsimp only at hSw); go_simp; try with_reducible rfl
        (try simp only [Act.put, List.setIfInBounds_toArray, List.set_cons_zero, List.set_cons_succ])
        refine wpAnyH_take (i := 2) (oi := ⟨some 12, _, _, _, _, _⟩) (v := ?_) rfl (by kernel_rfl) (by kernel_rfl) (by kernel_rfl) (fun _ _ _ h => h) (Or.inl ⟨by rfl, ?_⟩) (by assumption) ?_
        rotate_left
        · intro w hSw; (try dsimp only at hSw); go_simp; try with_reducible rfl
        (try simp only [Act.put, List.setIfInBounds_toArray, List.set_cons_zero, List.set_cons_succ])
        refine wpAnyH_take (i := 5) (oi := ⟨some 15, _, _, _, _, _⟩) (v := ?_) rfl (by kernel_rfl) (by kernel_rfl) (by kernel_rfl) (fun _ _ _ h => h) (Or.inl ⟨by rfl, ?_⟩) (by assumption) ?_
        rotate_left
        · intro w hSw; (try dsimp only at hSw); go_simp; try with_reducible rfl
        (try simp only [Act.put, List.setIfInBounds_toArray, List.set_cons_zero, List.set_cons_succ])
        refine wpAnyH_take (i := 6) (oi := ⟨some 16, _, _, _, _, _⟩) (v := ?_) rfl (by kernel_rfl) (by kernel_rfl) (by kernel_rfl) (fun _ _ _ h => h) (Or.inl ⟨by rfl, ?_⟩) (by assumption) ?_
        rotate_left
        · intro w hSw; (try dsimp only at hSw); go_simp; try with_reducible rfl
        (try simp only [Act.put, List.setIfInBounds_toArray, List.set_cons_zero, List.set_cons_succ])
        refine wpAnyH_done (by kernel_rfl) ?_ _
        clear hHeld
        go_wp2_with (first | go_big_skip | go_big_guard | fail)
        go_roundw
        case rel => exact ⟨k + 1, by omega, by go_num, hall2, hD⟩
        case measure => simp [intOf]; omega
      · have hne : ((x.toNat : Int)) ≠ (y.toNat : Int) := fun e => h (UInt8.toNat_inj.1 (by omega))
        have e1 : ((x.toNat : Int) != (y.toNat : Int)) = true := by simpa using hne
        have hc := hid (cmp_at k a b x y hx hy hall.out h)
        have HNE := hid hne
        clear hx hy h hne
        go_wp2_with (first | go_big_skip | go_big_guard | fail)
        have hD := hst.drew
        clear hst
        refine wp_region_held_drew (S := (fun w' => (loadVarH 5 ⟨g1, k, none⟩).run Try.prog w' = .ok (.int .u8 (x.toNat : Int)) w' ∧ (loadVarH 5 ⟨g2, k, none⟩).run Try.prog w' = .ok (.int .u8 (y.toNat : Int)) w')) (by kernel_rfl) (by exact ⟨ldS [_] hD (hxv.out), ldS [] hD (hyv.out)⟩) (fun hHeld => ?_)
        refine wpAnyH_take (i := 0) (oi := ⟨some 10, _, _, _, _, _⟩) (v := ?_) rfl (by kernel_rfl) (by kernel_rfl) (by kernel_rfl) (fun _ _ _ h => h) (Or.inl ⟨by rfl, ?_⟩) (by assumption) ?_
        rotate_left
        · intro w hSw; (try dsimp only at hSw); go_simp; try with_reducible rfl
        (try simp only [Act.put, List.setIfInBounds_toArray, List.set_cons_zero, List.set_cons_succ])
        refine wpAnyH_take (i := 3) (oi := ⟨some 13, _, _, _, _, _⟩) (v := ?_) rfl (by kernel_rfl) (by kernel_rfl) (by kernel_rfl) (fun _ _ _ h => h) (Or.inl ⟨by rfl, ?_⟩) (by assumption) ?_
        rotate_left
        · intro w hSw; (try dsimp only at hSw); go_simp; try with_reducible rfl
        (try simp only [Act.put, List.setIfInBounds_toArray, List.set_cons_zero, List.set_cons_succ])
        refine wpAnyH_take (i := 1) (oi := ⟨some 11, _, _, _, _, _⟩) (v := ?_) rfl (by kernel_rfl) (by kernel_rfl) (by kernel_rfl) (fun _ _ _ h => h) (Or.inl ⟨by rfl, ?_⟩) (by assumption) ?_
        rotate_left
        · intro w hSw; (try dsimp only at hSw); go_simp; try with_reducible rfl
        (try simp only [Act.put, List.setIfInBounds_toArray, List.set_cons_zero, List.set_cons_succ])
        refine wpAnyH_take (i := 4) (oi := ⟨some 14, _, _, _, _, _⟩) (v := ?_) rfl (by kernel_rfl) (by kernel_rfl) (by kernel_rfl) (fun _ _ _ h => h) (Or.inl ⟨by rfl, ?_⟩) (by assumption) ?_
        rotate_left
        · intro w hSw; (try dsimp only at hSw); go_simp; try with_reducible rfl
        (try simp only [Act.put, List.setIfInBounds_toArray, List.set_cons_zero, List.set_cons_succ])
        refine wpAnyH_take (i := 2) (oi := ⟨some 12, _, _, _, _, _⟩) (v := ?_) rfl (by kernel_rfl) (by kernel_rfl) (by kernel_rfl) (fun _ _ _ h => h) (Or.inl ⟨by rfl, ?_⟩) (by assumption) ?_
        rotate_left
        · intro w hSw; (try dsimp only at hSw); go_simp; try with_reducible rfl
        (try simp only [Act.put, List.setIfInBounds_toArray, List.set_cons_zero, List.set_cons_succ])
        refine wpAnyH_take (i := 5) (oi := ⟨some 15, _, _, _, _, _⟩) (v := ?_) rfl (by kernel_rfl) (by kernel_rfl) (by kernel_rfl) (fun _ _ _ h => h) (Or.inl ⟨by rfl, ?_⟩) (by assumption) ?_
        rotate_left
        · intro w hSw; (try dsimp only at hSw); go_simp; try with_reducible rfl
        (try simp only [Act.put, List.setIfInBounds_toArray, List.set_cons_zero, List.set_cons_succ])
        refine wpAnyH_take (i := 6) (oi := ⟨some 16, _, _, _, _, _⟩) (v := ?_) rfl (by kernel_rfl) (by kernel_rfl) (by kernel_rfl) (fun _ _ _ h => h) (Or.inl ⟨by rfl, ?_⟩) (by assumption) ?_
        rotate_left
        · intro w hSw; (try dsimp only at hSw); go_simp; try with_reducible rfl
        (try simp only [Act.put, List.setIfInBounds_toArray, List.set_cons_zero, List.set_cons_succ])
        refine wpAnyH_done (by kernel_rfl) ?_ _
        clear hHeld
        go_wp2_with (first | go_big_skip | go_big_guard | fail)
        have hD2 := hD.drew
        clear hD
        refine wp_region_held_drew (S := (fun w' => (loadVarH 5 ⟨g1, k, none⟩).run Try.prog w' = .ok (.int .u8 (x.toNat : Int)) w' ∧ (loadVarH 5 ⟨g2, k, none⟩).run Try.prog w' = .ok (.int .u8 (y.toNat : Int)) w')) (by kernel_rfl) (by exact ⟨ldS [_] hD2 (hxv.out), ldS [] hD2 (hyv.out)⟩) (fun hHeld => ?_)
        refine wpAnyH_take (i := 0) (oi := ⟨some 17, _, _, _, _, _⟩) (v := ?_) rfl (by kernel_rfl) (by kernel_rfl) (by kernel_rfl) (fun _ _ _ h => h) (Or.inl ⟨by rfl, ?_⟩) (by assumption) ?_
        rotate_left
        · intro w hSw; (try dsimp only at hSw); go_simp; try with_reducible rfl
        (try simp only [Act.put, List.setIfInBounds_toArray, List.set_cons_zero, List.set_cons_succ])
        refine wpAnyH_take (i := 3) (oi := ⟨some 20, _, _, _, _, _⟩) (v := ?_) rfl (by kernel_rfl) (by kernel_rfl) (by kernel_rfl) (fun _ _ _ h => h) (Or.inl ⟨by rfl, ?_⟩) (by assumption) ?_
        rotate_left
        · intro w hSw; (try dsimp only at hSw); go_simp; try with_reducible rfl
        (try simp only [Act.put, List.setIfInBounds_toArray, List.set_cons_zero, List.set_cons_succ])
        refine wpAnyH_take (i := 1) (oi := ⟨some 18, _, _, _, _, _⟩) (v := ?_) rfl (by kernel_rfl) (by kernel_rfl) (by kernel_rfl) (fun _ _ _ h => h) (Or.inl ⟨by rfl, ?_⟩) (by assumption) ?_
        rotate_left
        · intro w hSw; (try dsimp only at hSw); go_simp; try with_reducible rfl
        (try simp only [Act.put, List.setIfInBounds_toArray, List.set_cons_zero, List.set_cons_succ])
        refine wpAnyH_take (i := 4) (oi := ⟨some 21, _, _, _, _, _⟩) (v := ?_) rfl (by kernel_rfl) (by kernel_rfl) (by kernel_rfl) (fun _ _ _ h => h) (Or.inl ⟨by rfl, ?_⟩) (by assumption) ?_
        rotate_left
        · intro w hSw; (try dsimp only at hSw); go_simp; try with_reducible rfl
        (try simp only [Act.put, List.setIfInBounds_toArray, List.set_cons_zero, List.set_cons_succ])
        refine wpAnyH_take (i := 2) (oi := ⟨some 19, _, _, _, _, _⟩) (v := ?_) rfl (by kernel_rfl) (by kernel_rfl) (by kernel_rfl) (fun _ _ _ h => h) (Or.inl ⟨by rfl, ?_⟩) (by assumption) ?_
        rotate_left
        · intro w hSw; (try dsimp only at hSw); go_simp; try with_reducible rfl
        (try simp only [Act.put, List.setIfInBounds_toArray, List.set_cons_zero, List.set_cons_succ])
        refine wpAnyH_take (i := 5) (oi := ⟨some 22, _, _, _, _, _⟩) (v := ?_) rfl (by kernel_rfl) (by kernel_rfl) (by kernel_rfl) (fun _ _ _ h => h) (Or.inl ⟨by rfl, ?_⟩) (by assumption) ?_
        rotate_left
        · intro w hSw; (try dsimp only at hSw); go_simp; try with_reducible rfl
        (try simp only [Act.put, List.setIfInBounds_toArray, List.set_cons_zero, List.set_cons_succ])
        refine wpAnyH_take (i := 6) (oi := ⟨some 23, _, _, _, _, _⟩) (v := ?_) rfl (by kernel_rfl) (by kernel_rfl) (by kernel_rfl) (fun _ _ _ h => h) (Or.inl ⟨by rfl, ?_⟩) (by assumption) ?_
        rotate_left
        · intro w hSw; (try dsimp only at hSw); go_simp; try with_reducible rfl
        (try simp only [Act.put, List.setIfInBounds_toArray, List.set_cons_zero, List.set_cons_succ])
        refine wpAnyH_take (i := 7) (oi := ⟨some 4, _, _, _, _, _⟩) (v := ?_) rfl (by kernel_rfl) (by kernel_rfl) (by kernel_rfl) (fun _ _ _ h => h) (Or.inl ⟨by rfl, ?_⟩) (by assumption) ?_
        rotate_left
        · intro w hSw; (try dsimp only at hSw); go_simp; try with_reducible rfl
        (try simp only [Act.put, List.setIfInBounds_toArray, List.set_cons_zero, List.set_cons_succ])
        refine wpAnyH_done (by kernel_rfl) ?_ _
        clear hHeld
        go_wp2_with (first | go_big_skip | go_big_guard | fail)
        go_ret
        refine ⟨ret_boolv ?_, hD2.nil⟩
        unfold lessB
        rw [hc.out]
        by_cases hlt : x < y
        · rw [if_pos hlt]
          have : x.toNat < y.toNat := UInt8.lt_iff_toNat_lt.1 hlt
          simp
          omega
        · rw [if_neg hlt]
          have : ¬ x.toNat < y.toNat := fun e => hlt (UInt8.lt_iff_toNat_lt.2 e)
          simp
          omega
    · have e : k = 32 := by omega
      subst e
      have hab : a = b := by
        apply List.ext_getElem?
        intro j
        by_cases hj : j < 32
        · exact hall.out j hj
        · rw [List.getElem?_eq_none (by rw [HA.out]; omega), List.getElem?_eq_none (by rw [HB.out]; omega)]
      have hc := hid (show lessB a b = false by unfold lessB; rw [hab, cmp_self]; rfl)
      clear hab
      go_wp2_with (first | go_big_skip | go_big_guard | fail)
      go_ret
      exact ⟨by rw [hc.out]; rfl, hst.nil⟩
end
end Go.Proofs.Ytilgjldnlgfehaa
