/- Fit, Spoil. -/
import Derived.Test.YtclleohpmgihaaaGreatR34
namespace Go.Proofs.YtclleohpmgihaaaGreat
set_option linter.unusedVariables false
set_option linter.unusedSimpArgs false
open Go.RowKit Hp
attribute [local irreducible] Go.Calls Go.wpList
set_option maxRecDepth 100000
set_option maxHeartbeats 4000000
theorem flat_putAll {α : Type} {f : α → List Value} {sz : Nat} {l : List α} {k : Nat} {d' : α} (hf : ∀ d, (f d).length = sz) (h : k < l.length) (rest : List Value) : putAt (l.flatMap f ++ rest) (k * sz) (f d') = (l.set k d').flatMap f ++ rest := by
  rw [putAt_many, hf]
  induction l generalizing k with
  | nil => simp at h
  | cons q l ih =>
    have hq := hf q
    cases k with
    | zero =>
      rw [List.set_cons_zero, List.flatMap_cons, List.flatMap_cons, Nat.zero_mul, List.take_zero, List.nil_append, Nat.zero_add, List.append_assoc, List.drop_append, List.drop_of_length_le (by omega), List.nil_append, hq, Nat.sub_self, List.drop_zero, List.append_assoc]
    | succ k =>
      have := ih (k := k) (by simpa using h)
      rw [List.set_cons_succ, List.flatMap_cons, List.flatMap_cons, List.append_assoc, List.append_assoc, ← this, show (k + 1) * sz = sz + k * sz by rw [Nat.add_mul]; omega, List.take_append, List.take_of_length_le (by omega), hq, show sz + k * sz - sz = k * sz by omega, List.append_assoc]
      congr 3
      rw [List.drop_append, List.drop_of_length_le (by omega), List.nil_append, hq, show sz + k * sz + sz - sz = k * sz + sz by omega]
theorem devC_all {a : AR} {k : Nat} (h : a.inD (k : Int) = true) (d' : DV) (rest : List Value) : putAt (devC a ++ rest) (k * 5) d'.cells = devC (a.upd (k : Int) fun _ => d') ++ rest := by
  have hlt : k < a.devs.length := by have := (inD_dev h).2; omega
  unfold devC
  rw [flat_putAll (f := DV.cells) (sz := 5) (fun d => rfl) hlt]
  congr 2
  apply List.ext_getElem?
  intro j
  unfold AR.upd
  rw [modify_get, List.getElem?_set, Int.toNat_natCast]
  by_cases hj : k = j
  · subst hj
    rw [if_pos rfl, if_pos rfl, if_pos hlt, List.getElem?_eq_getElem hlt]
    rfl
  · rw [if_neg hj, if_neg hj]
def AR.fitE (a : AR) (dev : Int) : Int := orE (a.inD dev) 5
def AR.fit (a : AR) (dev : Int) (g : Nat) : AR := if a.inD dev then (a.rest dev.toNat).upd dev (fun _ => blank a.secs g) else a
theorem AR.Ok.fit {a : AR} (ok : a.Ok) (dev : Int) (g : Nat) : (a.fit dev g).Ok := by
  unfold AR.fit
  split
  · rename_i h
    refine (ok.rest dev.toNat).upd (f := fun _ => blank a.secs g) h ⟨blank_firm _ _, fun t ht => ?_, fun h => by simp [blank] at h, by simp [blank], by simp [blank]⟩
    rw [(List.mem_replicate.1 ht).2, List.length_replicate]
  · exact ok
section
attribute [local go_sem ↓] loadedSD
theorem fit_bad {w : World} {ga : Nat} {x : GA} {a : AR} (hS : St w (arF ga x a) w (arP ga x a)) (ok : a.Ok) (hll : a.loose.length < 1000000) (dev : Int) (h1 : a.inD dev = false) :
    Calls Tryz.prog 79 #[.pointer (some ⟨ga, 0, none⟩), .int .i64 dev] w fun e w' => e = .returned (.int .i64 (a.fitE dev)) ∧ ∃ x' g, St w (arF ga x a) w' (arP ga x' (a.fit dev g)) := by
  have he : a.fitE dev = 5 := by unfold AR.fitE; rw [h1]; rfl
  have hc : ∀ g, a.fit dev g = a := fun g => by unfold AR.fit; rw [h1]; rfl
  rw [he]
  have HC := hid hc
  have HE : Hid (orE (a.inD dev) 5 = 5) := hid (by rw [h1]; rfl)
  have OK := hid ok
  have hst0 := hS
  have hmf := rmf
  clear he hc h1 ok hS
  go_enter Tryz.func79, Tryz.ntmps79
  go_wp2_with (first | go_big_skip | go_big_guard | (go_at_call 54; refine (isDevice_any ga dev _).mono ?_; rintro _ w2 ⟨g0, g1, rfl, h4⟩; have hst2 := St.call hst0 h4; clear h4 hst0) | (apply wl_bsX ([methV 45 (ptrV ga), cloV 87 [ptrV g0, ptrV g1]]) ([methV 45 (ptrV ga), cloV 87 [ptrV g0, ptrV g1]]) hst2; rfl; rfl; exact rfl; exact rfl; infer_instance; infer_instance; rfl; rfl; rfl; intro gs w3 hst3; clear hst2) | (go_at_call 44; have hC := checks_any dev (v := .slice (some ⟨gs, 0, none⟩) 2 2) (n := 2) (fs := [methV 45 (ptrV ga)]) (f9 := cloV 87 [ptrV g0, ptrV g1]) (es := [0]) (e9 := orE (a.inD dev) 5) (A := (fun w' => St w (arF ga x a) w' (([HA.blk gs 74 [methV 45 (ptrV ga), cloV 87 [ptrV g0, ptrV g1]], .blk g1 3 [.int .i64 dev], .blk g0 25 [.pointer (some ⟨ga, 0, none⟩)]] : List HA) ++ arP ga x a))) (B := (fun w' => St w (arF ga x a) w' (([HA.blk gs 74 [methV 45 (ptrV ga), cloV 87 [ptrV g0, ptrV g1]], .blk g1 3 [.int .i64 dev], .blk g0 25 [.pointer (some ⟨ga, 0, none⟩)]] : List HA) ++ arP ga x a))) _ (fun _ h => Rd.blk h (.head _) (Nat.le_refl _) (by decide) rfl rfl) rfl rfl (by decide) (fun j f e hf he _ => (match j, hf, he with | 0, hf, he => (by cases hf; cases he; exact probe_made (fun _ h => ArrAt.of h (fun p hp => List.mem_append_right _ hp) OK.out.d0) keeps_st) | j + 1, hf, _ => (by simp at hf))) (fun _ => probe_isDevice (fun _ h => ArrAt.of h (fun p hp => List.mem_append_right _ hp) OK.out.d0) keeps_st (fun _ h => St.cell h (off := 0) (.tail _ (.tail _ (.head _))) rfl) (fun _ h => St.cell h (off := 0) (.tail _ (.head _)) rfl)) hst3; rw [HE.out] at hC; refine hC.mono ?_; rintro _ w5 hh; obtain ⟨rfl, h4⟩ := checks_last (rfl : firstE [0] = 0) (by decide) hh; clear hC hh hst3; have hst4 := h4; clear h4) | (go_at_call 50; refine (number_isE 5 dev (by unfold isE; decide) (by decide) _).mono ?_; rintro _ w6 ⟨rfl, h4⟩; have hst6 := St.call0 hst4 h4; clear h4 hst4))
  go_ret
  refine ⟨rfl, x, 0, ?_⟩
  rw [HC.out]
  exact St.sub hst6 (List.sublist_append_right _ _)
theorem fit_fine {w : World} {ga : Nat} {x : GA} {a : AR} (hS : St w (arF ga x a) w (arP ga x a)) (ok : a.Ok) (hll : a.loose.length < 1000000) (k : Nat) (h1 : a.inD (k : Int) = true) :
    Calls Tryz.prog 79 #[.pointer (some ⟨ga, 0, none⟩), .int .i64 (k : Int)] w fun e w' => e = .returned (.int .i64 (a.fitE (k : Int))) ∧ ∃ x' g, St w (arF ga x a) w' (arP ga x' (a.fit (k : Int) g)) := by
  have he : a.fitE (k : Int) = 0 := by unfold AR.fitE; rw [h1]; rfl
  have hc : ∀ g, a.fit (k : Int) g = (a.rest k).upd (k : Int) (fun _ => blank a.secs g) := fun g => by unfold AR.fit; rw [h1]; rfl
  rw [he]
  have HC := hid hc
  have HE : Hid (orE (a.inD (k : Int)) 5 = 0) := hid (by rw [h1]; rfl)
  have OK := hid ok
  have hst0 := hS
  have hmf := rmf
  obtain ⟨a2, ha2⟩ : ∃ a2, a2 = a.rest k := ⟨_, rfl⟩
  have hin2 : a2.inD (k : Int) = true := by rw [ha2]; exact h1
  have hsn : a2.secs ≤ 4096 := by rw [ha2]; exact ok.sn
  have hlt : k < a2.devs.length := by have := (inD_dev hin2).2; omega
  have HIN2 := hid hin2
  have HOK2 : Hid a2.Ok := hid (by rw [ha2]; exact ok.rest k)
  have HDR : Hid (∀ (M : List Nat) (w' : World), St w M w' (arP ga x a) → Calls Tryz.prog 92 #[.pointer (some ⟨ga, 0, none⟩), .int .i64 (k : Int)] w' fun e w'' => e = .returned (.tuple #[]) ∧ ∃ lv, St w M w'' (arP ga ⟨x.gd, x.cd, x.rest, lv⟩ a2)) := hid (fun M w' h => (drop_any h.selfF ok hll k).mono fun e w'' hh => ⟨hh.1, by obtain ⟨lv, h4⟩ := hh.2; rw [ha2]; exact ⟨lv, St.thenF h h4⟩⟩)
  have HC2 : Hid (∀ g, a.fit (k : Int) g = a2.upd (k : Int) (fun _ => blank a2.secs g)) := hid (fun g => by rw [hc, ha2]; rfl)
  have HALL : Hid (∀ g rest, putAt (devC a2 ++ rest) (k * 5) (blank a2.secs g).cells = devC (a2.upd (k : Int) fun _ => blank a2.secs g) ++ rest) := hid (fun g rest => devC_all hin2 _ rest)
  have HFS : Hid (a2.devs.map blkD = (a2.devs.take k).map blkD ++ blkD (a2.dv (k : Int)) :: (a2.devs.drop (k + 1)).map blkD) := hid (devs_split0 hin2)
  have HFS2 : Hid (∀ g, (a2.upd (k : Int) fun _ => blank a2.secs g).devs.map blkD = (a2.devs.take k).map blkD ++ blkD (blank a2.secs g) :: (a2.devs.drop (k + 1)).map blkD) := hid (fun g => devs_split hin2 _)
  clear hin2 ha2
  clear he hc h1 ok hS hll
  go_enter Tryz.func79, Tryz.ntmps79
  go_wp2_with (first | go_big_skip | go_big_guard | (go_at_call 54; refine (isDevice_any ga (k : Int) _).mono ?_; rintro _ w2 ⟨g0, g1, rfl, h4⟩; have hst2 := St.call hst0 h4; clear h4 hst0) | (apply wl_bsX ([methV 45 (ptrV ga), cloV 87 [ptrV g0, ptrV g1]]) ([methV 45 (ptrV ga), cloV 87 [ptrV g0, ptrV g1]]) hst2; rfl; rfl; exact rfl; exact rfl; infer_instance; infer_instance; rfl; rfl; rfl; intro gs w3 hst3; clear hst2) | (go_at_call 44; have hC := checks_any (k : Int) (v := .slice (some ⟨gs, 0, none⟩) 2 2) (n := 2) (fs := [methV 45 (ptrV ga)]) (f9 := cloV 87 [ptrV g0, ptrV g1]) (es := [0]) (e9 := orE (a.inD (k : Int)) 5) (A := (fun w' => St w (arF ga x a) w' (([HA.blk gs 74 [methV 45 (ptrV ga), cloV 87 [ptrV g0, ptrV g1]], .blk g1 3 [.int .i64 (k : Int)], .blk g0 25 [.pointer (some ⟨ga, 0, none⟩)]] : List HA) ++ arP ga x a))) (B := (fun w' => St w (arF ga x a) w' (([HA.blk gs 74 [methV 45 (ptrV ga), cloV 87 [ptrV g0, ptrV g1]], .blk g1 3 [.int .i64 (k : Int)], .blk g0 25 [.pointer (some ⟨ga, 0, none⟩)]] : List HA) ++ arP ga x a))) _ (fun _ h => Rd.blk h (.head _) (Nat.le_refl _) (by decide) rfl rfl) rfl rfl (by decide) (fun j f e hf he _ => (match j, hf, he with | 0, hf, he => (by cases hf; cases he; exact probe_made (fun _ h => ArrAt.of h (fun p hp => List.mem_append_right _ hp) OK.out.d0) keeps_st) | j + 1, hf, _ => (by simp at hf))) (fun _ => probe_isDevice (fun _ h => ArrAt.of h (fun p hp => List.mem_append_right _ hp) OK.out.d0) keeps_st (fun _ h => St.cell h (off := 0) (.tail _ (.tail _ (.head _))) rfl) (fun _ h => St.cell h (off := 0) (.tail _ (.head _)) rfl)) hst3; rw [HE.out] at hC; refine hC.mono ?_; rintro _ w5 hh; obtain ⟨rfl, h4⟩ := checks_fine (rfl : firstE [0] = 0) hh; clear hC hh hst3; have hst4 := h4; clear h4) | (go_at_call 92; refine (HDR.out _ _ (St.sub hst4 (List.sublist_append_right _ _))).mono ?_; rintro _ w6 ⟨rfl, lv, h4⟩; have hst6 := h4; clear h4 hst4))
  have hX := hst6.drew
  clear hst6
  refine wp_region_held_drew (S := (fun w' => (loadVarH 46 ⟨ga, 0, none⟩).run Tryz.prog w' = .ok (.slice (some ⟨x.gd, 0, none⟩) a2.devs.length x.cd) w')) (by kernel_rfl) (by exact ldS [] hX rfl) (fun hHeld => ?_)
  refine wpAnyH_take (i := 0) (oi := ⟨some 21, _, _, _, _, _⟩) (v := ?_) rfl (by kernel_rfl) (by kernel_rfl) (by kernel_rfl) (fun _ _ _ h => h) (Or.inl ⟨by rfl, ?_⟩) (by assumption) ?_
  rotate_left
  · intro w hSw; (try dsimp only at hSw); go_simp; try with_reducible rfl
  (try simp only [Act.put, List.setIfInBounds_toArray, List.set_cons_zero, List.set_cons_succ])
  refine wpAnyH_take (i := 4) (oi := ⟨some 25, _, _, _, _, _⟩) (v := ?_) rfl (by kernel_rfl) (by kernel_rfl) (by kernel_rfl) (fun _ _ _ h => h) (Or.inl ⟨by rfl, ?_⟩) (by assumption) ?_
  rotate_left
  · intro w hSw; (try dsimp only at hSw); go_simp; try with_reducible rfl
  (try simp only [Act.put, List.setIfInBounds_toArray, List.set_cons_zero, List.set_cons_succ])
  refine wpAnyH_take (i := 5) (oi := ⟨some 26, _, _, _, _, _⟩) (v := ?_) rfl (by kernel_rfl) (by kernel_rfl) (by kernel_rfl) (fun _ _ _ h => h) (Or.inl ⟨by rfl, ?_⟩) (by assumption) ?_
  rotate_left
  · intro w hSw; (try dsimp only at hSw); go_simp; try with_reducible rfl
  (try simp only [Act.put, List.setIfInBounds_toArray, List.set_cons_zero, List.set_cons_succ])
  refine wpAnyH_take (i := 1) (oi := ⟨some 22, _, _, _, _, _⟩) (v := ?_) rfl (by kernel_rfl) (by kernel_rfl) (by kernel_rfl) (fun _ _ _ h => h) (Or.inl ⟨by rfl, ?_⟩) (by assumption) ?_
  rotate_left
  · intro w hSw; (try dsimp only at hSw); go_simp; try with_reducible rfl
  (try simp only [Act.put, List.setIfInBounds_toArray, List.set_cons_zero, List.set_cons_succ])
  refine wpAnyH_take (i := 2) (oi := ⟨some 23, _, _, _, _, _⟩) (v := ?_) rfl (by kernel_rfl) (by kernel_rfl) (by kernel_rfl) (fun _ _ _ h => h) (Or.inl ⟨by rfl, ?_⟩) (by assumption) ?_
  rotate_left
  · intro w hSw; (try dsimp only at hSw); go_simp; try with_reducible rfl
  (try simp only [Act.put, List.setIfInBounds_toArray, List.set_cons_zero, List.set_cons_succ])
  refine wpAnyH_take (i := 3) (oi := ⟨some 24, _, _, _, _, _⟩) (v := ?_) rfl (by kernel_rfl) (by kernel_rfl) (by kernel_rfl) (fun _ _ _ h => h) (Or.inl ⟨by rfl, ?_⟩) (by assumption) ?_
  rotate_left
  · intro w hSw; (try dsimp only at hSw); go_simp; try with_reducible rfl
  (try simp only [Act.put, List.setIfInBounds_toArray, List.set_cons_zero, List.set_cons_succ])
  refine wpAnyH_ready (rs := [6]) (by kernel_rfl) (by simp) ?_
  refine (AllReadyH.cons (o := ⟨some 27, _, _, _, _, _⟩) rfl (fun K hK => ?_) AllReadyH.nil)
  rw [if_pos (by rfl)]
  go_simp
  go_at_call 37
  refine (sectors_any (ArrAt.of hX (fun _ hp => hp) HOK2.out.d0)).mono ?_
  rintro _ w7 ⟨rfl, h4⟩
  have hA1 := St.call0 hX h4
  clear h4
  refine hK.out _ _ ?_ (fun hHeld => ?_)
  · exact ldS [] hA1 rfl
  clear hK K
  (try simp only [Act.put, List.setIfInBounds_toArray, List.set_cons_zero, List.set_cons_succ])
  refine wpAnyH_ready (rs := [7]) (by kernel_rfl) (by simp) ?_
  refine (AllReadyH.cons (o := ⟨some 28, _, _, _, _, _⟩) rfl (fun K hK => ?_) AllReadyH.nil)
  rw [if_pos (by rfl)]
  refine ow_of_wl (ops := #[]) (by rfl) ?_
  apply wl_makeR (sz := 256) (z := .int .u8 0) a2.secs a2.secs hA1
  rfl
  rfl
  exact rfl
  exact rfl
  infer_instance
  infer_instance
  infer_instance
  decide
  exact rfl
  exact rfl
  exact Nat.le_refl _
  (refine ⟨by omega, by omega⟩)
  intro gf w8 hA2
  refine q0_nil ?_
  refine hK.out _ _ ?_ (fun hHeld => ?_)
  · exact ldS [_] hA2 rfl
  clear hK K
  (try simp only [Act.put, List.setIfInBounds_toArray, List.set_cons_zero, List.set_cons_succ])
  refine wpAnyH_ready (rs := [8]) (by kernel_rfl) (by simp) ?_
  refine (AllReadyH.cons (o := ⟨some 29, _, _, _, _, _⟩) rfl (fun K hK => ?_) AllReadyH.nil)
  rw [if_pos (by rfl)]
  refine ow_of_wl (ops := #[]) (by rfl) ?_
  refine wl_buildX (cs := [.slice (some ⟨gf, 0, none⟩) a2.secs a2.secs, .bool false, .int .u8 0, .int .i64 0, .int .i64 0]) [(0, .slice (some ⟨gf, 0, none⟩) a2.secs a2.secs)] rfl rfl (by exact rfl) (by kernel_rfl) ?_
  refine q0_nil ?_
  refine hK.out _ _ ?_ (fun hHeld => ?_)
  · exact ldS [_] hA2 rfl
  clear hK K
  (try simp only [Act.put, List.setIfInBounds_toArray, List.set_cons_zero, List.set_cons_succ])
  refine wpAnyH_take (i := 9) (oi := ⟨some 30, _, _, _, _, _⟩) (v := ?_) rfl (by kernel_rfl) (by kernel_rfl) (by kernel_rfl) (fun _ _ _ h => h) (Or.inl ⟨by rfl, ?_⟩) (by assumption) ?_
  rotate_left
  · intro w hSw; (try dsimp only at hSw); go_simp; try with_reducible rfl
  (try simp only [Act.put, List.setIfInBounds_toArray, List.set_cons_zero, List.set_cons_succ])
  refine wpAnyH_ready (rs := [10]) (by kernel_rfl) (by simp) ?_
  refine (AllReadyH.cons (o := ⟨none, _, _, _, _, _⟩) rfl (fun K hK => ?_) AllReadyH.nil)
  rw [if_pos (by rfl)]
  refine ow_of_wl (ops := #[]) (by rfl) ?_
  have hfit : k * 5 + 5 ≤ (devC a2 ++ x.rest).length := (by have h9 := (List.getElem?_eq_some_iff.1 (devC_get (rest := x.rest) HIN2.out (i := 4) rfl (by decide))).1; have h8 : k * 5 + 4 < (devC a2 ++ x.rest).length := h9; omega)
  refine wl_store [_, _] hA2 rfl rfl rfl (v := .agg (List.toArray [.slice (some ⟨gf, 0, none⟩) a2.secs a2.secs, .bool false, .int .u8 0, .int .i64 0, .int .i64 0])) rfl rfl rfl hfit ?_
  intro w9 hA3
  refine q0_nil ?_
  refine hK.out _ _ ?_ (fun hHeld => ?_)
  · exact ldS [_] hA3 rfl
  clear hK K
  (try simp only [Act.put, List.setIfInBounds_toArray, List.set_cons_zero, List.set_cons_succ])
  refine wpAnyH_done (by kernel_rfl) ?_ _
  clear hHeld
  go_wp2_with (first | go_big_skip | go_big_guard | fail)
  go_ret
  refine ⟨rfl, ⟨x.gd, x.cd, x.rest, lv⟩, gf, ?_⟩
  rw [HC2.out]
  have e1 : (blank a2.secs gf).cells = [.slice (some ⟨gf, 0, none⟩) a2.secs a2.secs, .bool false, .int .u8 0, .int .i64 0, .int .i64 0] := by unfold DV.cells; rw [blank_firm]; rfl
  have h7 := HALL.out gf x.rest
  rw [e1] at h7
  have h8 : St w (arF ga x a) w9 (.blk gf 84 (List.replicate (a2.secs * 256) (.int .u8 0)) :: .blk ga 49 (arrC ⟨x.gd, x.cd, x.rest, lv⟩ a2) :: .blk x.gd 53 (devC (a2.upd (k : Int) fun _ => blank a2.secs gf) ++ x.rest) :: .row lv 86 258 a2.loose.length (looC a2) :: a2.devs.map blkD) := by rw [← h7]; exact hA3
  rw [HFS.out] at h8
  have h9 := St.sub h8 (.cons_cons _ (.cons_cons _ (.cons_cons _ (.cons_cons _ (List.Sublist.append_left (List.sublist_cons_self _ _) _)))))
  have e2 : HA.blk gf 84 (List.replicate (a2.secs * 256) (.int .u8 0)) = blkD (blank a2.secs gf) := by unfold blkD; rw [show (blank a2.secs gf).firm = List.replicate a2.secs (List.replicate 256 0) from rfl, secsV_zero]; rfl
  rw [e2] at h9
  have e3 : arP ga ⟨x.gd, x.cd, x.rest, lv⟩ (a2.upd (k : Int) fun _ => blank a2.secs gf) = .blk ga 49 (arrC ⟨x.gd, x.cd, x.rest, lv⟩ a2) :: .blk x.gd 53 (devC (a2.upd (k : Int) fun _ => blank a2.secs gf) ++ x.rest) :: .row lv 86 258 a2.loose.length (looC a2) :: (a2.upd (k : Int) fun _ => blank a2.secs gf).devs.map blkD := by
    unfold arP arrC
    rw [upd_len]
    rfl
  rw [e3, HFS2.out]
  refine St.perm h9 ?_
  exact (List.Perm.swap _ _ _).trans (List.Perm.cons _ ((List.Perm.swap _ _ _).trans (List.Perm.cons _ ((List.Perm.swap _ _ _).trans (List.Perm.cons _ (List.perm_middle.symm))))))
theorem fitM_any {w : World} {ga : Nat} {x : GA} {a : AR} (hS : St w (arF ga x a) w (arP ga x a)) (ok : a.Ok) (hll : a.loose.length < 1000000) (dev : Int) :
    Calls Tryz.prog 79 #[.pointer (some ⟨ga, 0, none⟩), .int .i64 dev] w fun e w' => e = .returned (.int .i64 (a.fitE dev)) ∧ ∃ x' g, St w (arF ga x a) w' (arP ga x' (a.fit dev g)) := by
  cases h1 : a.inD dev
  · exact fit_bad hS ok hll dev h1
  · obtain ⟨k, rfl⟩ : ∃ k : Nat, dev = k := ⟨dev.toNat, by have := (inD_dev h1).1; omega⟩
    exact fit_fine hS ok hll k h1
end
end Go.Proofs.YtclleohpmgihaaaGreat
