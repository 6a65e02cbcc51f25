import Derived.Test.YtmdfbdfijnmhkaaGreatR15
namespace Go.Proofs.YtmdfbdfijnmhkaaGreat
set_option linter.unusedVariables false
set_option linter.unusedSimpArgs false
open Go.RowKit Hp
attribute [local irreducible] Go.Calls Go.wpList
set_option maxRecDepth 100000
set_option maxHeartbeats 4000000
def looV (l : List LW) : List Value := l.flatMap LW.cells
theorem flush1_any {w : World} {g3 : Nat} {d : Int} (h0 : w.cell? ⟨g3, 0, none⟩ = some (.int .i64 d)) (i : Int) (v : LW) : Calls Tryz.prog 102 #[.int .i64 i, .agg (List.toArray v.cells), .pointer (some ⟨g3, 0, none⟩)] w fun e w' => e = .returned (.bool ((v.dev : Int) == d)) ∧ St w [] w' [] := by
  have hst0 := St.refl w
  have H0 := hid h0
  clear h0
  obtain ⟨q, hq⟩ : ∃ q, q = ((v.dev : Int) == d) := ⟨_, rfl⟩
  have d1 : ((v.dev : Int) == d) = q := hq.symm
  rw [d1]
  clear hq
  go_enter Tryz.func102, Tryz.ntmps102
  go_wp2_with (first | go_big_skip | go_big_guard | (refine wl_boxA hst0 rfl rfl rfl ?_; intro g4 w1 hst1; clear hst0) | (refine wl_loadE rfl rfl rfl ?_; first | refine ⟨_, Loads.at [] hst1 rfl, ?_⟩ | refine ⟨_, Loads.old hst1 H0.out, ?_⟩))
  go_ret
  exact ⟨rfl, hst1.nil⟩
theorem filter_take {l : List LW} {j : Nat} {v : LW} (p : LW → Bool) (h : l[j]? = some v) : (l.take (j + 1)).filter p = (l.take j).filter p ++ if p v then [v] else [] := by
  rw [List.take_add_one, h, List.filter_append]
  congr 1
  show List.filter p [v] = _
  cases hp : p v <;> simp [List.filter, hp]
theorem looV_append (l k : List LW) : looV (l ++ k) = looV l ++ looV k := by simp [looV]
theorem looV_one (v : LW) : looV [v] = v.cells := by simp [looV]
theorem looV_len {l : List LW} (h : ∀ v ∈ l, v.b.length = 256) : (looV l).length = l.length * 258 := by
  induction l with
  | nil => rfl
  | cons v l ih =>
    unfold looV at ih ⊢
    rw [List.flatMap_cons, List.length_append, LW.cells_len (h v (.head _)), ih (fun x hx => h x (.tail _ hx)), List.length_cons, Nat.add_mul]
    omega
theorem partition_any {w : World} {g3 : Nat} {k : Nat} (h0 : w.cell? ⟨g3, 0, none⟩ = some (.int .i64 (k : Int))) (l : List LW) (ao : Option Addr) (n c : Nat) (hr : Rd w (.slice ao n c) 258 n (looV l)) (hn : l.length = n) (hb : ∀ v ∈ l, v.b.length = 256) (hbd : n < 1000000) :
    Calls Tryz.prog 101 #[.slice ao n c, cloV 102 [ptrV g3]] w fun e w' => ∃ u v, e = .returned (.tuple #[u, v]) ∧
      St w [] w' [.row u 149 258 (l.filter fun w => w.dev == k).length (looV (l.filter fun w => w.dev == k)), .row v 149 258 (l.filter fun w => w.dev != k).length (looV (l.filter fun w => w.dev != k))] := by
  have hst0 := St.refl w
  have H0 := hid h0
  have HR := hid hr
  have HN := hid hn
  have HB := hid hb
  obtain ⟨Y, hY⟩ : ∃ Y : Nat → List LW, Y = fun j => (l.take j).filter fun w => w.dev == k := ⟨_, rfl⟩
  obtain ⟨Z, hZ⟩ : ∃ Z : Nat → List LW, Z = fun j => (l.take j).filter fun w => w.dev != k := ⟨_, rfl⟩
  have HY0 : Hid (Y 0 = []) := hid (by rw [hY]; rfl)
  have HZ0 : Hid (Z 0 = []) := hid (by rw [hZ]; rfl)
  have HYS : Hid (∀ j v, l[j]? = some v → Y (j + 1) = Y j ++ if v.dev == k then [v] else []) := hid (fun j v h => by rw [hY]; exact filter_take _ h)
  have HZS : Hid (∀ j v, l[j]? = some v → Z (j + 1) = Z j ++ if v.dev != k then [v] else []) := hid (fun j v h => by rw [hZ]; exact filter_take _ h)
  have HYL : Hid (∀ j, (Y j).length ≤ n ∧ (Z j).length ≤ n) := hid (fun j => by
    rw [hY, hZ, ← hn]
    have a1 := List.length_filter_le (fun w : LW => w.dev == k) (l.take j)
    have a2 := List.length_filter_le (fun w : LW => w.dev != k) (l.take j)
    have a3 := List.length_take_le j l
    have a4 : (l.take j).length ≤ l.length := by rw [List.length_take]; omega
    exact ⟨Nat.le_trans a1 a4, Nat.le_trans a2 a4⟩)
  have HYE : Hid (Y n = (l.filter fun w => w.dev == k) ∧ Z n = (l.filter fun w => w.dev != k)) := hid (by rw [hY, hZ, ← hn]; exact ⟨by show (l.take l.length).filter _ = _; rw [List.take_length], by show (l.take l.length).filter _ = _; rw [List.take_length]⟩)
  obtain ⟨RY, hRY⟩ : ∃ RY, RY = l.filter fun w => w.dev == k := ⟨_, rfl⟩
  obtain ⟨RZ, hRZ⟩ : ∃ RZ, RZ = l.filter fun w => w.dev != k := ⟨_, rfl⟩
  rw [← hRY, ← hRZ] at HYE
  rw [← hRY, ← hRZ]
  clear h0 hr hn hb hY hZ hRY hRZ
  unfold cloV ptrV
  go_enter Tryz.func101, Tryz.ntmps101
  go_wp2_with (first | go_big_skip | go_big_guard | fail)
  go_loopw [10, 4, 5] (fun i yv zv wr => ∃ j : Nat, j ≤ n ∧ i = .int .i64 (j : Int) ∧ St w [] wr [.row yv 149 258 (Y j).length (looV (Y j)), .row zv 149 258 (Z j).length (looV (Z j))]) (fun i _ _ _ => n - (intOf i).toNat)
  case atStart => exact ⟨0, Nat.zero_le _, rfl, by rw [HY0.out, HZ0.out]; exact St.nilR _ 258 (St.nilR _ 258 hst0)⟩
  case round =>
    clear hst0
    obtain ⟨j, hj, rfl, hst⟩ := hrel
    by_cases hlj : j < n
    · have d1 : decide ((j : Int) < (n : Int)) = true := decide_eq_true (by omega)
      have z1 : IntKind.i64.wrap ((j : Int) + 1) = (j : Int) + 1 := IntWalk.i64_in _ (by omega)
      obtain ⟨v, hv⟩ : ∃ v, l[j]? = some v := ⟨_, List.getElem?_eq_getElem (by rw [HN.out]; exact hlj)⟩
      have hvb := HB.out v (List.mem_of_getElem? hv)
      obtain ⟨lb, lo, rfl, hlr⟩ := Rd.at HR.out hlj
      have HWR := hid (range_flat (sz := 258) (f := LW.cells) (fun d hd => LW.cells_len (HB.out d hd)) hv hlr)
      have HV258 := hid (LW.cells_len hvb)
      have HY := hid (HYS.out j v hv)
      have HZ := hid (HZS.out j v hv)
      have hyl := (HYL.out j).1
      have hzl := (HYL.out j).2
      obtain ⟨ny, hny⟩ : ∃ ny, ny = (Y j).length := ⟨_, rfl⟩
      obtain ⟨nz, hnz⟩ : ∃ nz, nz = (Z j).length := ⟨_, rfl⟩
      have HNY := hid hny
      have HNZ := hid hnz
      rw [← hny] at hst hyl
      rw [← hnz] at hst hzl
      clear hv hvb hlr hny hnz
      by_cases k1 : v.dev = k
      · have d2 : ((v.dev : Int) == (k : Int)) = true := by simp [k1]
        have KK := hid k1
        clear k1
        go_wp2_with (first | go_big_skip | go_big_guard | (refine wl_index (k := j) rfl rfl rfl rfl hlj ?_) | (refine wl_loadE rfl rfl rfl ?_; first | refine ⟨_, Loads.oldA (cs := v.cells) hst HV258.out HWR.out, ?_⟩ | refine ⟨_, Loads.atA v.cells [] hst3 HV258.out (by rw [List.drop_zero, List.take_length]), ?_⟩) | (refine wl_alloc (T := 149) hst rfl rfl ?_; intro g7 _ hst2; clear hst) | (refine wl_storeA (T := 149) (vs := v.cells) [] hst2 rfl rfl rfl rfl HV258.out (ones_LW _) (by rw [List.length_cons, List.length_cons, List.length_replicate]) ?_; intro w4 hst3; clear hst2) | (go_at_call 102; refine (flush1_any (St.old_cell hst3 H0.out (by simp)) (j : Int) v).mono ?_; rintro _ w8 ⟨rfl, h4⟩; replace hst3 := St.call0 hst3 h4; clear h4) | (apply wl_bsX [.agg (List.toArray v.cells)] v.cells hst3; rfl; rfl; exact rfl; exact (List.append_nil _); infer_instance; infer_instance; (show (((List.toArray v.cells).size == 258) && true) = true; rw [List.size_toArray, HV258.out]; rfl); rfl; rfl; intro gb w5 hst4; clear hst3) | (apply wl_appX (m := 1) (ys := v.cells) [_, _] hst4; rfl; rfl; exact rfl; exact rfl; infer_instance; infer_instance; infer_instance; exact Rd.blk (n := 1) hst4 (.head _) (Nat.le_refl _) (by decide) (by rw [HV258.out]) (by rw [List.drop_zero, List.take_length]); exact ones_LW _; (refine ⟨by decide, by unfold maxLen; omega, by omega⟩); intro v9 w6 hst5 _; clear hst4))
        go_roundw
        case rel =>
          refine ⟨j + 1, by omega, rfl, ?_⟩
          rw [HY.out, HZ.out, if_pos (by simpa using KK.out), if_neg (by simpa using KK.out)]
          rw [List.length_append, List.length_append, looV_append, looV_append, ← HNY.out, ← HNZ.out]
          rw [looV_one]
          have h7 := St.sub hst5 (.cons _ (.cons _ (List.Sublist.refl _)))
          rw [show looV [] = [] from rfl, List.append_nil]
          exact h7
        case measure => simp [intOf]; omega
      · have d2 : ((v.dev : Int) == (k : Int)) = false := by simp; omega
        have KK := hid k1
        clear k1
        go_wp2_with (first | go_big_skip | go_big_guard | (refine wl_index (k := j) rfl rfl rfl rfl hlj ?_) | (refine wl_loadE rfl rfl rfl ?_; first | refine ⟨_, Loads.oldA (cs := v.cells) hst HV258.out HWR.out, ?_⟩ | refine ⟨_, Loads.atA v.cells [] hst3 HV258.out (by rw [List.drop_zero, List.take_length]), ?_⟩) | (refine wl_alloc (T := 149) hst rfl rfl ?_; intro g7 _ hst2; clear hst) | (refine wl_storeA (T := 149) (vs := v.cells) [] hst2 rfl rfl rfl rfl HV258.out (ones_LW _) (by rw [List.length_cons, List.length_cons, List.length_replicate]) ?_; intro w4 hst3; clear hst2) | (go_at_call 102; refine (flush1_any (St.old_cell hst3 H0.out (by simp)) (j : Int) v).mono ?_; rintro _ w8 ⟨rfl, h4⟩; replace hst3 := St.call0 hst3 h4; clear h4) | (apply wl_bsX [.agg (List.toArray v.cells)] v.cells hst3; rfl; rfl; exact rfl; exact (List.append_nil _); infer_instance; infer_instance; (show (((List.toArray v.cells).size == 258) && true) = true; rw [List.size_toArray, HV258.out]; rfl); rfl; rfl; intro gb w5 hst4; clear hst3) | (apply wl_appX (m := 1) (ys := v.cells) [_, _, _] hst4; rfl; rfl; exact rfl; exact rfl; infer_instance; infer_instance; infer_instance; exact Rd.blk (n := 1) hst4 (.head _) (Nat.le_refl _) (by decide) (by rw [HV258.out]) (by rw [List.drop_zero, List.take_length]); exact ones_LW _; (refine ⟨by decide, by unfold maxLen; omega, by omega⟩); intro v9 w6 hst5 _; clear hst4))
        go_roundw
        case rel =>
          refine ⟨j + 1, by omega, rfl, ?_⟩
          rw [HY.out, HZ.out, if_neg (by simpa using KK.out), if_pos (by simpa using KK.out)]
          rw [List.length_append, List.length_append, looV_append, looV_append, ← HNY.out, ← HNZ.out]
          rw [looV_one]
          have h7 := St.sub hst5 (.cons _ (.cons _ (List.Sublist.refl _)))
          rw [show looV [] = [] from rfl, List.append_nil]
          exact h7
        case measure => simp [intOf]; omega
    · have d1 : decide ((j : Int) < (n : Int)) = false := decide_eq_false (by omega)
      have hjn : j = n := by omega
      have HE := hid (show Y j = RY ∧ Z j = RZ by rw [hjn]; exact HYE.out)
      clear hjn
      rw [HE.out.1, HE.out.2] at hst
      go_wp2_with (first | go_big_skip | go_big_guard | fail)
      go_ret2
      exact ⟨_, _, rfl, hst⟩
end Go.Proofs.YtmdfbdfijnmhkaaGreat
