import Derived.Test.YtmdfbdfijnmhkaaGreatR6
namespace Go.Proofs.YtmdfbdfijnmhkaaGreat
set_option linter.unusedVariables false
set_option linter.unusedSimpArgs false
open Go.RowKit Hp
set_option maxRecDepth 100000
structure AR.Ok (a : AR) : Prop where
  d0 : a.devs ≠ []
  dn : a.devs.length ≤ 8
  sn : a.secs ≤ 4096
  fm : ∀ d ∈ a.devs, d.firm.length = a.secs ∧ (∀ s ∈ d.firm, s.length = 256) ∧ (d.st = true → 0 ≤ d.to ∧ d.to < a.secs) ∧ 0 ≤ d.fail ∧ d.fail ≤ 9223372036854775807
  lw : ∀ w ∈ a.loose, w.dev < a.devs.length ∧ w.pl < a.secs ∧ w.b.length = 256
  fu : -1 ≤ a.fuse ∧ a.fuse ≤ 9223372036854775807
theorem modify_get {α : Type} (f : α → α) (l : List α) (k j : Nat) : (l.modify k f)[j]? = if k = j then (l[j]?).map f else l[j]? := by
  rw [List.getElem?_modify]
  by_cases h : k = j
  · subst h
    simp
  · simp [h]
theorem upd_same {a : AR} {dev : Int} {f : DV → DV} (h : a.inD dev = true) (hf : f (a.dv dev) = a.dv dev) : a.upd dev f = a := by
  have hd := devs_get h
  unfold AR.upd
  obtain ⟨devs, loose, fu, out, stp⟩ := a
  congr 1
  dsimp only at hd hf ⊢
  apply List.ext_getElem?
  intro i
  rw [modify_get]
  by_cases hi : dev.toNat = i
  · subst hi
    rw [if_pos rfl, hd, Option.map_some, hf]
  · rw [if_neg hi]
theorem flat_put {α : Type} {f : α → List Value} {sz : Nat} {l : List α} {k : Nat} {d d' : α} {i : Nat} {v : Value} (hf : ∀ d, (f d).length = sz) (h : l[k]? = some d) (hi : i < sz) (hd : putAt (f d) i [v] = f d') (rest : List Value) :
    putAt (l.flatMap f ++ rest) (k * sz + i) [v] = (l.set k d').flatMap f ++ rest := by
  have key : ∀ (xs : List Value) (off : Nat), off < xs.length → putAt xs off [v] = xs.set off v := fun xs off ho => by
    rw [List.set_eq_take_append_cons_drop, if_pos ho]; rfl
  rw [key _ _ (by rw [hf]; exact hi)] at hd
  induction l generalizing k with
  | nil => simp at h
  | cons q l ih =>
    rw [List.flatMap_cons, List.append_assoc]
    cases k with
    | zero =>
      simp at h
      subst h
      rw [Nat.zero_mul, Nat.zero_add, key _ _ (by rw [List.length_append, hf]; omega), List.set_append_left _ _ (by rw [hf]; exact hi), hd, List.set_cons_zero, List.flatMap_cons, List.append_assoc]
    | succ k =>
      have := ih (by simpa using h)
      have hlt : k * sz + i < (l.flatMap f ++ rest).length := by
        have hk := (List.getElem?_eq_some_iff.1 (show l[k]? = some d by simpa using h)).1
        have hl : ∀ l : List α, (l.flatMap f).length = l.length * sz := by
          intro l
          induction l with
          | nil => simp
          | cons q l ih => rw [List.flatMap_cons, List.length_append, hf, ih, List.length_cons, Nat.add_mul]; omega
        have h9 : k * sz + sz ≤ l.length * sz := by rw [← Nat.succ_mul]; exact Nat.mul_le_mul_right _ hk
        rw [List.length_append, hl]
        omega
      rw [key _ _ hlt] at this
      rw [key _ _ (by rw [List.length_append, hf, Nat.add_mul]; omega), List.set_append_right _ _ (by rw [hf, Nat.add_mul]; omega), hf, show (k + 1) * sz + i - sz = k * sz + i by rw [Nat.add_mul]; omega, this, List.set_cons_succ, List.flatMap_cons, List.append_assoc]
theorem devC_put {a : AR} {dev : Int} {f : DV → DV} {i : Nat} {v : Value} {rest : List Value} (h : a.inD dev = true) (hi : i < 5) (hf : putAt (a.dv dev).cells i [v] = (f (a.dv dev)).cells) :
    putAt (devC a ++ rest) (dev.toNat * 5 + i) [v] = devC (a.upd dev f) ++ rest := by
  have hd := devs_get h
  have := flat_put (sz := 5) (fun d => rfl) hd hi hf rest
  unfold devC
  rw [this]
  congr 2
  unfold AR.upd
  apply List.ext_getElem?
  intro j
  rw [modify_get, List.getElem?_set]
  by_cases hj : dev.toNat = j
  · subst hj
    rw [if_pos rfl, if_pos rfl, hd, if_pos (List.getElem?_eq_some_iff.1 hd).1, Option.map_some]
  · rw [if_neg hj, if_neg hj]
theorem devC_get {a : AR} {dev : Int} {i : Nat} {v : Value} {rest : List Value} (h : a.inD dev = true) (hv : (a.dv dev).cells[i]? = some v) (hi : i < 5) : (devC a ++ rest)[dev.toNat * 5 + i]? = some v := by
  have h1 : (devC a)[dev.toNat * 5 + i]? = some v := by rw [devC, flat_get (sz := 5) (fun d => rfl) (devs_get h) i hi]; exact hv
  rw [List.getElem?_append_left (List.getElem?_eq_some_iff.1 h1).1]
  exact h1
theorem upd_map {β : Type} (a : AR) (dev : Int) (f : DV → DV) (g : DV → β) (h : ∀ d, g (f d) = g d) : (a.upd dev f).devs.map g = a.devs.map g := by
  apply List.ext_getElem?
  intro j
  unfold AR.upd
  rw [List.getElem?_map, List.getElem?_map, modify_get]
  split
  · cases a.devs[j]? with
    | none => rfl
    | some d => simp [h]
  · rfl
theorem upd_len (a : AR) (dev : Int) (f : DV → DV) : (a.upd dev f).devs.length = a.devs.length := by
  unfold AR.upd
  simp
theorem upd_inD (a : AR) (dev e : Int) (f : DV → DV) : (a.upd dev f).inD e = a.inD e := by
  unfold AR.inD
  rw [upd_len]
theorem upd_dv {a : AR} {dev : Int} {f : DV → DV} (h : a.inD dev = true) : (a.upd dev f).dv dev = f (a.dv dev) := by
  have hd := devs_get h
  unfold AR.dv at hd ⊢
  unfold AR.upd
  rw [List.getD_eq_getElem?_getD, modify_get, if_pos rfl, hd]
  rfl
theorem step_devs (a : AR) : a.step.devs = a.devs := by unfold AR.step; split <;> rfl
theorem step_loose (a : AR) : a.step.loose = a.loose := by unfold AR.step; split <;> rfl
theorem step_secs (a : AR) : a.step.secs = a.secs := by unfold AR.secs; rw [step_devs]
theorem step_inD (a : AR) (dev : Int) : a.step.inD dev = a.inD dev := by unfold AR.inD; rw [step_devs]
theorem step_dv (a : AR) (dev : Int) : a.step.dv dev = a.dv dev := by unfold AR.dv; rw [step_devs]
theorem arP_step (ga : Nat) (x : GA) (a : AR) : arP ga x a.step = .blk ga 109 (arrC x a.step) :: .blk x.gd 89 (devC a ++ x.rest) :: .row x.lv 149 258 a.loose.length (looC a) :: a.devs.map (fun d => .blk d.g 144 (secsV d.firm)) := by
  unfold arP devC looC
  rw [step_devs, step_loose]
theorem probe_step {w0 : World} {M : List Nat} {L1 : List HA} {ga : Nat} {x : GA} {a : AR} (hs : 0 ≤ a.steps ∧ a.steps < 4611686018427387904) (hf : -1 ≤ a.fuse ∧ a.fuse ≤ 9223372036854775807) :
    Probe (methV 98 (.pointer (some ⟨ga, 0, none⟩))) a.stepE (fun w => St w0 M w (L1 ++ arP ga x a)) (fun w => St w0 M w (L1 ++ arP ga x a.step)) := by
  refine probe_meth (fun _ _ => rfl) fun w h => ?_
  have h1 : St w [ga] w [.blk ga 109 (arrC x a)] := St.one _ _ _ _ (h.all (.blk ga 109 (arrC x a)) (by simp [arP]))
  refine (step_any h1 hs hf).mono ?_
  rintro _ w' ⟨rfl, h4⟩
  refine ⟨rfl, ?_⟩
  have := St.call1 L1 h h4
  rw [arP_step]
  exact this
theorem writes_places (ps : List (Nat × Value)) : Tryz.prog.built 149 ps = Instr.fill (#[(0, 1), (1, 1), (2, 256)][·]?) (Array.mk (.int .i64 0 :: .int .i64 0 :: List.replicate 256 (.int .u8 0))) ps := by kernel_rfl
theorem built_write {d p : Int} {b : List UInt8} (hb : b.length = 256) : Tryz.prog.built 149 [(0, .int .i64 d), (1, .int .i64 p), (2, .agg (bytesV b).toArray)] = some (List.toArray (.int .i64 d :: .int .i64 p :: bytesV b)) := by
  rw [writes_places]
  have h1 := fold_set 2 (bytesV b) 0 [.int .i64 d, .int .i64 p] (List.replicate 256 (.int .u8 0)) rfl (by rw [length_bytesV, hb, List.length_replicate]; exact Nat.le_refl _)
  have hl : (bytesV b).length = 256 := by rw [length_bytesV, hb]
  obtain ⟨Z, hZ⟩ : ∃ Z : List Value, Z = List.replicate 256 (.int .u8 0) := ⟨_, rfl⟩
  have hz : Z.length = 256 := by rw [hZ, List.length_replicate]
  rw [← hZ] at h1 ⊢
  have hc : (Value.agg (bytesV b).toArray).cells = (bytesV b).toArray := rfl
  have e0 : Instr.fill (#[(0, 1), (1, 1), (2, 256)][·]?) (Array.mk (.int .i64 0 :: .int .i64 0 :: Z)) [(0, .int .i64 d), (1, .int .i64 p), (2, .agg (bytesV b).toArray)] = Instr.fill (#[(0, 1), (1, 1), (2, 256)][·]?) (Array.mk (.int .i64 d :: .int .i64 p :: Z)) [(2, .agg (bytesV b).toArray)] := by
    simp [Instr.fill, Value.cells]
    omega
  rw [e0]
  simp only [Instr.fill, hc]
  rw [show (#[(0, 1), (1, 1), (2, 256)] : Array (Nat × Nat))[2]? = some (2, 256) from rfl]
  dsimp only
  rw [if_neg (by simp [hb, hz])]
  rw [← Array.foldl_toList, Array.toList_zipIdx]
  have h2 : List.foldl (fun (cs : Array Value) (x : Value × Nat) => match x with | (c, j) => cs.setIfInBounds (2 + j) c) (Array.mk (Value.int .i64 d :: Value.int .i64 p :: Z)) (bytesV b).zipIdx = ([Value.int .i64 d, Value.int .i64 p] ++ (bytesV b ++ Z.drop (bytesV b).length)).toArray := h1
  rw [List.toList_toArray, h2, hl, List.drop_of_length_le (by omega), List.append_nil]
  rfl
end Go.Proofs.YtmdfbdfijnmhkaaGreat
