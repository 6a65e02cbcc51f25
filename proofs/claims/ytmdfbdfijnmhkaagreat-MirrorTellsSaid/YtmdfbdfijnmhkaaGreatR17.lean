import Derived.Test.YtmdfbdfijnmhkaaGreatR16
namespace Go.Proofs.YtmdfbdfijnmhkaaGreat
set_option linter.unusedVariables false
set_option linter.unusedSimpArgs false
open Go.RowKit Hp
set_option maxRecDepth 100000
def flushL (a : AR) (dev : Int) : List Int := [0, orE (!a.out) 10, orE (a.inD dev) 5, orE (!(a.dv dev).gone) 14]
theorem flushL_isE (a : AR) (dev : Int) : ∀ e ∈ flushL a dev, e = 0 ∨ isE e := by
  intro e he
  unfold flushL at he
  simp only [List.mem_cons, List.not_mem_nil, or_false] at he
  rcases he with rfl | rfl | rfl | rfl
  · exact .inl rfl
  · exact orE_isE _ _ (by unfold isE; decide)
  · exact orE_isE _ _ (by unfold isE; decide)
  · exact orE_isE _ _ (by unfold isE; decide)
theorem flush_bad {a : AR} {dev : Int} (h0 : a.devs ≠ []) (h : firstE (flushL a dev) ≠ 0) : a.flushE dev = firstE (flushL a dev) ∧ a.flush dev = a := by
  unfold AR.flushE AR.flush flushL orE firstE at *
  rw [if_neg h0]
  cases h1 : a.out <;> cases h2 : a.inD dev <;> cases h4 : (a.dv dev).gone <;> simp_all
theorem flush_ok {a : AR} {dev : Int} (h0 : a.devs ≠ []) (h : firstE (flushL a dev) = 0) : a.inD dev = true ∧ a.flushE dev = a.stepE ∧ a.flush dev = if a.fuse = 0 then a.step else a.step.firms dev.toNat := by
  have hz := firstE_all h
  unfold flushL at hz
  have h1 := orE_zero (by decide) (hz _ (.tail _ (.head _)))
  have h2 := orE_zero (by decide) (hz _ (.tail _ (.tail _ (.head _))))
  have h4 := orE_zero (by decide) (hz _ (.tail _ (.tail _ (.tail _ (.head _)))))
  have h1' : a.out = false := by simpa using h1
  have h4' : (a.dv dev).gone = false := by simpa using h4
  refine ⟨h2, ?_, ?_⟩
  · unfold AR.flushE
    rw [if_neg h0, h1', h2, h4', if_neg Bool.false_ne_true, if_neg (by decide), if_neg Bool.false_ne_true]
  · unfold AR.flush
    rw [if_neg (by rw [h1', h2, h4']; simp [h0])]
theorem flush_probes {ga : Nat} {x : GA} {a : AR} {A : World → Prop} (hA : ∀ w, A w → ArrAt w ga x a) (hk : Keeps A) {g0 g1 k0 k1 : Nat} {dev : Int}
    (c0 : ∀ w, A w → w.cell? ⟨g0, 0, none⟩ = some (.pointer (some ⟨ga, 0, none⟩))) (c1 : ∀ w, A w → w.cell? ⟨g1, 0, none⟩ = some (.int .i64 dev))
    (d0 : ∀ w, A w → w.cell? ⟨k0, 0, none⟩ = some (.pointer (some ⟨ga, 0, none⟩))) (d1 : ∀ w, A w → w.cell? ⟨k1, 0, none⟩ = some (.int .i64 dev)) :
    ∀ (j : Nat) (f : Value) (e : Int), [methV 46 (ptrV ga), methV 88 (ptrV ga), cloV 93 [ptrV g0, ptrV g1], cloV 139 [ptrV k0, ptrV k1]][j]? = some f →
      (flushL a dev)[j]? = some e → (∀ i < j, (flushL a dev).getD i 0 = 0) → Probe f e A A := by
  intro j f e hf he hz
  unfold flushL at he hz
  match j, hf, he, hz with
  | 0, hf, he, _ => cases hf; cases he; exact probe_made hA hk
  | 1, hf, he, _ => cases hf; cases he; exact probe_runs hA hk
  | 2, hf, he, _ => cases hf; cases he; exact probe_isDevice hA hk c0 c1
  | 3, hf, he, hz =>
    cases hf; cases he
    have h2 : a.inD dev = true := orE_zero (by decide) (hz 2 (by decide))
    exact probe_isHere hA hk h2 d0 d1
  | j + 4, hf, _, _ => simp at hf
theorem putAt_many {cs vs : List Value} {off : Nat} : putAt cs off vs = cs.take off ++ (vs ++ cs.drop (off + vs.length)) := by
  simp [putAt]
theorem secs_put {l : List (List UInt8)} {p : Nat} {b : List UInt8} (hl : ∀ s ∈ l, s.length = 256) (hb : b.length = 256) (hp : p < l.length) : putAt (secsV l) (p * 256) (bytesV b) = secsV (l.set p b) := by
  rw [putAt_many, length_bytesV, hb]
  induction l generalizing p with
  | nil => simp at hp
  | cons s l ih =>
    have hs : (bytesV s).length = 256 := by rw [length_bytesV]; exact hl s (.head _)
    unfold secsV at ih ⊢
    cases p with
    | zero =>
      rw [List.set_cons_zero, List.flatMap_cons, List.flatMap_cons, Nat.zero_mul, List.take_zero, List.nil_append, Nat.zero_add, List.drop_append, List.drop_of_length_le (by omega), List.nil_append, hs, Nat.sub_self, List.drop_zero]
    | succ p =>
      have := ih (p := p) (fun s hs => hl s (.tail _ hs)) (by simpa using hp)
      rw [List.set_cons_succ, List.flatMap_cons, List.flatMap_cons, ← this, show (p + 1) * 256 = 256 + p * 256 by omega, List.take_append, List.take_of_length_le (by omega), hs, show 256 + p * 256 - 256 = p * 256 by omega, List.append_assoc]
      congr 3
      rw [List.drop_append, List.drop_of_length_le (by omega), List.nil_append, hs, show 256 + p * 256 + 256 - 256 = p * 256 + 256 by omega]
theorem secsV_len {l : List (List UInt8)} (hl : ∀ s ∈ l, s.length = 256) : (secsV l).length = l.length * 256 := by
  induction l with
  | nil => rfl
  | cons s l ih =>
    unfold secsV at ih ⊢
    rw [List.flatMap_cons, List.length_append, length_bytesV, hl s (.head _), ih (fun x hx => hl x (.tail _ hx)), List.length_cons, Nat.add_mul]
    omega
theorem setS_len (l : List (List UInt8)) (w : LW) : (setS l w).length = l.length := by unfold setS; simp
theorem setS_all {l : List (List UInt8)} {w : LW} (hl : ∀ s ∈ l, s.length = 256) (hw : w.b.length = 256) : ∀ s ∈ setS l w, s.length = 256 := by
  intro s hs
  unfold setS at hs
  rcases List.mem_or_eq_of_mem_set hs with h | rfl
  · exact hl s h
  · exact hw
theorem foldS_len (ws : List LW) (l : List (List UInt8)) : (ws.foldl setS l).length = l.length := by
  induction ws generalizing l with
  | nil => rfl
  | cons w ws ih => rw [List.foldl_cons, ih, setS_len]
theorem foldS_all {ws : List LW} {l : List (List UInt8)} (hl : ∀ s ∈ l, s.length = 256) (hw : ∀ w ∈ ws, w.b.length = 256) : ∀ s ∈ ws.foldl setS l, s.length = 256 := by
  induction ws generalizing l with
  | nil => exact hl
  | cons w ws ih => exact ih (setS_all hl (hw w (.head _))) (fun x hx => hw x (.tail _ hx))
def blkD (d : DV) : HA := .blk d.g 144 (secsV d.firm)
theorem devs_split {a : AR} {k : Nat} (hin : a.inD (k : Int) = true) (f : DV → DV) : (a.upd (k : Int) f).devs.map blkD = (a.devs.take k).map blkD ++ blkD (f (a.dv (k : Int))) :: (a.devs.drop (k + 1)).map blkD := by
  have hd := devs_get hin
  rw [Int.toNat_natCast] at hd
  have hlt := (List.getElem?_eq_some_iff.1 hd).1
  have h1 : (a.upd (k : Int) f).devs = a.devs.take k ++ f (a.dv (k : Int)) :: a.devs.drop (k + 1) := by
    apply List.ext_getElem?
    intro j
    unfold AR.upd
    rw [modify_get, Int.toNat_natCast]
    by_cases hj : k = j
    · subst hj
      rw [if_pos rfl, hd, List.getElem?_append_right (by rw [List.length_take]; omega), List.length_take, Nat.min_eq_left (by omega), Nat.sub_self]
      rfl
    · rw [if_neg hj]
      by_cases hlt2 : j < k
      · rw [List.getElem?_append_left (by rw [List.length_take]; omega), List.getElem?_take_of_lt hlt2]
      · rw [List.getElem?_append_right (by rw [List.length_take]; omega), List.length_take, Nat.min_eq_left (by omega), show j - k = (j - k - 1) + 1 by omega, List.getElem?_cons_succ, List.getElem?_drop]
        congr 1; omega
  rw [h1, List.map_append, List.map_cons]
theorem devs_split0 {a : AR} {k : Nat} (hin : a.inD (k : Int) = true) : a.devs.map blkD = (a.devs.take k).map blkD ++ blkD (a.dv (k : Int)) :: (a.devs.drop (k + 1)).map blkD := by
  have := devs_split hin (fun d => d)
  rwa [upd_same hin rfl] at this
theorem devC_firm {a : AR} (dev : Int) {f : DV → DV} (hf : ∀ d, (f d).cells = d.cells) : devC (a.upd dev f) = devC a := by
  have := upd_map a dev f DV.cells hf
  unfold devC
  rw [List.flatMap_def, List.flatMap_def, this]
end Go.Proofs.YtmdfbdfijnmhkaaGreat
