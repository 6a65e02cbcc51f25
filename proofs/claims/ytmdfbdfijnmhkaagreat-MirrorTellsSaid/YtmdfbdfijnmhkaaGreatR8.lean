import Derived.Test.YtmdfbdfijnmhkaaGreatR7
namespace Go.Proofs.YtmdfbdfijnmhkaaGreat
set_option linter.unusedVariables false
set_option linter.unusedSimpArgs false
open Go.RowKit Hp
set_option maxRecDepth 100000
def writeL (a : AR) (dev pl : Int) (n : Nat) : List Int := [0, orE (!a.out) 10, orE (a.inS dev pl) 5, orE ((n : Int) == 256) 2, orE (!(a.dv dev).gone) 14]
def isE (e : Int) : Prop := e = 1 ∨ e = 10 ∨ e = 5 ∨ e = 2 ∨ e = 14 ∨ e = 13
theorem firstE_mem {l : List Int} (h : firstE l ≠ 0) : firstE l ∈ l := by
  unfold firstE at h ⊢
  cases hf : l.find? (· ≠ 0) with
  | none => rw [hf] at h; exact absurd rfl h
  | some x => exact List.mem_of_find?_eq_some hf
theorem firstE_isE {l : List Int} (hl : ∀ e ∈ l, e = 0 ∨ isE e) (h : firstE l ≠ 0) : isE (firstE l) := by
  rcases hl _ (firstE_mem h) with h1 | h1
  · exact absurd h1 h
  · exact h1
theorem orE_isE (b : Bool) (e : Int) (h : isE e) : orE b e = 0 ∨ isE (orE b e) := by
  unfold orE
  cases b
  · exact .inr h
  · exact .inl rfl
theorem firstE_all {l : List Int} (h : firstE l = 0) : ∀ e ∈ l, e = 0 := by
  intro e he
  unfold firstE at h
  cases hf : l.find? (· ≠ 0) with
  | none =>
    have := List.find?_eq_none.1 hf e he
    simpa using this
  | some x =>
    rw [hf] at h
    have := List.find?_some hf
    simp at this h
    exact absurd h this
theorem orE_zero {b : Bool} {e : Int} (he : e ≠ 0) (h : orE b e = 0) : b = true := by
  unfold orE at h
  cases b
  · exact absurd h he
  · rfl
theorem number_isE (e d : Int) (he : isE e) (h0 : e ≠ 0) (w : World) : Calls Tryz.prog 47 #[.iface 154 (.agg #[.int .i64 e, .int .i64 d])] w fun x w' => x = .returned (.int .i64 e) ∧ St w [] w' [] := by
  have := number_any e d he w
  unfold errV at this
  rwa [if_neg h0] at this
theorem checks_bad {es : List Int} {dev e9 : Int} {PA PB : Prop} {x : Ending} (h : firstE es ≠ 0) (hh : (firstE es ≠ 0 ∧ x = .returned (errV dev (firstE es)) ∧ PA) ∨ (firstE es = 0 ∧ x = .returned (errV dev e9) ∧ PB)) :
    x = .returned (.iface 154 (.agg #[.int .i64 (firstE es), .int .i64 dev])) ∧ PA := by
  rcases hh with ⟨_, hx, hA⟩ | ⟨h0, _⟩
  · unfold errV at hx
    rw [if_neg h] at hx
    exact ⟨hx, hA⟩
  · exact absurd h0 h
theorem checks_last {es : List Int} {dev e9 : Int} {PA PB : Prop} {x : Ending} (h : firstE es = 0) (h9 : e9 ≠ 0) (hh : (firstE es ≠ 0 ∧ x = .returned (errV dev (firstE es)) ∧ PA) ∨ (firstE es = 0 ∧ x = .returned (errV dev e9) ∧ PB)) :
    x = .returned (.iface 154 (.agg #[.int .i64 e9, .int .i64 dev])) ∧ PB := by
  rcases hh with ⟨h0, _⟩ | ⟨_, hx, hB⟩
  · exact absurd h h0
  · unfold errV at hx
    rw [if_neg h9] at hx
    exact ⟨hx, hB⟩
theorem checks_fine {es : List Int} {dev : Int} {PA PB : Prop} {x : Ending} (h : firstE es = 0) (hh : (firstE es ≠ 0 ∧ x = .returned (errV dev (firstE es)) ∧ PA) ∨ (firstE es = 0 ∧ x = .returned (errV dev 0) ∧ PB)) :
    x = .returned .nilIface ∧ PB := by
  rcases hh with ⟨h0, _⟩ | ⟨_, hx, hB⟩
  · exact absurd h h0
  · exact ⟨hx, hB⟩
theorem inS_inD {a : AR} {dev pl : Int} (h : a.inS dev pl = true) : a.inD dev = true := by
  unfold AR.inS at h
  simp only [Bool.and_eq_true] at h
  exact h.1.1
theorem inS_pl {a : AR} {dev pl : Int} (h : a.inS dev pl = true) : 0 ≤ pl ∧ pl < a.secs := by
  unfold AR.inS at h
  simp only [Bool.and_eq_true, decide_eq_true_eq] at h
  exact ⟨h.1.2, h.2⟩
theorem inD_dev {a : AR} {dev : Int} (h : a.inD dev = true) : 0 ≤ dev ∧ dev < a.devs.length := by
  unfold AR.inD at h
  simp only [Bool.and_eq_true, decide_eq_true_eq] at h
  exact h
theorem writeL_isE (a : AR) (dev pl : Int) (n : Nat) : ∀ e ∈ writeL a dev pl n, e = 0 ∨ isE e := by
  intro e he
  unfold writeL at he
  simp only [List.mem_cons, List.not_mem_nil, or_false] at he
  rcases he with rfl | rfl | rfl | rfl | rfl
  · exact .inl rfl
  · exact orE_isE _ _ (by unfold isE; decide)
  · exact orE_isE _ _ (by unfold isE; decide)
  · exact orE_isE _ _ (by unfold isE; decide)
  · exact orE_isE _ _ (by unfold isE; decide)
theorem write_bad {a : AR} {dev pl : Int} {b : List UInt8} (h0 : a.devs ≠ []) (h : firstE (writeL a dev pl b.length) ≠ 0) : a.writeE dev pl b = firstE (writeL a dev pl b.length) ∧ a.write dev pl b = a := by
  unfold AR.writeE AR.write writeL orE firstE at *
  have hn : ((b.length : Int) == 256) = decide (b.length = 256) := by
    rw [Bool.eq_iff_iff]
    simp
    omega
  rw [hn] at h ⊢
  rw [if_neg h0]
  by_cases h3 : b.length = 256 <;> cases h1 : a.out <;> cases h2 : a.inS dev pl <;> cases h4 : (a.dv dev).gone <;> simp_all
theorem write_ok {a : AR} {dev pl : Int} {b : List UInt8} (h0 : a.devs ≠ []) (h : firstE (writeL a dev pl b.length) = 0) : a.out = false ∧ a.inS dev pl = true ∧ b.length = 256 ∧ (a.dv dev).gone = false ∧ a.writeE dev pl b = a.stepE ∧ a.write dev pl b = if a.fuse = 0 then a.step else a.step.lay dev pl b := by
  have hz := firstE_all h
  unfold writeL at hz
  have h1 := orE_zero (by decide) (hz _ (.tail _ (.head _)))
  have h2 := orE_zero (by decide) (hz _ (.tail _ (.tail _ (.head _))))
  have h3 := orE_zero (by decide) (hz _ (.tail _ (.tail _ (.tail _ (.head _)))))
  have h4 := orE_zero (by decide) (hz _ (.tail _ (.tail _ (.tail _ (.tail _ (.head _))))))
  have h1' : a.out = false := by simpa using h1
  have h4' : (a.dv dev).gone = false := by simpa using h4
  have h3' : b.length = 256 := by
    have : (b.length : Int) = 256 := by simpa using h3
    omega
  refine ⟨h1', h2, h3', h4', ?_, ?_⟩
  · unfold AR.writeE
    rw [if_neg h0, h1', h2, h4', if_neg Bool.false_ne_true, if_neg (by decide), if_neg (by rw [h3']; simp), if_neg Bool.false_ne_true]
  · unfold AR.write
    rw [if_neg (by rw [h1', h2, h4', h3']; simp [h0])]
theorem write_probes {ga : Nat} {x : GA} {a : AR} {A : World → Prop} (hA : ∀ w, A w → ArrAt w ga x a) (hk : Keeps A) {g7 g0 g1 g2 k0 k1 : Nat} {ao : Option Addr} {n c : Nat} {dev pl : Int}
    (c7 : ∀ w, A w → w.cell? ⟨g7, 0, none⟩ = some (.slice ao n c)) (c0 : ∀ w, A w → w.cell? ⟨g0, 0, none⟩ = some (.pointer (some ⟨ga, 0, none⟩))) (c1 : ∀ w, A w → w.cell? ⟨g1, 0, none⟩ = some (.int .i64 dev)) (c2 : ∀ w, A w → w.cell? ⟨g2, 0, none⟩ = some (.int .i64 pl))
    (d0 : ∀ w, A w → w.cell? ⟨k0, 0, none⟩ = some (.pointer (some ⟨ga, 0, none⟩))) (d1 : ∀ w, A w → w.cell? ⟨k1, 0, none⟩ = some (.int .i64 dev)) :
    ∀ (j : Nat) (f : Value) (e : Int), [methV 46 (ptrV ga), methV 88 (ptrV ga), cloV 138 [ptrV g0, ptrV g1, ptrV g2], cloV 97 [ptrV g7], cloV 139 [ptrV k0, ptrV k1]][j]? = some f →
      (writeL a dev pl n)[j]? = some e → (∀ i < j, (writeL a dev pl n).getD i 0 = 0) → Probe f e A A := by
  intro j f e hf he hz
  unfold writeL at he hz
  match j, hf, he, hz with
  | 0, hf, he, _ => cases hf; cases he; exact probe_made hA hk
  | 1, hf, he, _ => cases hf; cases he; exact probe_runs hA hk
  | 2, hf, he, _ => cases hf; cases he; exact probe_isSector hA hk c0 c1 c2
  | 3, hf, he, _ => cases hf; cases he; exact probe_clo (fun _ _ => rfl) fun w h => (len1_any (c7 w h)).mono fun _ _ ⟨e, h4⟩ => ⟨e, hk _ _ h h4⟩
  | 4, hf, he, hz =>
    cases hf; cases he
    have h2 : a.inS dev pl = true := orE_zero (by decide) (hz 2 (by decide))
    exact probe_isHere hA hk (inS_inD h2) d0 d1
  | j + 5, hf, _, _ => simp at hf
end Go.Proofs.YtmdfbdfijnmhkaaGreat
