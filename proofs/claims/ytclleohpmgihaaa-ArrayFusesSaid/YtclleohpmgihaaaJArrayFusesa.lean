/- PROVED: the law ArrayFuses returns true at any input, and nothing that was there has turned. No condition. -/
import Derived.Test.YtclleohpmgihaaaR36
import Derived.Test.YtclleohpmgihaaaKTy
import Derived.Test.YtclleohpmgihaaaSepQ
import Derived.IntWalk
import Derived.Test.YtclleohpmgihaaaR41
import Derived.Test.YtclleohpmgihaaaOpenB
import Derived.Deep.Slices
import Derived.Test.YtclleohpmgihaaaPost
namespace Go.Proofs.Ytclleohpmgihaaa
set_option linter.unusedVariables false
set_option linter.unusedSimpArgs false
open Go.RowKit Hp
attribute [local irreducible] Go.Calls Go.wpList
set_option maxRecDepth 100000
set_option maxHeartbeats 4000000
theorem spoilM_any {w : World} {ga : Nat} {x : GA} {a : AR} (hS : St w (arF ga x a) w (arP ga x a)) (ok : a.Ok) (dev pl place : Int) (m : UInt8) :
    Calls Try.prog 28 #[.pointer (some ⟨ga, 0, none⟩), .int .i64 dev, .int .i64 pl, .int .i64 place, .int .u8 (u8I m)] w fun e w' => e = .returned (.int .i64 (a.spoilE dev pl place)) ∧ ∃ x', St w (arF ga x a) w' (arP ga x' (a.spoil dev pl place m)) := by
  have hst0 := hS
  have OK := hid ok
  have hmf := rmf
  clear hS ok
  go_enter Try.func28, Try.ntmps28
  go_wp2_with (first | go_big_skip | go_big_guard | (refine wl_box hst0 rfl rfl rfl ?_; intro g7 w1 hst1; clear hst0) | (refine wl_box hst1 rfl rfl rfl ?_; intro g8 w2 hst2; clear hst1) | (refine wl_box hst2 rfl rfl rfl ?_; intro g9 w3 hst3; clear hst2) | (refine wl_loadE rfl rfl rfl ?_; first | refine ⟨_, Loads.at [_, _] hst3 rfl, ?_⟩) | (go_at_call 44; refine (isSector_any ga dev pl _).mono ?_; rintro _ w4 ⟨g0, g1, g2, rfl, h4⟩; have hst4 := St.call hst3 h4; clear h4 hst3) | (apply wl_bsX ([cloV 68 [ptrV g0, ptrV g1, ptrV g2], cloV 62 [ptrV g8]]) ([cloV 68 [ptrV g0, ptrV g1, ptrV g2], cloV 62 [ptrV g8]]) hst4; rfl; rfl; exact rfl; exact rfl; infer_instance; infer_instance; rfl; rfl; rfl; intro gs w5 hst5; clear hst4) | (go_at_call 54; have hQ := St.selfF (L := ([HA.blk gs 70 [cloV 68 [ptrV g0, ptrV g1, ptrV g2], cloV 62 [ptrV g8]], .blk g2 3 [.int .i64 pl], .blk g1 3 [.int .i64 dev], .blk g0 24 [.pointer (some ⟨ga, 0, none⟩)], .blk g9 5 [.int .u8 (u8I m)], .blk g8 3 [.int .i64 place], .blk g7 3 [.int .i64 pl]] : List HA) ++ arP ga x a) hst5; refine (befallsE_any hQ OK.out dev 63 [ptrV g7, ptrV g8, ptrV g9] (.slice (some ⟨gs, 0, none⟩) 2 2) 2 [cloV 68 [ptrV g0, ptrV g1, ptrV g2], cloV 62 [ptrV g8]] (a.spoilL dev pl place) (a.upd dev (fSpoil pl.toNat place.toNat m)) (fun _ _ => rfl) (fun X w' h => Rd.blk h (List.mem_append_right _ (.head _)) (Nat.le_refl _) (by decide) rfl rfl) rfl rfl (by decide) rfl (fun X j f e hf he _ => (match j, hf, he with | 0, hf, he => (by cases hf; cases he; exact probe_isSector (fun _ h => ArrAt.of h (fun p hp => List.mem_append_right _ (List.mem_append_right _ hp)) OK.out.d0) keeps_st (fun _ h => St.cell h (off := 0) (List.mem_append_right _ (.tail _ (.tail _ (.tail _ (.head _))))) rfl) (fun _ h => St.cell h (off := 0) (List.mem_append_right _ (.tail _ (.tail _ (.head _)))) rfl) (fun _ h => St.cell h (off := 0) (List.mem_append_right _ (.tail _ (.head _))) rfl)) | 1, hf, he => (by cases hf; cases he; exact probe_clo (fun _ _ => rfl) fun w h => (spoil1_any ((fun _ h => St.cell h (off := 0) (List.mem_append_right _ (.tail _ (.tail _ (.tail _ (.tail _ (.tail _ (.head _))))))) rfl) w h)).mono fun _ _ ⟨e, h4⟩ => ⟨e, keeps_st _ _ h h4⟩) | j + 2, hf, _ => (by simp at hf))) (fun h => inS_inD (orE_zero (by decide) (firstE_all h _ (.head _)))) (fun e he => (by unfold AR.spoilL at he; simp only [List.mem_cons, List.not_mem_nil, or_false] at he; rcases he with rfl | rfl <;> exact orE_isE _ _ (by unfold isE; decide))) (fun h1 _ w' hb h9 => (by have hs : a.inS dev pl = true := orE_zero (by decide) (firstE_all h1 _ (.head _)); have hq : (decide (0 ≤ place) && decide (place < 256)) = true := orE_zero (by decide) (firstE_all h1 _ (.tail _ (.head _))); simp only [Bool.and_eq_true, decide_eq_true_eq] at hq; obtain ⟨k, rfl⟩ : ∃ k : Nat, dev = k := ⟨dev.toNat, by have := (inD_dev (inS_inD hs)).1; omega⟩; obtain ⟨p, rfl⟩ : ∃ p : Nat, pl = p := ⟨pl.toNat, by have := (inS_pl hs).1; omega⟩; obtain ⟨q, rfl⟩ : ∃ q : Nat, place = q := ⟨place.toNat, by omega⟩; have hq2 : q < 256 := (by omega); exact spoil2_any h9 OK.out hs hq2 (cell_blk (hb g7 _ _ (.tail _ (.tail _ (.tail _ (.tail _ (.tail _ (.tail _ (.head _)))))))).1) (hb g7 _ _ (.tail _ (.tail _ (.tail _ (.tail _ (.tail _ (.tail _ (.head _)))))))).2 (cell_blk (hb g8 _ _ (.tail _ (.tail _ (.tail _ (.tail _ (.tail _ (.head _))))))).1) (hb g8 _ _ (.tail _ (.tail _ (.tail _ (.tail _ (.tail _ (.head _))))))).2 (cell_blk (hb g9 _ _ (.tail _ (.tail _ (.tail _ (.tail _ (.head _)))))).1) (hb g9 _ _ (.tail _ (.tail _ (.tail _ (.tail _ (.head _)))))).2))).mono ?_; rintro _ w9 ⟨rfl, X, x', h4⟩; have hst6 := St.thenF (L := ([HA.blk gs 70 [cloV 68 [ptrV g0, ptrV g1, ptrV g2], cloV 62 [ptrV g8]], .blk g2 3 [.int .i64 pl], .blk g1 3 [.int .i64 dev], .blk g0 24 [.pointer (some ⟨ga, 0, none⟩)], .blk g9 5 [.int .u8 (u8I m)], .blk g8 3 [.int .i64 place], .blk g7 3 [.int .i64 pl]] : List HA) ++ arP ga x a) hst5 h4; clear h4 hQ hst5))
  go_ret
  exact ⟨rfl, x', St.sub hst6 (.trans (List.sublist_append_right _ _) (List.sublist_append_right _ _))⟩
end Go.Proofs.Ytclleohpmgihaaa
namespace Go.Proofs.Ytclleohpmgihaaa
set_option linter.unusedVariables false
set_option linter.unusedSimpArgs false
open Go.RowKit Hp
attribute [local irreducible] Go.Calls
set_option maxHeartbeats 1000000
/-- The number below n that x says. -/
def pickI (x n : Int) : Int := if n < 1 then 0 else x % n
theorem pickI_nat {x : Int} {n : Nat} (h : 0 < n) : ∃ k : Nat, k < n ∧ pickI x n = k := by
  have h1 := Int.emod_nonneg x (show (n : Int) ≠ 0 by omega)
  have h2 := Int.emod_lt_of_pos x (show (0 : Int) < n by omega)
  refine ⟨(x % n).toNat, by omega, ?_⟩
  unfold pickI
  rw [if_neg (by omega)]
  omega
theorem pick_spec (x n : Int) (w : World) (hx : -9223372036854775808 ≤ x ∧ x ≤ 9223372036854775807) (hn : -9223372036854775808 ≤ n ∧ n ≤ 9223372036854775807) :
    Calls Try.prog 11 #[.int .i64 x, .int .i64 n] w fun e w' => e = .returned (.int .i64 (pickI x n)) ∧ St w [] w' [] := by
  have hst := St.refl w
  by_cases h1 : n < 1
  · have d1 : decide (n < 1) = true := decide_eq_true h1
    have e : pickI x n = 0 := by unfold pickI; rw [if_pos h1]
    rw [e]
    clear h1 e
    go_enter Try.func11, Try.ntmps11
    go_wp2_with (first | go_big_skip | go_big_guard | fail)
    go_ret
    exact ⟨rfl, hst⟩
  · have d1 : decide (n < 1) = false := decide_eq_false h1
    obtain ⟨r, hr⟩ : ∃ r, r = Int.tmod x n := ⟨_, rfl⟩
    have q1 := Int.tmod_lt_of_pos x (show (0 : Int) < n by omega)
    have q2 := Int.lt_tmod_of_pos x (show (0 : Int) < n by omega)
    rw [← hr] at q1 q2
    have hw : IntKind.i64.wrap r = r := IntWalk.i64_in _ (by omega)
    have f1 : ∀ T, binOp .rem T (.int .i64 x) (.int .i64 n) = pure (.int .i64 r) := by
      intro T
      have hn0 : n ≠ 0 := by omega
      simp only [binOp]
      simp [Op.intDiv, hn0, ← hr, hw]
    have em : x % n = if r < 0 then r + n else r := by
      rw [hr, Int.tmod_eq_emod]
      have := Int.emod_nonneg x (show n ≠ 0 by omega)
      have := Int.emod_lt_of_pos x (show (0 : Int) < n by omega)
      split <;> (split <;> omega)
    have e : pickI x n = if r < 0 then r + n else r := by unfold pickI; rw [if_neg h1, em]
    rw [e]
    clear em e hr h1
    by_cases h2 : r < 0
    · have d2 : decide (r < 0) = true := decide_eq_true h2
      have z0 : IntKind.i64.wrap (r + n) = r + n := IntWalk.i64_in _ (by omega)
      rw [if_pos h2]
      clear h2
      go_enter Try.func11, Try.ntmps11
      go_wp2_with (first | go_big_skip | go_big_guard | fail)
      go_ret
      exact ⟨rfl, hst⟩
    · have d2 : decide (r < 0) = false := decide_eq_false h2
      rw [if_neg h2]
      clear h2
      go_enter Try.func11, Try.ntmps11
      go_wp2_with (first | go_big_skip | go_big_guard | fail)
      go_ret
      exact ⟨rfl, hst⟩
end Go.Proofs.Ytclleohpmgihaaa
namespace Go.Proofs.Ytclleohpmgihaaa
set_option linter.unusedVariables false
set_option linter.unusedSimpArgs false
open Go.RowKit Hp
set_option maxRecDepth 100000
instance lyA8 : TyA Try.prog 29 8 := ⟨by kernel_rfl⟩
instance lyN8 : TyN Try.prog 29 8 := ⟨by kernel_rfl⟩
instance lyA16 : TyA Try.prog 30 16 := ⟨by kernel_rfl⟩
instance lyN16 : TyN Try.prog 30 16 := ⟨by kernel_rfl⟩
instance lyZ16 : TyZ Try.prog 30 (List.replicate 16 (.int .u8 0)) := ⟨by kernel_rfl⟩
instance lyAL : TyA Try.prog 32 4 := ⟨by kernel_rfl⟩
instance lyNL : TyN Try.prog 32 4 := ⟨by kernel_rfl⟩
instance lySlL : TySl Try.prog 22 32 := ⟨by kernel_rfl⟩
/-- A write of a sector of one byte, and whether the device is flushed behind it. -/
structure LY where
  dev : Int
  pl : Int
  b : UInt8
  fl : Bool
def LY.cells (y : LY) : List Value := [.int .i64 y.dev, .int .i64 y.pl, .int .u8 y.b.toNat, .bool y.fl]
structure LY.Ok (y : LY) : Prop where
  d : -9223372036854775808 ≤ y.dev ∧ y.dev ≤ 9223372036854775807
  p : -9223372036854775808 ≤ y.pl ∧ y.pl ≤ 9223372036854775807
instance : Inhabited LY := ⟨⟨0, 0, 0, false⟩⟩
theorem lys_at : ∀ {xs : List LY} {k : Nat} {x : LY}, xs[k]? = some x → ∀ j v, x.cells[j]? = some v → (xs.flatMap LY.cells)[k * 4 + j]? = some v
  | y :: xs, 0, x, h, j, v, hj => by
    cases h
    rw [List.flatMap_cons, Nat.zero_mul, Nat.zero_add, List.getElem?_append_left (List.getElem?_eq_some_iff.1 hj).1]
    exact hj
  | y :: xs, k + 1, x, h, j, v, hj => by
    have hl : y.cells.length = 4 := rfl
    rw [List.flatMap_cons, List.getElem?_append_right (by rw [hl]; omega), hl, show (k + 1) * 4 + j - 4 = k * 4 + j by omega]
    exact lys_at (by simpa using h) j v hj
  | [], _, _, h, _, _, _ => by cases h
theorem lys_cell {w : World} {b off n c k : Nat} {xs : List LY} {x : LY} (h : Rd w (.slice (some ⟨b, off, none⟩) n c) 4 n (xs.flatMap LY.cells)) (hk : xs[k]? = some x) {j : Nat} {v : Value} (hj : x.cells[j]? = some v) : w.cell? ⟨b, off + k * 4 + j, none⟩ = some v := by
  have := h.range (k * 4 + j) v (lys_at hk j v hj)
  rwa [← Nat.add_assoc] at this
theorem off_x {w0 w : World} {M : List Nat} {X : List HA} {ga : Nat} {x : GA} {a : AR} (h : St w0 M w (X ++ arP ga x a)) {p : HA} (hm : p ∈ X) {v : Value} (hk : ∀ A n c, v = .slice (some A) n c → 0 < n → p.foot = some A.block) : Off v (arF ga x a) := by
  intro A n c he h0 hF
  have hap := h.apart
  unfold Apart at hap
  rw [List.pairwise_append] at hap
  obtain ⟨y, hy, hk2⟩ := List.mem_filterMap.1 hF
  exact hap.2.2 _ hm y hy A.block (hk A n c he h0) hk2
theorem off_blk {w0 w : World} {M : List Nat} {X : List HA} {ga : Nat} {x : GA} {a : AR} (h : St w0 M w (X ++ arP ga x a)) {g : Nat} {T : TypeId} {cs : List Value} (hm : HA.blk g T cs ∈ X) (o n c : Nat) : Off (.slice (some ⟨g, o, none⟩) n c) (arF ga x a) :=
  off_x h hm (fun _ _ _ he _ => by cases he; rfl)
theorem off_row {w0 w : World} {M : List Nat} {X : List HA} {ga : Nat} {x : GA} {a : AR} (h : St w0 M w (X ++ arP ga x a)) {v : Value} {T : TypeId} {sz n : Nat} {cs : List Value} (hm : HA.row v T sz n cs ∈ X) : Off v (arF ga x a) :=
  off_x h hm (fun A n' c he h0 => by
    obtain ⟨_, h2⟩ := h.owns (v := v) (T := T) (sz := sz) (n := n) (xs := cs) (List.mem_append_left _ hm)
    rcases h2 with ⟨h3, _⟩ | ⟨g, cap, cur, h3, _⟩
    · rw [h3] at he; cases he
    · rw [h3] at he
      cases he
      show v.ownBlock = _
      rw [h3]
      rfl)
theorem fused_K0 (p q n : Nat) : (K0 p q).fuseE (n : Int) = 0 ∧ (K0 p q).fused (n : Int) = ⟨(K0 p q).devs, [], (n : Int), false, 0⟩ := by
  have hE : (K0 p q).fuseE (n : Int) = 0 := by
    unfold AR.fuseE
    rw [if_neg (K0_ok p q).d0, show (K0 p q).out = false from rfl, if_neg (by decide), if_neg (by omega)]
  refine ⟨hE, ?_⟩
  unfold AR.fused
  rw [if_pos hE]
  rfl
end Go.Proofs.Ytclleohpmgihaaa
namespace Go.Proofs.Ytclleohpmgihaaa
set_option linter.unusedVariables false
set_option linter.unusedSimpArgs false
open Go.ChangeShapes Go.WideShapes Go.ChangeAt Go.RowKit Go.Deep Go.Lib Go.Joins Hp
set_option maxRecDepth 100000
theorem flat_inv {α : Type} {f : α → List Value} {sz : Nat} (hl : ∀ a, (f a).length = sz) : ∀ (ks : List α) (k : Nat) (v : Value), (ks.flatMap f)[k]? = some v → ∃ i j x, ks[i]? = some x ∧ k = i * sz + j ∧ (f x)[j]? = some v ∧ j < sz
  | [], k, v, h => by simp at h
  | x :: ks, k, v, h => by
    rw [List.flatMap_cons] at h
    by_cases hk : k < sz
    · rw [List.getElem?_append_left (by rw [hl]; exact hk)] at h
      exact ⟨0, k, x, rfl, by omega, h, hk⟩
    · rw [List.getElem?_append_right (by rw [hl]; omega), hl] at h
      obtain ⟨i, j, y, h1, h2, h3, h4⟩ := flat_inv hl ks (k - sz) v h
      refine ⟨i + 1, j, y, by simpa using h1, ?_, h3, h4⟩
      rw [Nat.succ_mul]
      omega
theorem flat_len {α : Type} {f : α → List Value} {sz : Nat} (hl : ∀ a, (f a).length = sz) (ks : List α) : (ks.flatMap f).length = ks.length * sz := by
  induction ks with
  | nil => simp
  | cons x ks ih => rw [List.flatMap_cons, List.length_append, ih, hl, List.length_cons, Nat.succ_mul]; omega
theorem open_structs {α : Type} [Inhabited α] {f : α → List Value} {sz : Nat} (hl : ∀ a, (f a).length = sz) (ok : α → World → Prop) {H : Type} {enc : TypeId × Value → H} {W : World} {base fuel : Nat} {T e : TypeId} {v : Value} {x : DataW H × List MemPlace} (hT : Try.prog.underlying T = some (.slice e)) (he : Try.prog.cellsOf e = sz)
    (hop : ∀ (fuel : Nat) (cs : List Value) (x : DataW H × List MemPlace), cs.length = sz → DataW.trod enc Try.prog W 0 (fun _ => true) true fuel e cs = some x → ∃ k : α, cs = f k ∧ ok k W) (hv : Value.okWide Try.prog W .any base T v)
    (h : DataW.trod enc Try.prog W 0 (fun _ => true) true fuel T v.cells.toList = some x) : ∃ ao n c, ∃ ks : List α, v = .slice ao n c ∧ Rd W (.slice ao n c) sz n (ks.flatMap f) ∧ ks.length = n ∧ ∀ x ∈ ks, ok x W := by
  obtain ⟨a, len, cap, rfl⟩ := okWide_slice hT hv
  rcases open_slice hT h with ⟨hc, _⟩ | ⟨a', len', cap', m, n, D, Pl, hc, _, hll, hm, hmm, _, hx⟩
  · simp [Value.cells] at hc
    obtain ⟨rfl, rfl, rfl⟩ := hc
    exact ⟨none, 0, 0, [], rfl, Rd.nil _ _, rfl, by simp⟩
  · simp [Value.cells] at hc
    obtain ⟨rfl, rfl, rfl⟩ := hc
    have hs := slice_spotV hT hv
    obtain ⟨b, off, rfl⟩ : ∃ b off, a' = ⟨b, off, none⟩ := ⟨a'.block, a'.off, by cases a'; simp_all⟩
    simp only [if_true] at hmm
    rw [he] at hx
    obtain ⟨K, hK⟩ := choose_lt (α := α) (p := fun i k => ok k W ∧ ∀ j, j < sz → W.cell? ⟨b, off + i * sz + j, none⟩ = (f k)[j]?) (fun i hi => by
      obtain ⟨cs', h1, h2⟩ := hx i hi
      obtain ⟨_, hlen, hcell⟩ := World.cells?_some h1
      obtain ⟨k, rfl, hk⟩ := hop _ _ _ hlen h2
      refine ⟨k, hk, fun j hj => ?_⟩
      have := hcell j hj
      rwa [Addr.add_mid, Addr.add_mid] at this)
    refine ⟨_, len, cap, (List.range len).map K, rfl, Rd.mk hll hm (by rw [flat_len hl, List.length_map, List.length_range]) (fun k v hk => ?_), by simp, fun x hx => ?_⟩
    · obtain ⟨i, j, y, h1, rfl, h3, h4⟩ := flat_inv hl _ _ _ hk
      have hi : i < len := by
        have := (List.getElem?_eq_some_iff.1 h1).1
        simpa using this
      rw [List.getElem?_map, List.getElem?_range hi] at h1
      simp at h1
      subst h1
      rw [← Nat.add_assoc, (hK i (by omega)).2 j h4, h3]
    · obtain ⟨i, hi, rfl⟩ := List.mem_map.1 hx
      exact (hK i (by have := List.mem_range.1 hi; omega)).1
theorem trod_struct4 {H : Type} {enc : TypeId × Value → H} {P : Program} {w : World} {base : Nat} {spare : Nat → Bool} {held : Bool} {t : TypeId} {f0 f1 f2 f3 : Field} {fuel : Nat} {cs : List Value} {x : DataW H × List MemPlace} (ht : P.underlying t = some (.struct #[f0, f1, f2, f3])) (h : DataW.trod enc P w base spare held fuel t cs = some x) :
    ∃ y0 y1 y2 y3 n, DataW.trod enc P w base spare held n f0.type ((cs.drop f0.offset).take (P.cellsOf f0.type)) = some y0 ∧
      DataW.trod enc P w base spare held n f1.type ((cs.drop f1.offset).take (P.cellsOf f1.type)) = some y1 ∧ DataW.trod enc P w base spare held n f2.type ((cs.drop f2.offset).take (P.cellsOf f2.type)) = some y2 ∧
      DataW.trod enc P w base spare held n f3.type ((cs.drop f3.offset).take (P.cellsOf f3.type)) = some y3 := by
  obtain ⟨xs, n, _, rfl, hl, hlen, hf⟩ := DataW.trod_struct ht h
  match xs, hlen with
  | [y0, y1, y2, y3], _ => exact ⟨y0, y1, y2, y3, n, by simpa using hf 0 f0 rfl, by simpa using hf 1 f1 rfl, by simpa using hf 2 f2 rfl, by simpa using hf 3 f3 rfl⟩
theorem cellsLi : Try.prog.cellsOf 3 = 1 := by kernel_rfl
theorem cellsLu : Try.prog.cellsOf 5 = 1 := by kernel_rfl
theorem cellsLb : Try.prog.cellsOf 4 = 1 := by kernel_rfl
theorem i64_wfL {z : Int} (hw : (Lit.int .i64 z).wf = true) : -9223372036854775808 ≤ z ∧ z ≤ 9223372036854775807 := by
  simp only [Lit.wf, Bool.and_eq_true, decide_eq_true_eq] at hw
  have h3 : IntKind.i64.min = -9223372036854775808 := rfl
  have h4 : IntKind.i64.max = 9223372036854775807 := rfl
  omega
theorem u8_wfL {z : Int} (hw : (Lit.int .u8 z).wf = true) : ∃ b : UInt8, z = (b.toNat : Int) := by
  simp only [Lit.wf, Bool.and_eq_true, decide_eq_true_eq] at hw
  have h3 : IntKind.u8.min = 0 := rfl
  have h4 : IntKind.u8.max = 255 := rfl
  refine ⟨UInt8.ofNat z.toNat, ?_⟩
  rw [UInt8.toNat_ofNat', Nat.mod_eq_of_lt (by omega)]
  omega
theorem open_lay {H : Type} {enc : TypeId × Value → H} {W : World} (fuel : Nat) (cs : List Value) (x : DataW H × List MemPlace) (hl : cs.length = 4)
    (h : DataW.trod enc Try.prog W 0 (fun _ => true) true fuel 32 cs = some x) : ∃ k : LY, cs = k.cells ∧ k.Ok := by
  match cs, hl with
  | [a, b, c, d], _ =>
    obtain ⟨y0, y1, y2, y3, n, h0, h1, h2, h3⟩ := trod_struct4 Try.underlying32 h
    simp only [cellsLi, cellsLu, cellsLb, List.drop_zero, List.drop_succ_cons, List.take_succ_cons, List.take_zero] at h0 h1 h2 h3
    obtain ⟨z0, e0, _, w0⟩ := DataW.trod_int Try.underlying3 h0
    obtain ⟨z1, e1, _, w1⟩ := DataW.trod_int Try.underlying3 h1
    obtain ⟨z2, e2, _, w2⟩ := DataW.trod_int Try.underlying5 h2
    obtain ⟨z3, e3, _⟩ := DataW.trod_bool Try.underlying4 h3
    cases e0; cases e1; cases e2; cases e3
    obtain ⟨u, rfl⟩ := u8_wfL w2
    exact ⟨⟨z0, z1, u, z3⟩, rfl, ⟨i64_wfL w0, i64_wfL w1⟩⟩
theorem cellsLL : Try.prog.cellsOf 32 = 4 := by kernel_rfl
theorem open_lays {H : Type} {enc : TypeId × Value → H} {W : World} {base fuel : Nat} {v : Value} {x : DataW H × List MemPlace} (hv : Value.okWide Try.prog W .any base 22 v)
    (h : DataW.trod enc Try.prog W 0 (fun _ => true) true fuel 22 v.cells.toList = some x) : ∃ ao n c, ∃ ks : List LY, v = .slice ao n c ∧ Rd W (.slice ao n c) 4 n (ks.flatMap LY.cells) ∧ ks.length = n ∧ ∀ x ∈ ks, x.Ok :=
  open_structs (f := LY.cells) (fun _ => rfl) (fun k _ => k.Ok) Try.underlying22 cellsLL open_lay hv h
end Go.Proofs.Ytclleohpmgihaaa
namespace Go.Proofs.Ytclleohpmgihaaa
set_option linter.unusedVariables false
set_option linter.unusedSimpArgs false
open Go.RowKit Hp
attribute [local irreducible] Go.Calls Go.wpList
set_option maxRecDepth 100000
set_option maxHeartbeats 8000000
theorem fuses_long (zn : Int) (h1 : -9223372036854775808 ≤ zn ∧ zn ≤ 9223372036854775807) (ao : Option Addr) (N c n : Nat) (w : World) (en : pickI zn 131 = n) (hN6 : 60 < N) :
    Calls Try.prog 3 #[.slice ao N c, .int .i64 zn] w fun e w' => e = .returned (.bool true) ∧ St w [] w' [] := by
  have hst := St.refl w
  have HE := hid en
  have d1 : decide ((60 : Int) < (N : Int)) = true := decide_eq_true (by omega)
  clear en
  go_enter Try.func3, Try.ntmps3
  go_wp2_with (first | go_big_skip | go_big_guard | (go_at_call 9; refine (awake_any _).mono ?_; rintro _ w80 ⟨rfl, h4⟩; have hst9 := St.call0 hst h4; clear h4 hst) | (go_at_call 10; refine (made2_any _).mono ?_; rintro _ w0 ⟨ga, x0, gs, rfl, hg, h4⟩; have hm0 := St.call hst9 h4; clear h4 hg hst9) | (go_at_call 11; refine (pick_spec zn 131 _ h1 (by decide)).mono ?_; rw [HE.out]; rintro _ w90 ⟨rfl, h4⟩; have hp1 := St.call0 hm0 h4; clear h4 hm0))
  go_ret
  exact ⟨rfl, hp1.nil⟩
section
theorem loadedU8' (A : Addr) : loadVar 5 A = loadVarH 5 A := rfl
theorem loadedI8' (A : Addr) : loadVar 3 A = loadVarH 3 A := rfl
attribute [local go_sem ↓] loadedU8' loadedI8'
theorem fuses_short (zn : Int) (h1 : -9223372036854775808 ≤ zn ∧ zn ≤ 9223372036854775807) (ao : Option Addr) (N c n : Nat) (xs : List LY) (w : World) (hv : Rd w (.slice ao N c) 4 N (xs.flatMap LY.cells)) (hN : xs.length = N) (hx : ∀ y ∈ xs, y.Ok) (en : pickI zn 131 = n) (hn : n < 131) (hN6 : N ≤ 60) :
    Calls Try.prog 3 #[.slice ao N c, .int .i64 zn] w fun e w' => e = .returned (.bool true) ∧ St w [] w' [] := by
  have hst := St.refl w
  have HE := hid en
  have HXX := hid hx
  have HN := hid hN
  have d1 : decide ((60 : Int) < (N : Int)) = false := decide_eq_false (by omega)
  clear en hN hx
  go_enter Try.func3, Try.ntmps3
  go_wp2_with (first | go_big_skip | go_big_guard | (go_at_call 9; refine (awake_any _).mono ?_; rintro _ w80 ⟨rfl, h4⟩; have hst9 := St.call0 hst h4; clear h4 hst) | (go_at_call 10; refine (made2_any _).mono ?_; rintro _ w0 ⟨ga, x0, gs, rfl, hg, h4⟩; obtain ⟨p, q, rfl⟩ : ∃ p q, gs = [p, q] := (match gs, hg with | [p, q], _ => ⟨p, q, rfl⟩); have hm0 : St w [] w0 ([] ++ arP ga x0 (K0 p q)) := (by have := St.call hst9 h4; rw [List.append_nil] at this; exact this); clear h4 hg hst9) | (go_at_call 11; refine (pick_spec zn 131 _ h1 (by decide)).mono ?_; rw [HE.out]; rintro _ w90 ⟨rfl, h4⟩; have hp1 := St.call0 hm0 h4; clear h4 hm0) | (go_at_call 12; refine (fuseM_any (arr_in (X := []) hp1) (K0_ok p q) (n : Int)).mono ?_; rw [(fused_K0 p q n).1]; rintro _ w91 ⟨rfl, h4⟩; have hp2 : St w [] w91 (arP ga x0 ((K0 p q).fused (n : Int))) := arr_out (X := []) hp1 h4; clear h4 hp1) | (first | (refine wl_alloc hp2 rfl rfl ?_; intro gf w92 hp3; clear hp2) | (refine wl_alloc hp3 rfl rfl ?_; intro gl w93 hp4; clear hp3)))
  obtain ⟨a0, ha0⟩ : ∃ a0, a0 = (K0 p q).fused (n : Int) := ⟨_, rfl⟩
  rw [← ha0] at hp4
  have hL0 : Laid a0 (List.replicate 16 0) (List.replicate 16 0) := by
    rw [ha0, (fused_K0 p q n).2]
    exact (Laid.start p q).same rfl rfl (by show -1 ≤ (n : Int) ∧ (n : Int) ≤ _; omega)
  have hz0 : Fz a0 n 0 := by
    rw [ha0, (fused_K0 p q n).2]
    exact ⟨by show (n : Int) = _; omega, rfl, Nat.zero_le _, fun h => by cases h⟩
  have hl0 : a0.loose.length = 0 := by rw [ha0, (fused_K0 p q n).2]; rfl
  clear ha0
  go_loopw [7, 10] (fun kv i wr => ∃ (m k : Nat) (a : AR) (x : GA) (F L : List UInt8), m ≤ N ∧ kv = .int .i64 (k : Int) ∧ i = .int .i64 (m : Int) ∧ Laid a F L ∧ Fz a n k ∧ a.loose.length ≤ m ∧ St w [] wr (.blk gl 30 (bytesV L) :: .blk gf 30 (bytesV F) :: arP ga x a)) (fun _ i _ => N - (intOf i).toNat)
  case atStart => exact ⟨0, 0, a0, x0, _, _, Nat.zero_le _, rfl, rfl, hL0, hz0, by omega, hp4⟩
  case round =>
    clear hp4 hL0 hz0 hl0
    obtain ⟨m, k, a, x, F, L, hm, rfl, rfl, hL, hz, hll, hs0⟩ := hrel
    by_cases hmN : m < N
    · obtain ⟨y, hy⟩ : ∃ y, xs[m]? = some y := ⟨_, List.getElem?_eq_getElem (by rw [HN.out]; exact hmN)⟩
      obtain ⟨b, off, rfl, _⟩ := hv.at hmN
      have HY := hid (HXX.out y (List.mem_of_getElem? hy))
      have HR0 := hid (lys_cell hv hy (j := 0) rfl)
      have HR1 := hid (lys_cell hv hy (j := 1) rfl)
      have HR2 := hid (lys_cell hv hy (j := 2) rfl)
      have HR3 := hid (lys_cell hv hy (j := 3) rfl)
      obtain ⟨d, hd, ed⟩ := pickI_nat (x := y.dev) (n := 2) (by decide)
      obtain ⟨s, hs, es⟩ := pickI_nat (x := y.pl) (n := 8) (by decide)
      have ED : Hid (pickI y.dev 2 = (d : Int)) := hid ed
      have ES : Hid (pickI y.pl 8 = (s : Int)) := hid es
      have d2 : decide ((m : Int) < (N : Int)) = true := decide_eq_true (by omega)
      have z1 : IntKind.i64.wrap ((m : Int) + 1) = (m : Int) + 1 := IntWalk.i64_in _ (by omega)
      have hkk := hz.le
      have z2 : IntKind.i64.wrap ((k : Int) + 1) = (k : Int) + 1 := IntWalk.i64_in _ (by omega)
      have z3 : IntKind.i64.wrap ((k : Int) + 1 + 1) = (k : Int) + 1 + 1 := IntWalk.i64_in _ (by omega)
      have hd2 : (d : Int) < 2 := by omega
      have hs2 : (s : Int) < 8 := by omega
      have HL := hid hL
      have HZ := hid hz
      have HLL := hid hll
      have HMB := hid hm
      have HKB := hid hkk
      have HDB := hid hd
      have HSB := hid hs
      clear hy ed es hL hz
      have hL := HL.out
      have hz := HZ.out
      by_cases hkn : k < n
      · by_cases hfl : y.fl = true
        · by_cases hkn2 : k + 1 < n
          · have d3 : decide ((k : Int) < (n : Int)) = true := decide_eq_true (by omega)
            have hlv := hz.live hkn
            have HE1 := hid (hL.write_eq hd hs hlv.1 hlv.2 y.b).1
            obtain ⟨a2, ha2⟩ : ∃ a2, a2 = a.write (d : Int) (s : Int) (BB y.b) := ⟨_, rfl⟩
            have HA2 := hid ha2
            have hq := (hL.write_eq hd hs hlv.1 hlv.2 y.b).2
            rw [← ha2] at hq
            have hL2 : Laid a2 F (L.set (d * 8 + s) y.b) := by rw [ha2]; exact hL.write hd hs hlv.1 hlv.2 y.b
            have hZ2 : Fz a2 n (k + 1) := hz.next hkn (by rw [hq]) (by rw [hq]) (by rw [hq])
            have hl2 : a2.loose.length ≤ m + 1 := by rw [hq]; show (a.loose ++ [_]).length ≤ _; rw [List.length_append]; show a.loose.length + 1 ≤ _; omega
            have HPUT := hid (bytesV_set y.b (i := d * 8 + s) (L := L) (by rw [hL.ll]; omega))
            have HFIT : Hid (d * 8 + s + 1 ≤ (bytesV L).length) := hid (by rw [length_bytesV, hL.ll]; omega)
            have d4 : decide ((k : Int) + 1 < (n : Int)) = true := decide_eq_true (by omega)
            have hlv2 := hZ2.live hkn2
            have hq2 := (hL2.flush_eq hd hlv2.1 hlv2.2)
            have HE2 := hid hq2.1
            obtain ⟨a3, ha3⟩ : ∃ a3, a3 = a2.flush (d : Int) := ⟨_, rfl⟩
            have HA3 := hid ha3
            have hL3 : Laid a3 (rowput F (L.set (d * 8 + s) y.b) d) (L.set (d * 8 + s) y.b) := by rw [ha3]; exact hL2.flush hd hlv2.1 hlv2.2
            have hq3 := hq2.2
            rw [← ha3] at hq3
            have hZ3 : Fz a3 n (k + 1 + 1) := hZ2.next hkn2 (by rw [hq3]; rfl) (by rw [hq3]; rfl) (by rw [hq3]; rfl)
            have hl3 : a3.loose.length ≤ m + 1 := by rw [hq3]; exact Nat.le_trans (List.length_filter_le _ _) hl2
            have HROW := hid (bytesV_row hL2.fl hL2.ll hd)
            have HRL : Hid ((bytesV (((L.set (d * 8 + s) y.b).drop (d * 8)).take 8)).length = 8) := hid (by rw [length_bytesV, List.length_take, List.length_drop, hL2.ll]; omega)
            have HRT : Hid (((bytesV (L.set (d * 8 + s) y.b)).drop (d * 8)).take (bytesV (((L.set (d * 8 + s) y.b).drop (d * 8)).take 8)).length = bytesV (((L.set (d * 8 + s) y.b).drop (d * 8)).take 8)) := hid (by rw [HRL.out]; unfold bytesV; rw [List.map_take, List.map_drop])
            have HRF : Hid (d * 8 + 8 ≤ (bytesV F).length) := hid (by rw [length_bytesV, hL2.fl]; omega)
            clear hlv2 hq2 hq3 ha3
            have HL2 := hid hL2
            have HZ2 := hid hZ2
            clear ha2 hL2 hZ2 hlv hq
            have HL3 := hid hL3
            have HZ3 := hid hZ3
            clear hL3 hZ3
            have hFL : y.fl = true := hfl
            rw [hFL] at HR3
            clear hL hz hd hs
            go_wp2_with (first | go_big_skip | go_big_guard | fail)
            have hX := hs0.drew
            clear hs0
            refine wp_region_held_drew (S := (fun w' => (loadVarH 3 ⟨b, off + m * 4, none⟩).run Try.prog w' = .ok (.int .i64 y.dev) w' ∧ (loadVarH 3 ⟨b, off + m * 4 + 1, none⟩).run Try.prog w' = .ok (.int .i64 y.pl) w')) (by kernel_rfl) (by exact ⟨ldO hX (HR0.out), ldO hX (HR1.out)⟩) (fun hHeld => ?_)
            refine wpAnyH_take (i := 0) (oi := ⟨some 50, _, _, _, _, _⟩) (v := ?_) rfl (by kernel_rfl) (by kernel_rfl) (by kernel_rfl) (fun _ _ _ h => h) (Or.inl ⟨by rfl, ?_⟩) (by assumption) ?_
            rotate_left
            · intro w hSw; (try dsimp only at hSw); go_simp; try with_reducible rfl
            (try simp only [Act.put, List.setIfInBounds_toArray, List.set_cons_zero, List.set_cons_succ])
            refine wpAnyH_take (i := 1) (oi := ⟨some 51, _, _, _, _, _⟩) (v := ?_) rfl (by kernel_rfl) (by kernel_rfl) (by kernel_rfl) (fun _ _ _ h => h) (Or.inl ⟨by rfl, ?_⟩) (by assumption) ?_
            rotate_left
            · intro w hSw; (try dsimp only at hSw); go_simp; try with_reducible rfl
            (try simp only [Act.put, List.setIfInBounds_toArray, List.set_cons_zero, List.set_cons_succ])
            refine wpAnyH_take (i := 6) (oi := ⟨some 56, _, _, _, _, _⟩) (v := ?_) rfl (by kernel_rfl) (by kernel_rfl) (by kernel_rfl) (fun _ _ _ h => h) (Or.inl ⟨by rfl, ?_⟩) (by assumption) ?_
            rotate_left
            · intro w hSw; (try dsimp only at hSw); go_simp; try with_reducible rfl
            (try simp only [Act.put, List.setIfInBounds_toArray, List.set_cons_zero, List.set_cons_succ])
            refine wpAnyH_take (i := 7) (oi := ⟨some 57, _, _, _, _, _⟩) (v := ?_) rfl (by kernel_rfl) (by kernel_rfl) (by kernel_rfl) (fun _ _ _ h => h) (Or.inl ⟨by rfl, ?_⟩) (by assumption) ?_
            rotate_left
            · intro w hSw; (try dsimp only at hSw); go_simp; try with_reducible rfl
            (try simp only [Act.put, List.setIfInBounds_toArray, List.set_cons_zero, List.set_cons_succ])
            refine wpAnyH_take (i := 2) (oi := ⟨some 52, _, _, _, _, _⟩) (v := ?_) rfl (by kernel_rfl) (by kernel_rfl) (by kernel_rfl) (fun _ _ _ h => h) (Or.inl ⟨by rfl, ?_⟩) (by assumption) ?_
            rotate_left
            · intro w hSw; (try dsimp only at hSw); go_simp; try with_reducible rfl
            (try simp only [Act.put, List.setIfInBounds_toArray, List.set_cons_zero, List.set_cons_succ])
            refine wpAnyH_take (i := 8) (oi := ⟨some 58, _, _, _, _, _⟩) (v := ?_) rfl (by kernel_rfl) (by kernel_rfl) (by kernel_rfl) (fun _ _ _ h => h) (Or.inl ⟨by rfl, ?_⟩) (by assumption) ?_
            rotate_left
            · intro w hSw; (try dsimp only at hSw); go_simp; try with_reducible rfl
            (try simp only [Act.put, List.setIfInBounds_toArray, List.set_cons_zero, List.set_cons_succ])
            refine wpAnyH_take (i := 3) (oi := ⟨some 53, _, _, _, _, _⟩) (v := ?_) rfl (by kernel_rfl) (by kernel_rfl) (by kernel_rfl) (fun _ _ _ h => h) (Or.inl ⟨by rfl, ?_⟩) (by assumption) ?_
            rotate_left
            · intro w hSw; (try dsimp only at hSw); go_simp; try with_reducible rfl
            (try simp only [Act.put, List.setIfInBounds_toArray, List.set_cons_zero, List.set_cons_succ])
            refine wpAnyH_take (i := 9) (oi := ⟨some 59, _, _, _, _, _⟩) (v := ?_) rfl (by kernel_rfl) (by kernel_rfl) (by kernel_rfl) (fun _ _ _ h => h) (Or.inl ⟨by rfl, ?_⟩) (by assumption) ?_
            rotate_left
            · intro w hSw; (try dsimp only at hSw); go_simp; try with_reducible rfl
            (try simp only [Act.put, List.setIfInBounds_toArray, List.set_cons_zero, List.set_cons_succ])
            refine wpAnyH_take (i := 4) (oi := ⟨some 54, _, _, _, _, _⟩) (v := ?_) rfl (by kernel_rfl) (by kernel_rfl) (by kernel_rfl) (fun _ _ _ h => h) (Or.inl ⟨by rfl, ?_⟩) (by assumption) ?_
            rotate_left
            · intro w hSw; (try dsimp only at hSw); go_simp; try with_reducible rfl
            (try simp only [Act.put, List.setIfInBounds_toArray, List.set_cons_zero, List.set_cons_succ])
            refine wpAnyH_take (i := 10) (oi := ⟨some 60, _, _, _, _, _⟩) (v := ?_) rfl (by kernel_rfl) (by kernel_rfl) (by kernel_rfl) (fun _ _ _ h => h) (Or.inl ⟨by rfl, ?_⟩) (by assumption) ?_
            rotate_left
            · intro w hSw; (try dsimp only at hSw); go_simp; try with_reducible rfl
            (try simp only [Act.put, List.setIfInBounds_toArray, List.set_cons_zero, List.set_cons_succ])
            refine wpAnyH_ready (rs := [5]) (by kernel_rfl) (by simp) ?_
            refine (AllReadyH.cons (o := ⟨some 55, _, _, _, _, _⟩) rfl (fun K hK => ?_) AllReadyH.nil)
            rw [if_pos (by rfl)]
            go_simp
            go_at_call 11
            refine (pick_spec y.dev 2 _ HY.out.d (by decide)).mono ?_
            rw [ED.out]
            rintro _ w3 ⟨rfl, h4⟩
            have hA1 := St.call0 hX h4
            clear h4
            refine hK.out _ _ ?_ (fun hHeld => ?_)
            · exact ⟨ldO hA1 (HR0.out), ldO hA1 (HR1.out)⟩
            clear hK K
            (try simp only [Act.put, List.setIfInBounds_toArray, List.set_cons_zero, List.set_cons_succ])
            refine wpAnyH_ready (rs := [11]) (by kernel_rfl) (by simp) ?_
            refine (AllReadyH.cons (o := ⟨some 61, _, _, _, _, _⟩) rfl (fun K hK => ?_) AllReadyH.nil)
            rw [if_pos (by rfl)]
            go_simp
            go_at_call 11
            refine (pick_spec y.pl 8 _ HY.out.p (by decide)).mono ?_
            rw [ES.out]
            rintro _ w4 ⟨rfl, h4⟩
            have hA2 := St.call0 hA1 h4
            clear h4
            refine hK.out _ _ ?_ (fun hHeld => ?_)
            · exact ⟨ldO hA2 (HR0.out), ldO hA2 (HR1.out)⟩
            clear hK K
            (try simp only [Act.put, List.setIfInBounds_toArray, List.set_cons_zero, List.set_cons_succ])
            refine wpAnyH_take (i := 12) (oi := ⟨some 11, _, _, _, _, _⟩) (v := ?_) rfl (by kernel_rfl) (by kernel_rfl) (by kernel_rfl) (fun _ _ _ h => h) (Or.inl ⟨by rfl, ?_⟩) (by assumption) ?_
            rotate_left
            · intro w hSw; (try dsimp only at hSw); go_simp; try with_reducible rfl
            (try simp only [Act.put, List.setIfInBounds_toArray, List.set_cons_zero, List.set_cons_succ])
            refine wpAnyH_take (i := 13) (oi := ⟨some 12, _, _, _, _, _⟩) (v := ?_) rfl (by kernel_rfl) (by kernel_rfl) (by kernel_rfl) (fun _ _ _ h => h) (Or.inl ⟨by rfl, ?_⟩) (by assumption) ?_
            rotate_left
            · intro w hSw; (try dsimp only at hSw); go_simp; try with_reducible rfl
            (try simp only [Act.put, List.setIfInBounds_toArray, List.set_cons_zero, List.set_cons_succ])
            refine wpAnyH_done (by kernel_rfl) ?_ _
            clear hHeld
            have hs1 := hA2
            clear hA2
            go_wp2_with (first | go_big_skip | go_big_guard | (refine wl_loadE rfl rfl rfl ?_; refine ⟨_, Loads.old hs1 HR2.out, ?_⟩) | (go_at_call 14; refine (of_any y.b _).mono ?_; rintro _ w5 ⟨g5, rfl, h4⟩; have hs3 := St.call hs1 h4; clear h4 hs1) | (go_at_call 13; refine (writeM_any (arr_in (X := [_, _, _]) hs3) HL.out.ok (by rw [HZ.out.st]; omega) (by omega) (d : Int) (s : Int) (some ⟨g5, 0, none⟩) 256 256 (BB y.b) (Rd.blk hs3 (.head _) (Nat.le_refl _) (by decide) (by rw [length_bytesV]; exact BB_len _) (by rw [List.drop_zero]; exact List.take_length)) (BB_len _) (off_blk (X := [_, _, _]) hs3 (.head _) 0 256 256)).mono ?_; rw [HE1.out, ← HA2.out]; rintro _ w6 ⟨rfl, x2, h4⟩; have hs4 : St w [] w6 (.blk gl 30 (bytesV L) :: .blk gf 30 (bytesV F) :: arP ga x2 a2) := St.sub (arr_out (X := [_, _, _]) hs3 h4) (List.sublist_cons_self _ _); clear h4 hs3))
            have hX := hs4.drew
            clear hs4
            refine wp_region_held_drew (S := (fun w' => (loadVarH 5 ⟨b, off + m * 4 + 2, none⟩).run Try.prog w' = .ok (.int .u8 (y.b.toNat : Int)) w')) (by kernel_rfl) (by exact ldO hX (HR2.out)) (fun hHeld => ?_)
            refine wpAnyH_take (i := 0) (oi := ⟨some 90, _, _, _, _, _⟩) (v := ?_) rfl (by kernel_rfl) (by kernel_rfl) (by kernel_rfl) (fun _ _ _ h => h) (Or.inl ⟨by rfl, ?_⟩) (by assumption) ?_
            rotate_left
            · intro w hSw; (try dsimp only at hSw); go_simp; try with_reducible rfl
            (try simp only [Act.put, List.setIfInBounds_toArray, List.set_cons_zero, List.set_cons_succ])
            refine wpAnyH_take (i := 1) (oi := ⟨some 91, _, _, _, _, _⟩) (v := ?_) rfl (by kernel_rfl) (by kernel_rfl) (by kernel_rfl) (fun _ _ _ h => h) (Or.inl ⟨by rfl, ?_⟩) (by assumption) ?_
            rotate_left
            · intro w hSw; (try dsimp only at hSw); go_simp; try with_reducible rfl
            (try simp only [Act.put, List.setIfInBounds_toArray, List.set_cons_zero, List.set_cons_succ])
            refine wpAnyH_take (i := 2) (oi := ⟨some 92, _, _, _, _, _⟩) (v := ?_) rfl (by kernel_rfl) (by kernel_rfl) (by kernel_rfl) (fun _ _ _ h => h) (Or.inl ⟨by rfl, ?_⟩) (by assumption) ?_
            rotate_left
            · intro w hSw; (try dsimp only at hSw); go_simp; try with_reducible rfl
            (try simp only [Act.put, List.setIfInBounds_toArray, List.set_cons_zero, List.set_cons_succ])
            refine wpAnyH_take (i := 3) (oi := ⟨some 93, _, _, _, _, _⟩) (v := ?_) rfl (by kernel_rfl) (by kernel_rfl) (by kernel_rfl) (fun _ _ _ h => h) (Or.inl ⟨by rfl, ?_⟩) (by assumption) ?_
            rotate_left
            · intro w hSw; (try dsimp only at hSw); go_simp; try with_reducible rfl
            (try simp only [Act.put, List.setIfInBounds_toArray, List.set_cons_zero, List.set_cons_succ])
            refine wpAnyH_take (i := 4) (oi := ⟨some 94, _, _, _, _, _⟩) (v := ?_) rfl (by kernel_rfl) (by kernel_rfl) (by kernel_rfl) (fun _ _ _ h => h) (Or.inl ⟨by rfl, ?_⟩) (by assumption) ?_
            rotate_left
            · intro w hSw; (try dsimp only at hSw); go_simp; try with_reducible rfl
            (try simp only [Act.put, List.setIfInBounds_toArray, List.set_cons_zero, List.set_cons_succ])
            refine wpAnyH_take (i := 7) (oi := ⟨some 97, _, _, _, _, _⟩) (v := ?_) rfl (by kernel_rfl) (by kernel_rfl) (by kernel_rfl) (fun _ _ _ h => h) (Or.inl ⟨by rfl, ?_⟩) (by assumption) ?_
            rotate_left
            · intro w hSw; (try dsimp only at hSw); go_simp; try with_reducible rfl
            (try simp only [Act.put, List.setIfInBounds_toArray, List.set_cons_zero, List.set_cons_succ])
            refine wpAnyH_take (i := 5) (oi := ⟨some 95, _, _, _, _, _⟩) (v := ?_) rfl (by kernel_rfl) (by kernel_rfl) (by kernel_rfl) (fun _ _ _ h => h) (Or.inl ⟨by rfl, ?_⟩) (by assumption) ?_
            rotate_left
            · intro w hSw; (try dsimp only at hSw); go_simp; try with_reducible rfl
            (try simp only [Act.put, List.setIfInBounds_toArray, List.set_cons_zero, List.set_cons_succ])
            refine wpAnyH_take (i := 6) (oi := ⟨some 96, _, _, _, _, _⟩) (v := ?_) rfl (by kernel_rfl) (by kernel_rfl) (by kernel_rfl) (fun _ _ _ h => h) (Or.inl ⟨by rfl, ?_⟩) (by assumption) ?_
            rotate_left
            · intro w hSw; (try dsimp only at hSw); go_simp; try with_reducible rfl
            (try simp only [Act.put, List.setIfInBounds_toArray, List.set_cons_zero, List.set_cons_succ])
            refine wpAnyH_take (i := 8) (oi := ⟨some 98, _, _, _, _, _⟩) (v := ?_) rfl (by kernel_rfl) (by kernel_rfl) (by kernel_rfl) (fun _ _ _ h => h) (Or.inl ⟨by rfl, ?_⟩) (by assumption) ?_
            rotate_left
            · intro w hSw; (try dsimp only at hSw); go_simp; try with_reducible rfl
            (try simp only [Act.put, List.setIfInBounds_toArray, List.set_cons_zero, List.set_cons_succ])
            refine wpAnyH_ready (rs := [9]) (by kernel_rfl) (by simp) ?_
            refine (AllReadyH.cons (o := ⟨none, _, _, _, _, _⟩) rfl (fun K hK => ?_) AllReadyH.nil)
            rw [if_pos (by rfl)]
            refine ow_of_wl (ops := #[]) (by rfl) ?_
            refine wl_store [] hX rfl rfl rfl (v := .int _ _) rfl rfl rfl HFIT.out ?_
            show ∀ w', St w [] w' ([] ++ .blk gl 30 (putAt (bytesV L) (d * 8 + s) [.int .u8 (y.b.toNat : Int)]) :: _) → _
            rw [HPUT.out]
            intro w9 hA3
            refine q0_nil ?_
            refine hK.out _ _ ?_ (fun hHeld => ?_)
            · exact ldO hA3 (HR2.out)
            clear hK K
            (try simp only [Act.put, List.setIfInBounds_toArray, List.set_cons_zero, List.set_cons_succ])
            refine wpAnyH_done (by kernel_rfl) ?_ _
            clear hHeld
            have hs5 : St w [] w9 (.blk gl 30 (bytesV (L.set (d * 8 + s) y.b)) :: .blk gf 30 (bytesV F) :: arP ga x2 a2) := hA3
            clear hA3
            go_wp2_with (first | go_big_skip | go_big_guard | (refine wl_loadE rfl rfl rfl ?_; refine ⟨_, Loads.old hs5 HR3.out, ?_⟩) | (go_at_call 15; refine (flushM_any (arr_in (X := [_, _]) hs5) HL2.out.ok (by rw [HZ2.out.st]; omega) (by omega) (d : Int)).mono ?_; rw [HE2.out, ← HA3.out]; rintro _ w8 ⟨rfl, x3, h4⟩; have hs6 : St w [] w8 (.blk gl 30 (bytesV (L.set (d * 8 + s) y.b)) :: .blk gf 30 (bytesV F) :: arP ga x3 a3) := arr_out (X := [_, _]) hs5 h4; clear h4 hs5) | (refine wl_loadE rfl rfl rfl ?_; refine ⟨_, Loads.atA (bytesV (((L.set (d * 8 + s) y.b).drop (d * 8)).take 8)) [] hs6 HRL.out HRT.out, ?_⟩) | (refine wl_store [_] hs6 rfl rfl rfl (v := .agg (List.toArray (bytesV (((L.set (d * 8 + s) y.b).drop (d * 8)).take 8)))) (n := 8) rfl (by simpa [Value.cells] using HRL.out) (by simpa [Value.cells] using ones_bytesV _) (by simpa [Value.cells, HRL.out] using HRF.out) ?_; (show ∀ w', St w [] w' ([_] ++ .blk gf 30 (putAt (bytesV F) (d * 8) (Value.agg (List.toArray (bytesV (((L.set (d * 8 + s) y.b).drop (d * 8)).take 8)))).cells.toList) :: _) → _); (rw [show (Value.agg (List.toArray (bytesV (((L.set (d * 8 + s) y.b).drop (d * 8)).take 8)))).cells.toList = bytesV (((L.set (d * 8 + s) y.b).drop (d * 8)).take 8) from by simp [Value.cells], HROW.out]); intro w10 hs7; clear hs6))
            go_roundw
            case rel => exact ⟨m + 1, (k + 1 + 1), a3, x3, (rowput F (L.set (d * 8 + s) y.b) d), (L.set (d * 8 + s) y.b), by omega, rfl, rfl, HL3.out, HZ3.out, hl3, hs7⟩
            case measure => simp [intOf]; omega
          · have d3 : decide ((k : Int) < (n : Int)) = true := decide_eq_true (by omega)
            have hlv := hz.live hkn
            have HE1 := hid (hL.write_eq hd hs hlv.1 hlv.2 y.b).1
            obtain ⟨a2, ha2⟩ : ∃ a2, a2 = a.write (d : Int) (s : Int) (BB y.b) := ⟨_, rfl⟩
            have HA2 := hid ha2
            have hq := (hL.write_eq hd hs hlv.1 hlv.2 y.b).2
            rw [← ha2] at hq
            have hL2 : Laid a2 F (L.set (d * 8 + s) y.b) := by rw [ha2]; exact hL.write hd hs hlv.1 hlv.2 y.b
            have hZ2 : Fz a2 n (k + 1) := hz.next hkn (by rw [hq]) (by rw [hq]) (by rw [hq])
            have hl2 : a2.loose.length ≤ m + 1 := by rw [hq]; show (a.loose ++ [_]).length ≤ _; rw [List.length_append]; show a.loose.length + 1 ≤ _; omega
            have HPUT := hid (bytesV_set y.b (i := d * 8 + s) (L := L) (by rw [hL.ll]; omega))
            have HFIT : Hid (d * 8 + s + 1 ≤ (bytesV L).length) := hid (by rw [length_bytesV, hL.ll]; omega)
            have d4 : decide ((k : Int) + 1 < (n : Int)) = false := decide_eq_false (by omega)
            have hno2 := hL2.flush_no hd (hZ2.dead hkn2)
            have HE2 := hid hno2.1
            obtain ⟨a3, ha3⟩ : ∃ a3, a3 = a2.flush (d : Int) := ⟨_, rfl⟩
            have HA3 := hid ha3
            rw [← ha3] at hno2
            have hL3 : Laid a3 F (L.set (d * 8 + s) y.b) := hno2.2.1
            have hZ3 : Fz a3 n (k + 1) := hZ2.same hkn2 hno2.2.2.1 hno2.2.2.2.1
            have hl3 : a3.loose.length ≤ m + 1 := by rw [hno2.2.2.2.2]; exact hl2
            clear hno2 ha3
            have HL2 := hid hL2
            have HZ2 := hid hZ2
            clear ha2 hL2 hZ2 hlv hq
            have HL3 := hid hL3
            have HZ3 := hid hZ3
            clear hL3 hZ3
            have hFL : y.fl = true := hfl
            rw [hFL] at HR3
            clear hL hz hd hs
            go_wp2_with (first | go_big_skip | go_big_guard | fail)
            have hX := hs0.drew
            clear hs0
            refine wp_region_held_drew (S := (fun w' => (loadVarH 3 ⟨b, off + m * 4, none⟩).run Try.prog w' = .ok (.int .i64 y.dev) w' ∧ (loadVarH 3 ⟨b, off + m * 4 + 1, none⟩).run Try.prog w' = .ok (.int .i64 y.pl) w')) (by kernel_rfl) (by exact ⟨ldO hX (HR0.out), ldO hX (HR1.out)⟩) (fun hHeld => ?_)
            refine wpAnyH_take (i := 0) (oi := ⟨some 50, _, _, _, _, _⟩) (v := ?_) rfl (by kernel_rfl) (by kernel_rfl) (by kernel_rfl) (fun _ _ _ h => h) (Or.inl ⟨by rfl, ?_⟩) (by assumption) ?_
            rotate_left
            · intro w hSw; (try dsimp only at hSw); go_simp; try with_reducible rfl
            (try simp only [Act.put, List.setIfInBounds_toArray, List.set_cons_zero, List.set_cons_succ])
            refine wpAnyH_take (i := 1) (oi := ⟨some 51, _, _, _, _, _⟩) (v := ?_) rfl (by kernel_rfl) (by kernel_rfl) (by kernel_rfl) (fun _ _ _ h => h) (Or.inl ⟨by rfl, ?_⟩) (by assumption) ?_
            rotate_left
            · intro w hSw; (try dsimp only at hSw); go_simp; try with_reducible rfl
            (try simp only [Act.put, List.setIfInBounds_toArray, List.set_cons_zero, List.set_cons_succ])
            refine wpAnyH_take (i := 6) (oi := ⟨some 56, _, _, _, _, _⟩) (v := ?_) rfl (by kernel_rfl) (by kernel_rfl) (by kernel_rfl) (fun _ _ _ h => h) (Or.inl ⟨by rfl, ?_⟩) (by assumption) ?_
            rotate_left
            · intro w hSw; (try dsimp only at hSw); go_simp; try with_reducible rfl
            (try simp only [Act.put, List.setIfInBounds_toArray, List.set_cons_zero, List.set_cons_succ])
            refine wpAnyH_take (i := 7) (oi := ⟨some 57, _, _, _, _, _⟩) (v := ?_) rfl (by kernel_rfl) (by kernel_rfl) (by kernel_rfl) (fun _ _ _ h => h) (Or.inl ⟨by rfl, ?_⟩) (by assumption) ?_
            rotate_left
            · intro w hSw; (try dsimp only at hSw); go_simp; try with_reducible rfl
            (try simp only [Act.put, List.setIfInBounds_toArray, List.set_cons_zero, List.set_cons_succ])
            refine wpAnyH_take (i := 2) (oi := ⟨some 52, _, _, _, _, _⟩) (v := ?_) rfl (by kernel_rfl) (by kernel_rfl) (by kernel_rfl) (fun _ _ _ h => h) (Or.inl ⟨by rfl, ?_⟩) (by assumption) ?_
            rotate_left
            · intro w hSw; (try dsimp only at hSw); go_simp; try with_reducible rfl
            (try simp only [Act.put, List.setIfInBounds_toArray, List.set_cons_zero, List.set_cons_succ])
            refine wpAnyH_take (i := 8) (oi := ⟨some 58, _, _, _, _, _⟩) (v := ?_) rfl (by kernel_rfl) (by kernel_rfl) (by kernel_rfl) (fun _ _ _ h => h) (Or.inl ⟨by rfl, ?_⟩) (by assumption) ?_
            rotate_left
            · intro w hSw; (try dsimp only at hSw); go_simp; try with_reducible rfl
            (try simp only [Act.put, List.setIfInBounds_toArray, List.set_cons_zero, List.set_cons_succ])
            refine wpAnyH_take (i := 3) (oi := ⟨some 53, _, _, _, _, _⟩) (v := ?_) rfl (by kernel_rfl) (by kernel_rfl) (by kernel_rfl) (fun _ _ _ h => h) (Or.inl ⟨by rfl, ?_⟩) (by assumption) ?_
            rotate_left
            · intro w hSw; (try dsimp only at hSw); go_simp; try with_reducible rfl
            (try simp only [Act.put, List.setIfInBounds_toArray, List.set_cons_zero, List.set_cons_succ])
            refine wpAnyH_take (i := 9) (oi := ⟨some 59, _, _, _, _, _⟩) (v := ?_) rfl (by kernel_rfl) (by kernel_rfl) (by kernel_rfl) (fun _ _ _ h => h) (Or.inl ⟨by rfl, ?_⟩) (by assumption) ?_
            rotate_left
            · intro w hSw; (try dsimp only at hSw); go_simp; try with_reducible rfl
            (try simp only [Act.put, List.setIfInBounds_toArray, List.set_cons_zero, List.set_cons_succ])
            refine wpAnyH_take (i := 4) (oi := ⟨some 54, _, _, _, _, _⟩) (v := ?_) rfl (by kernel_rfl) (by kernel_rfl) (by kernel_rfl) (fun _ _ _ h => h) (Or.inl ⟨by rfl, ?_⟩) (by assumption) ?_
            rotate_left
            · intro w hSw; (try dsimp only at hSw); go_simp; try with_reducible rfl
            (try simp only [Act.put, List.setIfInBounds_toArray, List.set_cons_zero, List.set_cons_succ])
            refine wpAnyH_take (i := 10) (oi := ⟨some 60, _, _, _, _, _⟩) (v := ?_) rfl (by kernel_rfl) (by kernel_rfl) (by kernel_rfl) (fun _ _ _ h => h) (Or.inl ⟨by rfl, ?_⟩) (by assumption) ?_
            rotate_left
            · intro w hSw; (try dsimp only at hSw); go_simp; try with_reducible rfl
            (try simp only [Act.put, List.setIfInBounds_toArray, List.set_cons_zero, List.set_cons_succ])
            refine wpAnyH_ready (rs := [5]) (by kernel_rfl) (by simp) ?_
            refine (AllReadyH.cons (o := ⟨some 55, _, _, _, _, _⟩) rfl (fun K hK => ?_) AllReadyH.nil)
            rw [if_pos (by rfl)]
            go_simp
            go_at_call 11
            refine (pick_spec y.dev 2 _ HY.out.d (by decide)).mono ?_
            rw [ED.out]
            rintro _ w3 ⟨rfl, h4⟩
            have hA1 := St.call0 hX h4
            clear h4
            refine hK.out _ _ ?_ (fun hHeld => ?_)
            · exact ⟨ldO hA1 (HR0.out), ldO hA1 (HR1.out)⟩
            clear hK K
            (try simp only [Act.put, List.setIfInBounds_toArray, List.set_cons_zero, List.set_cons_succ])
            refine wpAnyH_ready (rs := [11]) (by kernel_rfl) (by simp) ?_
            refine (AllReadyH.cons (o := ⟨some 61, _, _, _, _, _⟩) rfl (fun K hK => ?_) AllReadyH.nil)
            rw [if_pos (by rfl)]
            go_simp
            go_at_call 11
            refine (pick_spec y.pl 8 _ HY.out.p (by decide)).mono ?_
            rw [ES.out]
            rintro _ w4 ⟨rfl, h4⟩
            have hA2 := St.call0 hA1 h4
            clear h4
            refine hK.out _ _ ?_ (fun hHeld => ?_)
            · exact ⟨ldO hA2 (HR0.out), ldO hA2 (HR1.out)⟩
            clear hK K
            (try simp only [Act.put, List.setIfInBounds_toArray, List.set_cons_zero, List.set_cons_succ])
            refine wpAnyH_take (i := 12) (oi := ⟨some 11, _, _, _, _, _⟩) (v := ?_) rfl (by kernel_rfl) (by kernel_rfl) (by kernel_rfl) (fun _ _ _ h => h) (Or.inl ⟨by rfl, ?_⟩) (by assumption) ?_
            rotate_left
            · intro w hSw; (try dsimp only at hSw); go_simp; try with_reducible rfl
            (try simp only [Act.put, List.setIfInBounds_toArray, List.set_cons_zero, List.set_cons_succ])
            refine wpAnyH_take (i := 13) (oi := ⟨some 12, _, _, _, _, _⟩) (v := ?_) rfl (by kernel_rfl) (by kernel_rfl) (by kernel_rfl) (fun _ _ _ h => h) (Or.inl ⟨by rfl, ?_⟩) (by assumption) ?_
            rotate_left
            · intro w hSw; (try dsimp only at hSw); go_simp; try with_reducible rfl
            (try simp only [Act.put, List.setIfInBounds_toArray, List.set_cons_zero, List.set_cons_succ])
            refine wpAnyH_done (by kernel_rfl) ?_ _
            clear hHeld
            have hs1 := hA2
            clear hA2
            go_wp2_with (first | go_big_skip | go_big_guard | (refine wl_loadE rfl rfl rfl ?_; refine ⟨_, Loads.old hs1 HR2.out, ?_⟩) | (go_at_call 14; refine (of_any y.b _).mono ?_; rintro _ w5 ⟨g5, rfl, h4⟩; have hs3 := St.call hs1 h4; clear h4 hs1) | (go_at_call 13; refine (writeM_any (arr_in (X := [_, _, _]) hs3) HL.out.ok (by rw [HZ.out.st]; omega) (by omega) (d : Int) (s : Int) (some ⟨g5, 0, none⟩) 256 256 (BB y.b) (Rd.blk hs3 (.head _) (Nat.le_refl _) (by decide) (by rw [length_bytesV]; exact BB_len _) (by rw [List.drop_zero]; exact List.take_length)) (BB_len _) (off_blk (X := [_, _, _]) hs3 (.head _) 0 256 256)).mono ?_; rw [HE1.out, ← HA2.out]; rintro _ w6 ⟨rfl, x2, h4⟩; have hs4 : St w [] w6 (.blk gl 30 (bytesV L) :: .blk gf 30 (bytesV F) :: arP ga x2 a2) := St.sub (arr_out (X := [_, _, _]) hs3 h4) (List.sublist_cons_self _ _); clear h4 hs3))
            have hX := hs4.drew
            clear hs4
            refine wp_region_held_drew (S := (fun w' => (loadVarH 5 ⟨b, off + m * 4 + 2, none⟩).run Try.prog w' = .ok (.int .u8 (y.b.toNat : Int)) w')) (by kernel_rfl) (by exact ldO hX (HR2.out)) (fun hHeld => ?_)
            refine wpAnyH_take (i := 0) (oi := ⟨some 90, _, _, _, _, _⟩) (v := ?_) rfl (by kernel_rfl) (by kernel_rfl) (by kernel_rfl) (fun _ _ _ h => h) (Or.inl ⟨by rfl, ?_⟩) (by assumption) ?_
            rotate_left
            · intro w hSw; (try dsimp only at hSw); go_simp; try with_reducible rfl
            (try simp only [Act.put, List.setIfInBounds_toArray, List.set_cons_zero, List.set_cons_succ])
            refine wpAnyH_take (i := 1) (oi := ⟨some 91, _, _, _, _, _⟩) (v := ?_) rfl (by kernel_rfl) (by kernel_rfl) (by kernel_rfl) (fun _ _ _ h => h) (Or.inl ⟨by rfl, ?_⟩) (by assumption) ?_
            rotate_left
            · intro w hSw; (try dsimp only at hSw); go_simp; try with_reducible rfl
            (try simp only [Act.put, List.setIfInBounds_toArray, List.set_cons_zero, List.set_cons_succ])
            refine wpAnyH_take (i := 2) (oi := ⟨some 92, _, _, _, _, _⟩) (v := ?_) rfl (by kernel_rfl) (by kernel_rfl) (by kernel_rfl) (fun _ _ _ h => h) (Or.inl ⟨by rfl, ?_⟩) (by assumption) ?_
            rotate_left
            · intro w hSw; (try dsimp only at hSw); go_simp; try with_reducible rfl
            (try simp only [Act.put, List.setIfInBounds_toArray, List.set_cons_zero, List.set_cons_succ])
            refine wpAnyH_take (i := 3) (oi := ⟨some 93, _, _, _, _, _⟩) (v := ?_) rfl (by kernel_rfl) (by kernel_rfl) (by kernel_rfl) (fun _ _ _ h => h) (Or.inl ⟨by rfl, ?_⟩) (by assumption) ?_
            rotate_left
            · intro w hSw; (try dsimp only at hSw); go_simp; try with_reducible rfl
            (try simp only [Act.put, List.setIfInBounds_toArray, List.set_cons_zero, List.set_cons_succ])
            refine wpAnyH_take (i := 4) (oi := ⟨some 94, _, _, _, _, _⟩) (v := ?_) rfl (by kernel_rfl) (by kernel_rfl) (by kernel_rfl) (fun _ _ _ h => h) (Or.inl ⟨by rfl, ?_⟩) (by assumption) ?_
            rotate_left
            · intro w hSw; (try dsimp only at hSw); go_simp; try with_reducible rfl
            (try simp only [Act.put, List.setIfInBounds_toArray, List.set_cons_zero, List.set_cons_succ])
            refine wpAnyH_take (i := 7) (oi := ⟨some 97, _, _, _, _, _⟩) (v := ?_) rfl (by kernel_rfl) (by kernel_rfl) (by kernel_rfl) (fun _ _ _ h => h) (Or.inl ⟨by rfl, ?_⟩) (by assumption) ?_
            rotate_left
            · intro w hSw; (try dsimp only at hSw); go_simp; try with_reducible rfl
            (try simp only [Act.put, List.setIfInBounds_toArray, List.set_cons_zero, List.set_cons_succ])
            refine wpAnyH_take (i := 5) (oi := ⟨some 95, _, _, _, _, _⟩) (v := ?_) rfl (by kernel_rfl) (by kernel_rfl) (by kernel_rfl) (fun _ _ _ h => h) (Or.inl ⟨by rfl, ?_⟩) (by assumption) ?_
            rotate_left
            · intro w hSw; (try dsimp only at hSw); go_simp; try with_reducible rfl
            (try simp only [Act.put, List.setIfInBounds_toArray, List.set_cons_zero, List.set_cons_succ])
            refine wpAnyH_take (i := 6) (oi := ⟨some 96, _, _, _, _, _⟩) (v := ?_) rfl (by kernel_rfl) (by kernel_rfl) (by kernel_rfl) (fun _ _ _ h => h) (Or.inl ⟨by rfl, ?_⟩) (by assumption) ?_
            rotate_left
            · intro w hSw; (try dsimp only at hSw); go_simp; try with_reducible rfl
            (try simp only [Act.put, List.setIfInBounds_toArray, List.set_cons_zero, List.set_cons_succ])
            refine wpAnyH_take (i := 8) (oi := ⟨some 98, _, _, _, _, _⟩) (v := ?_) rfl (by kernel_rfl) (by kernel_rfl) (by kernel_rfl) (fun _ _ _ h => h) (Or.inl ⟨by rfl, ?_⟩) (by assumption) ?_
            rotate_left
            · intro w hSw; (try dsimp only at hSw); go_simp; try with_reducible rfl
            (try simp only [Act.put, List.setIfInBounds_toArray, List.set_cons_zero, List.set_cons_succ])
            refine wpAnyH_ready (rs := [9]) (by kernel_rfl) (by simp) ?_
            refine (AllReadyH.cons (o := ⟨none, _, _, _, _, _⟩) rfl (fun K hK => ?_) AllReadyH.nil)
            rw [if_pos (by rfl)]
            refine ow_of_wl (ops := #[]) (by rfl) ?_
            refine wl_store [] hX rfl rfl rfl (v := .int _ _) rfl rfl rfl HFIT.out ?_
            show ∀ w', St w [] w' ([] ++ .blk gl 30 (putAt (bytesV L) (d * 8 + s) [.int .u8 (y.b.toNat : Int)]) :: _) → _
            rw [HPUT.out]
            intro w9 hA3
            refine q0_nil ?_
            refine hK.out _ _ ?_ (fun hHeld => ?_)
            · exact ldO hA3 (HR2.out)
            clear hK K
            (try simp only [Act.put, List.setIfInBounds_toArray, List.set_cons_zero, List.set_cons_succ])
            refine wpAnyH_done (by kernel_rfl) ?_ _
            clear hHeld
            have hs5 : St w [] w9 (.blk gl 30 (bytesV (L.set (d * 8 + s) y.b)) :: .blk gf 30 (bytesV F) :: arP ga x2 a2) := hA3
            clear hA3
            go_wp2_with (first | go_big_skip | go_big_guard | (refine wl_loadE rfl rfl rfl ?_; refine ⟨_, Loads.old hs5 HR3.out, ?_⟩) | (go_at_call 15; refine (flushM_any (arr_in (X := [_, _]) hs5) HL2.out.ok (by rw [HZ2.out.st]; omega) (by omega) (d : Int)).mono ?_; rw [HE2.out, ← HA3.out]; rintro _ w8 ⟨rfl, x3, h4⟩; have hs6 : St w [] w8 (.blk gl 30 (bytesV (L.set (d * 8 + s) y.b)) :: .blk gf 30 (bytesV F) :: arP ga x3 a3) := arr_out (X := [_, _]) hs5 h4; clear h4 hs5))
            go_roundw
            case rel => exact ⟨m + 1, (k + 1), a3, x3, F, (L.set (d * 8 + s) y.b), by omega, rfl, rfl, HL3.out, HZ3.out, hl3, hs6⟩
            case measure => simp [intOf]; omega
        · replace hfl : y.fl = false := by simpa using hfl
          have d3 : decide ((k : Int) < (n : Int)) = true := decide_eq_true (by omega)
          have hlv := hz.live hkn
          have HE1 := hid (hL.write_eq hd hs hlv.1 hlv.2 y.b).1
          obtain ⟨a2, ha2⟩ : ∃ a2, a2 = a.write (d : Int) (s : Int) (BB y.b) := ⟨_, rfl⟩
          have HA2 := hid ha2
          have hq := (hL.write_eq hd hs hlv.1 hlv.2 y.b).2
          rw [← ha2] at hq
          have hL2 : Laid a2 F (L.set (d * 8 + s) y.b) := by rw [ha2]; exact hL.write hd hs hlv.1 hlv.2 y.b
          have hZ2 : Fz a2 n (k + 1) := hz.next hkn (by rw [hq]) (by rw [hq]) (by rw [hq])
          have hl2 : a2.loose.length ≤ m + 1 := by rw [hq]; show (a.loose ++ [_]).length ≤ _; rw [List.length_append]; show a.loose.length + 1 ≤ _; omega
          have HPUT := hid (bytesV_set y.b (i := d * 8 + s) (L := L) (by rw [hL.ll]; omega))
          have HFIT : Hid (d * 8 + s + 1 ≤ (bytesV L).length) := hid (by rw [length_bytesV, hL.ll]; omega)
          have HL2 := hid hL2
          have HZ2 := hid hZ2
          clear ha2 hL2 hZ2 hlv hq
          have hFL : y.fl = false := hfl
          rw [hFL] at HR3
          clear hL hz hd hs
          go_wp2_with (first | go_big_skip | go_big_guard | fail)
          have hX := hs0.drew
          clear hs0
          refine wp_region_held_drew (S := (fun w' => (loadVarH 3 ⟨b, off + m * 4, none⟩).run Try.prog w' = .ok (.int .i64 y.dev) w' ∧ (loadVarH 3 ⟨b, off + m * 4 + 1, none⟩).run Try.prog w' = .ok (.int .i64 y.pl) w')) (by kernel_rfl) (by exact ⟨ldO hX (HR0.out), ldO hX (HR1.out)⟩) (fun hHeld => ?_)
          refine wpAnyH_take (i := 0) (oi := ⟨some 50, _, _, _, _, _⟩) (v := ?_) rfl (by kernel_rfl) (by kernel_rfl) (by kernel_rfl) (fun _ _ _ h => h) (Or.inl ⟨by rfl, ?_⟩) (by assumption) ?_
          rotate_left
          · intro w hSw; (try dsimp only at hSw); go_simp; try with_reducible rfl
          (try simp only [Act.put, List.setIfInBounds_toArray, List.set_cons_zero, List.set_cons_succ])
          refine wpAnyH_take (i := 1) (oi := ⟨some 51, _, _, _, _, _⟩) (v := ?_) rfl (by kernel_rfl) (by kernel_rfl) (by kernel_rfl) (fun _ _ _ h => h) (Or.inl ⟨by rfl, ?_⟩) (by assumption) ?_
          rotate_left
          · intro w hSw; (try dsimp only at hSw); go_simp; try with_reducible rfl
          (try simp only [Act.put, List.setIfInBounds_toArray, List.set_cons_zero, List.set_cons_succ])
          refine wpAnyH_take (i := 6) (oi := ⟨some 56, _, _, _, _, _⟩) (v := ?_) rfl (by kernel_rfl) (by kernel_rfl) (by kernel_rfl) (fun _ _ _ h => h) (Or.inl ⟨by rfl, ?_⟩) (by assumption) ?_
          rotate_left
          · intro w hSw; (try dsimp only at hSw); go_simp; try with_reducible rfl
          (try simp only [Act.put, List.setIfInBounds_toArray, List.set_cons_zero, List.set_cons_succ])
          refine wpAnyH_take (i := 7) (oi := ⟨some 57, _, _, _, _, _⟩) (v := ?_) rfl (by kernel_rfl) (by kernel_rfl) (by kernel_rfl) (fun _ _ _ h => h) (Or.inl ⟨by rfl, ?_⟩) (by assumption) ?_
          rotate_left
          · intro w hSw; (try dsimp only at hSw); go_simp; try with_reducible rfl
          (try simp only [Act.put, List.setIfInBounds_toArray, List.set_cons_zero, List.set_cons_succ])
          refine wpAnyH_take (i := 2) (oi := ⟨some 52, _, _, _, _, _⟩) (v := ?_) rfl (by kernel_rfl) (by kernel_rfl) (by kernel_rfl) (fun _ _ _ h => h) (Or.inl ⟨by rfl, ?_⟩) (by assumption) ?_
          rotate_left
          · intro w hSw; (try dsimp only at hSw); go_simp; try with_reducible rfl
          (try simp only [Act.put, List.setIfInBounds_toArray, List.set_cons_zero, List.set_cons_succ])
          refine wpAnyH_take (i := 8) (oi := ⟨some 58, _, _, _, _, _⟩) (v := ?_) rfl (by kernel_rfl) (by kernel_rfl) (by kernel_rfl) (fun _ _ _ h => h) (Or.inl ⟨by rfl, ?_⟩) (by assumption) ?_
          rotate_left
          · intro w hSw; (try dsimp only at hSw); go_simp; try with_reducible rfl
          (try simp only [Act.put, List.setIfInBounds_toArray, List.set_cons_zero, List.set_cons_succ])
          refine wpAnyH_take (i := 3) (oi := ⟨some 53, _, _, _, _, _⟩) (v := ?_) rfl (by kernel_rfl) (by kernel_rfl) (by kernel_rfl) (fun _ _ _ h => h) (Or.inl ⟨by rfl, ?_⟩) (by assumption) ?_
          rotate_left
          · intro w hSw; (try dsimp only at hSw); go_simp; try with_reducible rfl
          (try simp only [Act.put, List.setIfInBounds_toArray, List.set_cons_zero, List.set_cons_succ])
          refine wpAnyH_take (i := 9) (oi := ⟨some 59, _, _, _, _, _⟩) (v := ?_) rfl (by kernel_rfl) (by kernel_rfl) (by kernel_rfl) (fun _ _ _ h => h) (Or.inl ⟨by rfl, ?_⟩) (by assumption) ?_
          rotate_left
          · intro w hSw; (try dsimp only at hSw); go_simp; try with_reducible rfl
          (try simp only [Act.put, List.setIfInBounds_toArray, List.set_cons_zero, List.set_cons_succ])
          refine wpAnyH_take (i := 4) (oi := ⟨some 54, _, _, _, _, _⟩) (v := ?_) rfl (by kernel_rfl) (by kernel_rfl) (by kernel_rfl) (fun _ _ _ h => h) (Or.inl ⟨by rfl, ?_⟩) (by assumption) ?_
          rotate_left
          · intro w hSw; (try dsimp only at hSw); go_simp; try with_reducible rfl
          (try simp only [Act.put, List.setIfInBounds_toArray, List.set_cons_zero, List.set_cons_succ])
          refine wpAnyH_take (i := 10) (oi := ⟨some 60, _, _, _, _, _⟩) (v := ?_) rfl (by kernel_rfl) (by kernel_rfl) (by kernel_rfl) (fun _ _ _ h => h) (Or.inl ⟨by rfl, ?_⟩) (by assumption) ?_
          rotate_left
          · intro w hSw; (try dsimp only at hSw); go_simp; try with_reducible rfl
          (try simp only [Act.put, List.setIfInBounds_toArray, List.set_cons_zero, List.set_cons_succ])
          refine wpAnyH_ready (rs := [5]) (by kernel_rfl) (by simp) ?_
          refine (AllReadyH.cons (o := ⟨some 55, _, _, _, _, _⟩) rfl (fun K hK => ?_) AllReadyH.nil)
          rw [if_pos (by rfl)]
          go_simp
          go_at_call 11
          refine (pick_spec y.dev 2 _ HY.out.d (by decide)).mono ?_
          rw [ED.out]
          rintro _ w3 ⟨rfl, h4⟩
          have hA1 := St.call0 hX h4
          clear h4
          refine hK.out _ _ ?_ (fun hHeld => ?_)
          · exact ⟨ldO hA1 (HR0.out), ldO hA1 (HR1.out)⟩
          clear hK K
          (try simp only [Act.put, List.setIfInBounds_toArray, List.set_cons_zero, List.set_cons_succ])
          refine wpAnyH_ready (rs := [11]) (by kernel_rfl) (by simp) ?_
          refine (AllReadyH.cons (o := ⟨some 61, _, _, _, _, _⟩) rfl (fun K hK => ?_) AllReadyH.nil)
          rw [if_pos (by rfl)]
          go_simp
          go_at_call 11
          refine (pick_spec y.pl 8 _ HY.out.p (by decide)).mono ?_
          rw [ES.out]
          rintro _ w4 ⟨rfl, h4⟩
          have hA2 := St.call0 hA1 h4
          clear h4
          refine hK.out _ _ ?_ (fun hHeld => ?_)
          · exact ⟨ldO hA2 (HR0.out), ldO hA2 (HR1.out)⟩
          clear hK K
          (try simp only [Act.put, List.setIfInBounds_toArray, List.set_cons_zero, List.set_cons_succ])
          refine wpAnyH_take (i := 12) (oi := ⟨some 11, _, _, _, _, _⟩) (v := ?_) rfl (by kernel_rfl) (by kernel_rfl) (by kernel_rfl) (fun _ _ _ h => h) (Or.inl ⟨by rfl, ?_⟩) (by assumption) ?_
          rotate_left
          · intro w hSw; (try dsimp only at hSw); go_simp; try with_reducible rfl
          (try simp only [Act.put, List.setIfInBounds_toArray, List.set_cons_zero, List.set_cons_succ])
          refine wpAnyH_take (i := 13) (oi := ⟨some 12, _, _, _, _, _⟩) (v := ?_) rfl (by kernel_rfl) (by kernel_rfl) (by kernel_rfl) (fun _ _ _ h => h) (Or.inl ⟨by rfl, ?_⟩) (by assumption) ?_
          rotate_left
          · intro w hSw; (try dsimp only at hSw); go_simp; try with_reducible rfl
          (try simp only [Act.put, List.setIfInBounds_toArray, List.set_cons_zero, List.set_cons_succ])
          refine wpAnyH_done (by kernel_rfl) ?_ _
          clear hHeld
          have hs1 := hA2
          clear hA2
          go_wp2_with (first | go_big_skip | go_big_guard | (refine wl_loadE rfl rfl rfl ?_; refine ⟨_, Loads.old hs1 HR2.out, ?_⟩) | (go_at_call 14; refine (of_any y.b _).mono ?_; rintro _ w5 ⟨g5, rfl, h4⟩; have hs3 := St.call hs1 h4; clear h4 hs1) | (go_at_call 13; refine (writeM_any (arr_in (X := [_, _, _]) hs3) HL.out.ok (by rw [HZ.out.st]; omega) (by omega) (d : Int) (s : Int) (some ⟨g5, 0, none⟩) 256 256 (BB y.b) (Rd.blk hs3 (.head _) (Nat.le_refl _) (by decide) (by rw [length_bytesV]; exact BB_len _) (by rw [List.drop_zero]; exact List.take_length)) (BB_len _) (off_blk (X := [_, _, _]) hs3 (.head _) 0 256 256)).mono ?_; rw [HE1.out, ← HA2.out]; rintro _ w6 ⟨rfl, x2, h4⟩; have hs4 : St w [] w6 (.blk gl 30 (bytesV L) :: .blk gf 30 (bytesV F) :: arP ga x2 a2) := St.sub (arr_out (X := [_, _, _]) hs3 h4) (List.sublist_cons_self _ _); clear h4 hs3))
          have hX := hs4.drew
          clear hs4
          refine wp_region_held_drew (S := (fun w' => (loadVarH 5 ⟨b, off + m * 4 + 2, none⟩).run Try.prog w' = .ok (.int .u8 (y.b.toNat : Int)) w')) (by kernel_rfl) (by exact ldO hX (HR2.out)) (fun hHeld => ?_)
          refine wpAnyH_take (i := 0) (oi := ⟨some 90, _, _, _, _, _⟩) (v := ?_) rfl (by kernel_rfl) (by kernel_rfl) (by kernel_rfl) (fun _ _ _ h => h) (Or.inl ⟨by rfl, ?_⟩) (by assumption) ?_
          rotate_left
          · intro w hSw; (try dsimp only at hSw); go_simp; try with_reducible rfl
          (try simp only [Act.put, List.setIfInBounds_toArray, List.set_cons_zero, List.set_cons_succ])
          refine wpAnyH_take (i := 1) (oi := ⟨some 91, _, _, _, _, _⟩) (v := ?_) rfl (by kernel_rfl) (by kernel_rfl) (by kernel_rfl) (fun _ _ _ h => h) (Or.inl ⟨by rfl, ?_⟩) (by assumption) ?_
          rotate_left
          · intro w hSw; (try dsimp only at hSw); go_simp; try with_reducible rfl
          (try simp only [Act.put, List.setIfInBounds_toArray, List.set_cons_zero, List.set_cons_succ])
          refine wpAnyH_take (i := 2) (oi := ⟨some 92, _, _, _, _, _⟩) (v := ?_) rfl (by kernel_rfl) (by kernel_rfl) (by kernel_rfl) (fun _ _ _ h => h) (Or.inl ⟨by rfl, ?_⟩) (by assumption) ?_
          rotate_left
          · intro w hSw; (try dsimp only at hSw); go_simp; try with_reducible rfl
          (try simp only [Act.put, List.setIfInBounds_toArray, List.set_cons_zero, List.set_cons_succ])
          refine wpAnyH_take (i := 3) (oi := ⟨some 93, _, _, _, _, _⟩) (v := ?_) rfl (by kernel_rfl) (by kernel_rfl) (by kernel_rfl) (fun _ _ _ h => h) (Or.inl ⟨by rfl, ?_⟩) (by assumption) ?_
          rotate_left
          · intro w hSw; (try dsimp only at hSw); go_simp; try with_reducible rfl
          (try simp only [Act.put, List.setIfInBounds_toArray, List.set_cons_zero, List.set_cons_succ])
          refine wpAnyH_take (i := 4) (oi := ⟨some 94, _, _, _, _, _⟩) (v := ?_) rfl (by kernel_rfl) (by kernel_rfl) (by kernel_rfl) (fun _ _ _ h => h) (Or.inl ⟨by rfl, ?_⟩) (by assumption) ?_
          rotate_left
          · intro w hSw; (try dsimp only at hSw); go_simp; try with_reducible rfl
          (try simp only [Act.put, List.setIfInBounds_toArray, List.set_cons_zero, List.set_cons_succ])
          refine wpAnyH_take (i := 7) (oi := ⟨some 97, _, _, _, _, _⟩) (v := ?_) rfl (by kernel_rfl) (by kernel_rfl) (by kernel_rfl) (fun _ _ _ h => h) (Or.inl ⟨by rfl, ?_⟩) (by assumption) ?_
          rotate_left
          · intro w hSw; (try dsimp only at hSw); go_simp; try with_reducible rfl
          (try simp only [Act.put, List.setIfInBounds_toArray, List.set_cons_zero, List.set_cons_succ])
          refine wpAnyH_take (i := 5) (oi := ⟨some 95, _, _, _, _, _⟩) (v := ?_) rfl (by kernel_rfl) (by kernel_rfl) (by kernel_rfl) (fun _ _ _ h => h) (Or.inl ⟨by rfl, ?_⟩) (by assumption) ?_
          rotate_left
          · intro w hSw; (try dsimp only at hSw); go_simp; try with_reducible rfl
          (try simp only [Act.put, List.setIfInBounds_toArray, List.set_cons_zero, List.set_cons_succ])
          refine wpAnyH_take (i := 6) (oi := ⟨some 96, _, _, _, _, _⟩) (v := ?_) rfl (by kernel_rfl) (by kernel_rfl) (by kernel_rfl) (fun _ _ _ h => h) (Or.inl ⟨by rfl, ?_⟩) (by assumption) ?_
          rotate_left
          · intro w hSw; (try dsimp only at hSw); go_simp; try with_reducible rfl
          (try simp only [Act.put, List.setIfInBounds_toArray, List.set_cons_zero, List.set_cons_succ])
          refine wpAnyH_take (i := 8) (oi := ⟨some 98, _, _, _, _, _⟩) (v := ?_) rfl (by kernel_rfl) (by kernel_rfl) (by kernel_rfl) (fun _ _ _ h => h) (Or.inl ⟨by rfl, ?_⟩) (by assumption) ?_
          rotate_left
          · intro w hSw; (try dsimp only at hSw); go_simp; try with_reducible rfl
          (try simp only [Act.put, List.setIfInBounds_toArray, List.set_cons_zero, List.set_cons_succ])
          refine wpAnyH_ready (rs := [9]) (by kernel_rfl) (by simp) ?_
          refine (AllReadyH.cons (o := ⟨none, _, _, _, _, _⟩) rfl (fun K hK => ?_) AllReadyH.nil)
          rw [if_pos (by rfl)]
          refine ow_of_wl (ops := #[]) (by rfl) ?_
          refine wl_store [] hX rfl rfl rfl (v := .int _ _) rfl rfl rfl HFIT.out ?_
          show ∀ w', St w [] w' ([] ++ .blk gl 30 (putAt (bytesV L) (d * 8 + s) [.int .u8 (y.b.toNat : Int)]) :: _) → _
          rw [HPUT.out]
          intro w9 hA3
          refine q0_nil ?_
          refine hK.out _ _ ?_ (fun hHeld => ?_)
          · exact ldO hA3 (HR2.out)
          clear hK K
          (try simp only [Act.put, List.setIfInBounds_toArray, List.set_cons_zero, List.set_cons_succ])
          refine wpAnyH_done (by kernel_rfl) ?_ _
          clear hHeld
          have hs5 : St w [] w9 (.blk gl 30 (bytesV (L.set (d * 8 + s) y.b)) :: .blk gf 30 (bytesV F) :: arP ga x2 a2) := hA3
          clear hA3
          go_wp2_with (first | go_big_skip | go_big_guard | (refine wl_loadE rfl rfl rfl ?_; refine ⟨_, Loads.old hs5 HR3.out, ?_⟩))
          go_roundw
          case rel => exact ⟨m + 1, (k + 1), a2, x2, F, (L.set (d * 8 + s) y.b), by omega, rfl, rfl, HL2.out, HZ2.out, hl2, hs5⟩
          case measure => simp [intOf]; omega
      · by_cases hfl : y.fl = true
        · have d3 : decide ((k : Int) < (n : Int)) = false := decide_eq_false (by omega)
          have hno := hL.write_no hd hs (hz.dead hkn) y.b
          have HE1 := hid hno.1
          obtain ⟨a2, ha2⟩ : ∃ a2, a2 = a.write (d : Int) (s : Int) (BB y.b) := ⟨_, rfl⟩
          have HA2 := hid ha2
          rw [← ha2] at hno
          have hL2 : Laid a2 F L := hno.2.1
          have hZ2 : Fz a2 n k := hz.same hkn hno.2.2.1 hno.2.2.2.1
          have hl2 : a2.loose.length ≤ m + 1 := by rw [hno.2.2.2.2]; omega
          have hno2 := hL2.flush_no hd (hZ2.dead hkn)
          have HE2 := hid hno2.1
          obtain ⟨a3, ha3⟩ : ∃ a3, a3 = a2.flush (d : Int) := ⟨_, rfl⟩
          have HA3 := hid ha3
          rw [← ha3] at hno2
          have hL3 : Laid a3 F L := hno2.2.1
          have hZ3 : Fz a3 n k := hZ2.same hkn hno2.2.2.1 hno2.2.2.2.1
          have hl3 : a3.loose.length ≤ m + 1 := by rw [hno2.2.2.2.2]; exact hl2
          clear hno2 ha3
          have HL2 := hid hL2
          have HZ2 := hid hZ2
          clear ha2 hL2 hZ2 hno
          have HL3 := hid hL3
          have HZ3 := hid hZ3
          clear hL3 hZ3
          have hFL : y.fl = true := hfl
          rw [hFL] at HR3
          clear hL hz hd hs
          go_wp2_with (first | go_big_skip | go_big_guard | fail)
          have hX := hs0.drew
          clear hs0
          refine wp_region_held_drew (S := (fun w' => (loadVarH 3 ⟨b, off + m * 4, none⟩).run Try.prog w' = .ok (.int .i64 y.dev) w' ∧ (loadVarH 3 ⟨b, off + m * 4 + 1, none⟩).run Try.prog w' = .ok (.int .i64 y.pl) w')) (by kernel_rfl) (by exact ⟨ldO hX (HR0.out), ldO hX (HR1.out)⟩) (fun hHeld => ?_)
          refine wpAnyH_take (i := 0) (oi := ⟨some 50, _, _, _, _, _⟩) (v := ?_) rfl (by kernel_rfl) (by kernel_rfl) (by kernel_rfl) (fun _ _ _ h => h) (Or.inl ⟨by rfl, ?_⟩) (by assumption) ?_
          rotate_left
          · intro w hSw; (try dsimp only at hSw); go_simp; try with_reducible rfl
          (try simp only [Act.put, List.setIfInBounds_toArray, List.set_cons_zero, List.set_cons_succ])
          refine wpAnyH_take (i := 1) (oi := ⟨some 51, _, _, _, _, _⟩) (v := ?_) rfl (by kernel_rfl) (by kernel_rfl) (by kernel_rfl) (fun _ _ _ h => h) (Or.inl ⟨by rfl, ?_⟩) (by assumption) ?_
          rotate_left
          · intro w hSw; (try dsimp only at hSw); go_simp; try with_reducible rfl
          (try simp only [Act.put, List.setIfInBounds_toArray, List.set_cons_zero, List.set_cons_succ])
          refine wpAnyH_take (i := 6) (oi := ⟨some 56, _, _, _, _, _⟩) (v := ?_) rfl (by kernel_rfl) (by kernel_rfl) (by kernel_rfl) (fun _ _ _ h => h) (Or.inl ⟨by rfl, ?_⟩) (by assumption) ?_
          rotate_left
          · intro w hSw; (try dsimp only at hSw); go_simp; try with_reducible rfl
          (try simp only [Act.put, List.setIfInBounds_toArray, List.set_cons_zero, List.set_cons_succ])
          refine wpAnyH_take (i := 7) (oi := ⟨some 57, _, _, _, _, _⟩) (v := ?_) rfl (by kernel_rfl) (by kernel_rfl) (by kernel_rfl) (fun _ _ _ h => h) (Or.inl ⟨by rfl, ?_⟩) (by assumption) ?_
          rotate_left
          · intro w hSw; (try dsimp only at hSw); go_simp; try with_reducible rfl
          (try simp only [Act.put, List.setIfInBounds_toArray, List.set_cons_zero, List.set_cons_succ])
          refine wpAnyH_take (i := 2) (oi := ⟨some 52, _, _, _, _, _⟩) (v := ?_) rfl (by kernel_rfl) (by kernel_rfl) (by kernel_rfl) (fun _ _ _ h => h) (Or.inl ⟨by rfl, ?_⟩) (by assumption) ?_
          rotate_left
          · intro w hSw; (try dsimp only at hSw); go_simp; try with_reducible rfl
          (try simp only [Act.put, List.setIfInBounds_toArray, List.set_cons_zero, List.set_cons_succ])
          refine wpAnyH_take (i := 8) (oi := ⟨some 58, _, _, _, _, _⟩) (v := ?_) rfl (by kernel_rfl) (by kernel_rfl) (by kernel_rfl) (fun _ _ _ h => h) (Or.inl ⟨by rfl, ?_⟩) (by assumption) ?_
          rotate_left
          · intro w hSw; (try dsimp only at hSw); go_simp; try with_reducible rfl
          (try simp only [Act.put, List.setIfInBounds_toArray, List.set_cons_zero, List.set_cons_succ])
          refine wpAnyH_take (i := 3) (oi := ⟨some 53, _, _, _, _, _⟩) (v := ?_) rfl (by kernel_rfl) (by kernel_rfl) (by kernel_rfl) (fun _ _ _ h => h) (Or.inl ⟨by rfl, ?_⟩) (by assumption) ?_
          rotate_left
          · intro w hSw; (try dsimp only at hSw); go_simp; try with_reducible rfl
          (try simp only [Act.put, List.setIfInBounds_toArray, List.set_cons_zero, List.set_cons_succ])
          refine wpAnyH_take (i := 9) (oi := ⟨some 59, _, _, _, _, _⟩) (v := ?_) rfl (by kernel_rfl) (by kernel_rfl) (by kernel_rfl) (fun _ _ _ h => h) (Or.inl ⟨by rfl, ?_⟩) (by assumption) ?_
          rotate_left
          · intro w hSw; (try dsimp only at hSw); go_simp; try with_reducible rfl
          (try simp only [Act.put, List.setIfInBounds_toArray, List.set_cons_zero, List.set_cons_succ])
          refine wpAnyH_take (i := 4) (oi := ⟨some 54, _, _, _, _, _⟩) (v := ?_) rfl (by kernel_rfl) (by kernel_rfl) (by kernel_rfl) (fun _ _ _ h => h) (Or.inl ⟨by rfl, ?_⟩) (by assumption) ?_
          rotate_left
          · intro w hSw; (try dsimp only at hSw); go_simp; try with_reducible rfl
          (try simp only [Act.put, List.setIfInBounds_toArray, List.set_cons_zero, List.set_cons_succ])
          refine wpAnyH_take (i := 10) (oi := ⟨some 60, _, _, _, _, _⟩) (v := ?_) rfl (by kernel_rfl) (by kernel_rfl) (by kernel_rfl) (fun _ _ _ h => h) (Or.inl ⟨by rfl, ?_⟩) (by assumption) ?_
          rotate_left
          · intro w hSw; (try dsimp only at hSw); go_simp; try with_reducible rfl
          (try simp only [Act.put, List.setIfInBounds_toArray, List.set_cons_zero, List.set_cons_succ])
          refine wpAnyH_ready (rs := [5]) (by kernel_rfl) (by simp) ?_
          refine (AllReadyH.cons (o := ⟨some 55, _, _, _, _, _⟩) rfl (fun K hK => ?_) AllReadyH.nil)
          rw [if_pos (by rfl)]
          go_simp
          go_at_call 11
          refine (pick_spec y.dev 2 _ HY.out.d (by decide)).mono ?_
          rw [ED.out]
          rintro _ w3 ⟨rfl, h4⟩
          have hA1 := St.call0 hX h4
          clear h4
          refine hK.out _ _ ?_ (fun hHeld => ?_)
          · exact ⟨ldO hA1 (HR0.out), ldO hA1 (HR1.out)⟩
          clear hK K
          (try simp only [Act.put, List.setIfInBounds_toArray, List.set_cons_zero, List.set_cons_succ])
          refine wpAnyH_ready (rs := [11]) (by kernel_rfl) (by simp) ?_
          refine (AllReadyH.cons (o := ⟨some 61, _, _, _, _, _⟩) rfl (fun K hK => ?_) AllReadyH.nil)
          rw [if_pos (by rfl)]
          go_simp
          go_at_call 11
          refine (pick_spec y.pl 8 _ HY.out.p (by decide)).mono ?_
          rw [ES.out]
          rintro _ w4 ⟨rfl, h4⟩
          have hA2 := St.call0 hA1 h4
          clear h4
          refine hK.out _ _ ?_ (fun hHeld => ?_)
          · exact ⟨ldO hA2 (HR0.out), ldO hA2 (HR1.out)⟩
          clear hK K
          (try simp only [Act.put, List.setIfInBounds_toArray, List.set_cons_zero, List.set_cons_succ])
          refine wpAnyH_take (i := 12) (oi := ⟨some 11, _, _, _, _, _⟩) (v := ?_) rfl (by kernel_rfl) (by kernel_rfl) (by kernel_rfl) (fun _ _ _ h => h) (Or.inl ⟨by rfl, ?_⟩) (by assumption) ?_
          rotate_left
          · intro w hSw; (try dsimp only at hSw); go_simp; try with_reducible rfl
          (try simp only [Act.put, List.setIfInBounds_toArray, List.set_cons_zero, List.set_cons_succ])
          refine wpAnyH_take (i := 13) (oi := ⟨some 12, _, _, _, _, _⟩) (v := ?_) rfl (by kernel_rfl) (by kernel_rfl) (by kernel_rfl) (fun _ _ _ h => h) (Or.inl ⟨by rfl, ?_⟩) (by assumption) ?_
          rotate_left
          · intro w hSw; (try dsimp only at hSw); go_simp; try with_reducible rfl
          (try simp only [Act.put, List.setIfInBounds_toArray, List.set_cons_zero, List.set_cons_succ])
          refine wpAnyH_done (by kernel_rfl) ?_ _
          clear hHeld
          have hs1 := hA2
          clear hA2
          go_wp2_with (first | go_big_skip | go_big_guard | (refine wl_loadE rfl rfl rfl ?_; refine ⟨_, Loads.old hs1 HR2.out, ?_⟩) | (go_at_call 14; refine (of_any y.b _).mono ?_; rintro _ w5 ⟨g5, rfl, h4⟩; have hs3 := St.call hs1 h4; clear h4 hs1) | (go_at_call 13; refine (writeM_any (arr_in (X := [_, _, _]) hs3) HL.out.ok (by rw [HZ.out.st]; omega) (by omega) (d : Int) (s : Int) (some ⟨g5, 0, none⟩) 256 256 (BB y.b) (Rd.blk hs3 (.head _) (Nat.le_refl _) (by decide) (by rw [length_bytesV]; exact BB_len _) (by rw [List.drop_zero]; exact List.take_length)) (BB_len _) (off_blk (X := [_, _, _]) hs3 (.head _) 0 256 256)).mono ?_; rw [HE1.out, ← HA2.out]; rintro _ w6 ⟨rfl, x2, h4⟩; have hs4 : St w [] w6 (.blk gl 30 (bytesV L) :: .blk gf 30 (bytesV F) :: arP ga x2 a2) := St.sub (arr_out (X := [_, _, _]) hs3 h4) (List.sublist_cons_self _ _); clear h4 hs3) | (refine wl_loadE rfl rfl rfl ?_; refine ⟨_, Loads.old hs4 HR3.out, ?_⟩) | (go_at_call 15; refine (flushM_any (arr_in (X := [_, _]) hs4) HL2.out.ok (by rw [HZ2.out.st]; omega) (by omega) (d : Int)).mono ?_; rw [HE2.out, ← HA3.out]; rintro _ w8 ⟨rfl, x3, h4⟩; have hs6 : St w [] w8 (.blk gl 30 (bytesV L) :: .blk gf 30 (bytesV F) :: arP ga x3 a3) := arr_out (X := [_, _]) hs4 h4; clear h4 hs4))
          go_roundw
          case rel => exact ⟨m + 1, k, a3, x3, F, L, by omega, rfl, rfl, HL3.out, HZ3.out, hl3, hs6⟩
          case measure => simp [intOf]; omega
        · replace hfl : y.fl = false := by simpa using hfl
          have d3 : decide ((k : Int) < (n : Int)) = false := decide_eq_false (by omega)
          have hno := hL.write_no hd hs (hz.dead hkn) y.b
          have HE1 := hid hno.1
          obtain ⟨a2, ha2⟩ : ∃ a2, a2 = a.write (d : Int) (s : Int) (BB y.b) := ⟨_, rfl⟩
          have HA2 := hid ha2
          rw [← ha2] at hno
          have hL2 : Laid a2 F L := hno.2.1
          have hZ2 : Fz a2 n k := hz.same hkn hno.2.2.1 hno.2.2.2.1
          have hl2 : a2.loose.length ≤ m + 1 := by rw [hno.2.2.2.2]; omega
          have HL2 := hid hL2
          have HZ2 := hid hZ2
          clear ha2 hL2 hZ2 hno
          have hFL : y.fl = false := hfl
          rw [hFL] at HR3
          clear hL hz hd hs
          go_wp2_with (first | go_big_skip | go_big_guard | fail)
          have hX := hs0.drew
          clear hs0
          refine wp_region_held_drew (S := (fun w' => (loadVarH 3 ⟨b, off + m * 4, none⟩).run Try.prog w' = .ok (.int .i64 y.dev) w' ∧ (loadVarH 3 ⟨b, off + m * 4 + 1, none⟩).run Try.prog w' = .ok (.int .i64 y.pl) w')) (by kernel_rfl) (by exact ⟨ldO hX (HR0.out), ldO hX (HR1.out)⟩) (fun hHeld => ?_)
          refine wpAnyH_take (i := 0) (oi := ⟨some 50, _, _, _, _, _⟩) (v := ?_) rfl (by kernel_rfl) (by kernel_rfl) (by kernel_rfl) (fun _ _ _ h => h) (Or.inl ⟨by rfl, ?_⟩) (by assumption) ?_
          rotate_left
          · intro w hSw; (try dsimp only at hSw); go_simp; try with_reducible rfl
          (try simp only [Act.put, List.setIfInBounds_toArray, List.set_cons_zero, List.set_cons_succ])
          refine wpAnyH_take (i := 1) (oi := ⟨some 51, _, _, _, _, _⟩) (v := ?_) rfl (by kernel_rfl) (by kernel_rfl) (by kernel_rfl) (fun _ _ _ h => h) (Or.inl ⟨by rfl, ?_⟩) (by assumption) ?_
          rotate_left
          · intro w hSw; (try dsimp only at hSw); go_simp; try with_reducible rfl
          (try simp only [Act.put, List.setIfInBounds_toArray, List.set_cons_zero, List.set_cons_succ])
          refine wpAnyH_take (i := 6) (oi := ⟨some 56, _, _, _, _, _⟩) (v := ?_) rfl (by kernel_rfl) (by kernel_rfl) (by kernel_rfl) (fun _ _ _ h => h) (Or.inl ⟨by rfl, ?_⟩) (by assumption) ?_
          rotate_left
          · intro w hSw; (try dsimp only at hSw); go_simp; try with_reducible rfl
          (try simp only [Act.put, List.setIfInBounds_toArray, List.set_cons_zero, List.set_cons_succ])
          refine wpAnyH_take (i := 7) (oi := ⟨some 57, _, _, _, _, _⟩) (v := ?_) rfl (by kernel_rfl) (by kernel_rfl) (by kernel_rfl) (fun _ _ _ h => h) (Or.inl ⟨by rfl, ?_⟩) (by assumption) ?_
          rotate_left
          · intro w hSw; (try dsimp only at hSw); go_simp; try with_reducible rfl
          (try simp only [Act.put, List.setIfInBounds_toArray, List.set_cons_zero, List.set_cons_succ])
          refine wpAnyH_take (i := 2) (oi := ⟨some 52, _, _, _, _, _⟩) (v := ?_) rfl (by kernel_rfl) (by kernel_rfl) (by kernel_rfl) (fun _ _ _ h => h) (Or.inl ⟨by rfl, ?_⟩) (by assumption) ?_
          rotate_left
          · intro w hSw; (try dsimp only at hSw); go_simp; try with_reducible rfl
          (try simp only [Act.put, List.setIfInBounds_toArray, List.set_cons_zero, List.set_cons_succ])
          refine wpAnyH_take (i := 8) (oi := ⟨some 58, _, _, _, _, _⟩) (v := ?_) rfl (by kernel_rfl) (by kernel_rfl) (by kernel_rfl) (fun _ _ _ h => h) (Or.inl ⟨by rfl, ?_⟩) (by assumption) ?_
          rotate_left
          · intro w hSw; (try dsimp only at hSw); go_simp; try with_reducible rfl
          (try simp only [Act.put, List.setIfInBounds_toArray, List.set_cons_zero, List.set_cons_succ])
          refine wpAnyH_take (i := 3) (oi := ⟨some 53, _, _, _, _, _⟩) (v := ?_) rfl (by kernel_rfl) (by kernel_rfl) (by kernel_rfl) (fun _ _ _ h => h) (Or.inl ⟨by rfl, ?_⟩) (by assumption) ?_
          rotate_left
          · intro w hSw; (try dsimp only at hSw); go_simp; try with_reducible rfl
          (try simp only [Act.put, List.setIfInBounds_toArray, List.set_cons_zero, List.set_cons_succ])
          refine wpAnyH_take (i := 9) (oi := ⟨some 59, _, _, _, _, _⟩) (v := ?_) rfl (by kernel_rfl) (by kernel_rfl) (by kernel_rfl) (fun _ _ _ h => h) (Or.inl ⟨by rfl, ?_⟩) (by assumption) ?_
          rotate_left
          · intro w hSw; (try dsimp only at hSw); go_simp; try with_reducible rfl
          (try simp only [Act.put, List.setIfInBounds_toArray, List.set_cons_zero, List.set_cons_succ])
          refine wpAnyH_take (i := 4) (oi := ⟨some 54, _, _, _, _, _⟩) (v := ?_) rfl (by kernel_rfl) (by kernel_rfl) (by kernel_rfl) (fun _ _ _ h => h) (Or.inl ⟨by rfl, ?_⟩) (by assumption) ?_
          rotate_left
          · intro w hSw; (try dsimp only at hSw); go_simp; try with_reducible rfl
          (try simp only [Act.put, List.setIfInBounds_toArray, List.set_cons_zero, List.set_cons_succ])
          refine wpAnyH_take (i := 10) (oi := ⟨some 60, _, _, _, _, _⟩) (v := ?_) rfl (by kernel_rfl) (by kernel_rfl) (by kernel_rfl) (fun _ _ _ h => h) (Or.inl ⟨by rfl, ?_⟩) (by assumption) ?_
          rotate_left
          · intro w hSw; (try dsimp only at hSw); go_simp; try with_reducible rfl
          (try simp only [Act.put, List.setIfInBounds_toArray, List.set_cons_zero, List.set_cons_succ])
          refine wpAnyH_ready (rs := [5]) (by kernel_rfl) (by simp) ?_
          refine (AllReadyH.cons (o := ⟨some 55, _, _, _, _, _⟩) rfl (fun K hK => ?_) AllReadyH.nil)
          rw [if_pos (by rfl)]
          go_simp
          go_at_call 11
          refine (pick_spec y.dev 2 _ HY.out.d (by decide)).mono ?_
          rw [ED.out]
          rintro _ w3 ⟨rfl, h4⟩
          have hA1 := St.call0 hX h4
          clear h4
          refine hK.out _ _ ?_ (fun hHeld => ?_)
          · exact ⟨ldO hA1 (HR0.out), ldO hA1 (HR1.out)⟩
          clear hK K
          (try simp only [Act.put, List.setIfInBounds_toArray, List.set_cons_zero, List.set_cons_succ])
          refine wpAnyH_ready (rs := [11]) (by kernel_rfl) (by simp) ?_
          refine (AllReadyH.cons (o := ⟨some 61, _, _, _, _, _⟩) rfl (fun K hK => ?_) AllReadyH.nil)
          rw [if_pos (by rfl)]
          go_simp
          go_at_call 11
          refine (pick_spec y.pl 8 _ HY.out.p (by decide)).mono ?_
          rw [ES.out]
          rintro _ w4 ⟨rfl, h4⟩
          have hA2 := St.call0 hA1 h4
          clear h4
          refine hK.out _ _ ?_ (fun hHeld => ?_)
          · exact ⟨ldO hA2 (HR0.out), ldO hA2 (HR1.out)⟩
          clear hK K
          (try simp only [Act.put, List.setIfInBounds_toArray, List.set_cons_zero, List.set_cons_succ])
          refine wpAnyH_take (i := 12) (oi := ⟨some 11, _, _, _, _, _⟩) (v := ?_) rfl (by kernel_rfl) (by kernel_rfl) (by kernel_rfl) (fun _ _ _ h => h) (Or.inl ⟨by rfl, ?_⟩) (by assumption) ?_
          rotate_left
          · intro w hSw; (try dsimp only at hSw); go_simp; try with_reducible rfl
          (try simp only [Act.put, List.setIfInBounds_toArray, List.set_cons_zero, List.set_cons_succ])
          refine wpAnyH_take (i := 13) (oi := ⟨some 12, _, _, _, _, _⟩) (v := ?_) rfl (by kernel_rfl) (by kernel_rfl) (by kernel_rfl) (fun _ _ _ h => h) (Or.inl ⟨by rfl, ?_⟩) (by assumption) ?_
          rotate_left
          · intro w hSw; (try dsimp only at hSw); go_simp; try with_reducible rfl
          (try simp only [Act.put, List.setIfInBounds_toArray, List.set_cons_zero, List.set_cons_succ])
          refine wpAnyH_done (by kernel_rfl) ?_ _
          clear hHeld
          have hs1 := hA2
          clear hA2
          go_wp2_with (first | go_big_skip | go_big_guard | (refine wl_loadE rfl rfl rfl ?_; refine ⟨_, Loads.old hs1 HR2.out, ?_⟩) | (go_at_call 14; refine (of_any y.b _).mono ?_; rintro _ w5 ⟨g5, rfl, h4⟩; have hs3 := St.call hs1 h4; clear h4 hs1) | (go_at_call 13; refine (writeM_any (arr_in (X := [_, _, _]) hs3) HL.out.ok (by rw [HZ.out.st]; omega) (by omega) (d : Int) (s : Int) (some ⟨g5, 0, none⟩) 256 256 (BB y.b) (Rd.blk hs3 (.head _) (Nat.le_refl _) (by decide) (by rw [length_bytesV]; exact BB_len _) (by rw [List.drop_zero]; exact List.take_length)) (BB_len _) (off_blk (X := [_, _, _]) hs3 (.head _) 0 256 256)).mono ?_; rw [HE1.out, ← HA2.out]; rintro _ w6 ⟨rfl, x2, h4⟩; have hs4 : St w [] w6 (.blk gl 30 (bytesV L) :: .blk gf 30 (bytesV F) :: arP ga x2 a2) := St.sub (arr_out (X := [_, _, _]) hs3 h4) (List.sublist_cons_self _ _); clear h4 hs3) | (refine wl_loadE rfl rfl rfl ?_; refine ⟨_, Loads.old hs4 HR3.out, ?_⟩))
          go_roundw
          case rel => exact ⟨m + 1, k, a2, x2, F, L, by omega, rfl, rfl, HL2.out, HZ2.out, hl2, hs4⟩
          case measure => simp [intOf]; omega
    · obtain rfl : m = N := by omega
      have d2 : decide ((m : Int) < (m : Int)) = false := decide_eq_false (by omega)
      have HL := hid hL
      have HZ := hid hz
      have hkk := hz.le
      obtain ⟨nl, hnl⟩ : ∃ nl, nl = a.loose.length := ⟨_, rfl⟩
      have HNL := hid hnl
      rw [← hnl] at hll
      have hs1 := St.nilR 4 1 hs0
      clear hL hz hnl hs0
      go_wp2_with (first | go_big_skip | go_big_guard | fail)
      go_loopw [14, 15] (fun av i wr => ∃ j : Nat, j ≤ nl ∧ i = .int .i64 (j : Int) ∧ St w [] wr (.row av 4 1 j (boolsV (List.replicate j true)) :: .blk gl 30 (bytesV L) :: .blk gf 30 (bytesV F) :: arP ga x a)) (fun _ i _ => nl - (intOf i).toNat)
      case atStart => exact ⟨0, Nat.zero_le _, rfl, hs1⟩
      case round =>
        clear hs1
        obtain ⟨j, hj, rfl, hs1⟩ := hrel
        by_cases hjl : j < nl
        · have d3 : decide ((j : Int) < (nl : Int)) = true := decide_eq_true (by omega)
          have z4 : IntKind.i64.wrap ((j : Int) + 1) = (j : Int) + 1 := IntWalk.i64_in _ (by omega)
          go_wp2_with (first | go_big_skip | go_big_guard | (go_at_call 16; refine (loose_any (ArrAll.of hs1 (fun p hp => .tail _ (.tail _ (.tail _ hp))) HL.out.ok.d0)).mono ?_; rw [← HNL.out]; rintro _ w5 ⟨rfl, h4⟩; have hs2 := St.call0 hs1 h4; clear h4 hs1) | (apply wl_bsX ([.bool true]) ([.bool true]) hs2; rfl; rfl; exact rfl; exact rfl; infer_instance; infer_instance; rfl; rfl; rfl; intro g5 w6 hs3; clear hs2) | (apply wl_appX (m := 1) (ys := [.bool true]) [_] hs3; rfl; rfl; exact rfl; exact rfl; infer_instance; infer_instance; infer_instance; exact Rd.blk (n := 1) hs3 (.head _) (Nat.le_refl _) (by decide) rfl rfl; rfl; (refine ⟨by decide, by unfold maxLen; omega, by omega⟩); intro v9 w7 hs4 _; clear hs3))
          go_roundw
          case rel =>
            refine ⟨j + 1, by omega, rfl, ?_⟩
            have e1 : boolsV (List.replicate (j + 1) true) = boolsV (List.replicate j true) ++ [.bool true] := by rw [List.replicate_succ']; unfold boolsV; rw [List.map_append]; rfl
            rw [e1]
            exact St.sub hs4 (List.sublist_cons_self _ _)
          case measure => simp [intOf]; omega
        · obtain rfl : j = nl := by omega
          have d3 : decide ((j : Int) < (j : Int)) = false := decide_eq_false (by omega)
          obtain ⟨av, ac, rfl, _, _, _⟩ := row_form hs1 (.head _)
          have HE3 : Hid (a.crashE 0 = 0) := hid (HL.out.crashE (t := 0) (by decide))
          obtain ⟨a2, ha2⟩ : ∃ a2, a2 = a.crash (List.replicate j true) 0 := ⟨_, rfl⟩
          have hL2 : Laid a2 L L := by
            rw [ha2]
            exact HL.out.crash_all (t := 0) (fun i hi => by
              rw [List.getD_eq_getElem?_getD, List.getElem?_replicate, if_pos (by rw [HNL.out]; exact hi)]; rfl) (by decide)
          have ho2 : a2.out = false := by rw [ha2]; rw [show a.crash (List.replicate j true) 0 = _ from HL.out.crash_eq (List.replicate j true) (t := 0) (by decide)]; rfl
          have hll2 : a2.loose.length < 1000000 := by rw [ha2]; rw [show a.crash (List.replicate j true) 0 = _ from HL.out.crash_eq (List.replicate j true) (t := 0) (by decide)]; show (0 : Nat) < _; decide
          have HA2 := hid ha2
          have HL2 := hid hL2
          have HO2 := hid ho2
          have HLL2 := hid hll2
          have HST := hid HZ.out.st
          have HU0 := hid (hL2.up ho2 (d := 0) (by decide))
          have HU1 := hid (hL2.up ho2 (d := 1) (by decide))
          clear ha2 hL2 ho2 hll2
          go_wp2_with (first | go_big_skip | go_big_guard | (go_at_call 16; refine (loose_any (ArrAll.of hs1 (fun p hp => .tail _ (.tail _ (.tail _ hp))) HL.out.ok.d0)).mono ?_; rw [← HNL.out]; rintro _ w5 ⟨rfl, h4⟩; have hs2 := St.call0 hs1 h4; clear h4 hs1) | (go_at_call 17; refine (steps_any (ArrAt.of hs2 (fun p hp => .tail _ (.tail _ (.tail _ hp))) HL.out.ok.d0)).mono ?_; rw [HST.out]; rintro _ w6 ⟨rfl, h4⟩; have hs3 := St.call0 hs2 h4; clear h4 hs2) | (go_at_call 18; refine (crashM_any (arr_in (X := [_, _, _]) hs3) HL.out.ok (by rw [← HNL.out]; omega) av j ac (List.replicate j true) (Rd.row hs3 (.head _)) (by rw [List.length_replicate]) (off_row (X := [_, _, _]) hs3 (.head _)) 0).mono ?_; rw [HE3.out, ← HA2.out]; rintro _ w7 ⟨rfl, x2, h4⟩; have hs4 : St w [] w7 (.blk gl 30 (bytesV L) :: arP ga x2 a2) := St.sub (arr_out (X := [_, _, _]) hs3 h4) (.cons _ (.cons_cons _ (.cons _ (List.Sublist.refl _)))); clear h4 hs3) | (go_at_call 19; first | (refine (up_any (ArrAt.of hs4 (fun p hp => .tail _ hp) HL2.out.ok.d0) 0).mono ?_; rw [show a2.up 0 = true from HU0.out]; rintro _ w8 ⟨rfl, h4⟩; have hs5 := St.call0 hs4 h4; clear h4 hs4) | (refine (up_any (ArrAt.of hs5 (fun p hp => .tail _ hp) HL2.out.ok.d0) 1).mono ?_; rw [show a2.up 1 = true from HU1.out]; rintro _ w9 ⟨rfl, h4⟩; have hs6 := St.call0 hs5 h4; clear h4 hs5)))
          go_loopw [16] (fun i wr => ∃ m : Nat, m ≤ 16 ∧ i = .int .i64 (m : Int) ∧ St w [] wr (.blk gl 30 (bytesV L) :: arP ga x2 a2)) (fun i _ => 16 - (intOf i).toNat)
          case atStart => exact ⟨0, by decide, rfl, hs6⟩
          case round =>
            clear hs6
            obtain ⟨m9, hm9, rfl, hs0⟩ := hrel
            by_cases hm16 : m9 < 16
            · obtain ⟨d, s, hd, hs, hdq, hdr⟩ : ∃ d s : Nat, d < 2 ∧ s < 8 ∧ (m9 : Int).tdiv 8 = (d : Int) ∧ (m9 : Int).tmod 8 = (s : Int) := ⟨m9 / 8, m9 % 8, by omega, by omega, by rw [Int.tdiv_eq_ediv_of_nonneg (by omega)]; omega, by rw [Int.tmod_eq_emod_of_nonneg (by omega)]; omega⟩
              have zd : IntKind.i64.wrap (d : Int) = (d : Int) := IntWalk.i64_in _ (by omega)
              have zs : IntKind.i64.wrap (s : Int) = (s : Int) := IntWalk.i64_in _ (by omega)
              have f1 : ∀ T, binOp .quo T (.int .i64 (m9 : Int)) (.int .i64 8) = pure (.int .i64 (d : Int)) := by
                intro T
                simp only [binOp]
                simp [Op.intDiv, hdq, zd]
              have f2 : ∀ T, binOp .rem T (.int .i64 (m9 : Int)) (.int .i64 8) = pure (.int .i64 (s : Int)) := by
                intro T
                simp only [binOp]
                simp [Op.intDiv, hdr, zs]
              have d4 : decide ((m9 : Int) < 16) = true := decide_eq_true (by omega)
              have z4 : IntKind.i64.wrap ((m9 : Int) + 1) = (m9 : Int) + 1 := IntWalk.i64_in _ (by omega)
              have HLV := hid (bytesV_getD (L := L) (i := d * 8 + s) (by rw [HL.out.ll]; omega))
              have HPK := hid (HL2.out.peek HO2.out hd hs)
              obtain ⟨B, hB⟩ : ∃ B, B = L.getD (d * 8 + s) 0 := ⟨_, rfl⟩
              rw [← hB] at HLV HPK
              have hd2 : (d : Int) < 2 := by omega
              have hs2 : (s : Int) < 8 := by omega
              clear hB hdq hdr zd zs hd hs
              go_wp2_with (first | go_big_skip | go_big_guard | (refine wl_loadE rfl rfl rfl ?_; refine ⟨_, Loads.at [] hs0 HLV.out, ?_⟩) | (go_at_call 14; refine (of_any B _).mono ?_; rintro _ w5 ⟨g5, rfl, h4⟩; have hs1 := St.call hs0 h4; clear h4 hs0) | (go_at_call 20; refine (peeks_any (ArrAll.of hs1 (fun p hp => .tail _ (.tail _ hp)) HL2.out.ok.d0) HL2.out.ok HLL2.out (d : Int) (s : Int) (.slice (some ⟨g5, 0, none⟩) 256 256) 256 (BB B) (Rd.blk hs1 (.head _) (Nat.le_refl _) (by decide) (by rw [length_bytesV]; exact BB_len _) (by rw [List.drop_zero]; exact List.take_length)) (BB_len _)).mono ?_; rw [HPK.out]; rintro _ w6 ⟨rfl, h4⟩; have hs2 := St.call0 hs1 h4; clear h4 hs1))
              go_roundw
              case rel => exact ⟨m9 + 1, by omega, rfl, St.sub hs2 (List.sublist_cons_self _ _)⟩
              case measure => simp [intOf]; omega
            · have d4 : decide ((m9 : Int) < 16) = false := decide_eq_false (by omega)
              go_wp2_with (first | go_big_skip | go_big_guard | fail)
              go_ret
              exact ⟨rfl, hs0.nil⟩
end
theorem fuses_law (zn : Int) (h1 : -9223372036854775808 ≤ zn ∧ zn ≤ 9223372036854775807) (ao : Option Addr) (N c : Nat) (xs : List LY) (w : World) (hv : Rd w (.slice ao N c) 4 N (xs.flatMap LY.cells)) (hN : xs.length = N) (hx : ∀ y ∈ xs, y.Ok) :
    Calls Try.prog 3 #[.slice ao N c, .int .i64 zn] w fun e w' => e = .returned (.bool true) ∧ St w [] w' [] := by
  obtain ⟨n, hn, en⟩ := pickI_nat (x := zn) (n := 131) (by decide)
  by_cases h6 : N ≤ 60
  · exact fuses_short zn h1 ao N c n xs w hv hN hx en hn h6
  · exact fuses_long zn h1 ao N c n w en (by omega)
end Go.Proofs.Ytclleohpmgihaaa
namespace Go.Proofs.Ytclleohpmgihaaa
set_option linter.unusedVariables false
set_option linter.unusedSimpArgs false
open Go.ChangeShapes Go.WideShapes Go.ChangeAt Go.RowKit Hp
set_option maxRecDepth 100000 in
theorem arrayFuses_lifted (os : Os) (started : os.Started) (H : Type) (enc : TypeId × Value → H) :
    ReturnsInHanded {} Try.checked os 3 .any (Rows.arrayFusesSpec.pre6 enc Try.prog Try.f3 Rows.arrayFusesRow.domain false) (Rows.arrayFusesSpec.post enc Try.prog Try.f3 false true false false) := by
  refine returnsInHanded_of_change (C := Try.checked) own started (by kernel_rfl) Try.func3
    (ChangeSpec.witness6 (enc := enc) (C := Try.checked) false ⟨#[], #[.slice none 0 0, .int .i64 0], []⟩ 8 (by kernel_rfl) (by kernel_rfl) (by kernel_rfl) (by kernel_rfl)) ?_
  intro W base args ds gs before hval0 hW hcnd _
  have hval : ∀ (j : Nat) t v, Try.f3.params[j]? = some t → args[j]? = some v → Value.okWide Try.prog W .any base t v := hval0
  have hW' := hW
  obtain ⟨p, q, hAA0, hV, rfl, hfz, hnd⟩ := hW
  have hA : DataW.TrodAll enc Try.prog W 0 (fun _ => true) true Try.f3.params.toList args.toList ds p := hAA0
  rw [Try.params3] at hA hval
  have hk := hA
  obtain ⟨v0, v1, d0, d1, p0, p1, rfl, rfl, rfl, h0, h1⟩ := trodAll_two hA
  obtain ⟨rfl, rfl⟩ := trodVars_none hV
  obtain ⟨n0, h0⟩ := h0
  obtain ⟨ao0, n0, c0, xs0, rfl, hA0, hn0, hk0⟩ := open_lays (hval 0 _ v0 rfl rfl) h0
  obtain ⟨n1, h1⟩ := h1
  obtain ⟨z1, rfl, hl1, hu1⟩ := open_int (hval 1 _ v1 rfl rfl) h1
  clear hAA0 hval0
  simp only [List.append_nil] at hW'
  refine (fuses_law z1 ⟨hl1, hu1⟩ ao0 n0 c0 xs0 W hA0 hn0 hk0).mono fun e W' ⟨he, hg⟩ => ?_
  subst he
  exact ⟨_, rfl, post_of_kept (pv := []) hW' (fun _ _ _ => (trodAll_cons_mk (shut_bool Try.underlying4 _) trodAll_mk0)) (fun sp hsp => by
      rw [Try.params3]
      exact args_kept (by decide) hk hg.below (fun p hp => hW'.lt p hp) sp hsp) (fun _ _ => rfl) (by simp)
    (hg.below.frame _)⟩
theorem arrayFuses_over : Rows.arrayFusesRow.holds Try.pinned (OpenSpec.ofChange Rows.arrayFusesSpec) :=
  OpenClaim.holds_of_wide 3 Try.f3 rfl rfl rfl rfl rfl rfl rfl ⟨rfl, rfl, rfl, rfl, rfl⟩ rfl rfl rfl rfl rfl (by kernel_rfl) Try.func3 (by kernel_rfl)
    (of_decide_eq_true (by kernel_rfl)) (by unfold Func.isWrapper; first | (rw [if_pos (by decide +kernel)]; kernel_rfl) | (rw [if_neg (by decide +kernel)]; exact ⟨rfl, rfl⟩))
    (fun os started H enc _ => arrayFuses_lifted os started H enc)

theorem arrayFuses_proved : Rows.ArrayFusesSaid :=
  arrayFuses_over
end Go.Proofs.Ytclleohpmgihaaa
