import Derived.Test.YtilgjldnlgfehaaH18
namespace Go.Proofs.Ytilgjldnlgfehaa
open Go.RowKit Go.Shelf Hp
attribute [local irreducible] Go.Calls
set_option maxRecDepth 100000
set_option maxHeartbeats 4000000
theorem byteAt_hi {n : Int} {i : Nat} (h0 : 0 ≤ n) (h1 : n < 65536) (hi : 2 ≤ i) : byteAt n i = 0 := by
  have e : n / 2 ^ (8 * i) = 0 := by
    refine Int.ediv_eq_zero_of_lt h0 ?_
    have h2 : (2 : Int) ^ 16 ≤ 2 ^ (8 * i) := by
      have := Nat.pow_le_pow_right (show 0 < 2 by decide) (show 16 ≤ 8 * i by omega)
      exact_mod_cast this
    have h3 : (2 : Int) ^ 16 = 65536 := by decide
    omega
  unfold byteAt
  rw [e]
  rfl
theorem numB_low {n : Nat} (h : n ≤ 1000) : numB (8 * (n : Int)) 8 = List.replicate 6 0 ++ [UInt8.ofNat (n / 32), UInt8.ofNat (8 * n)] := by
  have e0 : byteAt (8 * (n : Int)) 0 = UInt8.ofNat (8 * n) := by
    apply UInt8.toNat_inj.1
    have := byteAt_int (8 * (n : Int)) 0
    rw [UInt8.toNat_ofNat']
    simp only [Nat.mul_zero, Int.pow_zero, Int.ediv_one] at this
    omega
  have e1 : byteAt (8 * (n : Int)) 1 = UInt8.ofNat (n / 32) := by
    apply UInt8.toNat_inj.1
    have := byteAt_int (8 * (n : Int)) 1
    rw [UInt8.toNat_ofNat']
    rw [show (2 : Int) ^ (8 * 1) = 256 by decide] at this
    omega
  have hh : ∀ i, 2 ≤ i → byteAt (8 * (n : Int)) i = 0 := fun i hi => byteAt_hi (by omega) (by omega) hi
  simp [numB, e0, e1, hh]
theorem want_filled (bs : List UInt8) {n : Nat} (hn : bs.length = n) (h : n ≤ 1000) : padB bs (noughts n + 6) ++ [UInt8.ofNat (n / 32), UInt8.ofNat (8 * n)] = filled bs := by
  subst hn
  rw [padB, filled, numB_low h, List.append_assoc, List.cons_append, ← List.append_assoc, ← List.replicate_append_replicate]
theorem flat_pieces (bs : List UInt8) : (pieces bs).flatten = filled bs := by
  have h1 := filled_mod bs
  obtain ⟨F, hF⟩ : ∃ F, F = filled bs := ⟨_, rfl⟩
  have key : ∀ (m : Nat) (F : List UInt8), F.length = 64 * m → ((List.range m).map (cut64 F)).flatten = F := by
    intro m
    induction m with
    | zero =>
      intro F h
      rw [List.eq_nil_of_length_eq_zero (l := F) (by omega)]
      rfl
    | succ m ih =>
      intro F h
      rw [List.range_succ, List.map_append, List.flatten_append]
      have h2 := ih (F.take (64 * m)) (by rw [List.length_take]; omega)
      have h3 : (List.range m).map (cut64 (F.take (64 * m))) = (List.range m).map (cut64 F) := List.map_congr_left fun i hi => cut64_take (List.mem_range.1 hi)
      rw [h3] at h2
      rw [h2]
      simp only [List.map_cons, List.map_nil, List.flatten_cons, List.flatten_nil, List.append_nil]
      have h4 : cut64 F m = F.drop (64 * m) := by
        unfold cut64
        rw [List.take_of_length_le]
        rw [List.length_drop]; omega
      rw [h4, List.take_append_drop]
  rw [pieces, ← hF]
  exact key _ F (by rw [← hF] at h1; omega)
theorem cut64_filled (bs : List UInt8) {x : Nat} (h : 64 * x + 64 ≤ bs.length) : cut64 (filled bs) x = cut64 bs x := by
  unfold cut64 filled
  rw [List.drop_append_of_le_length (by omega), List.take_append_of_le_length (by rw [List.length_drop]; omega)]
theorem foldP_pieces (bs : List UInt8) {k : Nat} (h : 64 * k ≤ bs.length) : foldP (cuts (bs.take (64 * k)) k) k = foldP (pieces bs) k := by
  have h1 := filled_mod bs
  have h2 := length_filled bs
  unfold foldP
  congr 1
  rw [cuts_take (Nat.le_refl _), pieces, cuts, ← List.map_take, ← List.map_take]
  rw [List.take_range, List.take_range, Nat.min_self, Nat.min_eq_left (by omega)]
  refine List.map_congr_left fun i hi => ?_
  have := List.mem_range.1 hi
  exact (cut64_filled bs (by omega)).symm
theorem wl_neq_words {P : Program} {ops : Array Oper} {rest : List Oper} {o : Oper} {a : Act} {w : World} {Q : Exit → Act → World → Prop} {T T' n e : Nat} {q' : IntKind} {x y : Operand} (l : List Wd) (hop : o.op = .binOp .neq T x y T') (hw : Region.wanted o (yielded ops a.tmps) = true) (hx : a.eval x = .agg (wordsV l).toArray) (hy : a.eval y = .agg (wordsV l).toArray)
    [h : TyArrI P T n q' e] (hl : l.length = n) (hh : wpList P ops Q rest (a.put o.dst (.bool false)) w) : wpList P ops Q (o :: rest) a w := by
  rw [wordsV_ints] at hx hy
  refine wl_neq_ints (P := P) (T := T) _ _ hop hw hx hy (by simp [hl]) ?_
  rw [beq_self_eq_true]
  exact hh
theorem take_flat_succ {ps : List (List UInt8)} {i : Nat} {p : List UInt8} (h : ps[i]? = some p) : (ps.take (i + 1)).flatten = (ps.take i).flatten ++ p := by
  rw [List.take_add_one, h]
  simp
end Go.Proofs.Ytilgjldnlgfehaa
