import Derived.Test.YthjafocnfpphlaaT25
namespace Go.Proofs.Ythjafocnfpphlaa
open Go.RowKit Hp
attribute [local irreducible] Go.Calls
set_option maxHeartbeats 4000000
/-- y is x with address lists of its own (rows of R) for the first k pointers. -/
def NV.isO (E : TypeId) (y x : NV) (R : List HA) (k : Nat) : Prop := ∀ j, j < k → (y.get j).eqd (x.get j) ∧ ∃ ao n c, (y.get j).sv = .slice ao n c ∧ HA.row (.slice ao n c) E 2 n (addrsV (y.get j).l) ∈ R ∧ (y.get j).l.length = n
def ownOut (x : NV) (w : World) (E : TypeId) (e : Ending) (w' : World) : Prop :=
  ∃ (y : NV) (R : List HA), e = .returned (.agg y.cells.toArray) ∧ St w [] w' R ∧ y.lv = x.lv ∧ y.isO E x R 4
theorem put_sv {x : NV} (h : x.Ln) {k : Nat} (hk : k < 4) (v : Value) : putAt x.cells (1 + k * 35) [v] = (x.set k { x.get k with sv := v }).cells := by
  have h0 : x.p0.cells.length = 35 := PV.len (h 0)
  have h1 : x.p1.cells.length = 35 := PV.len (h 1)
  have h2 : x.p2.cells.length = 35 := PV.len (h 2)
  have go : ∀ (a c : List Value) (s : Value) (n : Nat) (X Y : List Value), X = a ++ ([s] ++ c) → Y = a ++ ([v] ++ c) → n = a.length → putAt X n [v] = Y := by
    intro a c s n X Y e1 e2 e3
    rw [e1, e2]
    exact put_at a [s] c [v] rfl e3
  obtain rfl | rfl | rfl | rfl : k = 0 ∨ k = 1 ∨ k = 2 ∨ k = 3 := by omega
  · exact go [.int .i64 x.lv] (x.p0.cells.tail ++ (x.p1.cells ++ (x.p2.cells ++ x.p3.cells))) x.p0.sv _ _ _ rfl rfl rfl
  · exact go (.int .i64 x.lv :: x.p0.cells) (x.p1.cells.tail ++ (x.p2.cells ++ x.p3.cells)) x.p1.sv _ _ _ rfl rfl (by simp [h0])
  · refine go (.int .i64 x.lv :: (x.p0.cells ++ x.p1.cells)) (x.p2.cells.tail ++ x.p3.cells) x.p2.sv _ _ _ ?_ ?_ (by simp [h0, h1])
    · rw [List.cons_append, List.append_assoc]; rfl
    · rw [List.cons_append, List.append_assoc]; rfl
  · refine go (.int .i64 x.lv :: (x.p0.cells ++ (x.p1.cells ++ x.p2.cells))) x.p3.cells.tail x.p3.sv _ _ _ ?_ ?_ (by simp [h0, h1, h2])
    · rw [List.cons_append, List.append_assoc, List.append_assoc]; rfl
    · rw [List.cons_append, List.append_assoc, List.append_assoc]; rfl
theorem set_ln {y : NV} (h : y.Ln) {k : Nat} (hk : k < 4) {p : PV} (hp : L32 p.S) : ∀ j, L32 ((y.set k p).get j).S := by
  have main : ∀ j, j < 4 → L32 ((y.set k p).get j).S := by
    intro j hj
    by_cases e : j = k
    · subst e; rw [NV.get_set_same y hk]; exact hp
    · rw [NV.get_set_other y hk hj e]; exact h j
  intro j
  match j with
  | 0 => exact main 0 (by omega)
  | 1 => exact main 1 (by omega)
  | 2 => exact main 2 (by omega)
  | _ + 3 => exact main 3 (by omega)
theorem PV.ones_of {p : PV} {ao : Option Addr} {n c : Nat} (h : p.sv = .slice ao n c) : p.cells.all (·.oneCell') = true := by
  rw [PV.cells, h]
  exact ptr_ones _ _ _ _ _ _
theorem NV.isO.ones {E : TypeId} {y x : NV} {R : List HA} (h : y.isO E x R 4) (_hl : y.lv = x.lv) : y.cells.all (·.oneCell') = true := by
  have g : ∀ j, j < 4 → (y.get j).cells.all (·.oneCell') = true := fun j hj => by
    obtain ⟨_, ao, n, c, h2, _⟩ := h j hj
    exact PV.ones_of h2
  have h0 : y.p0.cells.all (·.oneCell') = true := g 0 (by omega)
  have h1 : y.p1.cells.all (·.oneCell') = true := g 1 (by omega)
  have h2 : y.p2.cells.all (·.oneCell') = true := g 2 (by omega)
  have h3 : y.p3.cells.all (·.oneCell') = true := g 3 (by omega)
  rw [NV.cells, List.all_cons, List.all_append, List.all_append, List.all_append, h0, h1, h2, h3]
  rfl
theorem addrs_ones (l : List (Int × Int)) : (addrsV l).all (·.oneCell') = true := by
  induction l with
  | nil => rfl
  | cons a l ih =>
    rw [addrsV, List.all_cons, List.all_cons, ih]
    rfl
set_option maxRecDepth 100000 in
theorem own_any (x : NV) (w : World) (hx : x.In w) (hlen : ∀ k, k < 4 → (x.get k).l.length ≤ 3) : Calls Try.prog 60 #[.agg x.cells.toArray] w (ownOut x w 42) := by
  have hst := St.refl w
  have hL := hx.ln
  have Hlen := hid hlen
  clear hlen
  go_enter Try.func60, Try.ntmps60
  go_wp2_with (first | go_big_skip | go_big_guard | (refine wl_boxA hst rfl rfl rfl ?_; intro g w1 hst1; clear hst) | (refine wl_alloc hst1 rfl rfl ?_; intro gn w2 hst2; clear hst1))
  have hst3 : St w [] w2 (.blk gn 51 (zN 0).cells :: .blk g 51 x.cells :: []) := hst2
  clear hst2
  go_loopw [4] (fun i wr => ∃ k : Nat, k ≤ 4 ∧ i = .int .i64 k ∧ ∃ (y : NV) (R : List HA), Hid (y.lv = x.lv) ∧ Hid (y.isO 42 x R k) ∧ Hid (∀ j, k ≤ j → j < 4 → y.get j = x.get j) ∧ Hid y.Ln ∧ St w [] wr (.blk gn 51 (zN 0).cells :: .blk g 51 y.cells :: R)) (fun i _ => 4 - (intOf i).toNat)
  case atStart => exact ⟨0, by omega, rfl, x, [], hid rfl, hid (fun j h => absurd h (by omega)), hid (fun j _ _ => rfl), hid hL, hst3⟩
  case round =>
    clear hst3
    obtain ⟨k, hk, rfl, y, R, hlv, hO, hz, hLy, hst⟩ := hrel
    by_cases hk4 : k < 4
    · obtain ⟨hS, ao, n, c, h2, h3, h4⟩ := hx k
      have eg := hid (hz.out k (Nat.le_refl _) hk4)
      have hRd := hid (show Rd wr (y.get k).sv 2 n (addrsV (x.get k).l) by rw [eg.out, h2]; exact Rd.old hst h3)
      have hn3 : n ≤ 3 := by rw [← h4]; exact Hlen.out k hk4
      have H4 := hid h4
      clear h2 h3 h4
      have hsn := St.nilRow 42 2 hst
      go_wp2_with (first | go_big_skip | go_big_guard | (refine wl_loadE rfl rfl rfl ?_; refine ⟨_, Loads.at (off := 1 + k * 35) [_] hst (NV.at_sv hLy.out hk4), ?_⟩) | (apply wl_appX [] hsn; rfl; rfl; exact rfl; exact rfl; infer_instance; infer_instance; infer_instance; exact hRd.out; exact addrs_ones _; (unfold maxLen; omega); intro v9 w9 hst9 _; clear hsn hst; obtain ⟨ao9, c9, rfl⟩ := St.rowSliceAt [] hst9) | (refine wl_store [_, _] hst9 rfl rfl rfl (v := .slice _ _ _) rfl rfl rfl (by show _ + 1 ≤ _; rw [NV.len hLy.out]; omega) ?_; intro w10 hst10; clear hst9))
      rw [Nat.zero_add, List.nil_append] at hst10
      obtain ⟨p, hp⟩ : ∃ p : PV, p = { x.get k with sv := .slice ao9 n c9 } := ⟨_, rfl⟩
      have hput := put_sv hLy.out hk4 (.slice ao9 n c9)
      rw [eg.out, ← hp] at hput
      have hpl : p.l = (x.get k).l := by rw [hp]
      have hst11 : St w [] w10 (.row (.slice ao9 n c9) 42 2 n (addrsV p.l) :: .blk gn 51 (zN 0).cells :: .blk g 51 (y.set k p).cells :: R) := by
        rw [← hput, hpl]; exact hst10
      have hst12 : St w [] w10 (.blk gn 51 (zN 0).cells :: .blk g 51 (y.set k p).cells :: .row (.slice ao9 n c9) 42 2 n (addrsV p.l) :: R) := hst11.perm ((List.Perm.swap _ _ _).trans (List.Perm.cons _ (List.Perm.swap _ _ _)))
      clear hst10 hst11 hput
      have HO2 := hid (show (y.set k p).isO 42 x (.row (.slice ao9 n c9) 42 2 n (addrsV p.l) :: R) (k + 1) from by
        intro j hj
        by_cases e : j = k
        · subst e
          rw [NV.get_set_same y hk4]
          exact ⟨by rw [hp]; exact ⟨rfl, rfl, rfl, rfl⟩, ao9, n, c9, by rw [hp], .head _, by rw [hpl]; exact H4.out⟩
        · rw [NV.get_set_other y hk4 (by omega) e]
          obtain ⟨q1, ao, n, c, q2, q3, q4⟩ := hO.out j (by omega)
          exact ⟨q1, ao, n, c, q2, .tail _ q3, q4⟩)
      have Hz2 := hid (show ∀ j, k + 1 ≤ j → j < 4 → (y.set k p).get j = x.get j from fun j h1 h2 => by rw [NV.get_set_other y hk4 h2 (by omega)]; exact hz.out j (by omega) h2)
      have Hlv2 := hid (show (y.set k p).lv = x.lv by rw [NV.lv_set]; exact hlv.out)
      have HLy2 := hid (show (y.set k p).Ln from fun j => set_ln hLy.out hk4 (by rw [hp]; exact hS) j)
      clear hp hpl hn3
      go_roundw
      case rel => exact ⟨k + 1, by omega, by go_num, y.set k p, _, Hlv2, HO2, Hz2, HLy2, hst12⟩
      case measure => simp [intOf]; omega
    · have ek : k = 4 := by omega
      subst ek
      have hz4 := hid (NV.isO.ones hO.out hlv.out)
      clear hz hk hk4
      go_wp2_with (first | go_big_skip | go_big_guard | (refine wl_loadE rfl rfl rfl ?_; first | refine ⟨_, Loads.atA (y.cells) [_] hst (NV.len hLy.out) (NV.all y), ?_⟩) | (refine wl_storeA [] hst rfl rfl rfl rfl (NV.len hLy.out) hz4.out (NV.len (zN_ln 0)) ?_; intro w10 hst10; clear hst))
      have hl := Loads.atA (P := Try.prog) (off := 0) (T := 51) y.cells [] hst10 (NV.len hLy.out) (NV.all _)
      refine bodyPost_ret (results_cellL rfl rfl hl) rfl ?_
      exact ⟨y, R, rfl, hst10.sub (.cons _ (.cons _ (List.Sublist.refl _))), hlv.out, hO.out⟩
end Go.Proofs.Ythjafocnfpphlaa
