import Derived.Test.YtmdfbdfijnmhkaaGreatJMirrorTellsc
import Derived.Test.YtmdfbdfijnmhkaaGreatJMirrorTellsf
import Derived.Test.YtmdfbdfijnmhkaaGreatJMirrorTellsb
namespace Go.Proofs.YtmdfbdfijnmhkaaGreat
set_option linter.unusedVariables false
set_option linter.unusedSimpArgs false
open Go.RowKit
namespace Hp
variable {P : Program}
theorem eqFields_ints {w : World} {q : IntKind} (d : Nat) (l k : List Int) : ∀ (fs : List Field) (s : Nat), (∀ i f, fs[i]? = some f → f.name ≠ "_" ∧ f.offset = s + i ∧ ∃ c, P.underlying f.type = some (.int c)) → l.length = s + fs.length → k.length = s + fs.length →
    (Op.eqFields (d + 1) (intsV q l).toArray (intsV q k).toArray fs).run P w = .ok (l.drop s == k.drop s) w
  | [], s, _, h1, h2 => by
    rw [List.drop_of_length_le (by simp at h1; omega), List.drop_of_length_le (by simp at h2; omega)]
    simp [Op.eqFields]
  | f :: fs, s, hall, h1, h2 => by
    obtain ⟨n1, o1, c, u1⟩ := hall 0 f rfl
    have ih := eqFields_ints (w := w) (q := q) d l k fs (s + 1) (fun i g hg => by
      have := hall (i + 1) g (by simpa using hg)
      rw [show s + 1 + i = s + (i + 1) by omega]; exact this) (by simp at h1; omega) (by simp at h2; omega)
    have hs1 : s < l.length := by simp at h1; omega
    have hs2 : s < k.length := by simp at h2; omega
    have hl : l.drop s = l.getD s 0 :: l.drop (s + 1) := by rw [List.drop_eq_getElem_cons hs1]; simp [List.getD, hs1]
    have hk : k.drop s = k.getD s 0 :: k.drop (s + 1) := by rw [List.drop_eq_getElem_cons hs2]; simp [List.getD, hs2]
    have hp : ∀ u : List Int, s < u.length → (part f.type (intsV q u).toArray s).run P w = .ok (.int q (u.getD s 0)) w := fun u hu =>
      run_part_int u1 (by simp [intsV, List.getD, hu])
    rw [hl, hk]
    simp only [Op.eqFields, n1, ne_eq, not_false_eq_true, if_true, Sem.run_bind, o1, Nat.add_zero, hp l hs1, hp k hs2, Result.andThen_ok, run_equalIn_int w d f.type q c _ _ u1]
    rw [List.cons_beq_cons]
    cases hb : (l.getD s 0 == k.getD s 0)
    · simp
    · simp [ih]
def siok (P : Program) (T : TypeId) (n : Nat) : Bool := match P.underlying T with
  | some (.struct fs) => fs.toList.length == n && ((List.range n).all (fun i => match fs.toList[i]? with
    | some f => f.name != "_" && f.offset == i && (match P.underlying f.type with | some (.int _) => true | _ => false)
    | none => false)) && !(P.stoodInHeld T) && !(P.eqGuardType P.depth T)
  | _ => false
class TySI (P : Program) (T : TypeId) (n : outParam Nat) : Prop where
  out : siok P T n = true
theorem si_spec {T : TypeId} {n : Nat} (h : siok P T n = true) : P.underlying T = some (.struct (P.fieldsOf T)) ∧ (P.fieldsOf T).toList.length = n ∧ (∀ i f, (P.fieldsOf T).toList[i]? = some f → f.name ≠ "_" ∧ f.offset = 0 + i ∧ ∃ c, P.underlying f.type = some (.int c)) ∧ P.stoodInHeld T = false ∧ P.eqGuardType P.depth T = false := by
  unfold siok at h
  cases hu : P.underlying T with
  | none => simp [hu] at h
  | some d =>
    cases d with
    | struct fs =>
      have hf : P.fieldsOf T = fs := by simp [Program.fieldsOf, hu]
      simp only [hu] at h
      rw [hf]
      simp only [Bool.and_eq_true, beq_iff_eq, Bool.not_eq_true'] at h
      obtain ⟨⟨⟨h1, h2⟩, h3⟩, h4⟩ := h
      refine ⟨rfl, h1, fun i f hi => ?_, h3, h4⟩
      have hlt := (List.getElem?_eq_some_iff.1 hi).1
      have := List.all_eq_true.1 h2 i (by rw [List.mem_range]; omega)
      rw [hi] at this
      simp only [Bool.and_eq_true, bne_iff_ne, ne_eq, beq_iff_eq] at this
      refine ⟨this.1.1, by omega, ?_⟩
      cases hk : P.underlying f.type with
      | none => simp [hk] at this
      | some q => cases q <;> first | (simp [hk] at this; done) | exact ⟨_, rfl⟩
    | _ => simp [hu] at h
theorem run_eqlSI {w : World} {T : TypeId} {n : Nat} {q : IntKind} [h : TySI P T n] (l k : List Int) (hl : l.length = n) (hk : k.length = n) :
    (binOp .eql T (.agg (intsV q l).toArray) (.agg (intsV q k).toArray)).run P w = .ok (.bool (l == k)) w := by
  obtain ⟨hu, h1, h2, h3, _⟩ := si_spec h.out
  rw [run_eql_struct, show (10000 : Nat) = 9999 + 1 from rfl, run_equalIn_struct w 9999 T _ _ hu h3, eqFields_ints 9998 l k _ 0 h2 (by omega) (by omega)]
  rfl
theorem run_neqSI {w : World} {T : TypeId} {n : Nat} {q : IntKind} [h : TySI P T n] (l k : List Int) (hl : l.length = n) (hk : k.length = n) :
    (binOp .neq T (.agg (intsV q l).toArray) (.agg (intsV q k).toArray)).run P w = .ok (.bool (!(l == k))) w := by
  obtain ⟨hu, h1, h2, h3, _⟩ := si_spec h.out
  rw [run_neq_struct, show (10000 : Nat) = 9999 + 1 from rfl, run_equalIn_struct w 9999 T _ _ hu h3, eqFields_ints 9998 l k _ 0 h2 (by omega) (by omega)]
  rfl
theorem run_guardSI {w : World} {T : TypeId} {n : Nat} [h : TySI P T n] (op : BinOp) (x y : Operand) (xs ys : Array Value) : (eqGuard op T x y (.agg xs) (.agg ys)).run P w = .ok () w := by
  obtain ⟨hu, h1, h2, h3, hg⟩ := si_spec h.out
  unfold eqGuard
  cases op <;> simp [Sem.run_bind, hg]
end Hp
end Go.Proofs.YtmdfbdfijnmhkaaGreat
namespace Go.Proofs.YtmdfbdfijnmhkaaGreat
set_option linter.unusedVariables false
set_option linter.unusedSimpArgs false
open Go.RowKit Hp
attribute [local irreducible] Go.Calls Go.wpList
set_option maxRecDepth 100000
set_option maxHeartbeats 8000000
theorem gb_sect {w0 : World} {M : List Nat} {R : List HA} {g : Nat} {b : UInt8} (hm : HA.blk g 5 (bytesV (sect b)) ∈ R) : GB w0 M R (.slice (some ⟨g, 0, none⟩) 256 256) 256 (sect b) :=
  GB.blk hm (sect_len b) (List.take_of_length_le (by rw [sect_len]; exact Nat.le_refl _)) (Nat.le_refl _) (by decide)
theorem dk_fine {g : Nat} {s : List UInt8} (h : s.length = 256) : (dk g s).Fine 8 := by
  refine ⟨rfl, fun t ht => ?_, (fun h => by cases h), Int.le_refl _, by show (0 : Int) ≤ _; decide⟩
  have h0 := sect_len 0
  simp only [dk, List.mem_cons, List.not_mem_nil, or_false] at ht
  rcases ht with rfl | rfl | rfl | rfl | rfl | rfl | rfl | rfl <;> assumption
theorem ak_ok {p q r : Nat} {a b c : List UInt8} {L : List LW} {st : Int} (ha : a.length = 256) (hb : b.length = 256) (hc : c.length = 256) (hL : ∀ w ∈ L, w.dev < 3 ∧ w.pl < 8 ∧ w.b.length = 256) : (AK p q r a b c L st).Ok := by
  refine ⟨(fun h => by cases h), by show 3 ≤ 8; decide, by show 8 ≤ 4096; decide, fun d hd => ?_, hL, ⟨Int.le_refl _, by show (-1 : Int) ≤ _; decide⟩⟩
  simp only [AK, List.mem_cons, List.not_mem_nil, or_false] at hd
  rcases hd with rfl | rfl | rfl
  · exact dk_fine ha
  · exact dk_fine hb
  · exact dk_fine hc
theorem ak_good {p q r : Nat} {a b c : List UInt8} {L : List LW} {st : Int} {e : List ER} {N : Nat} (ha : a.length = 256) (hb : b.length = 256) (hc : c.length = 256) (hL : ∀ w ∈ L, w.dev < 3 ∧ w.pl < 8 ∧ w.b.length = 256) (hs : 0 ≤ st ∧ st ≤ (N : Int)) (hl : L.length ≤ N) (he : e.length = 8) (hn : ∀ x ∈ e, 0 ≤ x.rd ∧ x.rd ≤ N ∧ 0 ≤ x.sm ∧ x.sm ≤ N ∧ 0 ≤ x.he ∧ x.he ≤ N) : MGood ⟨AK p q r a b c L st, e⟩ N :=
  ⟨⟨ak_ok ha hb hc hL, by show 8 ≤ 8; decide, hs, hl⟩, he, hn⟩
theorem spo_len {s : List UInt8} {k : Nat} {m : UInt8} (h : s.length = 256) : (spo s k m).length = 256 := by unfold spo; rw [List.length_set, h]
theorem zeroE_ok (N : Nat) : ∀ x ∈ zeroE, 0 ≤ x.rd ∧ x.rd ≤ N ∧ 0 ≤ x.sm ∧ x.sm ≤ N ∧ 0 ≤ x.he ∧ x.he ≤ N := by
  intro x hx
  rw [List.eq_of_mem_replicate hx]
  exact ⟨Int.le_refl _, Int.natCast_nonneg _, Int.le_refl _, Int.natCast_nonneg _, Int.le_refl _, Int.natCast_nonneg _⟩
def W0 (p q r : Nat) : MV := ⟨AK p q r (sect 0) (sect 0) (sect 0) [] 0, zeroE⟩
theorem w0_good (p q r : Nat) : MGood (W0 p q r) 10 := ak_good (sect_len _) (sect_len _) (sect_len _) (by simp) (by decide) (by decide) rfl (zeroE_ok _)
theorem w2_good (p q r : Nat) : MGood (W2 p q r) 10 := ak_good (sect_len _) (sect_len _) (sect_len _) (by simp) (by decide) (by decide) rfl (zeroE_ok _)
theorem w3_good (p q r : Nat) : MGood (W3 p q r) 10 := ak_good (spo_len (sect_len _)) (sect_len _) (sect_len _) (by simp) (by decide) (by decide) rfl (zeroE_ok _)
theorem w4_good (p q r : Nat) : MGood (W4 p q r) 10 := ak_good (spo_len (sect_len _)) (sect_len _) (sect_len _) (by intro w hw; rw [List.mem_singleton.1 hw]; exact ⟨by decide, by decide, sect_len _⟩) (by decide) (by decide) rfl (by
  intro x hx
  simp only [List.mem_cons, List.not_mem_nil, or_false] at hx
  rcases hx with rfl | rfl | rfl | rfl | rfl | rfl | rfl | rfl <;> decide)
instance sI16e : TySI Tryz.prog 71 3 := ⟨by kernel_rfl⟩
theorem eqlErr (a b c a' b' c' : Int) (w : World) : (binOp .eql 71 (.agg #[.int .i64 a, .int .i64 b, .int .i64 c]) (.agg #[.int .i64 a', .int .i64 b', .int .i64 c'])).run Tryz.prog w = .ok (.bool (([a, b, c] : List Int) == [a', b', c'])) w := run_eqlSI (P := Tryz.prog) (T := 71) (q := .i64) [a, b, c] [a', b', c'] rfl rfl
theorem guardErr (op : BinOp) (x y : Operand) (xs ys : Array Value) (w : World) : (eqGuard op 71 x y (.agg xs) (.agg ys)).run Tryz.prog w = .ok () w := run_guardSI op x y xs ys
section
attribute [local go_sem ↓] loadedPt storedPt eqlErr guardErr
theorem awake16_any (w : World) : Calls Tryz.prog 8 #[] w fun e w' => e = .returned (.bool true) ∧ St w [] w' [] := by
  have hst := St.refl w
  obtain ⟨S, hS⟩ : ∃ S, S = sumB (sect 2) := ⟨_, rfl⟩
  have HS := hid hS.symm
  have HL := hid (show L32 S from by rw [hS]; exact length_bytesS _)
  clear hS
  go_enter Tryz.func8, Tryz.ntmps8
  go_wp2_with (first | go_big_skip | go_big_guard | (go_at_call 9; refine (made16_any _).mono ?_; rintro _ _ ⟨gm, ga, x0, gs, rfl, hg, h4⟩; obtain ⟨p, q, r, rfl⟩ : ∃ p q r, gs = [p, q, r] := (match gs, hg with | [p, q, r], _ => ⟨p, q, r, rfl⟩); have hm0 : St w [] _ (mP gm ga x0 (W0 p q r) ++ []) := (by have h5 := St.call hst h4; rw [newA_ak] at h5; exact h5); clear h4 hg hst; unfold PM))
  go_wp2_with (first | go_big_skip | go_big_guard | (go_at_call 11; refine (of16_any 2 _).mono ?_; rintro _ _ ⟨gb, rfl, h4⟩; have hm1 := St.behind (A := (mP gm ga x0 (W0 p q r))) (St.call hm0 h4); clear h4 hm0) | (go_at_call 12; have HC := points_any hm1 (some ⟨gb, 0, none⟩) 256 256 (sect 2) (gb_sect (List.mem_append_right _ (.head _))).rd (sect_len _) (by decide) 2 (by omega); rw [HS.out] at HC; refine HC.mono ?_; clear HC; rintro _ _ ⟨sa, sc, rfl, h4⟩; have hm2 := St.behind (A := (mP gm ga x0 (W0 p q r))) h4; clear h4 hm1) | (refine wl_alloc (T := 34) hm2 rfl rfl ?_; intro gp _ hm3; clear hm2) | (refine wl_storeA [] hm3 rfl rfl rfl rfl (ptr_len HL.out _ _ _) (ptr_ones _ _ _ _ _ _) (ptr_len L32.nones _ _ _) ?_; intro _ hm4; clear hm3; have hm5 := St.behind (A := (mP gm ga x0 (W0 p q r))) hm4; clear hm4))
  have hX := hm5.drew
  clear hm5
  refine wp_region_held_drew (S := (fun w' => (loadVarH 34 ⟨gp, 0, none⟩).run Tryz.prog w' = .ok (.agg (List.toArray (ptrCells (.slice sa 2 sc) 1 0 S))) w')) (by kernel_rfl) (by exact Loads.blkA (P := Tryz.prog) (T := 34) (vs := (ptrCells (.slice sa 2 sc) 1 0 S)) hX (by rw [ptr_len HL.out]; exact TyA.out) (List.mem_append_right _ (.head _)) (ptr_all _ _ _ _)) (fun hHeld => ?_)
  refine tkH 0 18 ?_ rfl (by kernel_rfl) (fun _ _ _ h => h) (by rfl) (by assumption) ?_ ?_
  rotate_left
  · intro w hSw; (try dsimp only at hSw); go_simp; try with_reducible rfl
  (try simp only [pmL, pnL, sc0, sc1])
  refine tkH 1 19 ?_ rfl (by kernel_rfl) (fun _ _ _ h => h) (by rfl) (by assumption) ?_ ?_
  rotate_left
  · intro w hSw; (try dsimp only at hSw); go_simp; try with_reducible rfl
  (try simp only [pmL, pnL, sc0, sc1])
  refine wpAnyH_ready (rs := [2]) (by kernel_rfl) (by simp) ?_
  refine (AllReadyH.cons (o := ⟨some 20, _, _, _, _, _⟩) rfl (fun K hK => ?_) AllReadyH.nil)
  rw [if_pos (by rfl)]
  go_simp
  go_at_call 11
  refine (of16_any 2 _).mono ?_
  rintro _ _ ⟨g1, rfl, h4⟩
  have hm6 := St.behind (A := (mP gm ga x0 (W0 p q r))) (St.call hX h4)
  clear h4 hX
  refine hK.out _ _ ?_ (fun hHeld => ?_)
  · exact Loads.blkA (P := Tryz.prog) (T := 34) (vs := (ptrCells (.slice sa 2 sc) 1 0 S)) hm6 (by rw [ptr_len HL.out]; exact TyA.out) (List.mem_append_right _ (.tail _ (.head _))) (ptr_all _ _ _ _)
  clear hK K
  (try simp only [pmL, pnL, sc0, sc1])
  refine wpAnyH_ready (rs := [3]) (by kernel_rfl) (by simp) ?_
  refine (AllReadyH.cons (o := ⟨some 21, _, _, _, _, _⟩) rfl (fun K hK => ?_) AllReadyH.nil)
  rw [if_pos (by rfl)]
  go_simp
  go_at_call 13
  have HC := puts_any hm6 (w0_good p q r) sa 2 sc (onDevs 2) 1 0 S HL.out (fun _ h => Rd.row h (.tail _ (.tail _ (.head _)))) (onDevs_len _) (some ⟨g1, 0, none⟩) 256 256 _ (gb_sect (.head _)) (by omega) _ _ (ak_put2 ..) (ak_flush2 ..)
  refine HC.mono ?_
  clear HC
  rintro _ _ ⟨y7, rfl, h4⟩
  have hm8 : St _ _ _ ((mP gm ga y7 (W2 p q r)) ++ _) := h4
  clear h4 hm6
  refine hK.out _ _ ?_ (fun hHeld => ?_)
  · exact Loads.blkA (P := Tryz.prog) (T := 34) (vs := (ptrCells (.slice sa 2 sc) 1 0 S)) hm8 (by rw [ptr_len HL.out]; exact TyA.out) (List.mem_append_right _ (.tail _ (.head _))) (ptr_all _ _ _ _)
  clear hK K
  (try simp only [pmL, pnL, sc0, sc1])
  refine tkH 4 22 ?_ rfl (by kernel_rfl) (fun _ _ _ h => h) (by rfl) (by assumption) ?_ ?_
  rotate_left
  · intro w hSw; (try dsimp only at hSw); go_simp; try with_reducible rfl
  (try simp only [pmL, pnL, sc0, sc1])
  refine tkH 5 23 ?_ rfl (by kernel_rfl) (fun _ _ _ h => h) (by rfl) (by assumption) ?_ ?_
  rotate_left
  · intro w hSw; (try dsimp only at hSw); go_simp; try with_reducible rfl
  (try simp only [pmL, pnL, sc0, sc1])
  refine tkH 6 24 ?_ rfl (by kernel_rfl) (fun _ _ _ h => h) (by rfl) (by assumption) ?_ ?_
  rotate_left
  · intro w hSw; (try dsimp only at hSw); go_simp; try with_reducible rfl
  (try simp only [pmL, pnL, sc0, sc1])
  refine tkH 7 25 ?_ rfl (by kernel_rfl) (fun _ _ _ h => h) (by rfl) (by assumption) ?_ ?_
  rotate_left
  · intro w hSw; (try dsimp only at hSw); go_simp; try with_reducible rfl
  (try simp only [pmL, pnL, sc0, sc1])
  refine wpAnyH_ready (rs := [8]) (by kernel_rfl) (by simp) ?_
  refine (AllReadyH.cons (o := ⟨some 26, _, _, _, _, _⟩) rfl (fun K hK => ?_) AllReadyH.nil)
  rw [if_pos (by rfl)]
  go_simp
  go_at_call 11
  refine (of16_any 2 _).mono ?_
  rintro _ _ ⟨g2, rfl, h4⟩
  have hm9 := St.behind (A := (mP gm ga y7 (W2 p q r))) (St.call hm8 h4)
  clear h4 hm8
  refine hK.out _ _ ?_ (fun hHeld => ?_)
  · exact Loads.blkA (P := Tryz.prog) (T := 34) (vs := (ptrCells (.slice sa 2 sc) 1 0 S)) hm9 (by rw [ptr_len HL.out]; exact TyA.out) (List.mem_append_right _ (.tail _ (.tail _ (.head _)))) (ptr_all _ _ _ _)
  clear hK K
  (try simp only [pmL, pnL, sc0, sc1])
  refine wpAnyH_ready (rs := [9]) (by kernel_rfl) (by simp) ?_
  refine (AllReadyH.cons (o := ⟨some 27, _, _, _, _, _⟩) rfl (fun K hK => ?_) AllReadyH.nil)
  rw [if_pos (by rfl)]
  go_simp
  go_at_call 25
  have HC := gets_any hm9 (w2_good p q r) sa 2 sc (onDevs 2) 1 0 S HL.out (fun _ h => Rd.row h (.tail _ (.tail _ (.tail _ (.head _))))) (onDevs_len _) (some ⟨g2, 0, none⟩) 256 256 _ (gb_sect (.head _)) (by omega) (by decide) _ (w2_get p q r _ _ HS.out)
  refine HC.mono ?_
  clear HC
  rintro _ _ ⟨y10, rfl, h4⟩
  have hm11 : St _ _ _ ((mP gm ga y10 (W2 p q r)) ++ _) := h4
  clear h4 hm9
  refine hK.out _ _ ?_ (fun hHeld => ?_)
  · exact Loads.blkA (P := Tryz.prog) (T := 34) (vs := (ptrCells (.slice sa 2 sc) 1 0 S)) hm11 (by rw [ptr_len HL.out]; exact TyA.out) (List.mem_append_right _ (.tail _ (.tail _ (.head _)))) (ptr_all _ _ _ _)
  clear hK K
  (try simp only [pmL, pnL, sc0, sc1])
  refine tkH 10 28 ?_ rfl (by kernel_rfl) (fun _ _ _ h => h) (by rfl) (by assumption) ?_ ?_
  rotate_left
  · intro w hSw; (try dsimp only at hSw); go_simp; try with_reducible rfl
  (try simp only [pmL, pnL, sc0, sc1])
  refine tkH 11 29 ?_ rfl (by kernel_rfl) (fun _ _ _ h => h) (by rfl) (by assumption) ?_ ?_
  rotate_left
  · intro w hSw; (try dsimp only at hSw); go_simp; try with_reducible rfl
  (try simp only [pmL, pnL, sc0, sc1])
  refine tkH 12 30 ?_ rfl (by kernel_rfl) (fun _ _ _ h => h) (by rfl) (by assumption) ?_ ?_
  rotate_left
  · intro w hSw; (try dsimp only at hSw); go_simp; try with_reducible rfl
  (try simp only [pmL, pnL, sc0, sc1])
  refine tkH 13 31 ?_ rfl (by kernel_rfl) (fun _ _ _ h => h) (by rfl) (by assumption) ?_ ?_
  rotate_left
  · intro w hSw; (try dsimp only at hSw); go_simp; try with_reducible rfl
  (try simp only [pmL, pnL, sc0, sc1])
  refine wpAnyH_ready (rs := [14]) (by kernel_rfl) (by simp) ?_
  refine (AllReadyH.cons (o := ⟨some 32, _, _, _, _, _⟩) rfl (fun K hK => ?_) AllReadyH.nil)
  rw [if_pos (by rfl)]
  go_simp
  go_at_call 35
  have HC := spoilM_any (mid_in (P := [_]) (Bs := []) hm11) (w2_good p q r).sc.ok 0 5 0 1
  rw [w2_spoil, w2_spoilE] at HC
  refine HC.mono ?_
  clear HC
  rintro _ _ ⟨rfl, xs, h4⟩
  have hm12 : St _ _ _ ((mP gm ga xs (W3 p q r)) ++ _) := mid_out (P := [_]) (Bs := []) hm11 h4
  clear h4 hm11
  refine hK.out _ _ ?_ (fun hHeld => ?_)
  · exact Loads.blkA (P := Tryz.prog) (T := 34) (vs := (ptrCells (.slice sa 2 sc) 1 0 S)) hm12 (by rw [ptr_len HL.out]; exact TyA.out) (List.mem_append_right _ (.tail _ (.tail _ (.head _)))) (ptr_all _ _ _ _)
  clear hK K
  (try simp only [pmL, pnL, sc0, sc1])
  refine tkH 15 33 ?_ rfl (by kernel_rfl) (fun _ _ _ h => h) (by rfl) (by assumption) ?_ ?_
  rotate_left
  · intro w hSw; (try dsimp only at hSw); go_simp; try with_reducible rfl
  (try simp only [pmL, pnL, sc0, sc1])
  refine tkH 16 34 ?_ rfl (by kernel_rfl) (fun _ _ _ h => h) (by rfl) (by assumption) ?_ ?_
  rotate_left
  · intro w hSw; (try dsimp only at hSw); go_simp; try with_reducible rfl
  (try simp only [pmL, pnL, sc0, sc1])
  refine tkH 17 35 ?_ rfl (by kernel_rfl) (fun _ _ _ h => h) (by rfl) (by assumption) ?_ ?_
  rotate_left
  · intro w hSw; (try dsimp only at hSw); go_simp; try with_reducible rfl
  (try simp only [pmL, pnL, sc0, sc1])
  refine tkH 18 36 ?_ rfl (by kernel_rfl) (fun _ _ _ h => h) (by rfl) (by assumption) ?_ ?_
  rotate_left
  · intro w hSw; (try dsimp only at hSw); go_simp; try with_reducible rfl
  (try simp only [pmL, pnL, sc0, sc1])
  refine tkH 19 37 ?_ rfl (by kernel_rfl) (fun _ _ _ h => h) (by rfl) (by assumption) ?_ ?_
  rotate_left
  · intro w hSw; (try dsimp only at hSw); go_simp; try with_reducible rfl
  (try simp only [pmL, pnL, sc0, sc1])
  refine wpAnyH_ready (rs := [20]) (by kernel_rfl) (by simp) ?_
  refine (AllReadyH.cons (o := ⟨some 38, _, _, _, _, _⟩) rfl (fun K hK => ?_) AllReadyH.nil)
  rw [if_pos (by rfl)]
  go_simp
  go_at_call 11
  refine (of16_any 2 _).mono ?_
  rintro _ _ ⟨g3, rfl, h4⟩
  have hm13 := St.behind (A := (mP gm ga xs (W3 p q r))) (St.call hm12 h4)
  clear h4 hm12
  refine hK.out _ _ ?_ (fun hHeld => ?_)
  · exact Loads.blkA (P := Tryz.prog) (T := 34) (vs := (ptrCells (.slice sa 2 sc) 1 0 S)) hm13 (by rw [ptr_len HL.out]; exact TyA.out) (List.mem_append_right _ (.tail _ (.tail _ (.tail _ (.head _))))) (ptr_all _ _ _ _)
  clear hK K
  (try simp only [pmL, pnL, sc0, sc1])
  refine wpAnyH_ready (rs := [21]) (by kernel_rfl) (by simp) ?_
  refine (AllReadyH.cons (o := ⟨some 39, _, _, _, _, _⟩) rfl (fun K hK => ?_) AllReadyH.nil)
  rw [if_pos (by rfl)]
  go_simp
  go_at_call 25
  have HC := gets_any hm13 (w3_good p q r) sa 2 sc (onDevs 2) 1 0 S HL.out (fun _ h => Rd.row h (.tail _ (.tail _ (.tail _ (.tail _ (.head _)))))) (onDevs_len _) (some ⟨g3, 0, none⟩) 256 256 _ (gb_sect (.head _)) (by omega) (by decide) _ (w3_get p q r _ _ HS.out)
  refine HC.mono ?_
  clear HC
  rintro _ _ ⟨y14, rfl, h4⟩
  have hm15 : St _ _ _ ((mP gm ga y14 (W4 p q r)) ++ _) := h4
  clear h4 hm13
  refine hK.out _ _ ?_ (fun hHeld => ?_)
  · exact Loads.blkA (P := Tryz.prog) (T := 34) (vs := (ptrCells (.slice sa 2 sc) 1 0 S)) hm15 (by rw [ptr_len HL.out]; exact TyA.out) (List.mem_append_right _ (.tail _ (.tail _ (.tail _ (.head _))))) (ptr_all _ _ _ _)
  clear hK K
  (try simp only [pmL, pnL, sc0, sc1])
  refine tkH 22 40 ?_ rfl (by kernel_rfl) (fun _ _ _ h => h) (by rfl) (by assumption) ?_ ?_
  rotate_left
  · intro w hSw; (try dsimp only at hSw); go_simp; try with_reducible rfl
  (try simp only [pmL, pnL, sc0, sc1])
  refine tkH 23 41 ?_ rfl (by kernel_rfl) (fun _ _ _ h => h) (by rfl) (by assumption) ?_ ?_
  rotate_left
  · intro w hSw; (try dsimp only at hSw); go_simp; try with_reducible rfl
  (try simp only [pmL, pnL, sc0, sc1])
  refine wpAnyH_done (by kernel_rfl) ?_ _
  clear hHeld
  go_wp2_with (first | go_big_skip | go_big_guard | (go_at_call 36; have HC := readM_any (mid_in (P := [_]) (Bs := []) hm15) (w4_good p q r).sc.ok (Nat.lt_of_le_of_lt (w4_good p q r).sc.ll (by decide)) 0 5; rw [w4_rE, w4_rB, w4_rd] at HC; refine HC.mono ?_; clear HC; rintro _ _ ⟨u, rfl, h4⟩; have hm16 := St.behind (A := (mP gm ga y14 (W4 p q r))) (mid_outp (Q := [_]) (P := [_]) (Bs := []) hm15 h4); clear h4 hm15) | (go_at_call 11; refine (of16_any 2 _).mono ?_; rintro _ _ ⟨g4, rfl, h4⟩; have hm17 := St.behind (A := (mP gm ga y14 (W4 p q r))) (St.call hm16 h4); clear h4 hm16) | (go_at_call 18; have HC := sameBytes_any _ _ _ _ (sect 2) (sect 2) _ (Rd.row hm17 (List.mem_append_right _ (.tail _ (.head _)))) (((gb_sect (.head _)) : GB w [] _ _ _ _).rd _ (St.sub hm17 (List.sublist_append_right _ _))); rw [beq_self_eq_true] at HC; refine HC.mono ?_; clear HC; rintro _ _ ⟨rfl, h4⟩; have hm18 := St.call0 hm17 h4; clear h4 hm17) | (go_at_call 31; have HC := errs_any hm18 (w4_good p q r) 0; rw [w4_e0] at HC; refine HC.mono ?_; clear HC; unfold ER.cells; rintro _ _ ⟨rfl, h4⟩; have hm19 := St.call0 hm18 h4; clear h4 hm18) | (refine wl_buildX (cs := [.int .i64 0, .int .i64 1, .int .i64 1]) [(1, .int .i64 1), (2, .int .i64 1)] rfl rfl (by exact rfl) (by kernel_rfl) ?_) | (refine wl_build0 rfl rfl ?_) | (go_at_call 31; have HC := errs_any hm19 (w4_good p q r) 1; rw [w4_e1] at HC; refine HC.mono ?_; clear HC; unfold ER.cells; rintro _ _ ⟨rfl, h4⟩; have hm20 := St.call0 hm19 h4; clear h4 hm19))
  go_ret
  exact ⟨rfl, hm20.nil⟩
end
end Go.Proofs.YtmdfbdfijnmhkaaGreat
namespace Go.Proofs.YtmdfbdfijnmhkaaGreat
set_option linter.unusedVariables false
set_option linter.unusedSimpArgs false
open Go.RowKit Hp
set_option maxRecDepth 100000
set_option maxHeartbeats 4000000
def hsum (m : MV) (k : Nat) : Int := ((List.range k).map fun (j : Nat) => (m.errs (j : Int)).he).sum
end Go.Proofs.YtmdfbdfijnmhkaaGreat
namespace Go.Proofs.YtmdfbdfijnmhkaaGreat
set_option linter.unusedVariables false
set_option linter.unusedSimpArgs false
open Go.RowKit Hp
set_option maxRecDepth 100000
set_option maxHeartbeats 4000000
theorem get_mg {m : MV} {N : Nat} {P : PV} (h : MGood m N) : MGood (m.get P).m (N + 2 * P.l.length) := by
  unfold MV.get
  split
  · exact h.mono (Nat.le_add_right _ _)
  · split
    · exact (found_good h).mono (by omega)
    · have h1 := (found_good (S := P.S) (but := -1) (l := P.l) (ill := []) h).heals (l := (found P.S (-1) m P.l []).ill) (b := (found P.S (-1) m P.l []).b)
      have h2 := found_ill (S := P.S) (but := -1) (l := P.l) (ill := []) (m := m)
      exact h1.mono (by rw [List.length_nil] at h2; omega)
theorem cnext_mg {S : List UInt8} {c : CR} {N : Nat} {x : Int × Int} (h : MGood c.m N) : MGood (c.next S x).m (N + 1) ∧ (c.next S x).ill.length ≤ c.ill.length + 1 := by
  have h1 := h.looked x.1 x.2 S
  have h0 := h.mono (Nat.le_add_right N 1)
  unfold CR.next
  split
  · exact ⟨h0, Nat.le_succ _⟩
  · split
    · exact ⟨h1, Nat.le_succ _⟩
    · split
      · exact ⟨h1, by dsimp only; rw [List.length_append]; exact Nat.le_refl _⟩
      · split
        · exact ⟨h1, Nat.le_succ _⟩
        · exact ⟨h1, Nat.le_succ _⟩
theorem look_mg {S : List UInt8} : ∀ {l : List (Int × Int)} {c : CR} {N : Nat}, MGood c.m N → MGood (l.foldl (CR.next S) c).m (N + l.length) ∧ (l.foldl (CR.next S) c).ill.length ≤ c.ill.length + l.length
  | [], _, _, h => ⟨h, Nat.le_refl _⟩
  | x :: l, c, N, h => by
    have h1 := cnext_mg (S := S) (x := x) h
    have h2 := look_mg (S := S) (l := l) h1.1
    rw [List.foldl_cons, List.length_cons]
    exact ⟨h2.1.mono (by omega), by omega⟩
theorem mend_mg {any : Bool} {b : List UInt8} : ∀ {l : List (Int × Int)} {h : HR} {N : Nat}, MGood h.m N → MGood (l.foldl (HR.next any b) h).m (N + l.length)
  | [], _, _, h => h
  | x :: l, h, N, hg => by
    have h1 : MGood (h.next any b x).m (N + 1) := by
      unfold HR.next
      split
      · exact hg.healed _ _ _
      · dsimp only
        split
        · exact hg.healed _ _ _
        · exact hg.mono (Nat.le_add_right _ _)
    have h2 := mend_mg (any := any) (b := b) (l := l) h1
    rw [List.foldl_cons, List.length_cons]
    exact h2.mono (by omega)
theorem scan_mg {m : MV} {N : Nat} {P : PV} (h : MGood m N) : MGood (m.scan P).m (N + 2 * P.l.length) := by
  have h1 := look_mg (S := P.S) (l := P.l) (c := ⟨0, 0, [], [], m, false⟩) h
  unfold MV.scan
  split
  · exact h.mono (Nat.le_add_right _ _)
  · split
    · exact h1.1.mono (by omega)
    · have h2 := mend_mg (any := decide (0 < (m.look P).good)) (b := (m.look P).b) (l := (m.look P).ill) (h := ⟨0, 0, (m.look P).m⟩) h1.1
      have h3 : (m.look P).ill.length ≤ P.l.length := Nat.le_trans h1.2 (by show 0 + _ ≤ _; omega)
      exact h2.mono (by omega)
end Go.Proofs.YtmdfbdfijnmhkaaGreat
namespace Go.Proofs.YtmdfbdfijnmhkaaGreat
set_option linter.unusedVariables false
set_option linter.unusedSimpArgs false
open Go.RowKit Hp
set_option maxRecDepth 100000
set_option maxHeartbeats 4000000
theorem found_er {S : List UInt8} {but : Int} : ∀ {l ill : List (Int × Int)} {m : MV} {N : Nat}, MGood m N → ((found S but m l ill).er = 0 → (found S but m l ill).b.length = 256 ∧ sumB (found S but m l ill).b = S) ∧ ((found S but m l ill).er ≠ 0 → (found S but m l ill).b = [])
  | [], ill, m, N, _ => by
    unfold found
    refine ⟨fun h => ?_, fun _ => rfl⟩
    exfalso
    revert h
    show (if ill = [] then (13 : Int) else 12) = 0 → False
    split <;> decide
  | x :: l, ill, m, N, hg => by
    have hn := hg.looked x.1 x.2 S
    unfold found
    split
    · exact found_er hg
    · split
      · rename_i hk
        refine ⟨fun _ => ?_, fun h => absurd rfl h⟩
        dsimp only
        unfold MV.lookB
        rw [if_pos hk]
        have hr : m.a.readE x.1 x.2 = 0 ∧ sumB (m.a.readB x.1 x.2) = S := by
          unfold MV.kind at hk
          split at hk
          · cases hk
          · split at hk
            · cases hk
            · rename_i h2
              split at hk
              · rename_i h3
                exact ⟨by simpa using h2, h3⟩
              · cases hk
        exact ⟨readB_len hg.sc.ok hr.1, hr.2⟩
      · split
        · exact found_er hn
        · split
          · exact ⟨fun h => absurd (show (10 : Int) = 0 from h) (by decide), fun _ => rfl⟩
          · exact found_er hn
theorem get_er {m : MV} {P : PV} {N : Nat} (hg : MGood m N) : ((m.get P).er = 0 → (m.get P).b.length = 256 ∧ sumB (m.get P).b = P.S) ∧ ((m.get P).er ≠ 0 → (m.get P).b = []) := by
  have hf := found_er (S := P.S) (but := -1) (l := P.l) (ill := []) hg
  unfold MV.get
  split
  · rename_i h
    exact ⟨fun h' => absurd h' h, fun _ => rfl⟩
  · split
    · rename_i h
      exact ⟨fun h' => absurd h' h, fun _ => rfl⟩
    · rename_i h
      exact ⟨fun _ => hf.1 (by simpa using h), fun h' => absurd rfl h'⟩
theorem look_cnt {S : List UInt8} : ∀ {l : List (Int × Int)} {c : CR}, (l.foldl (CR.next S) c).out = false → (l.foldl (CR.next S) c).good + (l.foldl (CR.next S) c).lost + (l.foldl (CR.next S) c).ill.length = c.good + c.lost + c.ill.length + l.length
  | [], _, _ => rfl
  | x :: l, c, h => by
    rw [List.foldl_cons] at h ⊢
    have ih := look_cnt (S := S) (l := l) (c := c.next S x) h
    have ho : (c.next S x).out = false := by
      cases hc : (c.next S x).out
      · rfl
      · rw [look_stays hc] at h
        rw [hc] at h
        cases h
    rw [ih, List.length_cons]
    have hs : (c.next S x).good + (c.next S x).lost + (c.next S x).ill.length = c.good + c.lost + c.ill.length + 1 := by
      unfold CR.next at ho ⊢
      split
      · rename_i h1
        rw [if_pos h1] at ho
        rw [h1] at ho
        cases ho
      · split
        · dsimp only; omega
        · split
          · dsimp only; rw [List.length_append]; simp; omega
          · split
            · dsimp only; omega
            · rename_i h1 h2 h3 h4
              rw [if_neg h1, if_neg h2, if_neg h3, if_neg h4] at ho
              cases ho
    omega
theorem mend_cnt {any : Bool} {b : List UInt8} : ∀ {l : List (Int × Int)} {h : HR}, (l.foldl (HR.next any b) h).he + (l.foldl (HR.next any b) h).bad = h.he + h.bad + l.length
  | [], _ => rfl
  | x :: l, h => by
    have ih := mend_cnt (any := any) (b := b) (l := l) (h := h.next any b x)
    rw [List.foldl_cons, ih, List.length_cons]
    have hs : (h.next any b x).he + (h.next any b x).bad = h.he + h.bad + 1 := by
      unfold HR.next
      split
      · dsimp only; omega
      · dsimp only; omega
    omega
theorem scan_cnt {m : MV} {P : PV} : ((m.scan P).er = 0 → (m.scan P).good + (m.scan P).he + (m.scan P).bad + (m.scan P).lost = P.l.length) ∧ ((m.scan P).er ≠ 0 → (m.scan P).good = 0 ∧ (m.scan P).he = 0 ∧ (m.scan P).bad = 0 ∧ (m.scan P).lost = 0) := by
  unfold MV.scan
  split
  · rename_i h
    exact ⟨fun h' => absurd h' h, fun _ => ⟨rfl, rfl, rfl, rfl⟩⟩
  · split
    · exact ⟨fun h' => absurd (show (10 : Int) = 0 from h') (by decide), fun _ => ⟨rfl, rfl, rfl, rfl⟩⟩
    · rename_i h
      refine ⟨fun _ => ?_, fun h' => absurd rfl h'⟩
      have ho : (m.look P).out = false := by simpa using h
      have h1 := look_cnt (S := P.S) (l := P.l) (c := ⟨0, 0, [], [], m, false⟩) ho
      have h2 := mend_cnt (any := decide (0 < (m.look P).good)) (b := (m.look P).b) (l := (m.look P).ill) (h := ⟨0, 0, (m.look P).m⟩)
      have h3 : (m.look P).good + (m.look P).lost + (m.look P).ill.length = P.l.length := by
        have h4 : (m.look P).good + (m.look P).lost + (m.look P).ill.length = 0 + 0 + 0 + P.l.length := h1
        omega
      have h5 : (m.look P).mend.he + (m.look P).mend.bad = 0 + 0 + (m.look P).ill.length := h2
      dsimp only
      omega
end Go.Proofs.YtmdfbdfijnmhkaaGreat
namespace Go.Proofs.YtmdfbdfijnmhkaaGreat
set_option linter.unusedVariables false
set_option linter.unusedSimpArgs false
open Go.RowKit Hp
set_option maxRecDepth 100000
set_option maxHeartbeats 4000000
def ER.le (a b : ER) : Prop := a.rd ≤ b.rd ∧ a.sm ≤ b.sm ∧ a.he ≤ b.he
theorem ER.le.refl (a : ER) : a.le a := ⟨Int.le_refl _, Int.le_refl _, Int.le_refl _⟩
theorem ER.le.trans {a b c : ER} (h : a.le b) (k : b.le c) : a.le c := ⟨Int.le_trans h.1 k.1, Int.le_trans h.2.1 k.2.1, Int.le_trans h.2.2 k.2.2⟩
def Grow (e f : List ER) : Prop := ∀ k : Nat, (e.getD k ⟨0, 0, 0⟩).le (f.getD k ⟨0, 0, 0⟩)
theorem Grow.refl (e : List ER) : Grow e e := fun _ => ER.le.refl _
theorem Grow.trans {e f g : List ER} (h : Grow e f) (k : Grow f g) : Grow e g := fun j => (h j).trans (k j)
theorem Grow.modify {e : List ER} (k : Nat) {f : ER → ER} (hf : ∀ a : ER, a.le (f a)) : Grow e (e.modify k f) := by
  intro j
  rw [List.getD_eq_getElem?_getD, List.getD_eq_getElem?_getD, List.getElem?_modify]
  by_cases h : k = j
  · subst h
    cases e[k]? with
    | none => exact ER.le.refl _
    | some a => simpa using hf a
  · simp only [h, if_false, id_eq, Option.map_id']
    cases e[j]? <;> exact ER.le.refl _
theorem fRd_le (a : ER) : a.le (fRd a) := ⟨by show a.rd ≤ a.rd + 1; omega, Int.le_refl _, Int.le_refl _⟩
theorem fSm_le (a : ER) : a.le (fSm a) := ⟨Int.le_refl _, by show a.sm ≤ a.sm + 1; omega, Int.le_refl _⟩
theorem fHe_le (a : ER) : a.le (fHe a) := ⟨Int.le_refl _, Int.le_refl _, by show a.he ≤ a.he + 1; omega⟩
theorem grow_looked (m : MV) (dev pl : Int) (S : List UInt8) : Grow m.e (m.looked dev pl S).e := by
  unfold MV.looked
  dsimp only
  split
  · exact Grow.modify _ fRd_le
  · split
    · exact Grow.modify _ fSm_le
    · exact Grow.refl _
theorem grow_healed (m : MV) (dev pl : Int) (b : List UInt8) : Grow m.e (m.healed dev pl b).e := by
  unfold MV.healed
  dsimp only
  split
  · exact Grow.modify _ fHe_le
  · exact Grow.refl _
theorem grow_heals {b : List UInt8} : ∀ (l : List (Int × Int)) (m : MV), Grow m.e (m.heals l b).e
  | [], _ => Grow.refl _
  | x :: l, m => (grow_healed m x.1 x.2 b).trans (grow_heals l _)
theorem grow_found {S : List UInt8} {but : Int} : ∀ (l ill : List (Int × Int)) (m : MV), Grow m.e (found S but m l ill).m.e
  | [], _, _ => Grow.refl _
  | x :: l, ill, m => by
    have h := grow_looked m x.1 x.2 S
    unfold found
    split
    · exact grow_found l ill m
    · split
      · exact h
      · split
        · exact h.trans (grow_found l _ _)
        · split
          · exact h
          · exact h.trans (grow_found l _ _)
theorem grow_get (m : MV) (P : PV) : Grow m.e (m.get P).m.e := by
  unfold MV.get
  split
  · exact Grow.refl _
  · split
    · exact grow_found _ _ _
    · exact (grow_found _ _ _).trans (grow_heals _ _)
theorem grow_next {S : List UInt8} (c : CR) (x : Int × Int) : Grow c.m.e (c.next S x).m.e := by
  have h := grow_looked c.m x.1 x.2 S
  unfold CR.next
  split
  · exact Grow.refl _
  · split
    · exact h
    · split
      · exact h
      · split
        · exact h
        · exact h
theorem grow_look {S : List UInt8} : ∀ (l : List (Int × Int)) (c : CR), Grow c.m.e (l.foldl (CR.next S) c).m.e
  | [], _ => Grow.refl _
  | x :: l, c => (grow_next c x).trans (grow_look l _)
theorem grow_mend {any : Bool} {b : List UInt8} : ∀ (l : List (Int × Int)) (h : HR), Grow h.m.e (l.foldl (HR.next any b) h).m.e
  | [], _ => Grow.refl _
  | x :: l, h => by
    refine Grow.trans ?_ (grow_mend l (h.next any b x))
    unfold HR.next
    split
    · exact grow_healed _ _ _ _
    · dsimp only
      split
      · exact grow_healed _ _ _ _
      · exact Grow.refl _
theorem grow_scan (m : MV) (P : PV) : Grow m.e (m.scan P).m.e := by
  unfold MV.scan
  split
  · exact Grow.refl _
  · split
    · exact grow_look _ _
    · exact (grow_look (S := P.S) P.l ⟨0, 0, [], [], m, false⟩).trans (grow_mend _ _)
theorem grow_restore (m : MV) (P : PV) (dev : Int) : Grow m.e (m.restore P dev).m.e := by
  unfold MV.restore
  split
  · exact Grow.refl _
  · split
    · exact Grow.refl _
    · split
      · exact Grow.refl _
      · split
        · exact grow_found _ _ _
        · exact grow_found _ _ _
end Go.Proofs.YtmdfbdfijnmhkaaGreat
namespace Go.Proofs.YtmdfbdfijnmhkaaGreat
set_option linter.unusedVariables false
set_option linter.unusedSimpArgs false
open Go.RowKit Hp
attribute [local irreducible] Go.Calls Go.wpList
set_option maxRecDepth 100000
set_option maxHeartbeats 4000000
def Bef (y : AC) (a a' : AR) : Prop :=
  (y.k = 0 ∧ a' = a.write y.dev y.pl y.B) ∨ (y.k = 1 ∧ a' = a.flush y.dev) ∨ (y.k = 2 ∧ a' = a.read y.dev y.pl) ∨ (y.k = 3 ∧ a' = a.crash y.K y.n) ∨ (y.k = 4 ∧ a' = a.fused y.n) ∨ (y.k = 5 ∧ a' = a.spoil y.dev y.pl y.n y.mask) ∨ (y.k = 6 ∧ a' = a.lose y.dev) ∨ (y.k = 7 ∧ a' = a.stray y.dev y.pl) ∨ (y.k = 8 ∧ a' = a.fails y.dev y.n) ∨ (y.k = 9 ∧ a' = a.pull y.dev) ∨ (y.k = 10 ∧ ∃ g, a' = a.fit y.dev g) ∨ a' = a
section
theorem loadedIb (A : Addr) : loadVar 3 A = loadVarH 3 A := rfl
theorem loadedUb (A : Addr) : loadVar 5 A = loadVarH 5 A := rfl
theorem loadedBb (A : Addr) : loadVar 28 A = loadVarH 28 A := rfl
theorem loadedLb (A : Addr) : loadVar 47 A = loadVarH 47 A := rfl
attribute [local go_sem ↓] loadedIb loadedUb loadedBb loadedLb
attribute [local irreducible] Hp.Loads
theorem arF_off {w0 w : World} {R : List HA} {gm ga : Nat} {x : GA} {m : MV} (h : St w0 [] w (mP gm ga x m ++ R)) : ∀ k ∈ arF ga x m.a, w0.heap.size ≤ k := by
  intro k hk
  obtain ⟨p, hp, hf⟩ := List.mem_filterMap.1 hk
  rcases h.own p (List.mem_append_left _ (List.mem_cons_of_mem _ hp)) _ hf with h9 | h9
  · exact h9
  · cases h9
theorem bef16_write {w0 w : World} {R : List HA} {gm ga : Nat} {x : GA} {m : MV} {N : Nat} (hS : St w0 [] w (mP gm ga x m ++ R)) (hg : MGood m N) (hN : N ≤ 800000) (y : AC) (hy : y.Ok w0) (hk : y.k = 0) :
    Calls Tryz.prog 21 #[.pointer (some ⟨ga, 0, none⟩), .agg (List.toArray y.cells)] w fun e w' => e = .returned (.tuple #[]) ∧ ∃ x' a', Bef y m.a a' ∧ MGood (m.withA a') (N + 1) ∧ St w0 [] w' (mP gm ga x' (m.withA a') ++ R) := by
  have hst := hS
  have HG := hid hg
  have HY := hid hy
  clear hS hg hy
  have HK := hid hk
  clear hk
  go_enter Tryz.func21, Tryz.ntmps21
  go_wp2_with (first | go_big_skip | go_big_guard | (refine wl_boxA hst rfl rfl rfl ?_; intro g3 w1 hst0; clear hst; have hst1 := St.behind (A := mP gm ga x m) hst0; clear hst0) | (refine wl_loadE rfl rfl rfl ?_; first | refine ⟨_, Loads.blk (P := Tryz.prog) (T := 3) (off := 0) (v := .int .i64 0) hst1 TyS.out (List.mem_append_right _ (.head _)) (show some (Value.int .i64 y.k) = _ from by rw [HK.out]), ?_⟩ | refine ⟨_, Loads.blk (P := Tryz.prog) (T := 3) (off := 1) (v := .int .i64 y.dev) hst1 TyS.out (List.mem_append_right _ (.head _)) rfl, ?_⟩ | refine ⟨_, Loads.blk (P := Tryz.prog) (T := 3) (off := 2) (v := .int .i64 y.pl) hst1 TyS.out (List.mem_append_right _ (.head _)) rfl, ?_⟩ | refine ⟨_, Loads.blk (P := Tryz.prog) (T := 28) (off := 5) (v := .slice y.bo y.bn y.bc) hst1 TyS.out (List.mem_append_right _ (.head _)) rfl, ?_⟩) | (go_at_call 44; have HC := writeM_any (mid_in (P := [_]) (Bs := []) hst1) HG.out.sc.ok (HG.out.st (by omega)) (HG.out.ll (by omega)) y.dev y.pl y.bo y.bn y.bc y.B (Rd.old hst1 HY.out.rb) HY.out.lb (Off.old HY.out.rb (by decide) (arF_off hst1)); refine HC.mono ?_; clear HC; rintro _ _ ⟨rfl, x2, h4⟩; have hst2 := mid_out (P := [_]) (Bs := []) hst1 h4; clear h4 hst1))
  go_end0
  exact ⟨rfl, x2, m.a.write y.dev y.pl y.B, by unfold Bef; exact .inl ⟨HK.out, rfl⟩, HG.out.arr (HG.out.sc.ok.write _ _ _) (Stays.write _ _ _ _), sub_x (A := mP gm ga x2 (m.withA (m.a.write y.dev y.pl y.B))) hst2⟩
theorem bef16_flush {w0 w : World} {R : List HA} {gm ga : Nat} {x : GA} {m : MV} {N : Nat} (hS : St w0 [] w (mP gm ga x m ++ R)) (hg : MGood m N) (hN : N ≤ 800000) (y : AC) (hy : y.Ok w0) (hk : y.k = 1) :
    Calls Tryz.prog 21 #[.pointer (some ⟨ga, 0, none⟩), .agg (List.toArray y.cells)] w fun e w' => e = .returned (.tuple #[]) ∧ ∃ x' a', Bef y m.a a' ∧ MGood (m.withA a') (N + 1) ∧ St w0 [] w' (mP gm ga x' (m.withA a') ++ R) := by
  have hst := hS
  have HG := hid hg
  have HY := hid hy
  clear hS hg hy
  have HK := hid hk
  clear hk
  go_enter Tryz.func21, Tryz.ntmps21
  go_wp2_with (first | go_big_skip | go_big_guard | (refine wl_boxA hst rfl rfl rfl ?_; intro g3 w1 hst0; clear hst; have hst1 := St.behind (A := mP gm ga x m) hst0; clear hst0) | (refine wl_loadE rfl rfl rfl ?_; first | refine ⟨_, Loads.blk (P := Tryz.prog) (T := 3) (off := 0) (v := .int .i64 1) hst1 TyS.out (List.mem_append_right _ (.head _)) (show some (Value.int .i64 y.k) = _ from by rw [HK.out]), ?_⟩ | refine ⟨_, Loads.blk (P := Tryz.prog) (T := 3) (off := 1) (v := .int .i64 y.dev) hst1 TyS.out (List.mem_append_right _ (.head _)) rfl, ?_⟩) | (go_at_call 52; have HC := flushM_any (mid_in (P := [_]) (Bs := []) hst1) HG.out.sc.ok (HG.out.st (by omega)) (HG.out.ll (by omega)) y.dev; refine HC.mono ?_; clear HC; rintro _ _ ⟨rfl, x2, h4⟩; have hst2 := mid_out (P := [_]) (Bs := []) hst1 h4; clear h4 hst1))
  go_end0
  exact ⟨rfl, x2, m.a.flush y.dev, by unfold Bef; refine .inr ?_; exact .inl ⟨HK.out, rfl⟩, HG.out.arr (HG.out.sc.ok.flush _) (Stays.flush _ _), sub_x (A := mP gm ga x2 (m.withA (m.a.flush y.dev))) hst2⟩
theorem bef16_read {w0 w : World} {R : List HA} {gm ga : Nat} {x : GA} {m : MV} {N : Nat} (hS : St w0 [] w (mP gm ga x m ++ R)) (hg : MGood m N) (hN : N ≤ 800000) (y : AC) (hy : y.Ok w0) (hk : y.k = 2) :
    Calls Tryz.prog 21 #[.pointer (some ⟨ga, 0, none⟩), .agg (List.toArray y.cells)] w fun e w' => e = .returned (.tuple #[]) ∧ ∃ x' a', Bef y m.a a' ∧ MGood (m.withA a') (N + 1) ∧ St w0 [] w' (mP gm ga x' (m.withA a') ++ R) := by
  have hst := hS
  have HG := hid hg
  have HY := hid hy
  clear hS hg hy
  have HK := hid hk
  clear hk
  go_enter Tryz.func21, Tryz.ntmps21
  go_wp2_with (first | go_big_skip | go_big_guard | (refine wl_boxA hst rfl rfl rfl ?_; intro g3 w1 hst0; clear hst; have hst1 := St.behind (A := mP gm ga x m) hst0; clear hst0) | (refine wl_loadE rfl rfl rfl ?_; first | refine ⟨_, Loads.blk (P := Tryz.prog) (T := 3) (off := 0) (v := .int .i64 2) hst1 TyS.out (List.mem_append_right _ (.head _)) (show some (Value.int .i64 y.k) = _ from by rw [HK.out]), ?_⟩ | refine ⟨_, Loads.blk (P := Tryz.prog) (T := 3) (off := 1) (v := .int .i64 y.dev) hst1 TyS.out (List.mem_append_right _ (.head _)) rfl, ?_⟩ | refine ⟨_, Loads.blk (P := Tryz.prog) (T := 3) (off := 2) (v := .int .i64 y.pl) hst1 TyS.out (List.mem_append_right _ (.head _)) rfl, ?_⟩) | (go_at_call 36; have HC := readM_any (mid_in (P := [_]) (Bs := []) hst1) HG.out.sc.ok (HG.out.ll (by omega)) y.dev y.pl; refine HC.mono ?_; clear HC; rintro _ _ ⟨u, rfl, h4⟩; have hst2 := St.tl (mid_outp (Q := [_]) (P := [_]) (Bs := []) hst1 h4); clear h4 hst1))
  go_end0
  exact ⟨rfl, x, m.a.read y.dev y.pl, by unfold Bef; refine .inr ?_; refine .inr ?_; exact .inl ⟨HK.out, rfl⟩, HG.out.arr (HG.out.sc.ok.read _ _) (Stays.read _ _ _), sub_x (A := mP gm ga x (m.withA (m.a.read y.dev y.pl))) hst2⟩
theorem bef16_crash {w0 w : World} {R : List HA} {gm ga : Nat} {x : GA} {m : MV} {N : Nat} (hS : St w0 [] w (mP gm ga x m ++ R)) (hg : MGood m N) (hN : N ≤ 800000) (y : AC) (hy : y.Ok w0) (hk : y.k = 3) :
    Calls Tryz.prog 21 #[.pointer (some ⟨ga, 0, none⟩), .agg (List.toArray y.cells)] w fun e w' => e = .returned (.tuple #[]) ∧ ∃ x' a', Bef y m.a a' ∧ MGood (m.withA a') (N + 1) ∧ St w0 [] w' (mP gm ga x' (m.withA a') ++ R) := by
  have hst := hS
  have HG := hid hg
  have HY := hid hy
  clear hS hg hy
  have HK := hid hk
  clear hk
  go_enter Tryz.func21, Tryz.ntmps21
  go_wp2_with (first | go_big_skip | go_big_guard | (refine wl_boxA hst rfl rfl rfl ?_; intro g3 w1 hst0; clear hst; have hst1 := St.behind (A := mP gm ga x m) hst0; clear hst0) | (refine wl_loadE rfl rfl rfl ?_; first | refine ⟨_, Loads.blk (P := Tryz.prog) (T := 3) (off := 0) (v := .int .i64 3) hst1 TyS.out (List.mem_append_right _ (.head _)) (show some (Value.int .i64 y.k) = _ from by rw [HK.out]), ?_⟩ | refine ⟨_, Loads.blk (P := Tryz.prog) (T := 47) (off := 6) (v := .slice y.ko y.kn y.kc) hst1 TyS.out (List.mem_append_right _ (.head _)) rfl, ?_⟩ | refine ⟨_, Loads.blk (P := Tryz.prog) (T := 3) (off := 3) (v := .int .i64 y.n) hst1 TyS.out (List.mem_append_right _ (.head _)) rfl, ?_⟩) | (go_at_call 53; have HC := crashM_any (mid_in (P := [_]) (Bs := []) hst1) HG.out.sc.ok (HG.out.ll (by omega)) y.ko y.kn y.kc y.K (Rd.old hst1 HY.out.rk) HY.out.lk (Off.old HY.out.rk (by decide) (arF_off hst1)) y.n; refine HC.mono ?_; clear HC; rintro _ _ ⟨rfl, x2, h4⟩; have hst2 := mid_out (P := [_]) (Bs := []) hst1 h4; clear h4 hst1))
  go_end0
  exact ⟨rfl, x2, m.a.crash y.K y.n, by unfold Bef; refine .inr ?_; refine .inr ?_; refine .inr ?_; exact .inl ⟨HK.out, rfl⟩, HG.out.arr (HG.out.sc.ok.crash _ _) (Stays.crash HG.out.sc.ok _ _), sub_x (A := mP gm ga x2 (m.withA (m.a.crash y.K y.n))) hst2⟩
theorem bef16_fuse {w0 w : World} {R : List HA} {gm ga : Nat} {x : GA} {m : MV} {N : Nat} (hS : St w0 [] w (mP gm ga x m ++ R)) (hg : MGood m N) (hN : N ≤ 800000) (y : AC) (hy : y.Ok w0) (hk : y.k = 4) :
    Calls Tryz.prog 21 #[.pointer (some ⟨ga, 0, none⟩), .agg (List.toArray y.cells)] w fun e w' => e = .returned (.tuple #[]) ∧ ∃ x' a', Bef y m.a a' ∧ MGood (m.withA a') (N + 1) ∧ St w0 [] w' (mP gm ga x' (m.withA a') ++ R) := by
  have hst := hS
  have HG := hid hg
  have HY := hid hy
  clear hS hg hy
  have HK := hid hk
  clear hk
  go_enter Tryz.func21, Tryz.ntmps21
  go_wp2_with (first | go_big_skip | go_big_guard | (refine wl_boxA hst rfl rfl rfl ?_; intro g3 w1 hst0; clear hst; have hst1 := St.behind (A := mP gm ga x m) hst0; clear hst0) | (refine wl_loadE rfl rfl rfl ?_; first | refine ⟨_, Loads.blk (P := Tryz.prog) (T := 3) (off := 0) (v := .int .i64 4) hst1 TyS.out (List.mem_append_right _ (.head _)) (show some (Value.int .i64 y.k) = _ from by rw [HK.out]), ?_⟩ | refine ⟨_, Loads.blk (P := Tryz.prog) (T := 3) (off := 3) (v := .int .i64 y.n) hst1 TyS.out (List.mem_append_right _ (.head _)) rfl, ?_⟩) | (go_at_call 54; have HC := fuseM_any (mid_in (P := [_]) (Bs := []) hst1) HG.out.sc.ok y.n; refine HC.mono ?_; clear HC; rintro _ _ ⟨rfl, h4⟩; have hst2 := mid_out (P := [_]) (Bs := []) hst1 h4; clear h4 hst1))
  go_end0
  exact ⟨rfl, x, m.a.fused y.n, by unfold Bef; refine .inr ?_; refine .inr ?_; refine .inr ?_; refine .inr ?_; exact .inl ⟨HK.out, rfl⟩, HG.out.arr (HG.out.sc.ok.fused (HY.out.n.2)) (Stays.fused _ _), sub_x (A := mP gm ga x (m.withA (m.a.fused y.n))) hst2⟩
theorem bef16_spoil {w0 w : World} {R : List HA} {gm ga : Nat} {x : GA} {m : MV} {N : Nat} (hS : St w0 [] w (mP gm ga x m ++ R)) (hg : MGood m N) (hN : N ≤ 800000) (y : AC) (hy : y.Ok w0) (hk : y.k = 5) :
    Calls Tryz.prog 21 #[.pointer (some ⟨ga, 0, none⟩), .agg (List.toArray y.cells)] w fun e w' => e = .returned (.tuple #[]) ∧ ∃ x' a', Bef y m.a a' ∧ MGood (m.withA a') (N + 1) ∧ St w0 [] w' (mP gm ga x' (m.withA a') ++ R) := by
  have hst := hS
  have HG := hid hg
  have HY := hid hy
  clear hS hg hy
  have HK := hid hk
  clear hk
  go_enter Tryz.func21, Tryz.ntmps21
  go_wp2_with (first | go_big_skip | go_big_guard | (refine wl_boxA hst rfl rfl rfl ?_; intro g3 w1 hst0; clear hst; have hst1 := St.behind (A := mP gm ga x m) hst0; clear hst0) | (refine wl_loadE rfl rfl rfl ?_; first | refine ⟨_, Loads.blk (P := Tryz.prog) (T := 3) (off := 0) (v := .int .i64 5) hst1 TyS.out (List.mem_append_right _ (.head _)) (show some (Value.int .i64 y.k) = _ from by rw [HK.out]), ?_⟩ | refine ⟨_, Loads.blk (P := Tryz.prog) (T := 3) (off := 1) (v := .int .i64 y.dev) hst1 TyS.out (List.mem_append_right _ (.head _)) rfl, ?_⟩ | refine ⟨_, Loads.blk (P := Tryz.prog) (T := 3) (off := 2) (v := .int .i64 y.pl) hst1 TyS.out (List.mem_append_right _ (.head _)) rfl, ?_⟩ | refine ⟨_, Loads.blk (P := Tryz.prog) (T := 3) (off := 3) (v := .int .i64 y.n) hst1 TyS.out (List.mem_append_right _ (.head _)) rfl, ?_⟩ | refine ⟨_, Loads.blk (P := Tryz.prog) (T := 5) (off := 4) (v := .int .u8 y.mask.toNat) hst1 TyS.out (List.mem_append_right _ (.head _)) rfl, ?_⟩) | (go_at_call 35; have HC := spoilM_any (mid_in (P := [_]) (Bs := []) hst1) HG.out.sc.ok y.dev y.pl y.n y.mask; refine HC.mono ?_; clear HC; rintro _ _ ⟨rfl, x2, h4⟩; have hst2 := mid_out (P := [_]) (Bs := []) hst1 h4; clear h4 hst1))
  go_end0
  exact ⟨rfl, x2, m.a.spoil y.dev y.pl y.n y.mask, by unfold Bef; refine .inr ?_; refine .inr ?_; refine .inr ?_; refine .inr ?_; refine .inr ?_; exact .inl ⟨HK.out, rfl⟩, HG.out.arr (HG.out.sc.ok.spoil _ _ _ _) (Stays.spoil _ _ _ _ _), sub_x (A := mP gm ga x2 (m.withA (m.a.spoil y.dev y.pl y.n y.mask))) hst2⟩
theorem bef16_lose {w0 w : World} {R : List HA} {gm ga : Nat} {x : GA} {m : MV} {N : Nat} (hS : St w0 [] w (mP gm ga x m ++ R)) (hg : MGood m N) (hN : N ≤ 800000) (y : AC) (hy : y.Ok w0) (hk : y.k = 6) :
    Calls Tryz.prog 21 #[.pointer (some ⟨ga, 0, none⟩), .agg (List.toArray y.cells)] w fun e w' => e = .returned (.tuple #[]) ∧ ∃ x' a', Bef y m.a a' ∧ MGood (m.withA a') (N + 1) ∧ St w0 [] w' (mP gm ga x' (m.withA a') ++ R) := by
  have hst := hS
  have HG := hid hg
  have HY := hid hy
  clear hS hg hy
  have HK := hid hk
  clear hk
  go_enter Tryz.func21, Tryz.ntmps21
  go_wp2_with (first | go_big_skip | go_big_guard | (refine wl_boxA hst rfl rfl rfl ?_; intro g3 w1 hst0; clear hst; have hst1 := St.behind (A := mP gm ga x m) hst0; clear hst0) | (refine wl_loadE rfl rfl rfl ?_; first | refine ⟨_, Loads.blk (P := Tryz.prog) (T := 3) (off := 0) (v := .int .i64 6) hst1 TyS.out (List.mem_append_right _ (.head _)) (show some (Value.int .i64 y.k) = _ from by rw [HK.out]), ?_⟩ | refine ⟨_, Loads.blk (P := Tryz.prog) (T := 3) (off := 1) (v := .int .i64 y.dev) hst1 TyS.out (List.mem_append_right _ (.head _)) rfl, ?_⟩) | (go_at_call 55; have HC := loseM_any (mid_in (P := [_]) (Bs := []) hst1) HG.out.sc.ok y.dev; refine HC.mono ?_; clear HC; rintro _ _ ⟨rfl, h4⟩; have hst2 := mid_out (P := [_]) (Bs := []) hst1 h4; clear h4 hst1))
  go_end0
  exact ⟨rfl, x, m.a.lose y.dev, by unfold Bef; refine .inr ?_; refine .inr ?_; refine .inr ?_; refine .inr ?_; refine .inr ?_; refine .inr ?_; exact .inl ⟨HK.out, rfl⟩, HG.out.arr (HG.out.sc.ok.lose _) (Stays.fell _ _ _ (fun _ => rfl)), sub_x (A := mP gm ga x (m.withA (m.a.lose y.dev))) hst2⟩
theorem bef16_stray {w0 w : World} {R : List HA} {gm ga : Nat} {x : GA} {m : MV} {N : Nat} (hS : St w0 [] w (mP gm ga x m ++ R)) (hg : MGood m N) (hN : N ≤ 800000) (y : AC) (hy : y.Ok w0) (hk : y.k = 7) :
    Calls Tryz.prog 21 #[.pointer (some ⟨ga, 0, none⟩), .agg (List.toArray y.cells)] w fun e w' => e = .returned (.tuple #[]) ∧ ∃ x' a', Bef y m.a a' ∧ MGood (m.withA a') (N + 1) ∧ St w0 [] w' (mP gm ga x' (m.withA a') ++ R) := by
  have hst := hS
  have HG := hid hg
  have HY := hid hy
  clear hS hg hy
  have HK := hid hk
  clear hk
  go_enter Tryz.func21, Tryz.ntmps21
  go_wp2_with (first | go_big_skip | go_big_guard | (refine wl_boxA hst rfl rfl rfl ?_; intro g3 w1 hst0; clear hst; have hst1 := St.behind (A := mP gm ga x m) hst0; clear hst0) | (refine wl_loadE rfl rfl rfl ?_; first | refine ⟨_, Loads.blk (P := Tryz.prog) (T := 3) (off := 0) (v := .int .i64 7) hst1 TyS.out (List.mem_append_right _ (.head _)) (show some (Value.int .i64 y.k) = _ from by rw [HK.out]), ?_⟩ | refine ⟨_, Loads.blk (P := Tryz.prog) (T := 3) (off := 1) (v := .int .i64 y.dev) hst1 TyS.out (List.mem_append_right _ (.head _)) rfl, ?_⟩ | refine ⟨_, Loads.blk (P := Tryz.prog) (T := 3) (off := 2) (v := .int .i64 y.pl) hst1 TyS.out (List.mem_append_right _ (.head _)) rfl, ?_⟩) | (go_at_call 56; have HC := strayM_any (mid_in (P := [_]) (Bs := []) hst1) HG.out.sc.ok y.dev y.pl; refine HC.mono ?_; clear HC; rintro _ _ ⟨rfl, h4⟩; have hst2 := mid_out (P := [_]) (Bs := []) hst1 h4; clear h4 hst1))
  go_end0
  exact ⟨rfl, x, m.a.stray y.dev y.pl, by unfold Bef; refine .inr ?_; refine .inr ?_; refine .inr ?_; refine .inr ?_; refine .inr ?_; refine .inr ?_; refine .inr ?_; exact .inl ⟨HK.out, rfl⟩, HG.out.arr (HG.out.sc.ok.stray _ _) (Stays.fell _ _ _ (fun _ => rfl)), sub_x (A := mP gm ga x (m.withA (m.a.stray y.dev y.pl))) hst2⟩
theorem bef16_fail {w0 w : World} {R : List HA} {gm ga : Nat} {x : GA} {m : MV} {N : Nat} (hS : St w0 [] w (mP gm ga x m ++ R)) (hg : MGood m N) (hN : N ≤ 800000) (y : AC) (hy : y.Ok w0) (hk : y.k = 8) :
    Calls Tryz.prog 21 #[.pointer (some ⟨ga, 0, none⟩), .agg (List.toArray y.cells)] w fun e w' => e = .returned (.tuple #[]) ∧ ∃ x' a', Bef y m.a a' ∧ MGood (m.withA a') (N + 1) ∧ St w0 [] w' (mP gm ga x' (m.withA a') ++ R) := by
  have hst := hS
  have HG := hid hg
  have HY := hid hy
  clear hS hg hy
  have HK := hid hk
  clear hk
  go_enter Tryz.func21, Tryz.ntmps21
  go_wp2_with (first | go_big_skip | go_big_guard | (refine wl_boxA hst rfl rfl rfl ?_; intro g3 w1 hst0; clear hst; have hst1 := St.behind (A := mP gm ga x m) hst0; clear hst0) | (refine wl_loadE rfl rfl rfl ?_; first | refine ⟨_, Loads.blk (P := Tryz.prog) (T := 3) (off := 0) (v := .int .i64 8) hst1 TyS.out (List.mem_append_right _ (.head _)) (show some (Value.int .i64 y.k) = _ from by rw [HK.out]), ?_⟩ | refine ⟨_, Loads.blk (P := Tryz.prog) (T := 3) (off := 1) (v := .int .i64 y.dev) hst1 TyS.out (List.mem_append_right _ (.head _)) rfl, ?_⟩ | refine ⟨_, Loads.blk (P := Tryz.prog) (T := 3) (off := 3) (v := .int .i64 y.n) hst1 TyS.out (List.mem_append_right _ (.head _)) rfl, ?_⟩) | (go_at_call 57; have HC := failsM_any (mid_in (P := [_]) (Bs := []) hst1) HG.out.sc.ok y.dev y.n; refine HC.mono ?_; clear HC; rintro _ _ ⟨rfl, h4⟩; have hst2 := mid_out (P := [_]) (Bs := []) hst1 h4; clear h4 hst1))
  go_end0
  exact ⟨rfl, x, m.a.fails y.dev y.n, by unfold Bef; refine .inr ?_; refine .inr ?_; refine .inr ?_; refine .inr ?_; refine .inr ?_; refine .inr ?_; refine .inr ?_; refine .inr ?_; exact .inl ⟨HK.out, rfl⟩, HG.out.arr (HG.out.sc.ok.fails _ _ (HY.out.n.2)) (Stays.fell _ _ _ (fun _ => rfl)), sub_x (A := mP gm ga x (m.withA (m.a.fails y.dev y.n))) hst2⟩
theorem bef16_pull {w0 w : World} {R : List HA} {gm ga : Nat} {x : GA} {m : MV} {N : Nat} (hS : St w0 [] w (mP gm ga x m ++ R)) (hg : MGood m N) (hN : N ≤ 800000) (y : AC) (hy : y.Ok w0) (hk : y.k = 9) :
    Calls Tryz.prog 21 #[.pointer (some ⟨ga, 0, none⟩), .agg (List.toArray y.cells)] w fun e w' => e = .returned (.tuple #[]) ∧ ∃ x' a', Bef y m.a a' ∧ MGood (m.withA a') (N + 1) ∧ St w0 [] w' (mP gm ga x' (m.withA a') ++ R) := by
  have hst := hS
  have HG := hid hg
  have HY := hid hy
  clear hS hg hy
  have HK := hid hk
  clear hk
  go_enter Tryz.func21, Tryz.ntmps21
  go_wp2_with (first | go_big_skip | go_big_guard | (refine wl_boxA hst rfl rfl rfl ?_; intro g3 w1 hst0; clear hst; have hst1 := St.behind (A := mP gm ga x m) hst0; clear hst0) | (refine wl_loadE rfl rfl rfl ?_; first | refine ⟨_, Loads.blk (P := Tryz.prog) (T := 3) (off := 0) (v := .int .i64 9) hst1 TyS.out (List.mem_append_right _ (.head _)) (show some (Value.int .i64 y.k) = _ from by rw [HK.out]), ?_⟩ | refine ⟨_, Loads.blk (P := Tryz.prog) (T := 3) (off := 1) (v := .int .i64 y.dev) hst1 TyS.out (List.mem_append_right _ (.head _)) rfl, ?_⟩) | (go_at_call 14; have HC := pullM_any (mid_in (P := [_]) (Bs := []) hst1) HG.out.sc.ok (HG.out.ll (by omega)) y.dev; refine HC.mono ?_; clear HC; rintro _ _ ⟨rfl, x2, h4⟩; have hst2 := mid_out (P := [_]) (Bs := []) hst1 h4; clear h4 hst1))
  go_end0
  exact ⟨rfl, x2, m.a.pull y.dev, by unfold Bef; refine .inr ?_; refine .inr ?_; refine .inr ?_; refine .inr ?_; refine .inr ?_; refine .inr ?_; refine .inr ?_; refine .inr ?_; refine .inr ?_; exact .inl ⟨HK.out, rfl⟩, HG.out.arr (HG.out.sc.ok.pull _) (Stays.pull _ _), sub_x (A := mP gm ga x2 (m.withA (m.a.pull y.dev))) hst2⟩
theorem bef16_fit {w0 w : World} {R : List HA} {gm ga : Nat} {x : GA} {m : MV} {N : Nat} (hS : St w0 [] w (mP gm ga x m ++ R)) (hg : MGood m N) (hN : N ≤ 800000) (y : AC) (hy : y.Ok w0) (hk : y.k = 10) :
    Calls Tryz.prog 21 #[.pointer (some ⟨ga, 0, none⟩), .agg (List.toArray y.cells)] w fun e w' => e = .returned (.tuple #[]) ∧ ∃ x' a', Bef y m.a a' ∧ MGood (m.withA a') (N + 1) ∧ St w0 [] w' (mP gm ga x' (m.withA a') ++ R) := by
  have hst := hS
  have HG := hid hg
  have HY := hid hy
  clear hS hg hy
  have HK := hid hk
  clear hk
  go_enter Tryz.func21, Tryz.ntmps21
  go_wp2_with (first | go_big_skip | go_big_guard | (refine wl_boxA hst rfl rfl rfl ?_; intro g3 w1 hst0; clear hst; have hst1 := St.behind (A := mP gm ga x m) hst0; clear hst0) | (refine wl_loadE rfl rfl rfl ?_; first | refine ⟨_, Loads.blk (P := Tryz.prog) (T := 3) (off := 0) (v := .int .i64 10) hst1 TyS.out (List.mem_append_right _ (.head _)) (show some (Value.int .i64 y.k) = _ from by rw [HK.out]), ?_⟩ | refine ⟨_, Loads.blk (P := Tryz.prog) (T := 3) (off := 1) (v := .int .i64 y.dev) hst1 TyS.out (List.mem_append_right _ (.head _)) rfl, ?_⟩) | (go_at_call 16; have HC := fitM_any (mid_in (P := [_]) (Bs := []) hst1) HG.out.sc.ok (HG.out.ll (by omega)) y.dev; refine HC.mono ?_; clear HC; rintro _ _ ⟨rfl, x2, gf, h4⟩; have hst2 := mid_out (P := [_]) (Bs := []) hst1 h4; clear h4 hst1))
  go_end0
  exact ⟨rfl, x2, m.a.fit y.dev gf, by unfold Bef; refine .inr ?_; refine .inr ?_; refine .inr ?_; refine .inr ?_; refine .inr ?_; refine .inr ?_; refine .inr ?_; refine .inr ?_; refine .inr ?_; refine .inr ?_; exact .inl ⟨HK.out, gf, rfl⟩, HG.out.arr (HG.out.sc.ok.fit _ _) (Stays.fit HG.out.sc.ok _ _), sub_x (A := mP gm ga x2 (m.withA (m.a.fit y.dev gf))) hst2⟩
theorem bef16_none {w0 w : World} {R : List HA} {gm ga : Nat} {x : GA} {m : MV} {N : Nat} (hS : St w0 [] w (mP gm ga x m ++ R)) (hg : MGood m N) (hN : N ≤ 800000) (y : AC) (hy : y.Ok w0) (d0 : (y.k == 0) = false) (d1 : (y.k == 1) = false) (d2 : (y.k == 2) = false) (d3 : (y.k == 3) = false) (d4 : (y.k == 4) = false) (d5 : (y.k == 5) = false) (d6 : (y.k == 6) = false) (d7 : (y.k == 7) = false) (d8 : (y.k == 8) = false) (d9 : (y.k == 9) = false) (d10 : (y.k == 10) = false) :
    Calls Tryz.prog 21 #[.pointer (some ⟨ga, 0, none⟩), .agg (List.toArray y.cells)] w fun e w' => e = .returned (.tuple #[]) ∧ ∃ x' a', Bef y m.a a' ∧ MGood (m.withA a') (N + 1) ∧ St w0 [] w' (mP gm ga x' (m.withA a') ++ R) := by
  have hst := hS
  have HG := hid hg
  have HY := hid hy
  clear hS hg hy
  go_enter Tryz.func21, Tryz.ntmps21
  go_wp2_with (first | go_big_skip | go_big_guard | (refine wl_boxA hst rfl rfl rfl ?_; intro g3 w1 hst0; clear hst; have hst1 := St.behind (A := mP gm ga x m) hst0; clear hst0) | (refine wl_loadE rfl rfl rfl ?_; refine ⟨_, Loads.blk (P := Tryz.prog) (T := 3) (off := 0) (v := .int .i64 y.k) hst1 TyS.out (List.mem_append_right _ (.head _)) rfl, ?_⟩))
  go_end0
  exact ⟨rfl, x, m.a, by unfold Bef; refine .inr ?_; refine .inr ?_; refine .inr ?_; refine .inr ?_; refine .inr ?_; refine .inr ?_; refine .inr ?_; refine .inr ?_; refine .inr ?_; refine .inr ?_; refine .inr ?_; rfl, HG.out.mono (Nat.le_succ _), sub_x hst1⟩
theorem befalls16_any {w0 w : World} {R : List HA} {gm ga : Nat} {x : GA} {m : MV} {N : Nat} (hS : St w0 [] w (mP gm ga x m ++ R)) (hg : MGood m N) (hN : N ≤ 800000) (y : AC) (hy : y.Ok w0) :
    Calls Tryz.prog 21 #[.pointer (some ⟨ga, 0, none⟩), .agg (List.toArray y.cells)] w fun e w' => e = .returned (.tuple #[]) ∧ ∃ x' a', Bef y m.a a' ∧ MGood (m.withA a') (N + 1) ∧ St w0 [] w' (mP gm ga x' (m.withA a') ++ R) := by
  by_cases h0 : y.k = 0
  · exact bef16_write hS hg hN y hy h0
  by_cases h1 : y.k = 1
  · exact bef16_flush hS hg hN y hy h1
  by_cases h2 : y.k = 2
  · exact bef16_read hS hg hN y hy h2
  by_cases h3 : y.k = 3
  · exact bef16_crash hS hg hN y hy h3
  by_cases h4 : y.k = 4
  · exact bef16_fuse hS hg hN y hy h4
  by_cases h5 : y.k = 5
  · exact bef16_spoil hS hg hN y hy h5
  by_cases h6 : y.k = 6
  · exact bef16_lose hS hg hN y hy h6
  by_cases h7 : y.k = 7
  · exact bef16_stray hS hg hN y hy h7
  by_cases h8 : y.k = 8
  · exact bef16_fail hS hg hN y hy h8
  by_cases h9 : y.k = 9
  · exact bef16_pull hS hg hN y hy h9
  by_cases h10 : y.k = 10
  · exact bef16_fit hS hg hN y hy h10
  exact bef16_none hS hg hN y hy (beq_eq_false_iff_ne.2 h0) (beq_eq_false_iff_ne.2 h1) (beq_eq_false_iff_ne.2 h2) (beq_eq_false_iff_ne.2 h3) (beq_eq_false_iff_ne.2 h4) (beq_eq_false_iff_ne.2 h5) (beq_eq_false_iff_ne.2 h6) (beq_eq_false_iff_ne.2 h7) (beq_eq_false_iff_ne.2 h8) (beq_eq_false_iff_ne.2 h9) (beq_eq_false_iff_ne.2 h10)
end
end Go.Proofs.YtmdfbdfijnmhkaaGreat
namespace Go.Proofs.YtmdfbdfijnmhkaaGreat
set_option linter.unusedVariables false
set_option linter.unusedSimpArgs false
open Go.RowKit Hp
set_option maxRecDepth 100000
set_option maxHeartbeats 4000000
theorem dl_step (a : AR) : a.step.devs.length = a.devs.length := by unfold AR.step; split <;> rfl
theorem dl_lay (a : AR) (dev pl : Int) (b : List UInt8) : (a.lay dev pl b).devs.length = a.devs.length := by
  unfold AR.lay
  split
  · exact upd_len a dev _
  · split
    · exact upd_len a dev _
    · rfl
theorem dl_write (a : AR) (dev pl : Int) (b : List UInt8) : (a.write dev pl b).devs.length = a.devs.length := by
  unfold AR.write
  split
  · rfl
  · split
    · exact dl_step a
    · exact (dl_lay _ _ _ _).trans (dl_step a)
theorem dl_flush (a : AR) (dev : Int) : (a.flush dev).devs.length = a.devs.length := by
  unfold AR.flush
  split
  · rfl
  · split
    · exact dl_step a
    · exact (upd_len a.step _ _).trans (dl_step a)
theorem dl_read (a : AR) (dev pl : Int) : (a.read dev pl).devs.length = a.devs.length := by
  unfold AR.read
  split
  · exact upd_len a dev _
  · rfl
theorem dl_fell (a : AR) (dev : Int) (rs : List Int) (f : DV → DV) : (a.fell dev rs f).devs.length = a.devs.length := by
  unfold AR.fell
  split
  · exact upd_len a dev _
  · rfl
theorem dl_crashN (a : AR) (keep : List Bool) (t : Nat) : ∀ j, (crashN a keep t j).1.devs.length = a.devs.length
  | 0 => rfl
  | j + 1 => by
    unfold crashN
    split
    · exact dl_crashN a keep t j
    · unfold crashF
      split
      · exact (upd_len _ _ _).trans (dl_crashN a keep t j)
      · split
        · exact (upd_len _ _ _).trans (dl_crashN a keep t j)
        · exact dl_crashN a keep t j
theorem dl_crash (a : AR) (keep : List Bool) (torn : Int) : (a.crash keep torn).devs.length = a.devs.length := by
  unfold AR.crash
  split
  · show ((crashN a keep torn.toNat a.loose.length).1.devs.map clean).length = _
    rw [List.length_map]
    exact dl_crashN a keep _ _
  · rfl
theorem dl_bef {y : AC} {a a' : AR} (h : Bef y a a') : a'.devs.length = a.devs.length := by
  unfold Bef at h
  rcases h with ⟨_, rfl⟩ | ⟨_, rfl⟩ | ⟨_, rfl⟩ | ⟨_, rfl⟩ | ⟨_, rfl⟩ | ⟨_, rfl⟩ | ⟨_, rfl⟩ | ⟨_, rfl⟩ | ⟨_, rfl⟩ | ⟨_, rfl⟩ | ⟨_, g, rfl⟩ | rfl
  · exact dl_write _ _ _ _
  · exact dl_flush _ _
  · exact dl_read _ _ _
  · exact dl_crash _ _ _
  · unfold AR.fused; split <;> rfl
  · unfold AR.spoil; split
    · exact upd_len a _ _
    · rfl
  · exact dl_fell _ _ _ _
  · exact dl_fell _ _ _ _
  · exact dl_fell _ _ _ _
  · unfold AR.pull; split
    · exact upd_len a _ _
    · rfl
  · unfold AR.fit; split
    · exact upd_len (a.rest _) _ _
    · rfl
  · rfl
theorem dl_heals {b : List UInt8} : ∀ (l : List (Int × Int)) (m : MV), (m.heals l b).a.devs.length = m.a.devs.length
  | [], _ => rfl
  | x :: l, m => (dl_heals l (m.healed x.1 x.2 b)).trans (dl_write m.a x.1 x.2 b)
theorem dl_found {S : List UInt8} {but : Int} : ∀ (l ill : List (Int × Int)) (m : MV), (found S but m l ill).m.a.devs.length = m.a.devs.length
  | [], _, _ => rfl
  | x :: l, ill, m => by
    have h : (m.looked x.1 x.2 S).a.devs.length = m.a.devs.length := dl_read m.a x.1 x.2
    unfold found
    split
    · exact dl_found l ill m
    · split
      · exact h
      · split
        · exact (dl_found l _ _).trans h
        · split
          · exact h
          · exact (dl_found l _ _).trans h
theorem dl_get (m : MV) (P : PV) : (m.get P).m.a.devs.length = m.a.devs.length := by
  unfold MV.get
  split
  · rfl
  · split
    · exact dl_found _ _ _
    · exact (dl_heals _ _).trans (dl_found _ _ _)
theorem dl_look {S : List UInt8} : ∀ (l : List (Int × Int)) (c : CR), (l.foldl (CR.next S) c).m.a.devs.length = c.m.a.devs.length
  | [], _ => rfl
  | x :: l, c => by
    rw [List.foldl_cons]
    refine (dl_look l _).trans ?_
    unfold CR.next
    split
    · rfl
    · split
      · exact dl_read c.m.a x.1 x.2
      · split
        · exact dl_read c.m.a x.1 x.2
        · split
          · exact dl_read c.m.a x.1 x.2
          · exact dl_read c.m.a x.1 x.2
theorem dl_mend {any : Bool} {b : List UInt8} : ∀ (l : List (Int × Int)) (h : HR), (l.foldl (HR.next any b) h).m.a.devs.length = h.m.a.devs.length
  | [], _ => rfl
  | x :: l, h => by
    rw [List.foldl_cons]
    refine (dl_mend l _).trans ?_
    unfold HR.next
    split
    · exact dl_write h.m.a x.1 x.2 b
    · dsimp only
      split
      · exact dl_write h.m.a x.1 x.2 b
      · rfl
theorem dl_scan (m : MV) (P : PV) : (m.scan P).m.a.devs.length = m.a.devs.length := by
  unfold MV.scan
  split
  · rfl
  · split
    · exact dl_look _ _
    · exact (dl_mend _ _).trans (dl_look _ _)
theorem dl_restore (m : MV) (P : PV) (dev : Int) : (m.restore P dev).m.a.devs.length = m.a.devs.length := by
  unfold MV.restore
  split
  · rfl
  · split
    · rfl
    · split
      · rfl
      · split
        · exact dl_found _ _ _
        · exact (dl_write _ _ _ _).trans (dl_found _ _ _)
theorem dl_some (n : Nat) (a : AR) : (some16 n a).a = a := by unfold some16; split <;> rfl
theorem dl_wrote {b : List UInt8} : ∀ (l : List (Int × Int)) (a : AR) (n : Nat), (wrote16 b a n l).a.devs.length = a.devs.length
  | [], a, n => by unfold wrote16; rw [dl_some]
  | x :: l, a, n => by
    have h := dl_write a x.1 x.2 b
    unfold wrote16
    split
    · exact (dl_wrote l _ _).trans h
    · split
      · exact h
      · exact (dl_wrote l _ _).trans h
theorem dl_put (m : MV) (l : List (Int × Int)) (b : List UInt8) : (m.put l b).a.devs.length = m.a.devs.length := by
  unfold MV.put
  split
  · exact dl_wrote _ _ _
  · rfl
theorem dl_flushed {d : Nat} : ∀ (k : Nat) (a : AR) (n : Nat), (flushed16 d k a n).a.devs.length = a.devs.length
  | 0, a, n => by unfold flushed16; rw [dl_some]
  | k + 1, a, n => by
    have h := dl_flush a ((d - (k + 1) : Nat) : Int)
    unfold flushed16
    split
    · exact dl_flushed k _ _
    · split
      · exact (dl_flushed k _ _).trans h
      · split
        · exact h
        · exact (dl_flushed k _ _).trans h
theorem dl_mflush (m : MV) : m.flush.a.devs.length = m.a.devs.length := by
  unfold MV.flush
  split
  · rfl
  · exact dl_flushed _ _ _
end Go.Proofs.YtmdfbdfijnmhkaaGreat
namespace Go.Proofs.YtmdfbdfijnmhkaaGreat
set_option linter.unusedVariables false
set_option linter.unusedSimpArgs false
open Go.RowKit Hp
set_option maxRecDepth 100000
set_option maxHeartbeats 4000000
theorem errs_le {m m' : MV} (h : Grow m.e m'.e) (hd : m'.a.devs.length = m.a.devs.length) (dev : Int) : (m.errs dev).le (m'.errs dev) := by
  have hi : m'.a.inD dev = m.a.inD dev := by unfold AR.inD; rw [hd]
  unfold MV.errs
  rw [hi]
  split
  · exact h dev.toNat
  · exact ER.le.refl _
theorem restore_good {m : MV} {N : Nat} (h : MGood m N) (P : PV) (dev : Int) : MGood (m.restore P dev).m (N + P.l.length + 1) := by
  unfold MV.restore
  split
  · exact h.mono (by omega)
  · split
    · exact h.mono (by omega)
    · split
      · exact h.mono (by omega)
      · have hf := found_good (S := P.S) (but := dev) (l := P.l) (ill := []) h
        split
        · exact hf.mono (by omega)
        · exact hf.arr (hf.sc.ok.write _ _ _) (Stays.write _ _ _ _)
structure Mat (D : Nat) (m : MV) (N : Nat) : Prop where
  good : MGood m N
  dl : m.a.devs.length = D
def Went (D : Nat) (m m' : MV) (N : Nat) : Prop := Mat D m' N ∧ (m.errs 0).le (m'.errs 0)
theorem went_put {D : Nat} {m : MV} {N : Nat} (h : Mat D m N) (l : List (Int × Int)) (b : List UInt8) (hl : l.length ≤ 20) : Went D m (m.withA (m.put l b).a) (N + 50) :=
  ⟨⟨(put_good h.good l b).mono (by omega), (dl_put m l b).trans h.dl⟩, errs_le (m := m) (m' := m.withA (m.put l b).a) (Grow.refl _) (dl_put m l b) 0⟩
theorem went_flush {D : Nat} {m : MV} {N : Nat} (h : Mat D m N) (hD : D ≤ 8) : Went D m (m.withA m.flush.a) (N + 50) :=
  ⟨⟨(flush_good h.good).mono (by have := h.dl; omega), (dl_mflush m).trans h.dl⟩, errs_le (m := m) (m' := m.withA m.flush.a) (Grow.refl _) (dl_mflush m) 0⟩
theorem went_get {D : Nat} {m : MV} {N : Nat} (h : Mat D m N) (P : PV) (hl : P.l.length ≤ 20) : Went D m (m.get P).m (N + 50) :=
  ⟨⟨(get_mg h.good).mono (by omega), (dl_get m P).trans h.dl⟩, errs_le (grow_get m P) (dl_get m P) 0⟩
theorem went_scan {D : Nat} {m : MV} {N : Nat} (h : Mat D m N) (P : PV) (hl : P.l.length ≤ 20) : Went D m (m.scan P).m (N + 50) :=
  ⟨⟨(scan_mg h.good).mono (by omega), (dl_scan m P).trans h.dl⟩, errs_le (grow_scan m P) (dl_scan m P) 0⟩
theorem went_restore {D : Nat} {m : MV} {N : Nat} (h : Mat D m N) (P : PV) (dev : Int) (hl : P.l.length ≤ 20) : Went D m (m.restore P dev).m (N + 50) :=
  ⟨⟨(restore_good h.good P dev).mono (by omega), (dl_restore m P dev).trans h.dl⟩, errs_le (grow_restore m P dev) (dl_restore m P dev) 0⟩
theorem went_bef {D : Nat} {m : MV} {N : Nat} {y : AC} {a' : AR} (h : Mat D m N) (hb : Bef y m.a a') (hg : MGood (m.withA a') (N + 1)) : Went D m (m.withA a') (N + 50) :=
  ⟨⟨hg.mono (by omega), (dl_bef hb).trans h.dl⟩, errs_le (m := m) (m' := m.withA a') (Grow.refl _) (dl_bef hb) 0⟩
theorem went_none {D : Nat} {m : MV} {N : Nat} (h : Mat D m N) : Went D m m (N + 50) := ⟨⟨h.good.mono (by omega), h.dl⟩, ER.le.refl _⟩
theorem tells_get {D : Nat} {m : MV} {N : Nat} (h : Mat D m N) (P : PV) (hl : P.l.length ≤ 20) : ∃ E B m', m.get P = ⟨E, B, m'⟩ ∧ ((E = 0 ∧ B.length = 256 ∧ sumB B = P.S) ∨ (E ≠ 0 ∧ B = [])) ∧ Went D m m' (N + 50) := by
  have h1 := get_er (P := P) h.good
  have h2 := went_get h P hl
  generalize m.get P = Q at h1 h2
  obtain ⟨E, B, m'⟩ := Q
  refine ⟨E, B, m', rfl, ?_, h2⟩
  by_cases hE : E = 0
  · exact .inl ⟨hE, h1.1 hE⟩
  · exact .inr ⟨hE, h1.2 hE⟩
theorem tells_scan {D : Nat} {m : MV} {N : Nat} (h : Mat D m N) (P : PV) (hl : P.l.length ≤ 20) : ∃ E g e b l m', m.scan P = ⟨E, g, e, b, l, m'⟩ ∧ ((E = 0 ∧ g + e + b + l = P.l.length) ∨ (E ≠ 0 ∧ g = 0 ∧ e = 0 ∧ b = 0 ∧ l = 0)) ∧ Went D m m' (N + 50) := by
  have h1 := scan_cnt (m := m) (P := P)
  have h2 := went_scan h P hl
  generalize m.scan P = Q at h1 h2
  obtain ⟨E, g, e, b, l, m'⟩ := Q
  refine ⟨E, g, e, b, l, m', rfl, ?_, h2⟩
  by_cases hE : E = 0
  · exact .inl ⟨hE, h1.1 hE⟩
  · exact .inr ⟨hE, h1.2 hE⟩
theorem tells_start {d : Nat} {gs : List Nat} (hd : 2 ≤ d ∧ d ≤ 8) (hg : gs.length = d) : Mat d ⟨newA 12 gs, zeroE⟩ 0 :=
  ⟨newA_mg hd (by decide) hg, (List.length_map _).trans hg⟩
end Go.Proofs.YtmdfbdfijnmhkaaGreat
namespace Go.Proofs.YtmdfbdfijnmhkaaGreat
set_option linter.unusedVariables false
set_option linter.unusedSimpArgs false
open Go.RowKit Hp
attribute [local irreducible] Go.Calls Go.wpList
set_option maxRecDepth 100000
set_option maxHeartbeats 4000000
def NoArr (w : World) (p : Option Addr) : Prop := p = none ∨ ∃ g, p = some ⟨g, 0, none⟩ ∧ w.cell? ⟨g, 0, none⟩ = some (.slice none 0 0)
def NoMir (w : World) (p : Option Addr) : Prop := p = none ∨ ∃ g, p = some ⟨g, 0, none⟩ ∧ w.cell? ⟨g, 0, none⟩ = some (.pointer none)
theorem NoArr.later {w w' : World} {L : List HA} {p : Option Addr} (h : NoArr w p) (hst : St w [] w' L) : NoArr w' p := by
  rcases h with h | ⟨g, hp, hc⟩
  · exact .inl h
  · exact .inr ⟨g, hp, hst.old_cell hc (by simp)⟩
theorem NoMir.later {w w' : World} {L : List HA} {p : Option Addr} (h : NoMir w p) (hst : St w [] w' L) : NoMir w' p := by
  rcases h with h | ⟨g, hp, hc⟩
  · exact .inl h
  · exact .inr ⟨g, hp, hst.old_cell hc (by simp)⟩
section
theorem loadedPn (A : Addr) : loadVar 34 A = loadVarH 34 A := rfl
attribute [local go_sem ↓] loadedPn
end
end Go.Proofs.YtmdfbdfijnmhkaaGreat
namespace Go.Proofs.YtmdfbdfijnmhkaaGreat
set_option linter.unusedVariables false
set_option linter.unusedSimpArgs false
open Go.RowKit Hp
attribute [local irreducible] Go.Calls Go.wpList
set_option maxRecDepth 100000
set_option maxHeartbeats 4000000
instance mnSl : TySl Tryz.prog 62 69 := ⟨by kernel_rfl⟩
instance mnE : TyE Tryz.prog 69 45 200 := ⟨by kernel_rfl⟩
instance mnA : TyA Tryz.prog 69 45 := ⟨by kernel_rfl⟩
instance mnN : TyN Tryz.prog 69 45 := ⟨by kernel_rfl⟩
instance mnEM : TyE Tryz.prog 24 1 8 := ⟨by kernel_rfl⟩
instance mnEA : TyE Tryz.prog 23 1 8 := ⟨by kernel_rfl⟩
def zMir : List Value := .pointer none :: List.replicate 24 (.int .i64 0)
instance mnB : TyB Tryz.prog 97 zMir := ⟨by kernel_rfl⟩
instance mnSc : TySI Tryz.prog 59 4 := ⟨by kernel_rfl⟩
theorem neqScan (a b c d a' b' c' d' : Int) (w : World) : (binOp .neq 59 (.agg #[.int .i64 a, .int .i64 b, .int .i64 c, .int .i64 d]) (.agg #[.int .i64 a', .int .i64 b', .int .i64 c', .int .i64 d'])).run Tryz.prog w = .ok (.bool (!(([a, b, c, d] : List Int) == [a', b', c', d']))) w := run_neqSI (P := Tryz.prog) (T := 59) (q := .i64) [a, b, c, d] [a', b', c', d'] rfl rfl
theorem guardScn (op : BinOp) (x y : Operand) (xs ys : Array Value) (w : World) : (eqGuard op 59 x y (.agg xs) (.agg ys)).run Tryz.prog w = .ok () w := run_guardSI op x y xs ys
theorem neqErr (a b c a' b' c' : Int) (w : World) : (binOp .neq 71 (.agg #[.int .i64 a, .int .i64 b, .int .i64 c]) (.agg #[.int .i64 a', .int .i64 b', .int .i64 c'])).run Tryz.prog w = .ok (.bool (!(([a, b, c] : List Int) == [a', b', c']))) w := run_neqSI (P := Tryz.prog) (T := 71) (q := .i64) [a, b, c] [a', b', c'] rfl rfl
theorem longM_is (ao : Option Addr) (N c : Nat) (ys : List MC) (w : World) (hv : Rd w (.slice ao N c) 45 N (ys.flatMap MC.cells)) (hN : ys.length = N) (hy : ∀ y ∈ ys, y.Ok w) (b : Bool) (hb : b = false ↔ shortM ys N) :
    Calls Tryz.prog 29 #[.slice ao N c] w fun e w' => e = .returned (.bool b) ∧ St w [] w' [] :=
  (longM_any ao N c ys w hv hN hy).mono fun e w' h => by
    obtain ⟨⟨b', rfl, h1⟩, h4⟩ := h
    refine ⟨?_, h4⟩
    have : b' = b := by
      cases b <;> cases b' <;> simp_all
    rw [this]
section
theorem loadedPt3 (A : Addr) : loadVar 34 A = loadVarH 34 A := rfl
theorem loadedS3 (A : Addr) : loadVar 59 A = loadVarH 59 A := rfl
theorem loadedA3 (A : Addr) : loadVar 69 A = loadVarH 69 A := rfl
attribute [local go_sem ↓] loadedPt3 loadedS3 loadedA3 neqScan guardScn neqErr guardErr
attribute [local irreducible] Hp.Loads
end
end Go.Proofs.YtmdfbdfijnmhkaaGreat
namespace Go.Proofs.YtmdfbdfijnmhkaaGreat
set_option linter.unusedVariables false
set_option linter.unusedSimpArgs false
open Go.RowKit Hp
set_option maxRecDepth 100000
theorem ow_if16 {P : Program} {ops : Array Oper} {o : Oper} {a : Act} {w : World} {K : Act → World → Prop} {Q : Exit → Act → World → Prop} {E : Prop} (hw : Region.wanted o (yielded ops a.tmps) = true) (h : wpList P ops (Q0 K Q) [o] a w) : if Region.wanted o (yielded ops a.tmps) = true then o.wp P a w K Q else E := by
  rw [if_pos hw]
  exact ow_of_wl hw h
end Go.Proofs.YtmdfbdfijnmhkaaGreat
