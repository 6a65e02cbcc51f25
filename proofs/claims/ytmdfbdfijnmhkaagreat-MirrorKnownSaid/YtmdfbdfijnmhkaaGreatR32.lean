import Derived.Test.YtmdfbdfijnmhkaaGreatR31
namespace Go.Proofs.YtmdfbdfijnmhkaaGreat
set_option linter.unusedVariables false
set_option linter.unusedSimpArgs false
open Go.RowKit Hp
attribute [local irreducible] Go.Calls Go.wpList
set_option maxRecDepth 100000
set_option maxHeartbeats 4000000
theorem wl_clearB {ops : Array Oper} {rest : List Oper} {o : Oper} {a : Act} {w0 w : World} {M : List Nat} {Q : Exit → Act → World → Prop} {t e T : TypeId} {x : Operand} {g off n c sz bytes : Nat} {cs : List Value} (L1 : List HA) {L2 : List HA} (hst : St w0 M w (L1 ++ .blk g T cs :: L2))
    (hop : o.op = .call { callee := .builtin .clear, args := #[x], argTypes := #[t] }) (hw : Region.wanted o (yielded ops a.tmps) = true) (hx : a.eval x = .slice (some ⟨g, off, none⟩) n c) (ht : TySl Tryz.prog t e) (he : TyE Tryz.prog e sz bytes) {zs : List Value} (hz : TyZ Tryz.prog e zs) (h1 : zs.all (·.oneCell') = true) (hn : 0 < n) (hf : off + n * sz ≤ cs.length)
    (h : ∀ w' cs', cs'.length = cs.length → cs'.take off = cs.take off → St w0 M w' (L1 ++ .blk g T cs' :: L2) → wpList Tryz.prog ops Q rest (a.put o.dst (.tuple #[])) w') : wpList Tryz.prog ops Q (o :: rest) a w := by
  obtain ⟨i, z, hi, hzi, hs, hb, hzs⟩ := tyE_spec he.out
  have hzz : z.cells.toList = zs := by
    have := hz.out
    unfold tyZ at this
    simpa [hi, hzi] using this
  have hg : w.heap[g]? = some (.cells cs.toArray T (0, 0)) := hst.all (.blk g T cs) (by simp)
  have hsz : (Builtin.zeroCells z.cells n).toList.length = n * sz := by rw [Array.length_toList, size_zeroCells, hzs]
  have hq : z.cells.toList.all (·.oneCell') = true := by rw [hzz]; exact h1
  have hrun := run_storeCells_at Tryz.prog g off T (Builtin.zeroCells z.cells n).toList 0 cs.toArray w hg (by rw [hsz]; simpa using hf) (zeroCells_one hq n)
  simp only [Nat.add_zero, List.append_assoc] at hrun
  have hl : (putAt cs off (Builtin.zeroCells z.cells n).toList).length = cs.length := by
    unfold putAt
    rw [List.length_append, List.length_append, hsz, List.length_take, List.length_drop]
    omega
  have htk : (putAt cs off (Builtin.zeroCells z.cells n).toList).take off = cs.take off := by
    unfold putAt
    rw [List.take_append_of_le_length (by rw [List.length_take]; omega), List.take_take, Nat.min_self]
  refine wl_run hw ?_ (h _ _ hl htk (hst.setRow _))
  obtain ⟨m, rfl⟩ : ∃ m, n = m + 1 := ⟨n - 1, by omega⟩
  unfold execOp
  simp only [hop, resolve, invoke, builtin, Sem.run_bind, Sem.run_pure, Result.andThen_ok, List.map_toArray, List.map_cons, List.map_nil, hx]
  have hzv : ∀ w, (zeroValue e).run Tryz.prog w = .ok z w := fun w => by simp [zeroValue, typeInfo, hi, hzi]
  simp only [Builtin.clear_, run_underlying ht.out, Sem.run_bind, Result.andThen_ok, hzv, hrun, List.getElem?_toArray, List.getElem?_cons_zero]
  rfl
theorem row_openL {w0 w : World} {M : List Nat} {L1 L2 : List HA} {v : Value} {T : TypeId} {sz n : Nat} {xs : List Value} (h : St w0 M w (L1 ++ .row v T sz n xs :: L2)) (hn : 0 < n) : ∃ g c rest, v = .slice (some ⟨g, 0, none⟩) n c ∧ n ≤ c ∧ c ≤ maxLen ∧ (xs ++ rest).length = c * sz ∧ St w0 M w (L1 ++ .blk g T (xs ++ rest) :: L2) := by
  obtain ⟨hl, h2⟩ := h.owns (v := v) (T := T) (sz := sz) (n := n) (xs := xs) (by simp)
  rcases h2 with ⟨_, hz⟩ | ⟨g, cap, cur, rfl, _, hh, hnc, hcm, hs, hp⟩
  · omega
  · have e : xs ++ cur.toList.drop (n * sz) = cur.toList := by rw [← hp, List.take_append_drop]
    refine ⟨g, cap, cur.toList.drop (n * sz), rfl, hnc, hcm, by rw [e]; simpa using hs, h.rep (y := .blk g T (xs ++ cur.toList.drop (n * sz))) rfl fun _ => ?_⟩
    show w.heap[g]? = _
    rw [hh, e]
theorem del_none {w : World} {g3 k : Nat} (h0 : w.cell? ⟨g3, 0, none⟩ = some (.int .i64 (k : Int))) (l : List LW) (ao : Option Addr) (n c : Nat) (hr : Rd w (.slice ao n c) 258 n (looV l)) (hn : l.length = n) (hb : ∀ v ∈ l, v.b.length = 256) (hbd : n < 1000000) (h1 : ∀ v ∈ l, (v.dev == k) = false) :
    Calls Tryz.prog 91 #[.slice ao n c, cloV 92 [ptrV g3]] w fun e w' => e = .returned (.slice ao n c) ∧ St w [] w' [] := by
  have hst0 := St.refl w
  have HC := hid (indexW_any h0 l ao n c hr hn hb hbd)
  rw [firstW_none h1] at HC
  clear h0 hr hn hb h1
  unfold cloV ptrV at HC ⊢
  go_enter Tryz.func91, Tryz.ntmps91
  go_wp2_with (first | go_big_skip | go_big_guard | (go_at_call 140; refine HC.out.mono ?_; rintro _ w2 ⟨rfl, h4⟩; have hst1 := St.call0 hst0 h4; clear h4 hst0))
  go_ret
  exact ⟨rfl, hst1⟩
theorem looV_drop {l : List LW} {j : Nat} {v : LW} (h : l[j]? = some v) : looV (l.drop j) = v.cells ++ looV (l.drop (j + 1)) := by
  obtain ⟨hlt, hg⟩ := List.getElem?_eq_some_iff.1 h
  rw [List.drop_eq_getElem_cons hlt, hg]
  rfl
theorem del_put {F mid V R : List Value} {i : Nat} (hF : F.length = i * 258) (hm : 258 ≤ mid.length) (hV : V.length = 258) : putAt (F ++ (mid ++ (V ++ R))) (i * 258) V = (F ++ V) ++ ((mid.drop 258 ++ V) ++ R) := by
  rw [putAt_many, hV, ← hF, List.take_left, ← List.drop_drop, List.drop_left, List.drop_append_of_le_length hm]
  simp only [List.append_assoc]
theorem filter_none {l : List LW} {k j : Nat} (h : ∀ i w, i < j → l[i]? = some w → (w.dev == k) = false) : (l.take j).filter (fun w => w.dev != k) = l.take j := by
  rw [List.filter_eq_self]
  intro v hv
  obtain ⟨i, hi⟩ := List.getElem?_of_mem hv
  rw [List.getElem?_take] at hi
  split at hi
  · rename_i hlt
    have := h i v hlt hi
    simp at this ⊢
    exact this
  · cases hi
theorem del_some {w : World} {g3 g k i0 : Nat} {v0 : LW} (h0 : w.cell? ⟨g3, 0, none⟩ = some (.int .i64 (k : Int))) (l : List LW) (n c : Nat) (rest : List Value) (hS : St w [g] w [.blk g 149 (looV l ++ rest)]) (hg3 : g3 ≠ g) (hc : n ≤ c ∧ c ≤ maxLen) (hcs : (looV l ++ rest).length = c * 258) (hn : l.length = n) (hb : ∀ v ∈ l, v.b.length = 256) (hbd : n < 1000000)
    (hi1 : ∀ i w, i < i0 → l[i]? = some w → (w.dev == k) = false) (hi2 : l[i0]? = some v0) (hi3 : (v0.dev == k) = true) :
    Calls Tryz.prog 91 #[.slice (some ⟨g, 0, none⟩) n c, cloV 92 [ptrV g3]] w fun e w' => ∃ c', e = .returned (.slice (some ⟨g, 0, none⟩) (l.filter fun w => w.dev != k).length c') ∧
      St w [g] w' [.row (.slice (some ⟨g, 0, none⟩) (l.filter fun w => w.dev != k).length c') 149 258 (l.filter fun w => w.dev != k).length (looV (l.filter fun w => w.dev != k))] := by
  have hst0 := hS
  have HC := hid (indexW_any h0 l (some ⟨g, 0, none⟩) n c (Rd.blk hS (.head _) hc.1 hc.2 (by rw [looV_len hb, hn]) (by rw [List.drop_zero, List.take_left])) hn hb hbd)
  rw [firstW_at hi1 hi2 hi3] at HC
  have hi0 : i0 < n := by rw [← hn]; exact (List.getElem?_eq_some_iff.1 hi2).1
  have H0 := hid h0
  have HN := hid hn
  have HB := hid hb
  have HG3 := hid hg3
  have hcm : c ≤ 9223372036854775807 := hc.2
  have hcn : n ≤ c := hc.1
  obtain ⟨Z, hZ⟩ : ∃ Z : Nat → List LW, Z = fun j => (l.take j).filter fun w => w.dev != k := ⟨_, rfl⟩
  have HZ0 : Hid (Z (i0 + 1) = l.take i0) := hid (by
    rw [hZ]
    show (l.take (i0 + 1)).filter (fun w => w.dev != k) = _
    rw [filter_take _ hi2, filter_none hi1, if_neg (by simp at hi3; simp [hi3]), List.append_nil])
  have HZL : Hid (∀ j, (Z j).length ≤ n) := hid (fun j => by
    rw [hZ, ← hn]
    have a2 := List.length_filter_le (fun w : LW => w.dev != k) (l.take j)
    have a4 : (l.take j).length ≤ l.length := by rw [List.length_take]; omega
    exact Nat.le_trans a2 a4)
  have HZB : Hid (∀ j, ∀ v ∈ Z j, v.b.length = 256) := hid (fun j v hv => by
    rw [hZ] at hv
    exact hb v (List.mem_of_mem_take (List.mem_filter.1 hv).1))
  have HZS : Hid (∀ j v, l[j]? = some v → Z (j + 1) = Z j ++ if v.dev != k then [v] else []) := hid (fun j v h => by rw [hZ]; exact filter_take _ h)
  have HZE : Hid (Z n = (l.filter fun w => w.dev != k)) := hid (by rw [hZ, ← hn]; show (l.take l.length).filter _ = _; rw [List.take_length])
  obtain ⟨RZ, hRZ⟩ : ∃ RZ, RZ = l.filter fun w => w.dev != k := ⟨_, rfl⟩
  rw [← hRZ] at HZE
  rw [← hRZ]
  have HI0 : Hid (looV l = looV (l.take i0) ++ (v0.cells ++ looV (l.drop (i0 + 1)))) := hid (by rw [← looV_drop hi2, ← looV_append, List.take_append_drop])
  have HI1 : Hid (v0.cells.length = 258) := hid (LW.cells_len (hb v0 (List.mem_of_getElem? hi2)))
  have HI2 : Hid ((l.take i0).length = i0) := hid (by rw [List.length_take]; omega)
  have HL := hid hcs
  have zi : IntKind.i64.wrap ((i0 : Int) + 1) = (i0 : Int) + 1 := IntWalk.i64_in _ (by omega)
  have di : ((i0 : Int) == -1) = false := by
    simp
  clear h0 hn hb hi1 hi2 hi3 hZ hRZ hS hg3 hcs hc
  unfold cloV ptrV at HC ⊢
  go_enter Tryz.func91, Tryz.ntmps91
  go_wp2_with (first | go_big_skip | go_big_guard | (go_at_call 140; refine HC.out.mono ?_; rintro _ w2 ⟨rfl, h4⟩; have hst1 := St.call0 hst0 h4; clear h4 hst0))
  go_loopw [5, 6] (fun iv jv wr => ∃ (j : Nat) (mid : List Value), i0 < j ∧ j ≤ n ∧ (Z j).length < j ∧ iv = .int .i64 ((Z j).length : Int) ∧ jv = .int .i64 (j : Int) ∧ mid.length = (j - (Z j).length) * 258 ∧ St w [g] wr [.blk g 149 (looV (Z j) ++ (mid ++ (looV (l.drop j) ++ rest)))]) (fun _ jv _ => n - (intOf jv).toNat)
  case atStart =>
    refine ⟨i0 + 1, v0.cells, by omega, by omega, ?_, ?_, by push_cast; rfl, ?_, ?_⟩
    · rw [HZ0.out, HI2.out]; omega
    · rw [HZ0.out, HI2.out]
    · rw [HZ0.out, HI2.out, HI1.out, show i0 + 1 - i0 = 1 by omega]
    · rw [HZ0.out, ← List.append_assoc v0.cells, ← List.append_assoc (looV (l.take i0)), ← HI0.out]
      exact hst1
  case round =>
    clear hst1 zi di
    obtain ⟨j, mid, hij, hjn, hzj, rfl, rfl, hmid, hst⟩ := hrel
    have HMID := hid hmid
    have HZJ := hid (HZL.out j)
    have HZB1 : Hid ((looV (Z j)).length = (Z j).length * 258) := hid (looV_len (HZB.out j))
    obtain ⟨i, hi⟩ : ∃ i, i = (Z j).length := ⟨_, rfl⟩
    have HI := hid hi
    rw [← hi] at hzj HZB1 HMID
    rw [← hi]
    clear hi hmid
    by_cases hlj : j < n
    · have d1 : decide ((j : Int) < (n : Int)) = true := decide_eq_true (by omega)
      have z1 : IntKind.i64.wrap ((j : Int) + 1) = (j : Int) + 1 := IntWalk.i64_in _ (by omega)
      have z2 : IntKind.i64.wrap ((i : Int) + 1) = (i : Int) + 1 := IntWalk.i64_in _ (by omega)
      obtain ⟨v, hv⟩ : ∃ v, l[j]? = some v := ⟨_, List.getElem?_eq_getElem (by rw [HN.out]; exact hlj)⟩
      have hvb := HB.out v (List.mem_of_getElem? hv)
      have HV258 := hid (LW.cells_len hvb)
      have HZ := hid (HZS.out j v hv)
      have HLD : Hid (looV (l.drop j) = v.cells ++ looV (l.drop (j + 1))) := hid (looV_drop hv)
      obtain ⟨RR, hRR⟩ : ∃ RR, RR = looV (l.drop (j + 1)) ++ rest := ⟨_, rfl⟩
      have HRR := hid hRR
      obtain ⟨F, hF⟩ : ∃ F, F = looV (Z j) := ⟨_, rfl⟩
      have HF := hid hF
      rw [← hF] at hst HZB1
      rw [HLD.out, List.append_assoc v.cells, ← hRR] at hst
      have HPUT := hid (del_put (F := F) (mid := mid) (V := v.cells) (R := RR) HZB1.out (by rw [HMID.out]; have : 1 ≤ j - i := by omega
                                                                                            calc 258 = 1 * 258 := rfl
                                                                                              _ ≤ (j - i) * 258 := Nat.mul_le_mul_right _ this) HV258.out)
      have HDR : Hid ((F ++ (mid ++ (v.cells ++ RR))).drop (j * 258) = v.cells ++ RR) := hid (by
        rw [← List.append_assoc F mid, List.drop_left' (by rw [List.length_append, HZB1.out, HMID.out, ← Nat.add_mul]; congr 1; omega)])
      have HFIT : Hid (i * 258 + 258 ≤ (F ++ (mid ++ (v.cells ++ RR))).length) := hid (by
        rw [List.length_append, List.length_append, List.length_append, HZB1.out, HV258.out]; omega)
      obtain ⟨CS, hCS⟩ : ∃ CS, CS = F ++ (mid ++ (v.cells ++ RR)) := ⟨_, rfl⟩
      rw [← hCS] at hst HPUT HDR HFIT
      have HLOAD : Hid ((CS.drop (j * 258)).take v.cells.length = v.cells) := hid (by rw [HDR.out, List.take_left])
      have HCS := hid hCS
      clear hv hvb hRR hF hCS HDR HLD
      by_cases k1 : v.dev = k
      · have d2 : ((v.dev : Int) == (k : Int)) = true := by simp [k1]
        have KK := hid k1
        clear k1
        go_wp2_with (first | go_big_skip | go_big_guard | (refine wl_index (k := j) rfl rfl rfl rfl hlj ?_) | (refine wl_index (k := i) rfl rfl rfl rfl (by omega) ?_) | (refine wl_loadE rfl rfl rfl ?_; first | refine ⟨_, Loads.atA v.cells [] hst HV258.out (by rw [Nat.zero_add]; exact HLOAD.out), ?_⟩ | refine ⟨_, Loads.atA v.cells [] hst3 HV258.out (by rw [List.drop_zero, List.take_length]), ?_⟩) | (refine wl_alloc (T := 149) hst rfl rfl ?_; intro g7 _ hst2; clear hst) | (refine wl_storeA (T := 149) (vs := v.cells) [] hst2 rfl rfl rfl rfl HV258.out (ones_LW _) (by rw [List.length_cons, List.length_cons, List.length_replicate]) ?_; intro w4 hst3; clear hst2) | (go_at_call 92; refine (drop1_any (St.old_cell hst3 H0.out (by simpa using HG3.out)) v).mono ?_; rintro _ w8 ⟨rfl, h4⟩; replace hst3 := St.call0 hst3 h4; clear h4) | (refine wl_store [_] hst3 rfl rfl rfl (v := .agg v.cells.toArray) rfl (by show v.cells.toArray.size = 258; rw [List.size_toArray]; exact HV258.out) (by show v.cells.toArray.toList.all _ = true; exact ones_LW v) (by rw [Nat.zero_add]; show i * 258 + v.cells.toArray.size ≤ _; rw [List.size_toArray, HV258.out]; exact HFIT.out) ?_; intro w9 hst4; clear hst3))
        go_roundw
        case rel =>
          have e1 : Z (j + 1) = Z j := by rw [HZ.out, if_neg (by simp [KK.out]), List.append_nil]
          refine ⟨j + 1, mid ++ v.cells, by omega, by omega, by rw [e1, ← HI.out]; omega, by rw [e1, ← HI.out], by push_cast; rfl, ?_, ?_⟩
          · rw [e1, ← HI.out, List.length_append, HMID.out, HV258.out, show j + 1 - i = (j - i) + 1 by omega, Nat.add_mul]
          · rw [e1, ← HF.out, List.append_assoc mid, ← HRR.out]
            have h7 := St.sub hst3 (.cons _ (List.Sublist.refl _))
            rw [HCS.out] at h7
            exact h7
        case measure => simp [intOf]; omega
      · have d2 : ((v.dev : Int) == (k : Int)) = false := by simp; omega
        have KK := hid k1
        clear k1
        go_wp2_with (first | go_big_skip | go_big_guard | (refine wl_index (k := j) rfl rfl rfl rfl hlj ?_) | (refine wl_index (k := i) rfl rfl rfl rfl (by omega) ?_) | (refine wl_loadE rfl rfl rfl ?_; first | refine ⟨_, Loads.atA v.cells [] hst HV258.out (by rw [Nat.zero_add]; exact HLOAD.out), ?_⟩ | refine ⟨_, Loads.atA v.cells [] hst3 HV258.out (by rw [List.drop_zero, List.take_length]), ?_⟩) | (refine wl_alloc (T := 149) hst rfl rfl ?_; intro g7 _ hst2; clear hst) | (refine wl_storeA (T := 149) (vs := v.cells) [] hst2 rfl rfl rfl rfl HV258.out (ones_LW _) (by rw [List.length_cons, List.length_cons, List.length_replicate]) ?_; intro w4 hst3; clear hst2) | (go_at_call 92; refine (drop1_any (St.old_cell hst3 H0.out (by simpa using HG3.out)) v).mono ?_; rintro _ w8 ⟨rfl, h4⟩; replace hst3 := St.call0 hst3 h4; clear h4) | (refine wl_store [_] hst3 rfl rfl rfl (v := .agg v.cells.toArray) rfl (by show v.cells.toArray.size = 258; rw [List.size_toArray]; exact HV258.out) (by show v.cells.toArray.toList.all _ = true; exact ones_LW v) (by rw [Nat.zero_add]; show i * 258 + v.cells.toArray.size ≤ _; rw [List.size_toArray, HV258.out]; exact HFIT.out) ?_; intro w9 hst4; clear hst3))
        go_roundw
        case rel =>
          have e1 : Z (j + 1) = Z j ++ [v] := by rw [HZ.out, if_pos (by simp [KK.out])]
          have e2 : (Z (j + 1)).length = i + 1 := by rw [e1, List.length_append, ← HI.out]; rfl
          refine ⟨j + 1, mid.drop 258 ++ v.cells, by omega, by omega, by rw [e2]; omega, by rw [e2]; push_cast; rfl, by push_cast; rfl, ?_, ?_⟩
          · rw [e2, List.length_append, List.length_drop, HMID.out, HV258.out, show j + 1 - (i + 1) = j - i by omega]
            have : 1 ≤ j - i := by omega
            have h258 : 1 * 258 ≤ (j - i) * 258 := Nat.mul_le_mul_right _ this
            omega
          · rw [e1, looV_append, looV_one, ← HF.out, ← HRR.out, ← HPUT.out]
            have h7 := St.sub hst4 (.cons _ (List.Sublist.refl _))
            rw [Nat.zero_add] at h7
            exact h7
        case measure => simp [intOf]; omega
    · have d1 : decide ((j : Int) < (n : Int)) = false := decide_eq_false (by omega)
      have hjn2 : j = n := by omega
      subst hjn2
      have HE : Hid (Z j = RZ) := hid HZE.out
      have HEI : Hid (i = RZ.length) := hid (by rw [HI.out, HE.out])
      rw [HE.out] at hst HZB1
      obtain ⟨CS, hCS⟩ : ∃ CS, CS = looV RZ ++ (mid ++ (looV (l.drop j) ++ rest)) := ⟨_, rfl⟩
      rw [← hCS] at hst
      have HCL : Hid (CS.length = c * 258) := hid (by
        have h1 := HL.out
        have h2 : looV l = looV (l.take j) := by rw [← HN.out, List.take_length]
        rw [hCS, List.drop_of_length_le (by rw [HN.out]; exact Nat.le_refl _)]
        rw [List.length_append, looV_len HB.out, HN.out] at h1
        rw [List.length_append, List.length_append, List.length_append, HZB1.out, HMID.out]
        show i * 258 + ((j - i) * 258 + (0 + rest.length)) = _
        rw [← h1]
        have : i * 258 + (j - i) * 258 = j * 258 := by rw [← Nat.add_mul]; congr 1; omega
        omega)
      have HCT : Hid (CS.take (i * 258) = looV RZ) := hid (by rw [hCS, ← HZB1.out, List.take_left])
      have hci : ¬ c = i := by omega
      clear hCS
      go_wp2_with (first | go_big_skip | go_big_guard | (refine wl_clearB [] hst rfl rfl rfl inferInstance inferInstance (zs := .int .i64 0 :: .int .i64 0 :: List.replicate 256 (.int .u8 0)) inferInstance (by decide) (by omega) (by rw [HCL.out, ← Nat.add_mul]; exact Nat.mul_le_mul_right _ (by omega)) ?_; intro w5 cs5 hl5 ht5 hst5; have H5 := hid hl5; have H6 := hid ht5; clear hl5 ht5 hst))
      go_ret
      rw [← HEI.out]
      refine ⟨c, rfl, ?_⟩
      have h7 := St.toRow (n := i) (cap := c) (sz := 258) hst5 (by rw [H5.out, HCL.out]) (by omega) (by omega)
      rw [H6.out, HCT.out] at h7
      exact h7
theorem del_any {w : World} {g3 k : Nat} (h0 : w.cell? ⟨g3, 0, none⟩ = some (.int .i64 (k : Int))) (l : List LW) (v : Value) (hS : St w v.ownBlock.toList w [.row v 149 258 l.length (looV l)]) (hg3 : v.ownBlock ≠ some g3) (hb : ∀ v ∈ l, v.b.length = 256) (hbd : l.length < 1000000) :
    Calls Tryz.prog 91 #[v, cloV 92 [ptrV g3]] w fun e w' => ∃ ao' n' c', e = .returned (.slice ao' n' c') ∧
      St w v.ownBlock.toList w' [.row (.slice ao' n' c') 149 258 (l.filter fun w => w.dev != k).length (looV (l.filter fun w => w.dev != k))] := by
  by_cases h1 : ∀ v ∈ l, (v.dev == k) = false
  · obtain ⟨ao, c, rfl, _⟩ := row_form hS (.head _)
    refine (del_none h0 l ao l.length c (Rd.row hS (.head _)) rfl hb hbd h1).mono ?_
    rintro _ w' ⟨rfl, h4⟩
    have e : l.filter (fun w => w.dev != k) = l := by
      rw [List.filter_eq_self]
      intro v hv
      have := h1 v hv
      simp at this ⊢
      exact this
    rw [e]
    exact ⟨ao, l.length, c, rfl, St.call0 hS h4⟩
  · have h2 : ∃ i, l.findIdx? (fun w => w.dev == k) = some i := by
      cases hf : l.findIdx? (fun w => w.dev == k) with
      | none =>
        exfalso
        refine h1 fun v hv => ?_
        have := List.findIdx?_eq_none_iff.1 hf v hv
        simpa using this
      | some i => exact ⟨i, rfl⟩
    obtain ⟨i, hi⟩ := h2
    rw [List.findIdx?_eq_some_iff_getElem] at hi
    obtain ⟨hlt, hv, hlow⟩ := hi
    obtain ⟨g, c, rest, rfl, hnc, hcm, hcs, h3⟩ := row_openL (L1 := []) hS (by omega)
    have hne : g3 ≠ g := fun h => hg3 (by rw [h]; rfl)
    have hS2 : St w [g] w [.blk g 149 (looV l ++ rest)] := h3
    refine (del_some h0 l l.length c rest hS2 hne ⟨hnc, hcm⟩ hcs rfl hb hbd (i0 := i) (v0 := l[i]) (fun j u hj hu => ?_) (List.getElem?_eq_getElem hlt) hv).mono ?_
    · have h9 := hlow j hj
      rw [List.getElem?_eq_getElem (by omega)] at hu
      cases hu
      simpa using h9
    · rintro _ w' ⟨c', rfl, h4⟩
      exact ⟨_, _, _, rfl, h4⟩
end Go.Proofs.YtmdfbdfijnmhkaaGreat
