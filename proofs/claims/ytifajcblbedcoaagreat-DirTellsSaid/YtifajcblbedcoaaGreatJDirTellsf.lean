import Derived.Test.YtifajcblbedcoaaGreatJDirTellse
import Derived.Test.YtifajcblbedcoaaGreatJDirTellsb
import Derived.Test.YtifajcblbedcoaaGreatJDirTellsc
import Derived.Test.YtifajcblbedcoaaGreatJDirTellsd
namespace Go.Proofs.YtifajcblbedcoaaGreat
set_option linter.unusedVariables false
set_option linter.unusedSimpArgs false
open Go.RowKit Hp
attribute [local irreducible] Go.Calls Go.wpList Hp.gvV Hp.gB Hp.gA Hp.bOr Hp.bAnd Hp.bNot
set_option maxRecDepth 100000
set_option maxHeartbeats 8000000
theorem sized_any (n : Int) (w : World) : Calls Tryz.prog 63 #[.int .i64 n] w fun e w' => e = .returned (.bool (inB n 1 64)) ∧ St w [] w' [] := by
 have hst := St.refl w
 unfold inB
 by_cases h1 : 1 ≤ n
 ·have d1 : decide (n ≥ 1) = true := decide_eq_true h1
  have d2 : decide (1 ≤ n) = true := d1
  rw [d2]
  clear h1
  go_enter Tryz.func63, Tryz.ntmps63
  go_wp2_with (first | go_big_skip | go_big_guard | fail)
  go_ret
  exact ⟨rfl, hst⟩
 ·have d1 : decide (n ≥ 1) = false := decide_eq_false h1
  have d2 : decide (1 ≤ n) = false := d1
  rw [d2]
  clear h1
  go_enter Tryz.func63, Tryz.ntmps63
  go_wp2_with (first | go_big_skip | go_big_guard | fail)
  go_ret
  exact ⟨rfl, hst⟩
theorem commit_any (n : Int) (w : World) : Calls Tryz.prog 64 #[.int .i64 n] w fun e w' => e = .returned (.bool (txgB n)) ∧ St w [] w' [] := by
 have hst := St.refl w
 unfold txgB inB
 by_cases h1 : 1 ≤ n
 ·have d1 : decide (n ≥ 1) = true := decide_eq_true h1
  have d2 : decide (1 ≤ n) = true := d1
  rw [d2]
  clear h1
  go_enter Tryz.func64, Tryz.ntmps64
  go_wp2_with (first | go_big_skip | go_big_guard | fail)
  go_ret
  exact ⟨rfl, hst⟩
 ·have d1 : decide (n ≥ 1) = false := decide_eq_false h1
  have d2 : decide (1 ≤ n) = false := d1
  rw [d2]
  clear h1
  go_enter Tryz.func64, Tryz.ntmps64
  go_wp2_with (first | go_big_skip | go_big_guard | fail)
  go_ret
  exact ⟨rfl, hst⟩
theorem limit13_any (n : Int) (w : World) : Calls Tryz.prog 81 #[.int .i64 n] w fun e w' => e = .returned (.bool (limB n)) ∧ St w [] w' [] := by
 have hst := St.refl w
 unfold limB inB
 by_cases h1 : 0 ≤ n
 ·have d1 : decide (n ≥ 0) = true := decide_eq_true h1
  have d2 : decide (0 ≤ n) = true := d1
  rw [d2]
  clear h1
  go_enter Tryz.func81, Tryz.ntmps81
  go_wp2_with (first | go_big_skip | go_big_guard | fail)
  go_ret
  exact ⟨rfl, hst⟩
 ·have d1 : decide (n ≥ 0) = false := decide_eq_false h1
  have d2 : decide (0 ≤ n) = false := d1
  rw [d2]
  clear h1
  go_enter Tryz.func81, Tryz.ntmps81
  go_wp2_with (first | go_big_skip | go_big_guard | fail)
  go_ret
  exact ⟨rfl, hst⟩
theorem named_any (nm : List UInt8) (w : World) (hl : nm.length ≤ 9223372036854775807) : Calls Tryz.prog 56 #[str nm] w fun e w' => e = .returned (.bool (namedB nm)) ∧ St w [] w' [] := by
 have hst := St.refl w
 have HL := hid hl
 unfold namedB
 obtain ⟨a, ha⟩ : ∃ a, a = partB nm := ⟨_, rfl⟩
 obtain ⟨b, hb⟩ : ∃ b, b = snapB nm := ⟨_, rfl⟩
 rw [← ha, ← hb]
 have HA := hid ha
 have HB := hid hb
 clear ha hb hl
 cases a
 all_goals
  go_enter Tryz.func56, Tryz.ntmps56
  go_wp2_with (first | go_big_skip | go_big_guard | (go_at_call 62; refine (volume_any nm _ HL.out).mono ?_; rw [← HA.out]; rintro _ w9 ⟨rfl, h4⟩; replace hst := St.call0 hst h4; clear h4) | (go_at_call 71; refine (snap_any nm _ HL.out).mono ?_; rw [← HB.out]; rintro _ w9 ⟨rfl, h4⟩; replace hst := St.call0 hst h4; clear h4))
  go_ret
  exact ⟨rfl, hst⟩
theorem ownP_any (p : PV) (w : World) (hp : p.In w) (hl : p.l.length ≤ 100000) : Calls Tryz.prog 69 #[.agg p.cells.toArray] w fun e w' =>
  ∃ ao n c, e = .returned (.agg (PV.cells (p.re (.slice ao n c))).toArray) ∧ St w [] w' [.row (.slice ao n c) 102 2 n (addrsV p.l)] ∧ p.l.length = n := by
 have hst := St.refl w
 have hS := hp.1
 obtain ⟨_, ao, n, c, h2, h3, h4⟩ := hp
 have hPL := hid (PV.len (p := p) hS)
 have H2 := hid h2
 have hn : n ≤ 100000 := by rw [← h4]; exact hl
 have H4 := hid h4
 have hRd := hid h3
 have hat := hid (show p.cells[0]? = some (.slice ao n c) by rw [PV.cells, h2]; rfl)
 clear h2 h3 h4 hl
 go_enter Tryz.func69, Tryz.ntmps69
 go_wp2_with (first | go_big_skip | go_big_guard | (refine wl_boxA hst rfl rfl rfl ?_; intro g w1 hst1; clear hst) | (refine wl_alloc hst1 rfl rfl ?_; intro g2 w2 hst2; clear hst1) | (refine wl_loadE rfl rfl rfl ?_; first | refine ⟨_, Loads.at (off := 0) [_] hst2 hat.out, ?_⟩ | refine ⟨_, Loads.atA (PV.cells (p.re (.slice ao9 n c9))) [_, _] hst11 (PV.len (p := p.re (.slice ao9 n c9)) hS) (by simp), ?_⟩) | (go_at_call 113; refine (cloneA_any ao n c _ _ (Rd.old hst2 hRd.out) (addrs_ones _) hn).mono ?_; rintro _ w9 ⟨v9, rfl, h4⟩; have hst9 := St.call hst2 h4; clear h4 hst2; obtain ⟨ao9, c9, rfl, _, _⟩ := rowS [] hst9) | (refine wl_store [_, _] hst9 rfl rfl rfl (v := .slice _ _ _) rfl rfl rfl (by show _ + 1 ≤ _; rw [hPL.out]; omega) ?_; intro w10 hst10; clear hst9; have hst11 : St w [] w10 [.row (.slice ao9 n c9) 102 2 n (addrsV p.l), .blk g2 32 (ptrCells (.slice none 0 0) 0 0 nones), .blk g 32 (PV.cells (p.re (.slice ao9 n c9)))] := hst10; clear hst10) | (refine wl_storeA [_] hst11 rfl rfl rfl rfl (PV.len (p := p.re (.slice ao9 n c9)) hS) (PV.ones_of (p := p.re (.slice ao9 n c9)) rfl) rfl ?_; intro w12 hst12; clear hst11))
 have hl := Loads.atA (P := Tryz.prog) (off := 0) (T := 32) (PV.cells (p.re (.slice ao9 n c9))) [_] hst12 (PV.len (p := p.re (.slice ao9 n c9)) hS) (by simp)
 refine bodyPost_ret (results_cellL rfl rfl hl) rfl ?_
 exact ⟨ao9, n, c9, rfl, hst12.sub (.cons_cons _ (List.nil_sublist _)), H4.out⟩
theorem split_lenG (l : List UInt8) : (splitL l).1.length ≤ l.length ∧ (splitL l).2.1.length ≤ l.length := by
 unfold splitL
 split
 ·exact cutL_len l
 ·simp
theorem alike13_any (a b : List UInt8) (w : World) (ha : a.length ≤ 9223372036854775807) (hb : b.length ≤ 9223372036854775807) : Calls Tryz.prog 76 #[str a, str b] w fun e w' => e = .returned (.bool (alikeB a b)) ∧ St w [] w' [] := by
 have hst := St.refl w
 have HLA := hid ha
 have HLB := hid hb
 clear ha hb
 obtain ⟨E, hE⟩ : ∃ E, E = alikeB a b := ⟨_, rfl⟩
 rw [← hE]
 obtain ⟨p, hp⟩ : ∃ p, partB a = p := ⟨_, rfl⟩
 obtain ⟨q, hq⟩ : ∃ q, partB b = q := ⟨_, rfl⟩
 obtain ⟨⟨v, u, f⟩, hx⟩ : ∃ p, splitL a = p := ⟨_, rfl⟩
 obtain ⟨⟨v', u', f'⟩, hy⟩ : ∃ p, splitL b = p := ⟨_, rfl⟩
 obtain ⟨s, hs⟩ : ∃ s, (v == v') = s := ⟨_, rfl⟩
 have hE2 : E = ((p && q) || ((f && f') && s)) := by rw [hE]; unfold alikeB; rw [hp, hq, hx, hy, ← hs]
 rw [hE2]
 have HP := hid hp
 have HQ := hid hq
 have HX := hid hx
 have HY := hid hy
 have HS := hid hs
 clear hE hE2 hp hq hx hy hs
 cases p <;> cases q <;> cases f <;> cases f'
 all_goals
  go_enter Tryz.func76, Tryz.ntmps76
  go_wp2_with (first | go_big_skip | go_big_guard | (go_at_call 68; first | (refine (split_any a _ HLA.out).mono ?_; rw [HX.out]; rintro _ w9 ⟨rfl, h4⟩; replace hst := St.call0 hst h4; clear h4) | (refine (split_any b _ HLB.out).mono ?_; rw [HY.out]; rintro _ w9 ⟨rfl, h4⟩; replace hst := St.call0 hst h4; clear h4)) | (go_at_call 62; first | (refine (volume_any a _ HLA.out).mono ?_; rw [HP.out]; rintro _ w9 ⟨rfl, h4⟩; replace hst := St.call0 hst h4; clear h4) | (refine (volume_any b _ HLB.out).mono ?_; rw [HQ.out]; rintro _ w9 ⟨rfl, h4⟩; replace hst := St.call0 hst h4; clear h4)) | (refine wl_eqS rfl rfl rfl rfl ?_; rw [HS.out]))
  go_ret
  exact ⟨by first | rfl | (rw [← HS.out]; rfl) | (cases s <;> rfl), hst⟩
theorem containsR_any (fn g : Nat) (p : RC → Bool) (ao : Option Addr) (n c : Nat) (xs : List (Value × RC)) (w : World) (hfn : ∀ (a : Array Value) (w : World), (callFunc fn a).run Tryz.prog w = .ok (.enter fn a) w)
  (hcl : ∀ (x : Value × RC) (w' : World), x ∈ xs → St w [] w' [] → Calls Tryz.prog fn #[.agg (cellsR x).toArray, .pointer (some ⟨g, 0, none⟩)] w' fun e w2 => e = .returned (.bool (p x.2)) ∧ St w' [] w2 []) (hl : RecsIn w (.slice ao n c) n xs) (hb : n ≤ 1000000) :
  Calls Tryz.prog 58 #[.slice ao n c, capV fn g] w fun e w' => e = .returned (.bool ((xs.map (·.2)).any p)) ∧ St w [] w' [] := by
 have hst := St.refl w
 have HC := hid (indexR_any fn g p ao n c xs w hfn hcl hl hb)
 rw [← idxI_any]
 obtain ⟨i, hi⟩ : ∃ i, i = idxI p (xs.map (·.2)) := ⟨_, rfl⟩
 rw [← hi] at HC ⊢
 clear hi hcl hl
 unfold capV at HC ⊢
 go_enter Tryz.func58, Tryz.ntmps58
 go_wp2_with (first | go_big_skip | go_big_guard | (go_at_call 107; refine HC.out.mono ?_; rintro _ w9 ⟨rfl, h4⟩; replace hst := St.call0 hst h4; clear h4))
 go_ret
 exact ⟨rfl, hst⟩
end Go.Proofs.YtifajcblbedcoaaGreat
namespace Go.Proofs.YtifajcblbedcoaaGreat
set_option linter.unusedVariables false
set_option linter.unusedSimpArgs false
open Go.RowKit Hp
attribute [local irreducible] Go.Calls Go.wpList
set_option maxRecDepth 100000
set_option maxHeartbeats 8000000
attribute [local go_sem ↓] heldInt heldInts heldRecs heldRec heldStr heldTab
theorem cells_slot (x : Value × RC) : (cellsR x)[4]? = some x.1 := rfl
def LX (xs : List (Value × RC)) : Prop := ∀ x ∈ xs, L32 x.2.S
theorem OwnX.LX {L : List HA} {xs : List (Value × RC)} (h : OwnX L xs) : LX xs := fun x hx => (h x hx).2.1
theorem recsV_lenL {xs : List (Value × RC)} (h : LX xs) : (recsV xs).length = xs.length * 44 := by
 induction xs with
 | nil => rfl
 | cons x xs ih =>
  show (cellsR x ++ recsV xs).length = _
  rw [List.length_append, cellsR_len (h x (.head _)), ih (fun y hy => h y (.tail _ hy)), List.length_cons]
  omega
theorem recsV_takeL {xs : List (Value × RC)} (h : LX xs) {k : Nat} (hk : k ≤ xs.length) : (recsV xs).take (k * 44) = recsV (xs.take k) ∧ (recsV xs).drop (k * 44) = recsV (xs.drop k) := by
 have e : recsV xs = recsV (xs.take k) ++ recsV (xs.drop k) := by rw [← recsV_append, List.take_append_drop]
 have hl : (recsV (xs.take k)).length = k * 44 := by
  rw [recsV_lenL (fun x hx => h x (List.mem_of_mem_take hx)), List.length_take, Nat.min_eq_left hk]
 rw [e, ← hl, List.take_left, List.drop_left]
 exact ⟨rfl, rfl⟩
theorem recsV_at {xs : List (Value × RC)} (h : LX xs) {k : Nat} {x : Value × RC} (hx : xs[k]? = some x) {d : Nat} {v : Value} (hd : (cellsR x)[d]? = some v) : (recsV xs)[k * 44 + d]? = some v := by
 have hlt := (List.getElem?_eq_some_iff.1 hx).1
 obtain ⟨h1, h2⟩ := recsV_takeL h (k := k) (by omega)
 have h3 : (recsV xs).drop (k * 44) = cellsR x ++ recsV (xs.drop (k + 1)) := by
  rw [h2, List.drop_eq_getElem_cons hlt]
  have : xs[k] = x := (List.getElem?_eq_some_iff.1 hx).2
  rw [this]
  rfl
 have h4 : ((recsV xs).drop (k * 44))[d]? = some v := by
  rw [h3, List.getElem?_append_left (List.getElem?_eq_some_iff.1 hd).1]
  exact hd
 rwa [List.getElem?_drop] at h4
theorem recsV_put {xs : List (Value × RC)} (h : LX xs) {k : Nat} {x y : Value × RC} (hx : xs[k]? = some x) {d : Nat} {vs : List Value} (hd : d + vs.length ≤ 44) (hy : putAt (cellsR x) d vs = cellsR y) : putAt (recsV xs) (k * 44 + d) vs = recsV (xs.set k y) := by
 have hlt := (List.getElem?_eq_some_iff.1 hx).1
 have hxk : xs[k] = x := (List.getElem?_eq_some_iff.1 hx).2
 have hX := cellsR_len (h x (List.mem_of_getElem? hx))
 obtain ⟨h1, h2⟩ := recsV_takeL h (k := k) (by omega)
 have e1 : recsV xs = recsV (xs.take k) ++ (cellsR x ++ recsV (xs.drop (k + 1))) := by
  have : recsV (xs.drop k) = cellsR x ++ recsV (xs.drop (k + 1)) := by rw [List.drop_eq_getElem_cons hlt, hxk]; rfl
  rw [← this, ← recsV_append, List.take_append_drop]
 have hl : (recsV (xs.take k)).length = k * 44 := by rw [← h1, List.length_take, recsV_lenL h]; omega
 have e2 : xs.set k y = xs.take k ++ y :: xs.drop (k + 1) := by rw [List.set_eq_take_append_cons_drop, if_pos hlt]
 rw [e2, recsV_append, e1]
 have e3 : recsV (y :: xs.drop (k + 1)) = cellsR y ++ recsV (xs.drop (k + 1)) := rfl
 rw [e3, ← hy]
 unfold putAt
 rw [← hl, List.take_length_add_append, List.append_assoc, Nat.add_assoc, List.drop_length_add_append, List.take_append_of_le_length (by rw [hX]; omega), List.drop_append_of_le_length (by rw [hX]; omega)]
 simp only [List.append_assoc]
theorem ownC_any {w0 w : World} {M : List Nat} {R : List HA} (g n c k m cc : Nat) (ao : Option Addr) (C ads : List Value) (hS : St w0 M w (.row (.slice (some ⟨g, 0, none⟩) n c) 53 44 n C :: R)) (hk : k < n) (hv : C[k * 44 + 4]? = some (.slice ao m cc)) (hR : Rd w (.slice ao m cc) 2 m ads) (h1 : ads.all (·.oneCell') = true) (hb : m ≤ 100000) :
  Calls Tryz.prog 112 #[.pointer (some ⟨g, k * 44, none⟩)] w fun e w' => ∃ (a6 : Option Addr) (c6 : Nat), e = .returned (.tuple #[]) ∧ St w0 M w' (.row (.slice (some ⟨g, 0, none⟩) n c) 53 44 n (putAt C (k * 44 + 4) [.slice a6 m c6]) :: .row (.slice a6 m c6) 102 2 m ads :: R) := by
 have hst0 := hS
 have HV := hid hv
 have HR := hid hR
 have H1 := hid h1
 clear hS hv hR h1
 go_enter Tryz.func112, Tryz.ntmps112
 go_wp2_with (first | go_big_skip | go_big_guard | (refine wl_loadE rfl rfl rfl ?_; refine ⟨_, Loads.inRow hst0 (.head _) HV.out, ?_⟩) | (go_at_call 113; refine (cloneA_any ao m cc _ _ HR.out H1.out hb).mono ?_; rintro _ w9 ⟨v9, rfl, h4⟩; have hst := St.call hst0 h4; clear h4 hst0; obtain ⟨a6, c6, rfl, _, _⟩ := rowS [] hst) | (refine wl_storeRow1 [_] hst rfl rfl rfl rfl (v := .slice a6 m c6) rfl rfl (by omega) (by omega) ?_; intro w7 hst2; clear hst))
 go_end0
 exact ⟨rfl, a6, c6, St.perm hst2 (.swap _ _ _)⟩
theorem each_any (ao : Option Addr) (n c : Nat) (xs : List (Value × RC)) (w : World) (hl : RecsIn w (.slice ao n c) n xs) (hn : n ≤ 1000) (ha : ∀ x ∈ xs, x.2.l.length ≤ 100000 ∧ x.2.name.length ≤ 1000000) :
  Calls Tryz.prog 111 #[.slice ao n c, .func (.func 112) #[] #[]] w fun e w' => ∃ (rv : Value) (ys : List (Value × RC)), e = .returned rv ∧ ys.map (·.2) = xs.map (·.2) ∧ (∀ y ∈ ys, L32 y.2.S ∧ y.2.name.length ≤ 1000000) ∧ St w [] w' (.row rv 53 44 n (recsV ys) :: rootRows 102 ys) := by
 have hst0 := St.refl w
 have HL := hid hl
 have HA := hid ha
 have HLX : Hid (LX xs) := hid (fun x hx => (hl.each x hx).L)
 have HN := hid hl.len
 have H1 : Hid ((recsV xs).all (·.oneCell') = true) := hid (by
  rw [recsV, List.all_flatMap, List.all_eq_true]
  exact fun x hx => cellsR_ones (hl.each x hx))
 clear hl ha
 go_enter Tryz.func111, Tryz.ntmps111
 go_wp2_with (first | go_big_skip | go_big_guard | (go_at_call 131; refine (cloneR_any ao n c _ _ (Rd.old hst0 HL.out.rd) H1.out (by omega)).mono ?_; rintro _ w9 ⟨v9, rfl, h4⟩; have hst := St.call hst0 h4; clear h4 hst0; obtain ⟨ar, cr, rfl, _, _⟩ := rowS [] hst))
 go_loopw [11] (fun i wr => ∃ (j : Nat) (ys : List (Value × RC)), j ≤ n ∧ i = .int .i64 (j : Int) ∧ ys.map (·.2) = (xs.take j).map (·.2) ∧ St w [] wr (.row (.slice ar n cr) 53 44 n (recsV (ys ++ xs.drop j)) :: rootRows 102 ys)) (fun i _ => n - (intOf i).toNat)
 case atStart => exact ⟨0, [], Nat.zero_le _, rfl, rfl, hst⟩
 case round =>
  clear hst
  obtain ⟨j, ys, hj, rfl, hy, hst⟩ := hrel
  have HY := hid hy
  have hyl : ys.length = j := by
   have := congrArg List.length hy
   rw [List.length_map, List.length_map, List.length_take, HN.out] at this
   omega
  have HYL := hid hyl
  clear hy hyl
  by_cases hlt : j < n
  ·have e1 : decide ((j : Int) < (n : Int)) = true := decide_eq_true (by omega)
   have z1 : IntKind.i64.wrap ((j : Int) + 1) = (j : Int) + 1 := IntWalk.i64_in _ (by omega)
   obtain ⟨x, hx⟩ : ∃ x, xs[j]? = some x := ⟨_, List.getElem?_eq_getElem (by rw [HN.out]; exact hlt)⟩
   have hxm := List.mem_of_getElem? hx
   have hz : (ys ++ xs.drop j)[j]? = some x := by
    rw [List.getElem?_append_right (by rw [HYL.out]; exact Nat.le_refl _), HYL.out, Nat.sub_self, List.getElem?_drop, Nat.add_zero]
    exact hx
   have hzl : LX (ys ++ xs.drop j) := fun y hy => by
    rcases List.mem_append.1 hy with hy | hy
    ·have h2 : y.2 ∈ (xs.take j).map (·.2) := by rw [← HY.out]; exact List.mem_map_of_mem hy
     obtain ⟨u, hu, he⟩ := List.mem_map.1 h2
     rw [← he]
     exact HLX.out u (List.mem_of_mem_take hu)
    ·exact HLX.out y (List.mem_of_mem_drop hy)
   obtain ⟨hLX2, ao2, m, cc, hsv, hrd, hm⟩ := (HL.out.each x hxm).1
   have hslot := recsV_at hzl hz (d := 4) (v := .slice ao2 m cc) (by rw [cells_slot, ← hsv]; rfl)
   have HX := hid hx
   have HZ := hid hz
   have HZL := hid hzl
   have HS := hid hslot
   have HRD := hid hrd
   have HM : Hid (x.2.l.length = m) := hid hm
   have HB := hid (HA.out x hxm).1
   obtain ⟨g, c9, he, _⟩ := row_spot hst (.head _) (by omega)
   cases he
   clear hx hxm hz hzl hLX2 hsv hrd hm hslot
   go_wp2_with (first | go_big_skip | go_big_guard | (refine wl_index rfl rfl rfl rfl hlt ?_) | (go_at_call 112; refine (ownC_any (k := j) g n cr m cc ao2 _ _ hst hlt HS.out (Rd.old hst HRD.out) (addrs_ones _) (by rw [← HM.out]; exact HB.out)).mono ?_; rintro _ w9 ⟨a6, c6, rfl, h4⟩; have hst2 := h4; clear h4 hst))
   go_roundw
   case rel =>
    refine ⟨j + 1, ys ++ [(.slice a6 m c6, x.2)], by omega, rfl, ?_, ?_⟩
    ·rw [List.map_append, HY.out, List.take_add_one, HX.out, List.map_append]
     rfl
    ·have e2 : putAt (cellsR x) 4 [.slice a6 m c6] = cellsR ((.slice a6 m c6 : Value), x.2) := rfl
     rw [recsV_put HZL.out HZ.out (d := 4) (by show 4 + 1 ≤ 44; decide) e2] at hst2
     have e3 : (ys ++ xs.drop j).set j ((.slice a6 m c6 : Value), x.2) = (ys ++ [((.slice a6 m c6 : Value), x.2)]) ++ xs.drop (j + 1) := by
      have hlt2 : j < xs.length := by rw [HN.out]; exact hlt
      rw [List.drop_eq_getElem_cons hlt2, List.set_append_right _ _ (by rw [HYL.out]; exact Nat.le_refl _), HYL.out, Nat.sub_self, List.set_cons_zero, List.append_assoc]
      rfl
     rw [e3] at hst2
     rw [rootRows_add]
     have hm2 := HM.out
     subst hm2
     exact hst2
   case measure => simp [intOf]; omega
  ·have e1 : decide ((j : Int) < (n : Int)) = false := decide_eq_false (by omega)
   obtain rfl : j = n := by omega
   go_wp2_with (first | go_big_skip | go_big_guard | fail)
   go_ret
   have hd : xs.drop j = [] := List.drop_eq_nil_of_le (by rw [HN.out]; exact Nat.le_refl _)
   have ht : xs.take j = xs := List.take_of_length_le (by rw [HN.out]; exact Nat.le_refl _)
   have hy := HY.out
   rw [hd, List.append_nil] at hst
   rw [ht] at hy
   refine ⟨_, rfl, ys, hy, fun a b hym => ?_, hst⟩
   have h2 : b ∈ xs.map (·.2) := by rw [← hy]; exact List.mem_map_of_mem (f := (·.2)) hym
   obtain ⟨u, hu, he⟩ := List.mem_map.1 h2
   rw [← he]
   exact ⟨HLX.out u hu, (HA.out u hu).2⟩
end Go.Proofs.YtifajcblbedcoaaGreat
namespace Go.Proofs.YtifajcblbedcoaaGreat
set_option linter.unusedVariables false
set_option linter.unusedSimpArgs false
open Go.RowKit Hp
set_option maxRecDepth 100000
theorem bldT3 (z a b c d : Int) (ao : Option Addr) (n k : Nat) : Tryz.prog.built 27 [(0, .int .i64 z), (2, .agg #[.int .i64 a, .int .i64 b, .int .i64 c, .int .i64 d]), (3, .slice ao n k)] = some #[.int .i64 z, .slice none 0 0, .int .i64 a, .int .i64 b, .int .i64 c, .int .i64 d, .slice ao n k] := by kernel_rfl
theorem row_sliceC {w0 w : World} {M : List Nat} (L1 : List HA) {L2 : List HA} {v : Value} {T : TypeId} {sz n : Nat} {xs : List Value} (h : St w0 M w (L1 ++ .row v T sz n xs :: L2)) : ∃ ao c, v = .slice ao n c ∧ n ≤ c ∧ c ≤ 9223372036854775807 := by
 obtain ⟨ao, c, e, h1, h2, _⟩ := row_form h (List.mem_append.2 (.inr (.head _)))
 exact ⟨ao, c, e, h1, h2⟩
theorem results_cellC {fn : Func} {p : Tmp} {ty : TypeId} {tmps : Array Value} {P : Program} {w : World} {A : Addr} {v : Value} (h : fn.results = #[.cell p ty]) (hp : tmps.getD p undef = .pointer (some A)) (hl : Loads P w ty A v) :
  (results fn tmps).run P w = .ok v w := by
 have hl' : (loadVar ty A).run P w = .ok v w := hl
 have hp' : tmps[p]?.getD undef = .pointer (some A) := by simpa using hp
 simp [results, h, hp', asAddr, hl', Sem.run_bind]
end Go.Proofs.YtifajcblbedcoaaGreat
namespace Go.Proofs.YtifajcblbedcoaaGreat
set_option linter.unusedVariables false
set_option linter.unusedSimpArgs false
open Go.RowKit Hp
def rowOf (E : TypeId) (x : Value × RC) : HA := .row x.1 E 2 x.2.l.length (addrsV x.2.l)
theorem rootRows_perm (E : TypeId) (xs : List (Value × RC)) : (rootRows E xs).Perm (xs.map (rowOf E)) := by
 unfold rootRows
 exact (List.reverse_perm xs).map _
end Go.Proofs.YtifajcblbedcoaaGreat
namespace Go.Proofs.YtifajcblbedcoaaGreat
set_option linter.unusedVariables false
set_option linter.unusedSimpArgs false
open Go.RowKit Hp
attribute [local irreducible] Go.Calls Go.wpList
set_option maxRecDepth 100000
set_option maxHeartbeats 8000000
attribute [local go_sem ↓] heldInt heldInts heldRecs heldRec heldStr heldTab
def TP (g : Nat) (t : TC) (rv lv : Value) (xs : List (Value × RC)) (R : List HA) : List HA := .blk g 27 (tabC t rv lv) :: .row rv 53 44 xs.length (recsV xs) :: .row lv 3 1 t.lives.length (numsV t.lives) :: (xs.map rootH ++ R)
structure Okx (xs : List (Value × RC)) (t : TC) : Prop where
 eq : xs.map (·.2) = t.recs
 ok : ∀ x ∈ xs, L32 x.2.S ∧ x.2.name.length ≤ 1000000
theorem Okx.own {xs : List (Value × RC)} {t : TC} (h : Okx xs t) (y : HA) (R : List HA) : OwnX (y :: (xs.map rootH ++ R)) xs := fun x hx => ⟨.tail _ (List.mem_append_left _ (List.mem_map_of_mem hx)), h.ok x hx⟩
theorem Okx.len {xs : List (Value × RC)} {t : TC} (h : Okx xs t) : xs.length = t.recs.length := by rw [← h.eq, List.length_map]
theorem RC.Bd.rootLen {r : RC} (h : r.Bd) : r.l.length ≤ 3 := (check_bd h.root).1
def DoesPost (g : Nat) (al : Option Addr) (cl : Nat) (w : World) (t : TC) (r : TR) (R : List HA) (e : Ending) (w' : World) : Prop :=
 e = .returned (.int .i64 r.1) ∧ ((r.1 == 0) = true → ∃ rv xs', Okx xs' r.2 ∧ St w [] w' (TP g r.2 rv (.slice al t.lives.length cl) xs' R) ∧ r.2.lives = t.lives) ∧ ((r.1 == 0) = false → St w [] w' R)
def Does (F : FuncId) (caps : Array Value) (w : World) (t : TC) (r : TR) : Prop :=
 ∀ (g : Nat) (ao : Option Addr) (c : Nat) (al : Option Addr) (cl : Nat) (xs : List (Value × RC)) (R : List HA) (w1 : World), Okx xs t → St w [] w1 (TP g t (.slice ao xs.length c) (.slice al t.lives.length cl) xs R) →
  Calls Tryz.prog F (#[.pointer (some ⟨g, 0, none⟩)] ++ caps) w1 (DoesPost g al cl w t r R)
def TabRet (r : TR) (w : World) (e : Ending) (w' : World) : Prop :=
 ∃ rv lv xs, e = .returned (.tuple #[.agg (tabC r.2 rv lv).toArray, .int .i64 r.1]) ∧ Okx xs r.2 ∧ St w [] w' (.row rv 53 44 xs.length (recsV xs) :: .row lv 3 1 r.2.lives.length (numsV r.2.lives) :: xs.map rootH)
theorem tabRet_bad {w w' : World} {L : List HA} (h : St w [] w' L) (z : Int) : TabRet (badR z) w (.returned (.tuple #[.agg tab0.toArray, .int .i64 z])) w' :=
 ⟨.slice none 0 0, .slice none 0 0, [], rfl, ⟨rfl, fun _ h => by cases h⟩, St.nilR _ 44 (St.nilR _ 1 h.nil)⟩
theorem perm_owned {a b c d : HA} {R R' : List HA} (h : R.Perm R') : ((a :: R) ++ [b, c, d]).Perm (d :: a :: b :: (R' ++ [c])) := by
 have h1 : (R ++ [b, c, d]).Perm (b :: (R' ++ [c, d])) := (h.append_right _).trans List.perm_middle
 have h2 : (R' ++ [c, d]).Perm (d :: (R' ++ [c])) := by
  have e : R' ++ [c, d] = (R' ++ [c]) ++ [d] := by simp
  rw [e]
  exact List.perm_append_singleton _ _
 have h3 : (a :: (R ++ [b, c, d])).Perm (a :: b :: d :: (R' ++ [c])) := .cons _ (h1.trans (.cons _ h2))
 exact h3.trans ((List.Perm.cons _ (.swap _ _ _)).trans (.swap _ _ _))
theorem results_cellR {fn : Func} {p q : Tmp} {ty : TypeId} {tmps : Array Value} {P : Program} {w : World} {A : Addr} {v u : Value} (h : fn.results = #[.cell p ty, .tmp q]) (hp : tmps.getD p undef = .pointer (some A)) (hq : tmps.getD q undef = u) (hl : Loads P w ty A v) :
  (results fn tmps).run P w = .ok (.tuple #[v, u]) w := by
 have hl' : (loadVar ty A).run P w = .ok v w := hl
 have hp' : tmps[p]?.getD undef = .pointer (some A) := by simpa using hp
 have hq' : tmps[q]?.getD undef = u := by simpa using hq
 simp [results, h, hp', hq', asAddr, hl', Sem.run_bind]
theorem owned_any (F : FuncId) (caps : Array Value) (hF : ∀ (a : Array Value) (w : World), (callFunc F a).run Tryz.prog w = .ok (.enter F a) w) (t : TC) (ar al : Option Addr) (nr cr nl cl : Nat) (xs : List (Value × RC)) (w : World) (ht : TabIn w t ar nr cr al nl cl xs) (r : TR) (hd : t.ok = true → Does F caps w t r) :
  Calls Tryz.prog 54 #[.agg (tabC t (.slice ar nr cr) (.slice al nl cl)).toArray, .func (.func F) #[] caps] w (TabRet (opR t r) w) := by
 have hst0 := St.refl w
 have HT := hid ht
 have HD := hid hd
 have b1 := ht.br
 have b2 := ht.bl
 have b3 := ht.len
 have b4 := ht.ln
 obtain ⟨Q, hQ⟩ : ∃ Q, Q = opR t r := ⟨_, rfl⟩
 rw [← hQ]
 have HQ := hid hQ
 clear ht hd hQ
 cases hok : t.ok with
 | false =>
  have HE := hid (err_no hok)
  have HR := hid (show Q = badR 2 by rw [HQ.out]; unfold opR; rw [hok]; rfl)
  clear hok
  go_enter Tryz.func54, Tryz.ntmps54
  go_wp2_with (first | go_big_skip | go_big_guard | (refine wl_boxA hst0 rfl rfl rfl ?_; intro g w1 hst1; clear hst0) | (refine wl_alloc hst1 rfl rfl ?_; intro g4 w2 hst; clear hst1) | (refine wl_loadE rfl rfl rfl ?_; first | refine ⟨_, Loads.atA (tabC t (.slice ar nr cr) (.slice al nl cl)) [_] hst rfl rfl, ?_⟩ | refine ⟨_, Loads.at [_] hst rfl, ?_⟩ | refine ⟨_, Loads.at [_, _] hA2 rfl, ?_⟩ | refine ⟨_, Loads.atA (tabC u (.slice a9 xs9.length c9) (.slice a2 nl c2)) [] hB1 rfl rfl, ?_⟩) | (go_at_call 20; refine (check12_any t ar al nr cr nl cl xs _ (HT.out.R.old hst.nil) HT.out.eq (by omega) (Rd.old hst.nil HT.out.L) HT.out.ln (by omega)).mono ?_; rw [HE.out]; rintro _ w9 ⟨rfl, h4⟩; replace hst := St.call0 hst h4; clear h4) | (refine wl_build0 rfl rfl ?_) | (refine wl_storeA [] hst rfl rfl rfl rfl rfl rfl rfl ?_; intro w7 hst2; clear hst))
  have hl := Loads.atA (P := Tryz.prog) (off := 0) (T := 27) tab0 [] hst2 rfl rfl
  refine bodyPost_ret (results_cellR rfl rfl rfl hl) rfl ?_
  rw [HR.out]
  exact tabRet_bad hst2 2
 | true =>
  have HE := hid (err_yes hok)
  have hbd := ok_bd hok
  have HDD := hid (HD.out hok)
  have b5 := hbd.many
  have b6 := hbd.lives
  have HR := hid (show Q = if r.1 == 0 then r else badR r.1 by rw [HQ.out]; unfold opR; rw [hok]; rfl)
  have HRL := hid (show ∀ x ∈ xs, x.2.l.length ≤ 100000 ∧ x.2.name.length ≤ 1000000 from fun x hx => by
   have hx2 : x.2 ∈ t.recs := by rw [← HT.out.eq]; exact List.mem_map_of_mem hx
   have q1 := (hbd.recs x.2 hx2).rootLen
   have q2 := (hbd.recs x.2 hx2).name
   omega)
  clear hok hbd HD HQ
  obtain ⟨⟨z, u⟩, hru⟩ : ∃ q, q = r := ⟨_, rfl⟩
  subst hru
  have HRR := HR
  cases hz : (z == 0)
  ·have d1 : (z != 0) = !(z == 0) := rfl
   rw [hz] at d1
   have HZ := hid hz
   clear hz
   go_enter Tryz.func54, Tryz.ntmps54
   go_wp2_with (first | go_big_skip | go_big_guard | (refine wl_boxA hst0 rfl rfl rfl ?_; intro g w1 hst1; clear hst0) | (refine wl_alloc hst1 rfl rfl ?_; intro g4 w2 hst; clear hst1) | (refine wl_loadE rfl rfl rfl ?_; first | refine ⟨_, Loads.atA (tabC t (.slice ar nr cr) (.slice al nl cl)) [_] hst rfl rfl, ?_⟩ | refine ⟨_, Loads.at [_] hst rfl, ?_⟩ | refine ⟨_, Loads.at [_, _] hA2 rfl, ?_⟩ | refine ⟨_, Loads.atA (tabC u (.slice a9 xs9.length c9) (.slice a2 nl c2)) [] hB1 rfl rfl, ?_⟩) | (go_at_call 20; refine (check12_any t ar al nr cr nl cl xs _ (HT.out.R.old hst.nil) HT.out.eq (by omega) (Rd.old hst.nil HT.out.L) HT.out.ln (by omega)).mono ?_; rw [HE.out]; rintro _ w9 ⟨rfl, h4⟩; replace hst := St.call0 hst h4; clear h4) | (go_at_call 110; refine (cloneI_any al nl cl _ _ (Rd.old hst HT.out.L) (ones_numsV _) (by omega)).mono ?_; rintro _ w9 ⟨v9, rfl, h4⟩; have hA1 := St.call hst h4; clear h4 hst; obtain ⟨a2, c2, rfl, _, _⟩ := rowS [] hA1) | (refine wl_store [_, _] hA1 rfl rfl rfl (off := 6) (v := .slice a2 nl c2) rfl rfl rfl (by show (6 : Nat) + 1 ≤ 7; decide) ?_; intro w6 h4; have hA2 : St w [] w6 (.row (.slice a2 nl c2) 3 1 nl (numsV t.lives) :: .blk g4 27 tab0 :: .blk g 27 (tabC t (.slice ar nr cr) (.slice a2 nl c2)) :: []) := h4; clear h4 hA1) | (go_at_call 111; refine (each_any ar nr cr xs _ (HT.out.R.old hA2.nil) (by omega) HRL.out).mono ?_; rintro _ w9 ⟨rv9, ys, rfl, hy9, ho9, h4⟩; have hA3 := St.call hA2 h4; clear h4 hA2; obtain ⟨a3, c3, rfl, _, _⟩ := rowS [] hA3; have HYE : Hid (ys.map (·.2) = t.recs) := hid (by rw [hy9]; exact HT.out.eq); have HYO := hid ho9; clear hy9 ho9; have hA4 : St w [] w9 (.blk g 27 (tabC t (.slice ar nr cr) (.slice a2 nl c2)) :: .row (.slice a3 nr c3) 53 44 nr (recsV ys) :: .row (.slice a2 nl c2) 3 1 nl (numsV t.lives) :: (ys.map rootH ++ [.blk g4 27 tab0])) := St.perm hA3 (perm_owned (rootRows_perm _ ys)); clear hA3) | (refine wl_store [] hA4 rfl rfl rfl (off := 1) (v := .slice a3 nr c3) rfl rfl rfl (by show (1 : Nat) + 1 ≤ 7; decide) ?_; intro w7 h4; have hB0 : St w [] w7 (TP g t (.slice a3 ys.length c3) (.slice a2 t.lives.length c2) ys [.blk g4 27 tab0]) := (by have q1 : ys.length = nr := (by rw [← List.length_map (f := fun x : Value × RC => x.2), HYE.out]; exact b3); unfold TP; rw [q1, b4]; exact h4); clear h4 hA4) | (refine (HDD.out g a3 c3 a2 c2 ys [.blk g4 27 tab0] _ ⟨HYE.out, HYO.out⟩ hB0).mono ?_; rintro _ w8 ⟨rfl, hgood, hbad⟩; have hC1 := hbad HZ.out; clear hgood hbad hB0) | (refine wl_build0 rfl rfl ?_) | (refine wl_storeA [] hC1 rfl rfl rfl rfl rfl rfl rfl ?_; intro w7 hC2; clear hC1))
   have hl := Loads.atA (P := Tryz.prog) (off := 0) (T := 27) tab0 [] hC2 rfl rfl
   refine bodyPost_ret (results_cellR rfl rfl rfl hl) rfl ?_
   have hq := HR.out
   rw [HZ.out] at hq
   rw [hq]
   exact tabRet_bad hC2 z
  ·have d1 : (z != 0) = !(z == 0) := rfl
   rw [hz] at d1
   have HZ := hid hz
   clear hz
   go_enter Tryz.func54, Tryz.ntmps54
   go_wp2_with (first | go_big_skip | go_big_guard | (refine wl_boxA hst0 rfl rfl rfl ?_; intro g w1 hst1; clear hst0) | (refine wl_alloc hst1 rfl rfl ?_; intro g4 w2 hst; clear hst1) | (refine wl_loadE rfl rfl rfl ?_; first | refine ⟨_, Loads.atA (tabC t (.slice ar nr cr) (.slice al nl cl)) [_] hst rfl rfl, ?_⟩ | refine ⟨_, Loads.at [_] hst rfl, ?_⟩ | refine ⟨_, Loads.at [_, _] hA2 rfl, ?_⟩ | refine ⟨_, Loads.atA (tabC u (.slice a9 xs9.length c9) (.slice a2 nl c2)) [] hB1 rfl rfl, ?_⟩) | (go_at_call 20; refine (check12_any t ar al nr cr nl cl xs _ (HT.out.R.old hst.nil) HT.out.eq (by omega) (Rd.old hst.nil HT.out.L) HT.out.ln (by omega)).mono ?_; rw [HE.out]; rintro _ w9 ⟨rfl, h4⟩; replace hst := St.call0 hst h4; clear h4) | (go_at_call 110; refine (cloneI_any al nl cl _ _ (Rd.old hst HT.out.L) (ones_numsV _) (by omega)).mono ?_; rintro _ w9 ⟨v9, rfl, h4⟩; have hA1 := St.call hst h4; clear h4 hst; obtain ⟨a2, c2, rfl, _, _⟩ := rowS [] hA1) | (refine wl_store [_, _] hA1 rfl rfl rfl (off := 6) (v := .slice a2 nl c2) rfl rfl rfl (by show (6 : Nat) + 1 ≤ 7; decide) ?_; intro w6 h4; have hA2 : St w [] w6 (.row (.slice a2 nl c2) 3 1 nl (numsV t.lives) :: .blk g4 27 tab0 :: .blk g 27 (tabC t (.slice ar nr cr) (.slice a2 nl c2)) :: []) := h4; clear h4 hA1) | (go_at_call 111; refine (each_any ar nr cr xs _ (HT.out.R.old hA2.nil) (by omega) HRL.out).mono ?_; rintro _ w9 ⟨rv9, ys, rfl, hy9, ho9, h4⟩; have hA3 := St.call hA2 h4; clear h4 hA2; obtain ⟨a3, c3, rfl, _, _⟩ := rowS [] hA3; have HYE : Hid (ys.map (·.2) = t.recs) := hid (by rw [hy9]; exact HT.out.eq); have HYO := hid ho9; clear hy9 ho9; have hA4 : St w [] w9 (.blk g 27 (tabC t (.slice ar nr cr) (.slice a2 nl c2)) :: .row (.slice a3 nr c3) 53 44 nr (recsV ys) :: .row (.slice a2 nl c2) 3 1 nl (numsV t.lives) :: (ys.map rootH ++ [.blk g4 27 tab0])) := St.perm hA3 (perm_owned (rootRows_perm _ ys)); clear hA3) | (refine wl_store [] hA4 rfl rfl rfl (off := 1) (v := .slice a3 nr c3) rfl rfl rfl (by show (1 : Nat) + 1 ≤ 7; decide) ?_; intro w7 h4; have hB0 : St w [] w7 (TP g t (.slice a3 ys.length c3) (.slice a2 t.lives.length c2) ys [.blk g4 27 tab0]) := (by have q1 : ys.length = nr := (by rw [← List.length_map (f := fun x : Value × RC => x.2), HYE.out]; exact b3); unfold TP; rw [q1, b4]; exact h4); clear h4 hA4) | (refine (HDD.out g a3 c3 a2 c2 ys [.blk g4 27 tab0] _ ⟨HYE.out, HYO.out⟩ hB0).mono ?_; rintro _ w8 ⟨rfl, hgood, hbad⟩; obtain ⟨rv9, xs9, hok9, hB1, hlv9⟩ := hgood HZ.out; clear hgood hbad hB0; rw [b4] at hB1; obtain ⟨a9, c9, rfl, _, _⟩ := rowS [_] hB1; have HOK := hid hok9; have HLV := hid hlv9; clear hok9 hlv9) | (refine wl_build0 rfl rfl ?_) | (refine wl_storeA (_ :: _ :: _ :: List.map rootH xs9) hB1 rfl rfl rfl rfl (vs := tabC u (.slice a9 xs9.length c9) (.slice a2 nl c2)) rfl rfl rfl ?_; intro w7 hB2; clear hB1))
   have hl := Loads.atA (P := Tryz.prog) (off := 0) (T := 27) (tabC u (.slice a9 xs9.length c9) (.slice a2 nl c2)) (_ :: _ :: _ :: List.map rootH xs9) hB2 rfl rfl
   refine bodyPost_ret (results_cellR rfl rfl rfl hl) rfl ?_
   have hq := HR.out
   rw [HZ.out] at hq
   have hz0 : z = 0 := by simpa using HZ.out
   subst hz0
   rw [hq]
   exact ⟨_, _, xs9, rfl, HOK.out, St.sub hB2 (.cons _ (.cons_cons _ (.cons_cons _ (List.sublist_append_left _ _))))⟩
end Go.Proofs.YtifajcblbedcoaaGreat
namespace Go.Proofs.YtifajcblbedcoaaGreat
set_option linter.unusedVariables false
set_option linter.unusedSimpArgs false
open Go.RowKit Hp
attribute [local irreducible] Go.Calls Go.wpList
set_option maxRecDepth 100000
set_option maxHeartbeats 8000000
attribute [local go_sem ↓] heldInt heldInts heldRecs heldRec heldStr heldTab
theorem tp_rest {L : List HA} {g : Nat} {t : TC} {rv lv : Value} {xs : List (Value × RC)} {R : List HA} {w w' : World} (h : St w [] w' (L ++ TP g t rv lv xs R)) : St w [] w' R :=
 St.sub h (by
  refine (List.Sublist.trans ?_ (List.sublist_append_right _ _))
  exact .cons _ (.cons _ (.cons _ (List.sublist_append_right _ _))))
theorem does_bad {L : List HA} {g : Nat} {al : Option Addr} {cl : Nat} {w w' : World} {t : TC} {rv lv : Value} {xs : List (Value × RC)} {R : List HA} {r : TR} {z : Int} (hr : r = badR z) (hz : (z == 0) = false) (h : St w [] w' (L ++ TP g t rv lv xs R)) : DoesPost g al cl w t r R (.returned (.int .i64 z)) w' := by
 subst hr
 refine ⟨rfl, fun h0 => ?_, fun _ => tp_rest h⟩
 have : (z == 0) = true := h0
 rw [hz] at this
 cases this
theorem put_ready {E : List HA} {g : Nat} {t : TC} {rv lv : Value} {xs : List (Value × RC)} {R : List HA} {w w' : World} {x : Value × RC} (h : St w [] w' (rootH x :: (E ++ TP g t rv lv xs R))) :
  St w [] w' (.blk g 27 (tabC t rv lv) :: .row rv 53 44 xs.length (recsV xs) :: (.row lv 3 1 t.lives.length (numsV t.lives) :: (xs.map rootH ++ (rootH x :: (E ++ R))))) := by
 refine St.perm h ?_
 unfold TP
 generalize HA.blk g _ _ = a
 generalize HA.row rv _ _ _ _ = b
 generalize HA.row lv _ _ _ _ = c
 generalize List.map rootH xs = m
 generalize rootH x = y
 have h1 : (E ++ (a :: b :: c :: (m ++ R))).Perm (a :: b :: c :: (m ++ (E ++ R))) := by
  have : (E ++ ((a :: b :: c :: m) ++ R)).Perm ((a :: b :: c :: m) ++ (E ++ R)) := by
   rw [← List.append_assoc, ← List.append_assoc]
   exact List.perm_append_comm.append_right R
  exact this
 have h2 : (y :: (a :: b :: c :: (m ++ (E ++ R)))).Perm (a :: b :: c :: (m ++ (y :: (E ++ R)))) := by
  have : (y :: ((a :: b :: c :: m) ++ (E ++ R))).Perm ((a :: b :: c :: m) ++ (y :: (E ++ R))) := List.perm_middle.symm
  exact this
 exact (List.Perm.cons y h1).trans h2
theorem ready_own {x : Value × RC} {xs : List (Value × RC)} {t : TC} {c : HA} {E : List HA} (h : Okx xs t) (hx : L32 x.2.S ∧ x.2.name.length ≤ 1000000) : OwnX (c :: (xs.map rootH ++ (rootH x :: E))) xs ∧ OwnR (c :: (xs.map rootH ++ (rootH x :: E))) x :=
 ⟨fun y hy => ⟨.tail _ (List.mem_append_left _ (List.mem_map_of_mem hy)), h.ok y hy⟩, ⟨.tail _ (List.mem_append_right _ (.head _)), hx⟩⟩
theorem put_done {E : List HA} {g : Nat} {al : Option Addr} {cl : Nat} {w w' : World} {t : TC} {rv : Value} {xs xs' : List (Value × RC)} {R : List HA} {x : Value × RC} {r : TR} (hr : r = (0, putT t x.2)) (hok : Okx xs t) (he : xs'.map (·.2) = layL { x.2 with id := t.next } (xs.map (·.2)))
  (ho : ∀ y ∈ xs', L32 y.2.S ∧ y.2.name.length ≤ 1000000) (hp : (xs'.map rootH).Perm (rootH x :: xs.map rootH))
  (h : St w [] w' (.blk g 27 (tabC (nextT t) rv (.slice al t.lives.length cl)) :: .row rv 53 44 (xs.length + 1) (recsV xs') :: (.row (.slice al t.lives.length cl) 3 1 t.lives.length (numsV t.lives) :: (xs.map rootH ++ (rootH x :: (E ++ R)))))) :
  DoesPost g al cl w t r R (.returned (.int .i64 0)) w' := by
 subst hr
 refine ⟨rfl, fun _ => ⟨rv, xs', ⟨?_, ho⟩, ?_, rfl⟩, fun h0 => by cases h0⟩
 ·rw [he, hok.eq]
  rfl
 ·have hl : xs'.length = xs.length + 1 := by
   have := congrArg List.length he
   rw [List.length_map, layL_length, List.length_map] at this
   exact this
  unfold TP
  rw [hl]
  have h1 : (xs.map rootH ++ (rootH x :: (E ++ R))).Perm (xs'.map rootH ++ (E ++ R)) := List.perm_middle.trans (hp.symm.append_right _)
  have h2 := St.perm h (.cons _ (.cons _ (.cons _ h1)))
  exact St.sub h2 (.cons_cons _ (.cons_cons _ (.cons_cons _ ((List.Sublist.refl _).append (List.sublist_append_right _ _)))))
theorem put_front {w w' : World} {e a b c y : HA} {m R : List HA} (h : St w [] w' (a :: b :: c :: (m ++ (y :: ([e] ++ R))))) : St w [] w' (e :: a :: b :: c :: (m ++ (y :: ([] ++ R)))) := by
 refine St.perm h ?_
 have h1 : (m ++ (y :: (e :: R))).Perm (e :: (m ++ (y :: R))) := by
  have := List.perm_middle (a := e) (l₁ := m ++ [y]) (l₂ := R)
  simpa using this
 have h2 : (a :: b :: c :: (m ++ (y :: (e :: R)))).Perm (a :: b :: c :: (e :: (m ++ (y :: R)))) := .cons _ (.cons _ (.cons _ h1))
 exact h2.trans (List.perm_middle (a := e) (l₁ := [a, b, c]) (l₂ := m ++ (y :: R)))
theorem bldV (nm : List UInt8) (size txg : Int) : Tryz.prog.built 53 [(1, .string ⟨nm.toArray⟩), (2, .int .i64 1), (3, .int .i64 size), (5, .int .i64 txg)] = some (cellsR ((.slice none 0 0 : Value), volR nm size txg)).toArray := by kernel_rfl
theorem ok_next {t : TC} (h : t.ok = true) : 0 ≤ t.next ∧ t.next ≤ 2147483648 := (ok_bd h).next
theorem ok_many {t : TC} (h : t.ok = true) : t.recs.length ≤ 16 := (ok_bd h).many
theorem ok_sorted {t : TC} (h : t.ok = true) : Sorted t.recs := by
 have h4 : allAt (eachB t.recs) t.recs = true := by
  unfold TC.ok at h
  simp only [Bool.and_eq_true] at h
  exact h.1.2
 have step : ∀ (i : Nat) (x y : RC), t.recs[i]? = some x → t.recs[i + 1]? = some y → lessL x.name y.name = true := fun i x y hx hy => by
  have := allAt_at h4 hy
  unfold eachB at this
  have h2 := (Bool.and_eq_true_iff.1 this).2
  have e : lessAt t.recs (i + 1) y = lessL x.name y.name := by
   show (match t.recs[i]? with
    | some u => lessL u.name y.name
    | none => true) = _
   rw [hx]
  rwa [e] at h2
 intro i j x y hij hx hy
 obtain ⟨d, rfl⟩ : ∃ d, j = i + 1 + d := ⟨j - (i + 1), by omega⟩
 induction d generalizing y with
 | zero => exact step i x y hx hy
 | succ d ih =>
  have hlt := (List.getElem?_eq_some_iff.1 hy).1
  have hz : t.recs[i + 1 + d]? = some t.recs[i + 1 + d] := List.getElem?_eq_getElem (by omega)
  exact less_trans (ih _ (by omega) hz) (step (i + 1 + d) _ y hz hy)
theorem make_does {w : World} {gn gs gx : Nat} (nm : List UInt8) (size txg : Int) (h1 : w.cell? ⟨gn, 0, none⟩ = some (.string ⟨nm.toArray⟩)) (h2 : w.cell? ⟨gs, 0, none⟩ = some (.int .i64 size)) (h3 : w.cell? ⟨gx, 0, none⟩ = some (.int .i64 txg)) (hl : nm.length ≤ 1000000) (t : TC) (hk : t.ok = true) :
  Does 61 #[.pointer (some ⟨gn, 0, none⟩), .pointer (some ⟨gs, 0, none⟩), .pointer (some ⟨gx, 0, none⟩)] w t (makeR t nm size txg) := by
 intro g ao c al cl xs R w1 hok hst0
 show Calls _ _ #[.pointer (some ⟨g, 0, none⟩), .pointer (some ⟨gn, 0, none⟩), .pointer (some ⟨gs, 0, none⟩), .pointer (some ⟨gx, 0, none⟩)] _ _
 have hst := hst0
 have H1 := hid h1
 have H2 := hid h2
 have H3 := hid h3
 have HOK := hid hok
 have HK := hid hk
 have b2 : xs.length ≤ 16 := by rw [hok.len]; exact ok_many hk
 clear hst0 h1 h2 h3 hok hk
 obtain ⟨r, hr⟩ : ∃ r, r = makeR t nm size txg := ⟨_, rfl⟩
 rw [← hr]
 have HR := hid hr
 clear hr
 obtain ⟨p, hp⟩ : ∃ p, partB nm = p := ⟨_, rfl⟩
 obtain ⟨q, hq⟩ : ∃ q, inB size 1 64 = q := ⟨_, rfl⟩
 obtain ⟨s, hs⟩ : ∃ s, txgB txg = s := ⟨_, rfl⟩
 obtain ⟨z, hz⟩ : ∃ z, roomE t nm = z := ⟨_, rfl⟩
 have HP := hid hp
 have HSZ := hid hq
 have HT := hid hs
 have HRM := hid hz
 have hv : r = if (p && q) && s then (if z == 0 then (0, putT t (volR nm size txg)) else badR z) else badR 2 := by rw [HR.out]; unfold makeR; rw [hp, hq, hs, hz]
 have HV := hid hv
 clear hp hq hs hz hv
 cases hc : ((p && q) && s)
 ·have HB := hid (show r = badR 2 by rw [HV.out, hc]; rfl)
  clear HV HR
  cases p <;> cases q <;> cases s <;> first | (cases hc; done) | skip
  all_goals
   clear hc
   go_enter Tryz.func61, Tryz.ntmps61
   go_wp2_with (first | go_big_skip | go_big_guard | (refine wl_loadE rfl rfl rfl ?_; first | refine ⟨_, Loads.old hst H1.out, ?_⟩ | refine ⟨_, Loads.old hst H2.out, ?_⟩ | refine ⟨_, Loads.old hst H3.out, ?_⟩) | (go_at_call 62; refine (volume_any nm _ (by omega)).mono ?_; rw [HP.out]; rintro _ w9 ⟨rfl, h4⟩; replace hst := St.call0 hst h4; clear h4) | (go_at_call 63; refine (sized_any size _).mono ?_; rw [HSZ.out]; rintro _ w9 ⟨rfl, h4⟩; replace hst := St.call0 hst h4; clear h4) | (go_at_call 64; refine (commit_any txg _).mono ?_; rw [HT.out]; rintro _ w9 ⟨rfl, h4⟩; replace hst := St.call0 hst h4; clear h4))
   go_ret
   exact does_bad (L := []) HB.out (by decide) hst
 ·have h3 : p = true ∧ q = true ∧ s = true := by revert hc; cases p <;> cases q <;> cases s <;> decide
  obtain ⟨rfl, rfl, rfl⟩ := h3
  cases hz : (z == 0)
  ·have HB := hid (show r = badR z by rw [HV.out, hc, hz]; rfl)
   have HZ := hid hz
   have d1 : (z != 0) = true := by rw [bne, hz]; rfl
   clear hc hz HV HR
   go_enter Tryz.func61, Tryz.ntmps61
   go_wp2_with (first | go_big_skip | go_big_guard | (refine wl_loadE rfl rfl rfl ?_; first | refine ⟨_, Loads.old hst H1.out, ?_⟩ | refine ⟨_, Loads.old hst H2.out, ?_⟩ | refine ⟨_, Loads.old hst H3.out, ?_⟩) | (go_at_call 62; refine (volume_any nm _ (by omega)).mono ?_; rw [HP.out]; rintro _ w9 ⟨rfl, h4⟩; replace hst := St.call0 hst h4; clear h4) | (go_at_call 63; refine (sized_any size _).mono ?_; rw [HSZ.out]; rintro _ w9 ⟨rfl, h4⟩; replace hst := St.call0 hst h4; clear h4) | (go_at_call 64; refine (commit_any txg _).mono ?_; rw [HT.out]; rintro _ w9 ⟨rfl, h4⟩; replace hst := St.call0 hst h4; clear h4) | (go_at_call 65; refine (room_any g t ao xs.length c _ xs nm hst (HOK.out.own _ _) rfl HOK.out.eq (by omega)).mono ?_; rw [HRM.out]; rintro _ w9 ⟨rfl, h4⟩; have hst2 := h4; clear h4 hst))
   go_ret
   exact does_bad (L := []) HB.out HZ.out hst2
  ·have HB := hid (show r = (0, putT t (volR nm size txg)) by rw [HV.out, hc, hz]; rfl)
   have d1 : (z != 0) = false := by rw [bne, hz]; rfl
   clear hc hz HV HR
   have hz0 := ok_next HK.out
   have HS := hid (ok_sorted HK.out)
   go_enter Tryz.func61, Tryz.ntmps61
   go_wp2_with (first | go_big_skip | go_big_guard | (refine wl_loadE rfl rfl rfl ?_; first | refine ⟨_, Loads.old hst H1.out, ?_⟩ | refine ⟨_, Loads.old hst H2.out, ?_⟩ | refine ⟨_, Loads.old hst H3.out, ?_⟩ | refine ⟨_, Loads.old hst2 H1.out, ?_⟩ | refine ⟨_, Loads.old hst2 H2.out, ?_⟩ | refine ⟨_, Loads.old hst2 H3.out, ?_⟩) | (go_at_call 62; refine (volume_any nm _ (by omega)).mono ?_; rw [HP.out]; rintro _ w9 ⟨rfl, h4⟩; replace hst := St.call0 hst h4; clear h4) | (go_at_call 63; refine (sized_any size _).mono ?_; rw [HSZ.out]; rintro _ w9 ⟨rfl, h4⟩; replace hst := St.call0 hst h4; clear h4) | (go_at_call 64; refine (commit_any txg _).mono ?_; rw [HT.out]; rintro _ w9 ⟨rfl, h4⟩; replace hst := St.call0 hst h4; clear h4) | (go_at_call 65; refine (room_any g t ao xs.length c _ xs nm hst (HOK.out.own _ _) rfl HOK.out.eq (by omega)).mono ?_; rw [HRM.out]; rintro _ w9 ⟨rfl, h4⟩; have hst2 := h4; clear h4 hst) | (refine wl_buildX (cs := cellsR ((.slice none 0 0 : Value), volR nm size txg)) [(1, .string ⟨nm.toArray⟩), (2, .int .i64 1), (3, .int .i64 size), (5, .int .i64 txg)] rfl rfl (by exact rfl) (bldV _ _ _) ?_) | (go_at_call 66; have hrd := put_ready (E := []) (g := g) (t := t) (rv := .slice ao xs.length c) (lv := .slice al t.lives.length cl) (xs := xs) (R := R) (x := ((.slice none 0 0 : Value), volR nm size txg)) (St.nilR 102 2 hst2); have hox := ready_own (x := ((.slice none 0 0 : Value), volR nm size txg)) (c := .row (.slice al t.lives.length cl) 3 1 t.lives.length (numsV t.lives)) (E := [] ++ R) HOK.out ⟨L32.nones, hl⟩; refine (putRec_any g t ao xs.length c _ xs ((.slice none 0 0 : Value), volR nm size txg) hrd hox.1 hox.2 rfl (by rw [HOK.out.eq]; exact HS.out) (by omega) hz0).mono ?_; rintro _ w9 ⟨rv9, xs9, rfl, he9, ho9, hp9, h4⟩; have HE9 := hid he9; have HO9 := hid ho9; have HP9 := hid hp9; have hst3 := h4; clear h4 hst2 he9 ho9 hp9 hrd hox))
   go_ret
   exact put_done (E := []) (g := g) (al := al) (cl := cl) (t := t) (rv := rv9) (xs := xs) (xs' := xs9) (R := R) (x := ((.slice none 0 0 : Value), volR nm size txg)) HB.out HOK.out HE9.out (fun y hy => (HO9.out y hy).2) HP9.out hst3
end Go.Proofs.YtifajcblbedcoaaGreat
namespace Go.Proofs.YtifajcblbedcoaaGreat
set_option linter.unusedVariables false
set_option linter.unusedSimpArgs false
open Go.RowKit Hp
attribute [local irreducible] Go.Calls Go.wpList
set_option maxRecDepth 100000
set_option maxHeartbeats 8000000
theorem del_cells {C rest : List Value} {n i : Nat} (hl : C.length = n * 44) (hi : i < n) : (putAt (C ++ rest) (i * 44) (C.drop ((i + 1) * 44))).take ((n - 1) * 44) = C.take (i * 44) ++ C.drop ((i + 1) * 44) := by
 have h1 : (C.drop ((i + 1) * 44)).length = (n - 1 - i) * 44 := by rw [List.length_drop, hl]; omega
 have h2 : ((C ++ rest).take (i * 44)) = C.take (i * 44) := List.take_append_of_le_length (by rw [hl]; omega)
 have h3 : (C.take (i * 44)).length = i * 44 := by rw [List.length_take, hl]; omega
 unfold putAt
 rw [h2, ← List.append_assoc, List.take_append_of_le_length (by rw [List.length_append, h3, h1]; omega), List.take_of_length_le (by rw [List.length_append, h3, h1]; omega)]
theorem delete_any {w0 w : World} {M : List Nat} {R : List HA} (g n c i : Nat) (C : List Value) (hS : St w0 M w (.row (.slice (some ⟨g, 0, none⟩) n c) 53 44 n C :: R)) (hl : C.length = n * 44) (hC : C.all (·.oneCell') = true) (hi : i < n) (hn : n ≤ 100000) :
  Calls Tryz.prog 60 #[.slice (some ⟨g, 0, none⟩) n c, .int .i64 i, .int .i64 ((i : Int) + 1)] w fun e w' => e = .returned (.slice (some ⟨g, 0, none⟩) (n - 1) c) ∧ St w0 M w' (.row (.slice (some ⟨g, 0, none⟩) (n - 1) c) 53 44 (n - 1) (C.take (i * 44) ++ C.drop ((i + 1) * 44)) :: R) := by
 obtain ⟨g', c', rest, e, hnc, hcm, hcs, _, hst⟩ := row_openV (L1 := []) hS (by omega)
 cases e
 have HC := hid hC
 have HL := hid hl
 have HCS := hid hcs
 obtain ⟨i1, hi1⟩ : ∃ i1, i1 = i + 1 := ⟨_, rfl⟩
 obtain ⟨m, hm1⟩ : ∃ m, m = n - 1 := ⟨_, rfl⟩
 have z1 : ((i : Int) == (i1 : Int)) = false := by rw [beq_eq_false_iff_ne]; omega
 have b1 : i ≤ n := by omega
 have b2 : i1 ≤ n := by omega
 have b3 : i ≤ i1 := by omega
 have b4 : m ≤ n := by omega
 have b5 : i ≤ c := by omega
 have b6 : n - m = 1 := by omega
 have c1 : ¬ (n = i) := by omega
 have c2 : ¬ (c = i) := by omega
 have c3 : ¬ (c = m) := by omega
 have hz : ((i : Int) + 1) = (i1 : Int) := by omega
 rw [hz]
 have HI1 := hid hi1
 have HM1 := hid hm1
 clear hS hC hl hcs hi1 hm1 hz
 by_cases hc : c = i1
 ·have hc2 := hc.symm
  subst hc2
  go_enter Tryz.func60, Tryz.ntmps60
  go_wp2_with (first | go_big_skip | go_big_guard | fail)
  have hX := hst.drew
  clear hst
  refine wp_region_held_drew (S := (fun w' => True)) (by kernel_rfl) (by exact trivial) (fun hHeld => ?_)
  refine tq 0 20 ?_
  refine tq 1 21 ?_
  refine tq 3 23 ?_
  refine tq 4 24 ?_
  refine tq 2 22 ?_
  refine tq 5 25 ?_
  refine wpAnyH_ready (rs := [6]) (by kernel_rfl) (by simp) ?_
  refine (AllReadyH.cons (o := ⟨some 26, _, _, _, _, _⟩) rfl (fun K hK => ?_) AllReadyH.nil)
  rw [if_pos (by rfl)]
  refine ow_of_wl (ops := #[]) (by rfl) ?_
  apply wl_appRoomR (n := i) (m := n - i1) (r := m) (sz := 44) (ys := C.drop (i1 * 44)) [] hX rfl
  ·rfl
  ·rfl
  ·exact rfl
  ·exact rfl
  ·infer_instance
  ·infer_instance
  ·infer_instance
  ·exact (show Rd _ _ 44 (n - i1) (C.drop (i1 * 44)) from (by have e1 : n - i1 = 0 := (by omega); have e2 : C.drop (i1 * 44) = [] := List.drop_eq_nil_of_le (by rw [HL.out]; omega); rw [e1, e2]; exact Rd.empty _ _ _))
  ·exact (by have hq := HC.out; rw [List.all_eq_true] at hq ⊢; exact fun x hx => hq x (List.mem_of_mem_drop hx))
  ·(have := HI1.out; have := HM1.out; omega)
  ·exact HCS.out
  ·omega
  ·(have := HI1.out; have := HM1.out; omega)
  intro w7 hst2
  refine q0_nil ?_
  refine hK.out _ _ ?_ (fun hHeld => ?_)
  ·exact trivial
  clear hK K
  (try simp only [Act.put, List.setIfInBounds_toArray, List.set_cons_zero, List.set_cons_succ])
  refine tq 7 0 ?_
  refine wpAnyH_done (by kernel_rfl) ?_ _
  clear hHeld
  go_wp2_with (first | go_big_skip | go_big_guard | (apply wl_clearM (n := 1) (sz := 44) (zs := rec0) [] hst2; rfl; rfl; exact rfl; infer_instance; infer_instance; infer_instance; rfl; decide; (rw [length_putAt (by rw [HCS.out, List.length_drop, HL.out]; have := HI1.out; have := HM1.out; omega), HCS.out]; have := HI1.out; have := HM1.out; omega); intro w8 cs9 hl9 ht9 hst3; clear hst2))
  go_ret
  have q1 : cs9.length = i1 * 44 := by rw [hl9, length_putAt (by rw [HCS.out, List.length_drop, HL.out]; have := HI1.out; have := HM1.out; omega), HCS.out]
  have e2 := St.toRow (n := m) (cap := i1) (sz := 44) hst3 q1 (by omega) (by omega)
  have e3 : cs9.take (m * 44) = C.take (i * 44) ++ C.drop ((i + 1) * 44) := by
   rw [ht9, HM1.out, HI1.out]
   exact del_cells HL.out hi
  rw [e3, HM1.out] at e2
  rw [HM1.out]
  exact ⟨rfl, e2⟩
 ·skip
  go_enter Tryz.func60, Tryz.ntmps60
  go_wp2_with (first | go_big_skip | go_big_guard | fail)
  have hX := hst.drew
  clear hst
  refine wp_region_held_drew (S := (fun w' => True)) (by kernel_rfl) (by exact trivial) (fun hHeld => ?_)
  refine tq 0 20 ?_
  refine tq 1 21 ?_
  refine tq 3 23 ?_
  refine tq 4 24 ?_
  refine tq 2 22 ?_
  refine tq 5 25 ?_
  refine wpAnyH_ready (rs := [6]) (by kernel_rfl) (by simp) ?_
  refine (AllReadyH.cons (o := ⟨some 26, _, _, _, _, _⟩) rfl (fun K hK => ?_) AllReadyH.nil)
  rw [if_pos (by rfl)]
  refine ow_of_wl (ops := #[]) (by rfl) ?_
  apply wl_appRoomR (n := i) (m := n - i1) (r := m) (sz := 44) (ys := C.drop (i1 * 44)) [] hX rfl
  ·rfl
  ·rfl
  ·exact rfl
  ·exact rfl
  ·infer_instance
  ·infer_instance
  ·infer_instance
  ·exact (Rd.blk hX (.head _) (by omega) (by unfold maxLen; omega) (by rw [List.length_drop, HL.out]; omega) (by rw [List.drop_append_of_le_length (by rw [HL.out]; omega), List.take_left]))
  ·exact (by have hq := HC.out; rw [List.all_eq_true] at hq ⊢; exact fun x hx => hq x (List.mem_of_mem_drop hx))
  ·(have := HI1.out; have := HM1.out; omega)
  ·exact HCS.out
  ·omega
  ·(have := HI1.out; have := HM1.out; omega)
  intro w7 hst2
  refine q0_nil ?_
  refine hK.out _ _ ?_ (fun hHeld => ?_)
  ·exact trivial
  clear hK K
  (try simp only [Act.put, List.setIfInBounds_toArray, List.set_cons_zero, List.set_cons_succ])
  refine tq 7 0 ?_
  refine wpAnyH_done (by kernel_rfl) ?_ _
  clear hHeld
  go_wp2_with (first | go_big_skip | go_big_guard | (apply wl_clearM (n := 1) (sz := 44) (zs := rec0) [] hst2; rfl; rfl; exact rfl; infer_instance; infer_instance; infer_instance; rfl; decide; (rw [length_putAt (by rw [HCS.out, List.length_drop, HL.out]; have := HI1.out; have := HM1.out; omega), HCS.out]; have := HI1.out; have := HM1.out; omega); intro w8 cs9 hl9 ht9 hst3; clear hst2))
  go_ret
  have q1 : cs9.length = c * 44 := by rw [hl9, length_putAt (by rw [HCS.out, List.length_drop, HL.out]; have := HI1.out; have := HM1.out; omega), HCS.out]
  have e2 := St.toRow (n := m) (cap := c) (sz := 44) hst3 q1 (by omega) (by omega)
  have e3 : cs9.take (m * 44) = C.take (i * 44) ++ C.drop ((i + 1) * 44) := by
   rw [ht9, HM1.out, HI1.out]
   exact del_cells HL.out hi
  rw [e3, HM1.out] at e2
  rw [HM1.out]
  exact ⟨rfl, e2⟩
end Go.Proofs.YtifajcblbedcoaaGreat
namespace Go.Proofs.YtifajcblbedcoaaGreat
set_option linter.unusedVariables false
set_option linter.unusedSimpArgs false
open Go.RowKit Hp
attribute [local irreducible] Go.Calls Go.wpList
set_option maxRecDepth 100000
set_option maxHeartbeats 8000000
theorem fill_step {place : Nat → Option (Nat × Nat)} {i off : Nat} {v : Value} {vs cs cs' : List Value} (hp : place i = some (off, vs.length)) (hv : v.cells = vs.toArray) (hf : off + vs.length ≤ cs.length) (he : putAt cs off vs = cs') (rest : List (Nat × Value)) : Instr.fill place cs.toArray ((i, v) :: rest) = Instr.fill place cs'.toArray rest := by
 subst he
 have h1 := fold_set off vs 0 (cs.take off) (cs.drop off) (by rw [List.length_take]; omega) (by rw [List.length_drop]; omega)
 rw [List.take_append_drop, List.drop_drop] at h1
 simp only [Instr.fill, hp, hv]
 rw [if_neg (by simp; omega)]
 rw [← Array.foldl_toList, Array.toList_zipIdx]
 have h2 : List.foldl (fun (cs : Array Value) (x : Value × Nat) => match x with | (c, j) => cs.setIfInBounds (off + j) c) cs.toArray vs.zipIdx = (cs.take off ++ (vs ++ cs.drop (off + vs.length))).toArray := h1
 rw [List.toList_toArray, h2]
 rfl
def recPl : Array (Nat × Nat) := #[(0, 1), (1, 1), (2, 1), (3, 1), (4, 35), (39, 1), (40, 1), (41, 1), (42, 1), (43, 1)]
theorem rec_places (ps : List (Nat × Value)) : Tryz.prog.built 53 ps = Instr.fill (recPl[·]?) (xC 0 [] 0 0 ⟨.slice none 0 0, [], 0, 0, nones⟩ 0 0 0 0 0).toArray ps := by kernel_rfl
theorem bldSnap {v : RC} (h : L32 v.S) (sv : Value) (nm : List UInt8) (txg : Int) : Tryz.prog.built 53 [(1, .string ⟨nm.toArray⟩), (2, .int .i64 2), (3, .int .i64 v.size), (4, .agg (PV.cells ((v.pv undef).re sv)).toArray), (5, .int .i64 txg), (6, .int .i64 v.id)] = some (cellsR (sv, snapR v nm txg)).toArray := by
 have hq : L32 ((v.pv undef).re sv).S := h
 rw [rec_places]
 rw [fill_step (vs := [.string ⟨nm.toArray⟩]) rfl rfl (by rw [xC_len L32.nones]; show 1 + 1 ≤ 44; decide) (xC_put1 _)]
 rw [fill_step (vs := [.int .i64 2]) rfl rfl (by rw [xC_len L32.nones]; decide) (xC_put2 _)]
 rw [fill_step (vs := [.int .i64 v.size]) rfl rfl (by rw [xC_len L32.nones]; show 3 + 1 ≤ 44; decide) (xC_put3 _)]
 rw [fill_step (off := 4) (vs := PV.cells ((v.pv undef).re sv)) (by rw [PV.len hq]; rfl) rfl (by rw [xC_len L32.nones, PV.len hq]; decide) (xC_put4 L32.nones hq)]
 rw [fill_step (vs := [.int .i64 txg]) rfl rfl (by rw [xC_len hq]; show 39 + 1 ≤ 44; decide) (xC_put39 hq _)]
 rw [fill_step (vs := [.int .i64 v.id]) rfl rfl (by rw [xC_len hq]; show 40 + 1 ≤ 44; decide) (xC_put40 hq _)]
 rfl
theorem bldClone {v : RC} (h : L32 v.S) (sv : Value) (nm : List UInt8) (txg : Int) : Tryz.prog.built 53 [(1, .string ⟨nm.toArray⟩), (2, .int .i64 1), (3, .int .i64 v.size), (4, .agg (PV.cells ((v.pv undef).re sv)).toArray), (5, .int .i64 txg), (7, .int .i64 v.id)] = some (cellsR (sv, cloneR v nm txg)).toArray := by
 have hq : L32 ((v.pv undef).re sv).S := h
 rw [rec_places]
 rw [fill_step (vs := [.string ⟨nm.toArray⟩]) rfl rfl (by rw [xC_len L32.nones]; show 1 + 1 ≤ 44; decide) (xC_put1 _)]
 rw [fill_step (vs := [.int .i64 1]) rfl rfl (by rw [xC_len L32.nones]; decide) (xC_put2 _)]
 rw [fill_step (vs := [.int .i64 v.size]) rfl rfl (by rw [xC_len L32.nones]; show 3 + 1 ≤ 44; decide) (xC_put3 _)]
 rw [fill_step (off := 4) (vs := PV.cells ((v.pv undef).re sv)) (by rw [PV.len hq]; rfl) rfl (by rw [xC_len L32.nones, PV.len hq]; decide) (xC_put4 L32.nones hq)]
 rw [fill_step (vs := [.int .i64 txg]) rfl rfl (by rw [xC_len hq]; show 39 + 1 ≤ 44; decide) (xC_put39 hq _)]
 rw [fill_step (vs := [.int .i64 v.id]) rfl rfl (by rw [xC_len hq]; show 41 + 1 ≤ 44; decide) (xC_put41 hq _)]
 rfl
section
variable {w w1 : World} {g : Nat} {t : TC} {rv lv : Value} {xs : List (Value × RC)} {R : List HA}
theorem tp_recs (L : List HA) (hok : Okx xs t) (hst : St w [] w1 (L ++ TP g t rv lv xs R)) : RecsIn w1 rv xs.length xs :=
 recs_inL hst (List.mem_append_right _ (.tail _ (.head _))) rfl (OwnX.sub (hok.own (.row lv 3 1 t.lives.length (numsV t.lives)) R) fun y hy => List.mem_append_right _ (.tail _ (.tail _ hy)))
theorem tp_spot (L : List HA) (hst : St w [] w1 (L ++ TP g t rv lv xs R)) (hn : 0 < xs.length) : ∃ g2 c, rv = .slice (some ⟨g2, 0, none⟩) xs.length c := by
 obtain ⟨g2, c, h, _⟩ := row_spot hst (List.mem_append_right _ (.tail _ (.head _))) hn
 exact ⟨g2, c, h⟩
theorem tp_range (L : List HA) {g2 c j : Nat} {x : Value × RC} (hok : Okx xs t) (hst : St w [] w1 (L ++ TP g t (.slice (some ⟨g2, 0, none⟩) xs.length c) lv xs R)) (hx : xs[j]? = some x) : w1.rangeAt g2 (j * 44) (cellsR x) := by
 have hlt := (List.getElem?_eq_some_iff.1 hx).1
 obtain ⟨x', b, off, hx', he, _, hr⟩ := RecsIn.at (tp_recs L hok hst) hlt
 cases he
 rw [hx] at hx'
 cases hx'
 rwa [Nat.zero_add] at hr
theorem tp_loadR (L : List HA) {g2 c j : Nat} {x : Value × RC} (hok : Okx xs t) (hst : St w [] w1 (L ++ TP g t (.slice (some ⟨g2, 0, none⟩) xs.length c) lv xs R)) (hx : xs[j]? = some x) : Loads Tryz.prog w1 53 ⟨g2, j * 44, none⟩ (.agg (cellsR x).toArray) :=
 Loads.range (by rw [cellsR_len (hok.ok x (List.mem_of_getElem? hx)).1]; exact (inferInstance : TyA Tryz.prog 53 44).out) (tp_range L hok hst hx)
theorem tp_loadR0 (L : List HA) {g2 c j : Nat} {x : Value × RC} (hok : Okx xs t) (hst : St w [] w1 (L ++ TP g t (.slice (some ⟨g2, 0, none⟩) xs.length c) lv xs R)) (hx : xs[j]? = some x) : Loads Tryz.prog w1 53 ⟨g2, 0 + j * 44, none⟩ (.agg (cellsR x).toArray) := by
 rw [Nat.zero_add]
 exact tp_loadR L hok hst hx
theorem tp_in (L : List HA) {j : Nat} {x : Value × RC} (hok : Okx xs t) (hst : St w [] w1 (L ++ TP g t rv lv xs R)) (hx : xs[j]? = some x) : RC.In w1 x := (tp_recs L hok hst).each x (List.mem_of_getElem? hx)
theorem okx_at {j : Nat} {y : RC} (hok : Okx xs t) (hy : t.recs[j]? = some y) : ∃ x, xs[j]? = some x ∧ x.2 = y := by
 rw [← hok.eq, List.getElem?_map] at hy
 cases hx : xs[j]? with
 | none => rw [hx] at hy; cases hy
 | some x => rw [hx] at hy; exact ⟨x, rfl, Option.some.inj hy⟩
end
end Go.Proofs.YtifajcblbedcoaaGreat
namespace Go.Proofs.YtifajcblbedcoaaGreat
set_option linter.unusedVariables false
set_option linter.unusedSimpArgs false
open Go.RowKit Hp
attribute [local irreducible] Go.Calls Go.wpList
set_option maxRecDepth 100000
set_option maxHeartbeats 8000000
attribute [local go_sem ↓] heldInt heldInts heldRecs heldRec heldStr heldTab heldPtr
theorem birth_le {t : TC} (h : t.ok = true) {y : RC} (hy : y ∈ t.recs) : y.l.length ≤ 3 ∧ y.name.length ≤ 1000000 := ⟨((ok_bd h).recs y hy).rootLen, by have := ((ok_bd h).recs y hy).name; omega⟩
theorem split_in (l : List UInt8) (h : l.length ≤ 1000000) : (splitL l).1.length ≤ 1000000 ∧ (splitL l).2.1.length ≤ 1000000 := ⟨Nat.le_trans (split_lenG l).1 h, Nat.le_trans (split_lenG l).2 h⟩
theorem snap_does {w : World} {g1 gx : Nat} (nm : List UInt8) (txg : Int) (h1 : w.cell? ⟨g1, 0, none⟩ = some (.string ⟨nm.toArray⟩)) (h2 : w.cell? ⟨gx, 0, none⟩ = some (.int .i64 txg)) (hl : nm.length ≤ 1000000) (t : TC) (hk : t.ok = true) :
  Does 67 #[.pointer (some ⟨g1, 0, none⟩), .pointer (some ⟨gx, 0, none⟩)] w t (snapT t nm txg) := by
 intro g ao c al cl xs R w1 hok hst0
 show Calls _ _ #[.pointer (some ⟨g, 0, none⟩), .pointer (some ⟨g1, 0, none⟩), .pointer (some ⟨gx, 0, none⟩)] _ _
 have hst := hst0
 have H1 := hid h1
 have H2 := hid h2
 have HOK := hid hok
 have HK := hid hk
 have b2 : xs.length ≤ 16 := by rw [hok.len]; exact ok_many hk
 clear hst0 hok hk h1 h2
 obtain ⟨r, hr⟩ : ∃ r, r = snapT t nm txg := ⟨_, rfl⟩
 rw [← hr]
 have HNM := H1
 have HTX := H2
 obtain ⟨⟨v, u, f⟩, hx⟩ : ∃ p, splitL nm = p := ⟨_, rfl⟩
 have hvl : v.length ≤ 1000000 := by have := (split_in nm hl).1; rwa [hx] at this
 obtain ⟨s, hs⟩ : ∃ s, txgB txg = s := ⟨_, rfl⟩
 obtain ⟨z, hz⟩ : ∃ z, roomE t nm = z := ⟨_, rfl⟩
 have HX := hid hx
 have HT := hid hs
 have HRM := hid hz
 have HV := hid (show r = if f && s then (match recAt v t.recs with
  | none => badR 6
  | some y => if z == 0 then (if decide (txg < y.b) then badR 2 else (0, putT t (snapR y nm txg))) else badR z) else badR 2 by rw [hr]; unfold snapT snapB; rw [hx, hs, hz]; rfl)
 clear hr hx hs hz
 cases hc : (f && s)
 ·have HB := hid (show r = badR 2 by rw [HV.out, hc]; rfl)
  clear HV
  cases f <;> cases s <;> first | (cases hc; done) | skip
  all_goals
   clear hc
   go_enter Tryz.func67, Tryz.ntmps67
   go_wp2_with (first | go_big_skip | go_big_guard | (refine wl_loadE rfl rfl rfl ?_; first | refine ⟨_, Loads.atA (tabC t (.slice ao xs.length c) (.slice al t.lives.length cl)) [] hst rfl rfl, ?_⟩ | refine ⟨_, Loads.old hst H1.out, ?_⟩ | refine ⟨_, Loads.old hst H2.out, ?_⟩) | (go_at_call 68; refine (split_any nm _ (by omega)).mono ?_; rw [HX.out]; rintro _ w9 ⟨rfl, h4⟩; replace hst := St.call0 hst h4; clear h4) | (go_at_call 64; refine (commit_any txg _).mono ?_; rw [HT.out]; rintro _ w9 ⟨rfl, h4⟩; replace hst := St.call0 hst h4; clear h4))
   go_ret
   exact does_bad (L := []) HB.out (by decide) hst
 ·have h3 : f = true ∧ s = true := by revert hc; cases f <;> cases s <;> decide
  obtain ⟨rfl, rfl⟩ := h3
  rcases find_split (nm := v) (l := t.recs) with ⟨hra, hf⟩ | ⟨j, y, hy, hra, hfn, hf, hnm⟩
  ·have HF := hid hf
   have HB := hid (show r = badR 6 by rw [HV.out, hc, hra]; rfl)
   clear hc HV hf hra
   go_enter Tryz.func67, Tryz.ntmps67
   go_wp2_with (first | go_big_skip | go_big_guard | (refine wl_loadE rfl rfl rfl ?_; first | refine ⟨_, Loads.atA (tabC t (.slice ao xs.length c) (.slice al t.lives.length cl)) [] hst rfl rfl, ?_⟩ | refine ⟨_, Loads.old hst H1.out, ?_⟩ | refine ⟨_, Loads.old hst H2.out, ?_⟩) | (go_at_call 68; refine (split_any nm _ (by omega)).mono ?_; rw [HX.out]; rintro _ w9 ⟨rfl, h4⟩; replace hst := St.call0 hst h4; clear h4) | (go_at_call 64; refine (commit_any txg _).mono ?_; rw [HT.out]; rintro _ w9 ⟨rfl, h4⟩; replace hst := St.call0 hst h4; clear h4) | (go_at_call 57; refine (find_any t _ v ao xs.length c xs _ (tp_recs [] HOK.out hst) (by omega)).mono ?_; rw [HOK.out.eq, HF.out]; rintro _ w9 ⟨rfl, h4⟩; replace hst := St.call0 hst h4; clear h4))
   go_ret
   exact does_bad (L := []) HB.out (by decide) hst
  ·skip
   obtain ⟨x, hx, hxy⟩ := okx_at HOK.out hy
   subst hxy
   have hlt : j < xs.length := (List.getElem?_eq_some_iff.1 hx).1
   obtain ⟨g2, c2, he⟩ := tp_spot [] hst (by omega)
   cases he
   have HF := hid hf
   have HRA := hid hra
   have HXJ := hid hx
   have HLL := hid ((HOK.out.ok x (List.mem_of_getElem? hx)).1)
   have HLX := hid (cellsR_len (HOK.out.ok x (List.mem_of_getElem? hx)).1)
   have HON := hid (cellsR_ones (tp_in [] HOK.out hst hx))
   have H35 := hid (PV.len (p := x.2.pv x.1) (HOK.out.ok x (List.mem_of_getElem? hx)).1)
   have HB3 := hid (birth_le HK.out (List.mem_of_getElem? hy))
   clear hx hy hf hra hfn hnm
   cases hz : (z == 0)
   ·have HB := hid (show r = badR z by rw [HV.out, hc, HRA.out]; show (if z == 0 then _ else _) = _; rw [hz]; rfl)
    have HZ := hid hz
    have d1 : (z != 0) = true := by rw [bne, hz]; rfl
    clear hc hz HV
    go_enter Tryz.func67, Tryz.ntmps67
    go_wp2_with (first | go_big_skip | go_big_guard | (refine wl_loadE rfl rfl rfl ?_; first | refine ⟨_, Loads.atA (tabC t (.slice (some ⟨g2, 0, none⟩) xs.length c) (.slice al t.lives.length cl)) [] hst rfl rfl, ?_⟩ | refine ⟨_, Loads.at [] hst2 rfl, ?_⟩ | refine ⟨_, tp_loadR0 [] HOK.out hst2 HXJ.out, ?_⟩ | refine ⟨.int .i64 x.2.b, Loads.at [] hst4 rfl, ?_⟩ | refine ⟨_, Loads.old hst H1.out, ?_⟩ | refine ⟨_, Loads.old hst H2.out, ?_⟩ | refine ⟨_, Loads.old hst2 H1.out, ?_⟩ | refine ⟨_, Loads.old hst2 H2.out, ?_⟩ | refine ⟨_, Loads.old hst4 H1.out, ?_⟩ | refine ⟨_, Loads.old hst4 H2.out, ?_⟩) | (go_at_call 68; refine (split_any nm _ (by omega)).mono ?_; rw [HX.out]; rintro _ w9 ⟨rfl, h4⟩; replace hst := St.call0 hst h4; clear h4) | (go_at_call 64; refine (commit_any txg _).mono ?_; rw [HT.out]; rintro _ w9 ⟨rfl, h4⟩; replace hst := St.call0 hst h4; clear h4) | (go_at_call 57; refine (find_any t _ v (some ⟨g2, 0, none⟩) xs.length c xs _ (tp_recs [] HOK.out hst) (by omega)).mono ?_; rw [HOK.out.eq, HF.out]; rintro _ w9 ⟨rfl, h4⟩; replace hst := St.call0 hst h4; clear h4) | (go_at_call 65; refine (room_any g t (some ⟨g2, 0, none⟩) xs.length c _ xs nm hst (HOK.out.own _ _) rfl HOK.out.eq (by omega)).mono ?_; rw [HRM.out]; rintro _ w9 ⟨rfl, h4⟩; have hst2 : St w [] w9 (TP g t (.slice (some ⟨g2, 0, none⟩) xs.length c) (.slice al t.lives.length cl) xs R) := h4; clear h4 hst))
    go_ret
    exact does_bad (L := []) HB.out HZ.out hst2
   ·have d1 : (z != 0) = false := by rw [bne, hz]; rfl
    by_cases hb : txg < x.2.b
    ·have d2 : decide (txg < x.2.b) = true := decide_eq_true hb
     have HB := hid (show r = badR 2 by rw [HV.out, hc, HRA.out]; show (if z == 0 then (if decide (txg < x.2.b) then _ else _) else _) = _; rw [hz, d2]; rfl)
     have d3 : decide (x.2.b > txg) = true := d2
     clear hc hz HV
     go_enter Tryz.func67, Tryz.ntmps67
     go_wp2_with (first | go_big_skip | go_big_guard | (refine wl_loadE rfl rfl rfl ?_; first | refine ⟨_, Loads.atA (tabC t (.slice (some ⟨g2, 0, none⟩) xs.length c) (.slice al t.lives.length cl)) [] hst rfl rfl, ?_⟩ | refine ⟨_, Loads.at [] hst2 rfl, ?_⟩ | refine ⟨_, tp_loadR0 [] HOK.out hst2 HXJ.out, ?_⟩ | refine ⟨.int .i64 x.2.b, Loads.at [] hst4 rfl, ?_⟩ | refine ⟨_, Loads.old hst H1.out, ?_⟩ | refine ⟨_, Loads.old hst H2.out, ?_⟩ | refine ⟨_, Loads.old hst2 H1.out, ?_⟩ | refine ⟨_, Loads.old hst2 H2.out, ?_⟩ | refine ⟨_, Loads.old hst4 H1.out, ?_⟩ | refine ⟨_, Loads.old hst4 H2.out, ?_⟩) | (go_at_call 68; refine (split_any nm _ (by omega)).mono ?_; rw [HX.out]; rintro _ w9 ⟨rfl, h4⟩; replace hst := St.call0 hst h4; clear h4) | (go_at_call 64; refine (commit_any txg _).mono ?_; rw [HT.out]; rintro _ w9 ⟨rfl, h4⟩; replace hst := St.call0 hst h4; clear h4) | (go_at_call 57; refine (find_any t _ v (some ⟨g2, 0, none⟩) xs.length c xs _ (tp_recs [] HOK.out hst) (by omega)).mono ?_; rw [HOK.out.eq, HF.out]; rintro _ w9 ⟨rfl, h4⟩; replace hst := St.call0 hst h4; clear h4) | (go_at_call 65; refine (room_any g t (some ⟨g2, 0, none⟩) xs.length c _ xs nm hst (HOK.out.own _ _) rfl HOK.out.eq (by omega)).mono ?_; rw [HRM.out]; rintro _ w9 ⟨rfl, h4⟩; have hst2 : St w [] w9 (TP g t (.slice (some ⟨g2, 0, none⟩) xs.length c) (.slice al t.lives.length cl) xs R) := h4; clear h4 hst) | (refine wl_index rfl rfl rfl rfl hlt ?_) | (refine wl_alloc hst2 rfl rfl ?_; intro g9 w3 hst3; clear hst2) | (refine wl_storeA [] hst3 rfl rfl rfl rfl (by exact HLX.out) HON.out rfl ?_; intro w4 hst4; clear hst3))
     go_ret
     exact does_bad (L := [_]) HB.out (by decide) hst4
    ·have d2 : decide (txg < x.2.b) = false := decide_eq_false hb
     have HB := hid (show r = (0, putT t (snapR x.2 nm txg)) by rw [HV.out, hc, HRA.out]; show (if z == 0 then (if decide (txg < x.2.b) then _ else _) else _) = _; rw [hz, d2]; rfl)
     have d3 : decide (x.2.b > txg) = false := d2
     have hz0 := ok_next HK.out
     have HS := hid (ok_sorted HK.out)
     clear hc hz HV
     go_enter Tryz.func67, Tryz.ntmps67
     go_wp2_with (first | go_big_skip | go_big_guard | (refine wl_loadE rfl rfl rfl ?_; first | refine ⟨_, Loads.atA (tabC t (.slice (some ⟨g2, 0, none⟩) xs.length c) (.slice al t.lives.length cl)) [] hst rfl rfl, ?_⟩ | refine ⟨_, Loads.at [] hst2 rfl, ?_⟩ | refine ⟨_, tp_loadR0 [] HOK.out hst2 HXJ.out, ?_⟩ | refine ⟨.int .i64 x.2.b, Loads.at [] hst4 rfl, ?_⟩ | refine ⟨_, Loads.old hst H1.out, ?_⟩ | refine ⟨_, Loads.old hst H2.out, ?_⟩ | refine ⟨_, Loads.old hst2 H1.out, ?_⟩ | refine ⟨_, Loads.old hst2 H2.out, ?_⟩ | refine ⟨_, Loads.old hst4 H1.out, ?_⟩ | refine ⟨_, Loads.old hst4 H2.out, ?_⟩) | (go_at_call 68; refine (split_any nm _ (by omega)).mono ?_; rw [HX.out]; rintro _ w9 ⟨rfl, h4⟩; replace hst := St.call0 hst h4; clear h4) | (go_at_call 64; refine (commit_any txg _).mono ?_; rw [HT.out]; rintro _ w9 ⟨rfl, h4⟩; replace hst := St.call0 hst h4; clear h4) | (go_at_call 57; refine (find_any t _ v (some ⟨g2, 0, none⟩) xs.length c xs _ (tp_recs [] HOK.out hst) (by omega)).mono ?_; rw [HOK.out.eq, HF.out]; rintro _ w9 ⟨rfl, h4⟩; replace hst := St.call0 hst h4; clear h4) | (go_at_call 65; refine (room_any g t (some ⟨g2, 0, none⟩) xs.length c _ xs nm hst (HOK.out.own _ _) rfl HOK.out.eq (by omega)).mono ?_; rw [HRM.out]; rintro _ w9 ⟨rfl, h4⟩; have hst2 : St w [] w9 (TP g t (.slice (some ⟨g2, 0, none⟩) xs.length c) (.slice al t.lives.length cl) xs R) := h4; clear h4 hst) | (refine wl_index rfl rfl rfl rfl hlt ?_) | (refine wl_alloc hst2 rfl rfl ?_; intro g9 w3 hst3; clear hst2) | (refine wl_storeA [] hst3 rfl rfl rfl rfl (by exact HLX.out) HON.out rfl ?_; intro w4 hst4; clear hst3))
     have hX := hst4.drew
     clear hst4
     refine wp_region_held_drew (S := (fun w' => (loadVarH 9 ⟨g1, 0, none⟩).run Tryz.prog w' = .ok (.string ⟨nm.toArray⟩) w' ∧ (loadVarH 3 ⟨gx, 0, none⟩).run Tryz.prog w' = .ok (.int .i64 txg) w' ∧ (loadVarH 3 ⟨g9, 3, none⟩).run Tryz.prog w' = .ok (.int .i64 x.2.size) w' ∧ (loadVarH 32 ⟨g9, 4, none⟩).run Tryz.prog w' = .ok (.agg (List.toArray ((x.2.pv x.1).cells))) w' ∧ (loadVarH 3 ⟨g9, 0, none⟩).run Tryz.prog w' = .ok (.int .i64 x.2.id) w')) (by kernel_rfl) (by exact ⟨ldO hX (HNM.out), ldO hX (HTX.out), ldS [] hX rfl, ldA ((x.2.pv x.1).cells) [] hX (H35.out) (cellsR_root HLL.out), ldS [] hX rfl⟩) (fun hHeld => ?_)
     refine tq 0 53 ?_
     refine tq 1 54 ?_
     refine tq 2 55 ?_
     refine tq 4 57 ?_
     refine tq 7 60 ?_
     refine tq 8 61 ?_
     refine tq 3 56 ?_
     refine tq 5 58 ?_
     refine tq 9 62 ?_
     refine wpAnyH_ready (rs := [6]) (by kernel_rfl) (by simp) ?_
     refine (AllReadyH.cons (o := ⟨some 59, _, _, _, _, _⟩) rfl (fun K hK => ?_) AllReadyH.nil)
     rw [if_pos (by rfl)]
     go_simp
     go_at_call 69
     refine (ownP_any (x.2.pv x.1) _ (tp_in [_] HOK.out hX HXJ.out).1 (by show x.2.l.length ≤ 100000; have := HB3.out.1; omega)).mono ?_
     rintro _ w5 ⟨a5, n5, c5, rfl, h4, hl5⟩
     have hst5 := St.call hX h4
     subst hl5
     clear h4
     refine hK.out _ _ ?_ (fun hHeld => ?_)
     ·exact ⟨ldO hst5 (HNM.out), ldO hst5 (HTX.out), ldS [_] hst5 rfl, ldA ((x.2.pv x.1).cells) [_] hst5 (H35.out) (cellsR_root HLL.out), ldS [_] hst5 rfl⟩
     clear hK K
     (try simp only [Act.put, List.setIfInBounds_toArray, List.set_cons_zero, List.set_cons_succ])
     refine wpAnyH_ready (rs := [10]) (by kernel_rfl) (by simp) ?_
     refine (AllReadyH.cons (o := ⟨some 63, _, _, _, _, _⟩) rfl (fun K hK => ?_) AllReadyH.nil)
     rw [if_pos (by rfl)]
     refine ow_of_wl (ops := #[]) (by rfl) ?_
     refine wl_buildX (cs := cellsR ((.slice a5 (x.2.pv x.1).l.length c5 : Value), snapR x.2 nm txg)) [(1, .string ⟨nm.toArray⟩), (2, .int .i64 2), (3, .int .i64 x.2.size), (4, .agg (PV.cells ((x.2.pv undef).re (.slice a5 (x.2.pv x.1).l.length c5))).toArray), (5, .int .i64 txg), (6, .int .i64 x.2.id)] rfl rfl (by exact rfl) (bldSnap HLL.out _ _ _) ?_
     refine q0_nil ?_
     refine hK.out _ _ ?_ (fun hHeld => ?_)
     ·exact ⟨ldO hst5 (HNM.out), ldO hst5 (HTX.out), ldS [_] hst5 rfl, ldA ((x.2.pv x.1).cells) [_] hst5 (H35.out) (cellsR_root HLL.out), ldS [_] hst5 rfl⟩
     clear hK K
     (try simp only [Act.put, List.setIfInBounds_toArray, List.set_cons_zero, List.set_cons_succ])
     refine wpAnyH_ready (rs := [11]) (by kernel_rfl) (by simp) ?_
     refine (AllReadyH.cons (o := ⟨some 64, _, _, _, _, _⟩) rfl (fun K hK => ?_) AllReadyH.nil)
     rw [if_pos (by rfl)]
     go_simp
     go_at_call 66
     have hrd := put_ready (E := [.blk g9 53 (cellsR x)]) (g := g) (t := t) (rv := .slice (some ⟨g2, 0, none⟩) xs.length c) (lv := .slice al t.lives.length cl) (xs := xs) (R := R) (x := ((.slice a5 (x.2.pv x.1).l.length c5 : Value), snapR x.2 nm txg)) hst5
     have hox := ready_own (x := ((.slice a5 (x.2.pv x.1).l.length c5 : Value), snapR x.2 nm txg)) (c := .row (.slice al t.lives.length cl) 3 1 t.lives.length (numsV t.lives)) (E := [.blk g9 53 (cellsR x)] ++ R) HOK.out ⟨HLL.out, hl⟩
     refine (putRec_any g t (some ⟨g2, 0, none⟩) xs.length c _ xs ((.slice a5 (x.2.pv x.1).l.length c5 : Value), snapR x.2 nm txg) hrd hox.1 hox.2 rfl (by rw [HOK.out.eq]; exact HS.out) (by omega) hz0).mono ?_
     rintro _ w9 ⟨rv9, xs9, rfl, he9, ho9, hp9, h4⟩
     have HE9 := hid he9
     have HO9 := hid ho9
     have HP9 := hid hp9
     have hst6 := put_front h4
     clear h4 he9 ho9 hp9 hrd hox
     refine hK.out _ _ ?_ (fun hHeld => ?_)
     ·exact ⟨ldO hst6 (HNM.out), ldO hst6 (HTX.out), ldS [] hst6 rfl, ldA ((x.2.pv x.1).cells) [] hst6 (H35.out) (cellsR_root HLL.out), ldS [] hst6 rfl⟩
     clear hK K
     (try simp only [Act.put, List.setIfInBounds_toArray, List.set_cons_zero, List.set_cons_succ])
     refine tq 12 4 ?_
     refine wpAnyH_done (by kernel_rfl) ?_ _
     clear hHeld
     go_wp2_with (first | go_big_skip | go_big_guard | fail)
     go_ret
     exact put_done (E := []) (g := g) (al := al) (cl := cl) (t := t) (rv := rv9) (xs := xs) (xs' := xs9) (R := R) (x := ((.slice a5 (x.2.pv x.1).l.length c5 : Value), snapR x.2 nm txg)) HB.out HOK.out HE9.out (fun y hy => (HO9.out y hy).2) HP9.out (St.sub hst6 (.cons _ (List.Sublist.refl _)))
theorem clone_does {w : World} {g1 g2n gx : Nat} (sp nm : List UInt8) (txg : Int) (h1 : w.cell? ⟨g1, 0, none⟩ = some (.string ⟨sp.toArray⟩)) (h2 : w.cell? ⟨g2n, 0, none⟩ = some (.string ⟨nm.toArray⟩)) (h3 : w.cell? ⟨gx, 0, none⟩ = some (.int .i64 txg)) (hl0 : sp.length ≤ 1000000) (hl : nm.length ≤ 1000000) (t : TC) (hk : t.ok = true) :
  Does 70 #[.pointer (some ⟨g1, 0, none⟩), .pointer (some ⟨g2n, 0, none⟩), .pointer (some ⟨gx, 0, none⟩)] w t (cloneT t sp nm txg) := by
 intro g ao c al cl xs R w1 hok hst0
 show Calls _ _ #[.pointer (some ⟨g, 0, none⟩), .pointer (some ⟨g1, 0, none⟩), .pointer (some ⟨g2n, 0, none⟩), .pointer (some ⟨gx, 0, none⟩)] _ _
 have hst := hst0
 have H1 := hid h1
 have H2 := hid h2
 have H3 := hid h3
 have HOK := hid hok
 have HK := hid hk
 have b2 : xs.length ≤ 16 := by rw [hok.len]; exact ok_many hk
 clear hst0 hok hk h1 h2 h3
 obtain ⟨r, hr⟩ : ∃ r, r = cloneT t sp nm txg := ⟨_, rfl⟩
 rw [← hr]
 have HTX := H3
 obtain ⟨e, hsn⟩ : ∃ e, snapB sp = e := ⟨_, rfl⟩
 obtain ⟨f, hp⟩ : ∃ f, partB nm = f := ⟨_, rfl⟩
 obtain ⟨s, hs⟩ : ∃ s, txgB txg = s := ⟨_, rfl⟩
 obtain ⟨z, hz⟩ : ∃ z, roomE t nm = z := ⟨_, rfl⟩
 have HSP := hid hsn
 have HP := hid hp
 have HT := hid hs
 have HRM := hid hz
 have HV := hid (show r = if (e && f) && s then (match recAt sp t.recs with
  | none => badR 6
  | some y => if z == 0 then (0, putT t (cloneR y nm txg)) else badR z) else badR 2 by rw [hr]; unfold cloneT; rw [hsn, hp, hs, hz]; rfl)
 clear hr hsn hp hs hz
 cases hc : ((e && f) && s)
 ·have HB := hid (show r = badR 2 by rw [HV.out, hc]; rfl)
  clear HV
  cases e <;> cases f <;> cases s <;> first | (cases hc; done) | skip
  all_goals
   clear hc
   go_enter Tryz.func70, Tryz.ntmps70
   go_wp2_with (first | go_big_skip | go_big_guard | (refine wl_loadE rfl rfl rfl ?_; first | refine ⟨_, Loads.atA (tabC t (.slice ao xs.length c) (.slice al t.lives.length cl)) [] hst rfl rfl, ?_⟩ | refine ⟨_, Loads.old hst H1.out, ?_⟩ | refine ⟨_, Loads.old hst H2.out, ?_⟩ | refine ⟨_, Loads.old hst H3.out, ?_⟩) | (go_at_call 71; refine (snap_any sp _ (by omega)).mono ?_; rw [HSP.out]; rintro _ w9 ⟨rfl, h4⟩; replace hst := St.call0 hst h4; clear h4) | (go_at_call 62; refine (volume_any nm _ (by omega)).mono ?_; rw [HP.out]; rintro _ w9 ⟨rfl, h4⟩; replace hst := St.call0 hst h4; clear h4) | (go_at_call 64; refine (commit_any txg _).mono ?_; rw [HT.out]; rintro _ w9 ⟨rfl, h4⟩; replace hst := St.call0 hst h4; clear h4))
   go_ret
   exact does_bad (L := []) HB.out (by decide) hst
 ·have h3 : e = true ∧ f = true ∧ s = true := by revert hc; cases e <;> cases f <;> cases s <;> decide
  obtain ⟨rfl, rfl, rfl⟩ := h3
  rcases find_split (nm := sp) (l := t.recs) with ⟨hra, hf⟩ | ⟨j, y, hy, hra, hfn, hf, hnm⟩
  ·have HF := hid hf
   have HB := hid (show r = badR 6 by rw [HV.out, hc, hra]; rfl)
   clear hc HV hf hra
   go_enter Tryz.func70, Tryz.ntmps70
   go_wp2_with (first | go_big_skip | go_big_guard | (refine wl_loadE rfl rfl rfl ?_; first | refine ⟨_, Loads.atA (tabC t (.slice ao xs.length c) (.slice al t.lives.length cl)) [] hst rfl rfl, ?_⟩ | refine ⟨_, Loads.old hst H1.out, ?_⟩ | refine ⟨_, Loads.old hst H2.out, ?_⟩ | refine ⟨_, Loads.old hst H3.out, ?_⟩) | (go_at_call 71; refine (snap_any sp _ (by omega)).mono ?_; rw [HSP.out]; rintro _ w9 ⟨rfl, h4⟩; replace hst := St.call0 hst h4; clear h4) | (go_at_call 62; refine (volume_any nm _ (by omega)).mono ?_; rw [HP.out]; rintro _ w9 ⟨rfl, h4⟩; replace hst := St.call0 hst h4; clear h4) | (go_at_call 64; refine (commit_any txg _).mono ?_; rw [HT.out]; rintro _ w9 ⟨rfl, h4⟩; replace hst := St.call0 hst h4; clear h4))
   have hX := hst.drew
   clear hst
   refine wp_region_held_drew (S := (fun w' => (loadVarH 27 ⟨g, 0, none⟩).run Tryz.prog w' = .ok (.agg (List.toArray ((tabC t (.slice ao xs.length c) (.slice al t.lives.length cl))))) w' ∧ (loadVarH 9 ⟨g1, 0, none⟩).run Tryz.prog w' = .ok (.string ⟨sp.toArray⟩) w')) (by kernel_rfl) (by exact ⟨ldA ((tabC t (.slice ao xs.length c) (.slice al t.lives.length cl))) [] hX (rfl) (rfl), ldO hX (H1.out)⟩) (fun hHeld => ?_)
   refine tq 0 24 ?_
   refine tq 3 27 ?_
   refine tq 1 25 ?_
   refine tq 2 26 ?_
   refine wpAnyH_ready (rs := [4]) (by kernel_rfl) (by simp) ?_
   refine (AllReadyH.cons (o := ⟨some 28, _, _, _, _, _⟩) rfl (fun K hK => ?_) AllReadyH.nil)
   rw [if_pos (by rfl)]
   go_simp
   go_at_call 57
   refine (find_any t _ sp ao xs.length c xs _ (tp_recs [] HOK.out hX) (by omega)).mono ?_
   rw [HOK.out.eq, HF.out]
   rintro _ w5 ⟨rfl, h4⟩
   have hstF := St.call0 hX h4
   clear h4
   refine hK.out _ _ ?_ (fun hHeld => ?_)
   ·exact ⟨ldA ((tabC t (.slice ao xs.length c) (.slice al t.lives.length cl))) [] hstF (rfl) (rfl), ldO hstF (H1.out)⟩
   clear hK K
   (try simp only [Act.put, List.setIfInBounds_toArray, List.set_cons_zero, List.set_cons_succ])
   refine tq 5 23 ?_
   refine tq 6 29 ?_
   refine tq 7 30 ?_
   refine tq 8 6 ?_
   refine tq 9 7 ?_
   refine wpAnyH_done (by kernel_rfl) ?_ _
   clear hHeld
   have hst : St w [] _ (TP g t (.slice ao xs.length c) (.slice al t.lives.length cl) xs R) := hstF
   clear hstF
   go_wp2_with (first | go_big_skip | go_big_guard | fail)
   go_ret
   exact does_bad (L := []) HB.out (by decide) hst
  ·skip
   obtain ⟨x, hx, hxy⟩ := okx_at HOK.out hy
   subst hxy
   have hlt : j < xs.length := (List.getElem?_eq_some_iff.1 hx).1
   obtain ⟨g2, c2, he⟩ := tp_spot [] hst (by omega)
   cases he
   have HF := hid hf
   have HRA := hid hra
   have HXJ := hid hx
   have HLL := hid ((HOK.out.ok x (List.mem_of_getElem? hx)).1)
   have HLX := hid (cellsR_len (HOK.out.ok x (List.mem_of_getElem? hx)).1)
   have HON := hid (cellsR_ones (tp_in [] HOK.out hst hx))
   have H35 := hid (PV.len (p := x.2.pv x.1) (HOK.out.ok x (List.mem_of_getElem? hx)).1)
   have HB3 := hid (birth_le HK.out (List.mem_of_getElem? hy))
   clear hx hy hf hra hfn hnm
   cases hz : (z == 0)
   ·have HB := hid (show r = badR z by rw [HV.out, hc, HRA.out]; show (if z == 0 then _ else _) = _; rw [hz]; rfl)
    have HZ := hid hz
    have d1 : (z != 0) = true := by rw [bne, hz]; rfl
    clear hc hz HV
    go_enter Tryz.func70, Tryz.ntmps70
    go_wp2_with (first | go_big_skip | go_big_guard | (refine wl_loadE rfl rfl rfl ?_; first | refine ⟨_, Loads.atA (tabC t (.slice (some ⟨g2, 0, none⟩) xs.length c) (.slice al t.lives.length cl)) [] hst rfl rfl, ?_⟩ | refine ⟨_, Loads.at [] hst2 rfl, ?_⟩ | refine ⟨_, tp_loadR0 [] HOK.out hst2 HXJ.out, ?_⟩ | refine ⟨.int .i64 x.2.b, Loads.at [] hst4 rfl, ?_⟩ | refine ⟨_, Loads.old hst H1.out, ?_⟩ | refine ⟨_, Loads.old hst H2.out, ?_⟩ | refine ⟨_, Loads.old hst H3.out, ?_⟩ | refine ⟨_, Loads.old hst2 H1.out, ?_⟩ | refine ⟨_, Loads.old hst2 H2.out, ?_⟩ | refine ⟨_, Loads.old hst2 H3.out, ?_⟩ | refine ⟨_, Loads.old hst4 H1.out, ?_⟩ | refine ⟨_, Loads.old hst4 H2.out, ?_⟩ | refine ⟨_, Loads.old hst4 H3.out, ?_⟩) | (go_at_call 71; refine (snap_any sp _ (by omega)).mono ?_; rw [HSP.out]; rintro _ w9 ⟨rfl, h4⟩; replace hst := St.call0 hst h4; clear h4) | (go_at_call 62; refine (volume_any nm _ (by omega)).mono ?_; rw [HP.out]; rintro _ w9 ⟨rfl, h4⟩; replace hst := St.call0 hst h4; clear h4) | (go_at_call 64; refine (commit_any txg _).mono ?_; rw [HT.out]; rintro _ w9 ⟨rfl, h4⟩; replace hst := St.call0 hst h4; clear h4))
    have hX := hst.drew
    clear hst
    refine wp_region_held_drew (S := (fun w' => (loadVarH 27 ⟨g, 0, none⟩).run Tryz.prog w' = .ok (.agg (List.toArray ((tabC t (.slice (some ⟨g2, 0, none⟩) xs.length c) (.slice al t.lives.length cl))))) w' ∧ (loadVarH 9 ⟨g1, 0, none⟩).run Tryz.prog w' = .ok (.string ⟨sp.toArray⟩) w')) (by kernel_rfl) (by exact ⟨ldA ((tabC t (.slice (some ⟨g2, 0, none⟩) xs.length c) (.slice al t.lives.length cl))) [] hX (rfl) (rfl), ldO hX (H1.out)⟩) (fun hHeld => ?_)
    refine tq 0 24 ?_
    refine tq 3 27 ?_
    refine tq 1 25 ?_
    refine tq 2 26 ?_
    refine wpAnyH_ready (rs := [4]) (by kernel_rfl) (by simp) ?_
    refine (AllReadyH.cons (o := ⟨some 28, _, _, _, _, _⟩) rfl (fun K hK => ?_) AllReadyH.nil)
    rw [if_pos (by rfl)]
    go_simp
    go_at_call 57
    refine (find_any t _ sp (some ⟨g2, 0, none⟩) xs.length c xs _ (tp_recs [] HOK.out hX) (by omega)).mono ?_
    rw [HOK.out.eq, HF.out]
    rintro _ w5 ⟨rfl, h4⟩
    have hstF := St.call0 hX h4
    clear h4
    refine hK.out _ _ ?_ (fun hHeld => ?_)
    ·exact ⟨ldA ((tabC t (.slice (some ⟨g2, 0, none⟩) xs.length c) (.slice al t.lives.length cl))) [] hstF (rfl) (rfl), ldO hstF (H1.out)⟩
    clear hK K
    (try simp only [Act.put, List.setIfInBounds_toArray, List.set_cons_zero, List.set_cons_succ])
    refine tq 5 23 ?_
    refine tq 6 29 ?_
    refine tq 7 30 ?_
    refine tq 8 6 ?_
    refine tq 9 7 ?_
    refine wpAnyH_done (by kernel_rfl) ?_ _
    clear hHeld
    have hst : St w [] _ (TP g t (.slice (some ⟨g2, 0, none⟩) xs.length c) (.slice al t.lives.length cl) xs R) := hstF
    clear hstF
    go_wp2_with (first | go_big_skip | go_big_guard | (refine wl_loadE rfl rfl rfl ?_; first | refine ⟨_, Loads.atA (tabC t (.slice (some ⟨g2, 0, none⟩) xs.length c) (.slice al t.lives.length cl)) [] hst rfl rfl, ?_⟩ | refine ⟨_, Loads.at [] hst2 rfl, ?_⟩ | refine ⟨_, tp_loadR0 [] HOK.out hst2 HXJ.out, ?_⟩ | refine ⟨.int .i64 x.2.b, Loads.at [] hst4 rfl, ?_⟩ | refine ⟨_, Loads.old hst H1.out, ?_⟩ | refine ⟨_, Loads.old hst H2.out, ?_⟩ | refine ⟨_, Loads.old hst H3.out, ?_⟩ | refine ⟨_, Loads.old hst2 H1.out, ?_⟩ | refine ⟨_, Loads.old hst2 H2.out, ?_⟩ | refine ⟨_, Loads.old hst2 H3.out, ?_⟩ | refine ⟨_, Loads.old hst4 H1.out, ?_⟩ | refine ⟨_, Loads.old hst4 H2.out, ?_⟩ | refine ⟨_, Loads.old hst4 H3.out, ?_⟩) | (go_at_call 65; refine (room_any g t (some ⟨g2, 0, none⟩) xs.length c _ xs nm hst (HOK.out.own _ _) rfl HOK.out.eq (by omega)).mono ?_; rw [HRM.out]; rintro _ w9 ⟨rfl, h4⟩; have hst2 : St w [] w9 (TP g t (.slice (some ⟨g2, 0, none⟩) xs.length c) (.slice al t.lives.length cl) xs R) := h4; clear h4 hst))
    go_ret
    exact does_bad (L := []) HB.out HZ.out hst2
   ·have d1 : (z != 0) = false := by rw [bne, hz]; rfl
    have HB := hid (show r = (0, putT t (cloneR x.2 nm txg)) by rw [HV.out, hc, HRA.out]; show (if z == 0 then _ else _) = _; rw [hz]; rfl)
    have hz0 := ok_next HK.out
    have HS := hid (ok_sorted HK.out)
    clear hc hz HV
    go_enter Tryz.func70, Tryz.ntmps70
    go_wp2_with (first | go_big_skip | go_big_guard | (refine wl_loadE rfl rfl rfl ?_; first | refine ⟨_, Loads.atA (tabC t (.slice (some ⟨g2, 0, none⟩) xs.length c) (.slice al t.lives.length cl)) [] hst rfl rfl, ?_⟩ | refine ⟨_, Loads.at [] hst2 rfl, ?_⟩ | refine ⟨_, tp_loadR0 [] HOK.out hst2 HXJ.out, ?_⟩ | refine ⟨.int .i64 x.2.b, Loads.at [] hst4 rfl, ?_⟩ | refine ⟨_, Loads.old hst H1.out, ?_⟩ | refine ⟨_, Loads.old hst H2.out, ?_⟩ | refine ⟨_, Loads.old hst H3.out, ?_⟩ | refine ⟨_, Loads.old hst2 H1.out, ?_⟩ | refine ⟨_, Loads.old hst2 H2.out, ?_⟩ | refine ⟨_, Loads.old hst2 H3.out, ?_⟩ | refine ⟨_, Loads.old hst4 H1.out, ?_⟩ | refine ⟨_, Loads.old hst4 H2.out, ?_⟩ | refine ⟨_, Loads.old hst4 H3.out, ?_⟩) | (go_at_call 71; refine (snap_any sp _ (by omega)).mono ?_; rw [HSP.out]; rintro _ w9 ⟨rfl, h4⟩; replace hst := St.call0 hst h4; clear h4) | (go_at_call 62; refine (volume_any nm _ (by omega)).mono ?_; rw [HP.out]; rintro _ w9 ⟨rfl, h4⟩; replace hst := St.call0 hst h4; clear h4) | (go_at_call 64; refine (commit_any txg _).mono ?_; rw [HT.out]; rintro _ w9 ⟨rfl, h4⟩; replace hst := St.call0 hst h4; clear h4))
    have hX := hst.drew
    clear hst
    refine wp_region_held_drew (S := (fun w' => (loadVarH 27 ⟨g, 0, none⟩).run Tryz.prog w' = .ok (.agg (List.toArray ((tabC t (.slice (some ⟨g2, 0, none⟩) xs.length c) (.slice al t.lives.length cl))))) w' ∧ (loadVarH 9 ⟨g1, 0, none⟩).run Tryz.prog w' = .ok (.string ⟨sp.toArray⟩) w')) (by kernel_rfl) (by exact ⟨ldA ((tabC t (.slice (some ⟨g2, 0, none⟩) xs.length c) (.slice al t.lives.length cl))) [] hX (rfl) (rfl), ldO hX (H1.out)⟩) (fun hHeld => ?_)
    refine tq 0 24 ?_
    refine tq 3 27 ?_
    refine tq 1 25 ?_
    refine tq 2 26 ?_
    refine wpAnyH_ready (rs := [4]) (by kernel_rfl) (by simp) ?_
    refine (AllReadyH.cons (o := ⟨some 28, _, _, _, _, _⟩) rfl (fun K hK => ?_) AllReadyH.nil)
    rw [if_pos (by rfl)]
    go_simp
    go_at_call 57
    refine (find_any t _ sp (some ⟨g2, 0, none⟩) xs.length c xs _ (tp_recs [] HOK.out hX) (by omega)).mono ?_
    rw [HOK.out.eq, HF.out]
    rintro _ w5 ⟨rfl, h4⟩
    have hstF := St.call0 hX h4
    clear h4
    refine hK.out _ _ ?_ (fun hHeld => ?_)
    ·exact ⟨ldA ((tabC t (.slice (some ⟨g2, 0, none⟩) xs.length c) (.slice al t.lives.length cl))) [] hstF (rfl) (rfl), ldO hstF (H1.out)⟩
    clear hK K
    (try simp only [Act.put, List.setIfInBounds_toArray, List.set_cons_zero, List.set_cons_succ])
    refine tq 5 23 ?_
    refine tq 6 29 ?_
    refine tq 7 30 ?_
    refine tq 8 6 ?_
    refine tq 9 7 ?_
    refine wpAnyH_done (by kernel_rfl) ?_ _
    clear hHeld
    have hst : St w [] _ (TP g t (.slice (some ⟨g2, 0, none⟩) xs.length c) (.slice al t.lives.length cl) xs R) := hstF
    clear hstF
    go_wp2_with (first | go_big_skip | go_big_guard | (refine wl_loadE rfl rfl rfl ?_; first | refine ⟨_, Loads.atA (tabC t (.slice (some ⟨g2, 0, none⟩) xs.length c) (.slice al t.lives.length cl)) [] hst rfl rfl, ?_⟩ | refine ⟨_, Loads.at [] hst2 rfl, ?_⟩ | refine ⟨_, tp_loadR0 [] HOK.out hst2 HXJ.out, ?_⟩ | refine ⟨.int .i64 x.2.b, Loads.at [] hst4 rfl, ?_⟩ | refine ⟨_, Loads.old hst H1.out, ?_⟩ | refine ⟨_, Loads.old hst H2.out, ?_⟩ | refine ⟨_, Loads.old hst H3.out, ?_⟩ | refine ⟨_, Loads.old hst2 H1.out, ?_⟩ | refine ⟨_, Loads.old hst2 H2.out, ?_⟩ | refine ⟨_, Loads.old hst2 H3.out, ?_⟩ | refine ⟨_, Loads.old hst4 H1.out, ?_⟩ | refine ⟨_, Loads.old hst4 H2.out, ?_⟩ | refine ⟨_, Loads.old hst4 H3.out, ?_⟩) | (go_at_call 65; refine (room_any g t (some ⟨g2, 0, none⟩) xs.length c _ xs nm hst (HOK.out.own _ _) rfl HOK.out.eq (by omega)).mono ?_; rw [HRM.out]; rintro _ w9 ⟨rfl, h4⟩; have hst2 : St w [] w9 (TP g t (.slice (some ⟨g2, 0, none⟩) xs.length c) (.slice al t.lives.length cl) xs R) := h4; clear h4 hst) | (refine wl_index rfl rfl rfl rfl hlt ?_) | (refine wl_alloc hst2 rfl rfl ?_; intro g9 w3 hst3; clear hst2) | (refine wl_storeA [] hst3 rfl rfl rfl rfl (by exact HLX.out) HON.out rfl ?_; intro w4 hst4; clear hst3))
    have hY := hst4.drew
    clear hst4
    refine wp_region_held_drew (S := (fun w' => (loadVarH 9 ⟨g2n, 0, none⟩).run Tryz.prog w' = .ok (.string ⟨nm.toArray⟩) w' ∧ (loadVarH 3 ⟨gx, 0, none⟩).run Tryz.prog w' = .ok (.int .i64 txg) w' ∧ (loadVarH 3 ⟨g9, 3, none⟩).run Tryz.prog w' = .ok (.int .i64 x.2.size) w' ∧ (loadVarH 32 ⟨g9, 4, none⟩).run Tryz.prog w' = .ok (.agg (List.toArray ((x.2.pv x.1).cells))) w' ∧ (loadVarH 3 ⟨g9, 0, none⟩).run Tryz.prog w' = .ok (.int .i64 x.2.id) w')) (by kernel_rfl) (by exact ⟨ldO hY (H2.out), ldO hY (HTX.out), ldS [] hY rfl, ldA ((x.2.pv x.1).cells) [] hY (H35.out) (cellsR_root HLL.out), ldS [] hY rfl⟩) (fun hHeld => ?_)
    refine tq 0 46 ?_
    refine tq 1 47 ?_
    refine tq 2 48 ?_
    refine tq 4 50 ?_
    refine tq 7 53 ?_
    refine tq 8 54 ?_
    refine tq 3 49 ?_
    refine tq 5 51 ?_
    refine tq 9 55 ?_
    refine wpAnyH_ready (rs := [6]) (by kernel_rfl) (by simp) ?_
    refine (AllReadyH.cons (o := ⟨some 52, _, _, _, _, _⟩) rfl (fun K hK => ?_) AllReadyH.nil)
    rw [if_pos (by rfl)]
    go_simp
    go_at_call 69
    refine (ownP_any (x.2.pv x.1) _ (tp_in [_] HOK.out hY HXJ.out).1 (by show x.2.l.length ≤ 100000; have := HB3.out.1; omega)).mono ?_
    rintro _ w5 ⟨a5, n5, c5, rfl, h4, hl5⟩
    have hst5 := St.call hY h4
    subst hl5
    clear h4
    refine hK.out _ _ ?_ (fun hHeld => ?_)
    ·exact ⟨ldO hst5 (H2.out), ldO hst5 (HTX.out), ldS [_] hst5 rfl, ldA ((x.2.pv x.1).cells) [_] hst5 (H35.out) (cellsR_root HLL.out), ldS [_] hst5 rfl⟩
    clear hK K
    (try simp only [Act.put, List.setIfInBounds_toArray, List.set_cons_zero, List.set_cons_succ])
    refine wpAnyH_ready (rs := [10]) (by kernel_rfl) (by simp) ?_
    refine (AllReadyH.cons (o := ⟨some 56, _, _, _, _, _⟩) rfl (fun K hK => ?_) AllReadyH.nil)
    rw [if_pos (by rfl)]
    refine ow_of_wl (ops := #[]) (by rfl) ?_
    refine wl_buildX (cs := cellsR ((.slice a5 (x.2.pv x.1).l.length c5 : Value), cloneR x.2 nm txg)) [(1, .string ⟨nm.toArray⟩), (2, .int .i64 1), (3, .int .i64 x.2.size), (4, .agg (PV.cells ((x.2.pv undef).re (.slice a5 (x.2.pv x.1).l.length c5))).toArray), (5, .int .i64 txg), (7, .int .i64 x.2.id)] rfl rfl (by exact rfl) (bldClone HLL.out _ _ _) ?_
    refine q0_nil ?_
    refine hK.out _ _ ?_ (fun hHeld => ?_)
    ·exact ⟨ldO hst5 (H2.out), ldO hst5 (HTX.out), ldS [_] hst5 rfl, ldA ((x.2.pv x.1).cells) [_] hst5 (H35.out) (cellsR_root HLL.out), ldS [_] hst5 rfl⟩
    clear hK K
    (try simp only [Act.put, List.setIfInBounds_toArray, List.set_cons_zero, List.set_cons_succ])
    refine wpAnyH_ready (rs := [11]) (by kernel_rfl) (by simp) ?_
    refine (AllReadyH.cons (o := ⟨some 57, _, _, _, _, _⟩) rfl (fun K hK => ?_) AllReadyH.nil)
    rw [if_pos (by rfl)]
    go_simp
    go_at_call 66
    have hrd := put_ready (E := [.blk g9 53 (cellsR x)]) (g := g) (t := t) (rv := .slice (some ⟨g2, 0, none⟩) xs.length c) (lv := .slice al t.lives.length cl) (xs := xs) (R := R) (x := ((.slice a5 (x.2.pv x.1).l.length c5 : Value), cloneR x.2 nm txg)) hst5
    have hox := ready_own (x := ((.slice a5 (x.2.pv x.1).l.length c5 : Value), cloneR x.2 nm txg)) (c := .row (.slice al t.lives.length cl) 3 1 t.lives.length (numsV t.lives)) (E := [.blk g9 53 (cellsR x)] ++ R) HOK.out ⟨HLL.out, hl⟩
    refine (putRec_any g t (some ⟨g2, 0, none⟩) xs.length c _ xs ((.slice a5 (x.2.pv x.1).l.length c5 : Value), cloneR x.2 nm txg) hrd hox.1 hox.2 rfl (by rw [HOK.out.eq]; exact HS.out) (by omega) hz0).mono ?_
    rintro _ w9 ⟨rv9, xs9, rfl, he9, ho9, hp9, h4⟩
    have HE9 := hid he9
    have HO9 := hid ho9
    have HP9 := hid hp9
    have hst6 := put_front h4
    clear h4 he9 ho9 hp9 hrd hox
    refine hK.out _ _ ?_ (fun hHeld => ?_)
    ·exact ⟨ldO hst6 (H2.out), ldO hst6 (HTX.out), ldS [] hst6 rfl, ldA ((x.2.pv x.1).cells) [] hst6 (H35.out) (cellsR_root HLL.out), ldS [] hst6 rfl⟩
    clear hK K
    (try simp only [Act.put, List.setIfInBounds_toArray, List.set_cons_zero, List.set_cons_succ])
    refine tq 12 5 ?_
    refine wpAnyH_done (by kernel_rfl) ?_ _
    clear hHeld
    go_wp2_with (first | go_big_skip | go_big_guard | fail)
    go_ret
    exact put_done (E := []) (g := g) (al := al) (cl := cl) (t := t) (rv := rv9) (xs := xs) (xs' := xs9) (R := R) (x := ((.slice a5 (x.2.pv x.1).l.length c5 : Value), cloneR x.2 nm txg)) HB.out HOK.out HE9.out (fun y hy => (HO9.out y hy).2) HP9.out (St.sub hst6 (.cons _ (List.Sublist.refl _)))
end Go.Proofs.YtifajcblbedcoaaGreat
namespace Go.Proofs.YtifajcblbedcoaaGreat
set_option linter.unusedVariables false
set_option linter.unusedSimpArgs false
open Go.RowKit Hp
attribute [local irreducible] Go.Calls Go.wpList
set_option maxRecDepth 100000
set_option maxHeartbeats 8000000
attribute [local go_sem ↓] heldInt heldInts heldRecs heldRec heldStr heldTab heldPtr
theorem newer_any (x y : Value × RC) (w : World) (hx : L32 x.2.S) (hy : L32 y.2.S) : Calls Tryz.prog 74 #[.agg (cellsR x).toArray, .agg (cellsR y).toArray] w fun e w' => e = .returned (.bool (newerB x.2 y.2)) ∧ St w [] w' [] := by
 have hst0 := St.refl w
 have HLX := hid hx
 have HLY := hid hy
 clear hx hy
 unfold newerB
 cases h1 : decide (y.2.made < x.2.made)
 ·have d1 : decide (x.2.made > y.2.made) = false := h1
  cases h2 : (x.2.made == y.2.made)
  ·skip
   go_enter Tryz.func74, Tryz.ntmps74
   go_wp2_with (first | go_big_skip | go_big_guard | (refine wl_boxA hst0 rfl rfl rfl ?_; intro gx w1 hst1; clear hst0) | (refine wl_boxA hst1 rfl rfl rfl ?_; intro gy w2 hst; clear hst1) | (refine wl_loadE rfl rfl rfl ?_; first | refine ⟨_, Loads.at [] hst (cellsR_39 HLY.out), ?_⟩ | refine ⟨_, Loads.at [] hst (cellsR_40 HLY.out), ?_⟩ | refine ⟨_, Loads.at [] hst (cellsR_41 HLY.out), ?_⟩ | refine ⟨_, Loads.at [] hst rfl, ?_⟩ | refine ⟨_, Loads.at [_] hst (cellsR_39 HLX.out), ?_⟩ | refine ⟨_, Loads.at [_] hst (cellsR_40 HLX.out), ?_⟩ | refine ⟨_, Loads.at [_] hst (cellsR_41 HLX.out), ?_⟩ | refine ⟨_, Loads.at [_] hst rfl, ?_⟩))
   go_ret
   exact ⟨rfl, hst.nil⟩
  ·cases h3 : decide (y.2.id < x.2.id)
   ·have d3 : decide (x.2.id > y.2.id) = false := h3
    go_enter Tryz.func74, Tryz.ntmps74
    go_wp2_with (first | go_big_skip | go_big_guard | (refine wl_boxA hst0 rfl rfl rfl ?_; intro gx w1 hst1; clear hst0) | (refine wl_boxA hst1 rfl rfl rfl ?_; intro gy w2 hst; clear hst1) | (refine wl_loadE rfl rfl rfl ?_; first | refine ⟨_, Loads.at [] hst (cellsR_39 HLY.out), ?_⟩ | refine ⟨_, Loads.at [] hst (cellsR_40 HLY.out), ?_⟩ | refine ⟨_, Loads.at [] hst (cellsR_41 HLY.out), ?_⟩ | refine ⟨_, Loads.at [] hst rfl, ?_⟩ | refine ⟨_, Loads.at [_] hst (cellsR_39 HLX.out), ?_⟩ | refine ⟨_, Loads.at [_] hst (cellsR_40 HLX.out), ?_⟩ | refine ⟨_, Loads.at [_] hst (cellsR_41 HLX.out), ?_⟩ | refine ⟨_, Loads.at [_] hst rfl, ?_⟩))
    go_ret
    exact ⟨rfl, hst.nil⟩
   ·have d3 : decide (x.2.id > y.2.id) = true := h3
    go_enter Tryz.func74, Tryz.ntmps74
    go_wp2_with (first | go_big_skip | go_big_guard | (refine wl_boxA hst0 rfl rfl rfl ?_; intro gx w1 hst1; clear hst0) | (refine wl_boxA hst1 rfl rfl rfl ?_; intro gy w2 hst; clear hst1) | (refine wl_loadE rfl rfl rfl ?_; first | refine ⟨_, Loads.at [] hst (cellsR_39 HLY.out), ?_⟩ | refine ⟨_, Loads.at [] hst (cellsR_40 HLY.out), ?_⟩ | refine ⟨_, Loads.at [] hst (cellsR_41 HLY.out), ?_⟩ | refine ⟨_, Loads.at [] hst rfl, ?_⟩ | refine ⟨_, Loads.at [_] hst (cellsR_39 HLX.out), ?_⟩ | refine ⟨_, Loads.at [_] hst (cellsR_40 HLX.out), ?_⟩ | refine ⟨_, Loads.at [_] hst (cellsR_41 HLX.out), ?_⟩ | refine ⟨_, Loads.at [_] hst rfl, ?_⟩))
    go_ret
    exact ⟨rfl, hst.nil⟩
 ·have d1 : decide (x.2.made > y.2.made) = true := h1
  go_enter Tryz.func74, Tryz.ntmps74
  go_wp2_with (first | go_big_skip | go_big_guard | (refine wl_boxA hst0 rfl rfl rfl ?_; intro gx w1 hst1; clear hst0) | (refine wl_boxA hst1 rfl rfl rfl ?_; intro gy w2 hst; clear hst1) | (refine wl_loadE rfl rfl rfl ?_; first | refine ⟨_, Loads.at [] hst (cellsR_39 HLY.out), ?_⟩ | refine ⟨_, Loads.at [] hst (cellsR_40 HLY.out), ?_⟩ | refine ⟨_, Loads.at [] hst (cellsR_41 HLY.out), ?_⟩ | refine ⟨_, Loads.at [] hst rfl, ?_⟩ | refine ⟨_, Loads.at [_] hst (cellsR_39 HLX.out), ?_⟩ | refine ⟨_, Loads.at [_] hst (cellsR_40 HLX.out), ?_⟩ | refine ⟨_, Loads.at [_] hst (cellsR_41 HLX.out), ?_⟩ | refine ⟨_, Loads.at [_] hst rfl, ?_⟩))
  go_ret
  exact ⟨rfl, hst.nil⟩
theorem rollC_any {w : World} {g : Nat} (x : Value × RC) (hr : w.rangeAt g 0 (cellsR x)) (hx : L32 x.2.S) (y : Value × RC) (hy : RC.In w y) : Calls Tryz.prog 73 #[.agg (cellsR y).toArray, .pointer (some ⟨g, 0, none⟩)] w fun e w' => e = .returned (.bool ((y.2.own == x.2.own) && newerB y.2 x.2)) ∧ St w [] w' [] := by
 have hst0 := St.refl w
 have HLX := hid hx
 have HLY := hid hy.L
 have HL44 := hid (cellsR_len hy.L)
 have HX44 := hid (cellsR_len hx)
 have HRX := hid hr
 have HO6 := hid (show w.cell? ⟨g, 40, none⟩ = some (.int .i64 x.2.own) from by have := hr 40 _ (cellsR_40 hx); rwa [Nat.zero_add] at this)
 clear hr hx hy
 cases h1 : (y.2.own == x.2.own)
 all_goals
  go_enter Tryz.func73, Tryz.ntmps73
  go_wp2_with (first | go_big_skip | go_big_guard | (refine wl_boxA hst0 rfl rfl rfl ?_; intro gy w2 hst; clear hst0) | (refine wl_loadE rfl rfl rfl ?_; first | refine ⟨_, Loads.at [] hst (cellsR_39 HLY.out), ?_⟩ | refine ⟨_, Loads.at [] hst (cellsR_40 HLY.out), ?_⟩ | refine ⟨_, Loads.at [] hst (cellsR_41 HLY.out), ?_⟩ | refine ⟨_, Loads.at [] hst rfl, ?_⟩ | refine ⟨_, Loads.old hst HO6.out, ?_⟩ | refine ⟨_, Loads.atA (cellsR y) [] hst HL44.out (cellsR_all y), ?_⟩ | refine ⟨_, Loads.oldA (cs := cellsR x) hst HX44.out HRX.out, ?_⟩) | (go_at_call 74; refine (newer_any y x _ HLY.out HLX.out).mono ?_; rintro _ w9 ⟨rfl, h4⟩; replace hst := St.call0 hst h4; clear h4))
  go_ret
  exact ⟨rfl, hst.nil⟩
theorem dropC_any {w : World} {g : Nat} {q : Int} (h0 : w.cell? ⟨g, 0, none⟩ = some (.int .i64 q)) (y : Value × RC) (hy : RC.In w y) : Calls Tryz.prog 59 #[.agg (cellsR y).toArray, .pointer (some ⟨g, 0, none⟩)] w fun e w' => e = .returned (.bool ((y.2.own == q) || (y.2.origin == q))) ∧ St w [] w' [] := by
 have hst0 := St.refl w
 have HLY := hid hy.L
 have HQ := hid h0
 clear h0 hy
 cases h1 : (y.2.own == q)
 all_goals
  go_enter Tryz.func59, Tryz.ntmps59
  go_wp2_with (first | go_big_skip | go_big_guard | (refine wl_boxA hst0 rfl rfl rfl ?_; intro gy w2 hst; clear hst0) | (refine wl_loadE rfl rfl rfl ?_; first | refine ⟨_, Loads.at [] hst (cellsR_39 HLY.out), ?_⟩ | refine ⟨_, Loads.at [] hst (cellsR_40 HLY.out), ?_⟩ | refine ⟨_, Loads.at [] hst (cellsR_41 HLY.out), ?_⟩ | refine ⟨_, Loads.at [] hst rfl, ?_⟩ | refine ⟨_, Loads.old hst HQ.out, ?_⟩))
  go_ret
  exact ⟨rfl, hst.nil⟩
theorem set_split {xs : List (Value × RC)} {k : Nat} {v y : Value × RC} (hk : xs[k]? = some v) : xs = xs.take k ++ v :: xs.drop (k + 1) ∧ xs.set k y = xs.take k ++ y :: xs.drop (k + 1) := by
 have hlt := (List.getElem?_eq_some_iff.1 hk).1
 have hv : xs[k] = v := (List.getElem?_eq_some_iff.1 hk).2
 refine ⟨?_, by rw [List.set_eq_take_append_cons_drop, if_pos hlt]⟩
 rw [← hv, ← List.drop_eq_getElem_cons hlt, List.take_append_drop]
theorem set_roots {w w' : World} {A R : List HA} {xs : List (Value × RC)} {k : Nat} {v y : Value × RC} (hk : xs[k]? = some v) (h : St w [] w' (rootH y :: (A ++ (xs.map rootH ++ R)))) : St w [] w' (A ++ ((xs.set k y).map rootH ++ R)) := by
 obtain ⟨e1, e2⟩ := set_split (y := y) hk
 rw [e2]
 rw [e1] at h
 simp only [List.map_append, List.map_cons] at h ⊢
 generalize (xs.take k).map rootH = m1 at h ⊢
 generalize (xs.drop (k + 1)).map rootH = m2 at h ⊢
 have h1 : St w [] w' (rootH y :: (A ++ ((m1 ++ m2) ++ R))) := by
  refine St.sub h (.cons_cons _ ((List.Sublist.refl A).append ?_))
  exact ((List.Sublist.refl m1).append (.cons _ (List.Sublist.refl m2))).append (List.Sublist.refl R)
 refine St.perm h1 ?_
 have h2 : (rootH y :: (A ++ ((m1 ++ m2) ++ R))).Perm ((A ++ m1) ++ (rootH y :: (m2 ++ R))) := by
  have := List.perm_middle (a := rootH y) (l₁ := A ++ m1) (l₂ := m2 ++ R)
  simpa using this.symm
 simpa using h2
section
variable {E : List HA} {g : Nat} {al : Option Addr} {cl k : Nat} {w w' : World} {t : TC} {rv : Value} {xs : List (Value × RC)} {R : List HA} {v y : Value × RC} {r : TR}
theorem set_okx (hok : Okx xs t) (hy : L32 y.2.S ∧ y.2.name.length ≤ 1000000) : Okx (xs.set k y) { t with recs := t.recs.set k y.2 } := by
 refine ⟨?_, fun x hx => ?_⟩
 ·show (xs.set k y).map (·.2) = t.recs.set k y.2
  rw [List.map_set, hok.eq]
 ·rcases List.mem_or_eq_of_mem_set hx with h | rfl
  ·exact hok.ok x h
  ·exact hy
theorem set_done (hr : r = (0, { t with recs := t.recs.set k y.2 })) (hok : Okx xs t) (hk : xs[k]? = some v) (hy : L32 y.2.S ∧ y.2.name.length ≤ 1000000)
  (h : St w [] w' (rootH y :: (E ++ (.blk g 27 (tabC t rv (.slice al t.lives.length cl)) :: .row rv 53 44 xs.length (recsV (xs.set k y)) :: .row (.slice al t.lives.length cl) 3 1 t.lives.length (numsV t.lives) :: (xs.map rootH ++ R))))) : DoesPost g al cl w t r R (.returned (.int .i64 0)) w' := by
 subst hr
 refine ⟨rfl, fun _ => ⟨rv, xs.set k y, set_okx hok hy, ?_, rfl⟩, fun h0 => by cases h0⟩
 have h1 := set_roots (A := E ++ [.blk g 27 (tabC t rv (.slice al t.lives.length cl)), .row rv 53 44 xs.length (recsV (xs.set k y)), .row (.slice al t.lives.length cl) 3 1 t.lives.length (numsV t.lives)]) hk (by rw [List.append_assoc]; exact h)
 rw [List.append_assoc] at h1
 unfold TP
 rw [List.length_set]
 exact St.sub h1 (List.sublist_append_right _ _)
theorem set_done0 (hr : r = (0, { t with recs := t.recs.set k y.2 })) (hok : Okx xs t) (hk : xs[k]? = some v) (hy : L32 y.2.S ∧ y.2.name.length ≤ 1000000) (hv : rootH y = rootH v)
  (h : St w [] w' (E ++ (.blk g 27 (tabC t rv (.slice al t.lives.length cl)) :: .row rv 53 44 xs.length (recsV (xs.set k y)) :: .row (.slice al t.lives.length cl) 3 1 t.lives.length (numsV t.lives) :: (xs.map rootH ++ R)))) : DoesPost g al cl w t r R (.returned (.int .i64 0)) w' := by
 subst hr
 refine ⟨rfl, fun _ => ⟨rv, xs.set k y, set_okx hok hy, ?_, rfl⟩, fun h0 => by cases h0⟩
 have e : (xs.set k y).map rootH = xs.map rootH := by
  obtain ⟨e1, e2⟩ := set_split (y := y) hk
  rw [e2]
  conv => rhs; rw [e1]
  rw [List.map_append, List.map_append, List.map_cons, List.map_cons, hv]
 unfold TP
 rw [List.length_set, e]
 exact St.sub h (List.sublist_append_right _ _)
theorem del_done (hr : r = (0, { t with recs := t.recs.eraseIdx k })) (hok : Okx xs t) (hk : k < xs.length)
  (h : St w [] w' (E ++ (.blk g 27 (tabC t rv (.slice al t.lives.length cl)) :: .row rv 53 44 (xs.length - 1) (recsV (xs.eraseIdx k)) :: .row (.slice al t.lives.length cl) 3 1 t.lives.length (numsV t.lives) :: (xs.map rootH ++ R)))) : DoesPost g al cl w t r R (.returned (.int .i64 0)) w' := by
 subst hr
 refine ⟨rfl, fun _ => ⟨rv, xs.eraseIdx k, ⟨?_, fun x hx => hok.ok x (List.mem_of_mem_eraseIdx hx)⟩, ?_, rfl⟩, fun h0 => by cases h0⟩
 ·show (xs.eraseIdx k).map (·.2) = t.recs.eraseIdx k
  rw [← hok.eq, List.eraseIdx_eq_take_drop_succ, List.eraseIdx_eq_take_drop_succ, List.map_append, List.map_take, List.map_drop]
 ·unfold TP
  rw [List.length_eraseIdx_of_lt hk]
  refine St.sub h (List.Sublist.trans ?_ (List.sublist_append_right _ _))
  exact .cons_cons _ (.cons_cons _ (.cons_cons _ (((List.eraseIdx_sublist xs k).map rootH).append (List.Sublist.refl R))))
end
theorem snap_vol {t : TC} (h : t.ok = true) {sp : List UInt8} {s : RC} (hs : snapB sp = true) (hr : recAt sp t.recs = some s) : ∃ (k : Nat) (v : RC), t.recs[k]? = some v ∧ recAt (splitL sp).1 t.recs = some v ∧ findN (splitL sp).1 t.recs = (k : Int) ∧ findP (splitL sp).1 t.recs = ((k : Int), true) ∧ v.id = s.own ∧ s.kind = 2 := by
 have hm : s ∈ t.recs := List.mem_of_find?_eq_some hr
 have hn : s.name = sp := by simpa using List.find?_some hr
 obtain ⟨i, hi⟩ := List.getElem?_of_mem hm
 unfold TC.ok at h
 simp only [Bool.and_eq_true] at h
 obtain ⟨⟨_, h4⟩, h5⟩ := h
 have a1 := allAt_at h4 hi
 have a2 := allAt_at h5 hi
 unfold eachB at a1
 have a3 : s.aloneB = true := (Bool.and_eq_true_iff.1 a1).1
 unfold RC.aloneB at a3
 have a4 : s.kindB = true := (Bool.and_eq_true_iff.1 a3).2
 have hk : (s.kind == 2) = true := by
  unfold RC.kindB at a4
  by_cases k1 : (s.kind == 1) = true
  ·rw [if_pos k1] at a4
   simp only [Bool.and_eq_true] at a4
   have hp := a4.1.1.1.1
   rw [hn] at hp
   unfold snapB at hs
   obtain ⟨⟨a, b, f⟩, hsp⟩ : ∃ p, splitL sp = p := ⟨_, rfl⟩
   rw [hsp] at hs
   have hf : f = true := hs
   subst hf
   rw [(split_true hsp).1, part_joined] at hp
   cases hp
  ·rw [if_neg k1] at a4
   by_cases k2 : (s.kind == 2) = true
   ·exact k2
   ·rw [if_neg k2] at a4; cases a4
 unfold relB at a2
 have a5 := (Bool.and_eq_true_iff.1 a2).2
 unfold kinB at a5
 rw [if_pos hk] at a5
 unfold volB at a5
 rw [hn] at a5
 obtain ⟨b1, b2⟩ := Bool.and_eq_true_iff.1 a5
 rcases find_split (nm := (splitL sp).1) (l := t.recs) with ⟨_, hf⟩ | ⟨k, v, hv, hra, hfn, hfp, _⟩
 ·unfold findP at hf
  rw [decide_eq_true_eq] at b1
  rw [if_neg (by omega)] at hf
  exact absurd (congrArg Prod.snd hf) (by simp)
 ·refine ⟨k, v, hv, hra, hfn, hfp, ?_, by simpa using hk⟩
  unfold idAt at b2
  rw [hfn, Int.toNat_natCast, hv] at b2
  simpa using b2
end Go.Proofs.YtifajcblbedcoaaGreat
namespace Go.Proofs.YtifajcblbedcoaaGreat
set_option linter.unusedVariables false
set_option linter.unusedSimpArgs false
open Go.RowKit Hp
attribute [local irreducible] Go.Calls Go.wpList
set_option maxRecDepth 100000
set_option maxHeartbeats 8000000
attribute [local go_sem ↓] heldInt heldInts heldRecs heldRec heldStr heldTab heldPtr
theorem put_size (v : Value × RC) (z : Int) : putAt (cellsR v) 3 [.int .i64 z] = cellsR (v.1, { v.2 with size := z }) := rfl
theorem put_back (v : Value × RC) (s : RC) (sv : Value) (hv : L32 v.2.S) (hs : L32 s.S) : putAt (cellsR (v.1, { v.2 with size := s.size })) 4 (PV.cells ((s.pv undef).re sv)) = cellsR (sv, backR v.2 s) :=
 xC_put4 (p := v.2.pv v.1) (q := (s.pv undef).re sv) hv hs
theorem recsV_erase {xs : List (Value × RC)} (h : LX xs) {k : Nat} (hk : k < xs.length) : (recsV xs).take (k * 44) ++ (recsV xs).drop ((k + 1) * 44) = recsV (xs.eraseIdx k) := by
 rw [(recsV_takeL h (k := k) (by omega)).1, (recsV_takeL h (k := k + 1) (by omega)).2, List.eraseIdx_eq_take_drop_succ, recsV_append]
theorem Okx.LX {xs : List (Value × RC)} {t : TC} (h : Okx xs t) : LX xs := fun x hx => (h.ok x hx).1
theorem roll_does {w : World} {g1 : Nat} (sp : List UInt8) (h1 : w.cell? ⟨g1, 0, none⟩ = some (.string ⟨sp.toArray⟩)) (hl : sp.length ≤ 1000000) (t : TC) (hk : t.ok = true) :
  Does 72 #[.pointer (some ⟨g1, 0, none⟩)] w t (rollT t sp) := by
 intro g ao c al cl xs R w1 hok hst0
 show Calls _ _ #[.pointer (some ⟨g, 0, none⟩), .pointer (some ⟨g1, 0, none⟩)] _ _
 have hst := hst0
 have H1 := hid h1
 have HOK := hid hok
 have HK := hid hk
 have b2 : xs.length ≤ 16 := by rw [hok.len]; exact ok_many hk
 clear hst0 hok hk h1
 obtain ⟨r, hr⟩ : ∃ r, r = rollT t sp := ⟨_, rfl⟩
 rw [← hr]
 obtain ⟨⟨v, u, f⟩, hx⟩ : ∃ p, splitL sp = p := ⟨_, rfl⟩
 have hvl : v.length ≤ 1000000 := by have := (split_in sp hl).1; rwa [hx] at this
 have HX := hid hx
 have HSB := hid (show snapB sp = f by unfold snapB; rw [hx])
 have HV := hid (show r = if f then (match recAt sp t.recs with
  | none => badR 6
  | some s => if t.recs.any (fun x => (x.own == s.own) && newerB x s) then badR 17 else
   (match recAt v t.recs with
   | none => badR 0
   | some q => (0, { t with recs := setN v t.recs (backR q s) }))) else badR 2 by rw [hr]; unfold rollT; rw [HSB.out, hx]; rfl)
 clear hr hx
 cases f
 ·have HB := hid (show r = badR 2 from HV.out)
  clear HV
  go_enter Tryz.func72, Tryz.ntmps72
  go_wp2_with (first | go_big_skip | go_big_guard | (refine wl_loadE rfl rfl rfl ?_; first | refine ⟨_, Loads.atA (tabC t (.slice ao xs.length c) (.slice al t.lives.length cl)) [] hst rfl rfl, ?_⟩ | refine ⟨_, Loads.old hst H1.out, ?_⟩) | (go_at_call 68; refine (split_any sp _ (by omega)).mono ?_; rw [HX.out]; rintro _ w9 ⟨rfl, h4⟩; replace hst := St.call0 hst h4; clear h4))
  go_ret
  exact does_bad (L := []) HB.out (by decide) hst
 ·rcases find_split (nm := sp) (l := t.recs) with ⟨hra, hf⟩ | ⟨j, y, hy, hra, hfn, hf, hnm⟩
  ·have HF := hid hf
   have HB := hid (show r = badR 6 by rw [HV.out, hra]; rfl)
   clear HV hf hra
   go_enter Tryz.func72, Tryz.ntmps72
   go_wp2_with (first | go_big_skip | go_big_guard | (refine wl_loadE rfl rfl rfl ?_; first | refine ⟨_, Loads.atA (tabC t (.slice ao xs.length c) (.slice al t.lives.length cl)) [] hst rfl rfl, ?_⟩ | refine ⟨_, Loads.old hst H1.out, ?_⟩) | (go_at_call 68; refine (split_any sp _ (by omega)).mono ?_; rw [HX.out]; rintro _ w9 ⟨rfl, h4⟩; replace hst := St.call0 hst h4; clear h4))
   have hX := hst.drew
   clear hst
   refine wp_region_held_drew (S := (fun w' => (loadVarH 27 ⟨g, 0, none⟩).run Tryz.prog w' = .ok (.agg (List.toArray ((tabC t (.slice ao xs.length c) (.slice al t.lives.length cl))))) w' ∧ (loadVarH 9 ⟨g1, 0, none⟩).run Tryz.prog w' = .ok (.string ⟨sp.toArray⟩) w')) (by kernel_rfl) (by exact ⟨ldA ((tabC t (.slice ao xs.length c) (.slice al t.lives.length cl))) [] hX (rfl) (rfl), ldO hX (H1.out)⟩) (fun hHeld => ?_)
   refine tq 0 21 ?_
   refine tq 3 24 ?_
   refine tq 1 22 ?_
   refine tq 2 23 ?_
   refine wpAnyH_ready (rs := [4]) (by kernel_rfl) (by simp) ?_
   refine (AllReadyH.cons (o := ⟨some 25, _, _, _, _, _⟩) rfl (fun K hK => ?_) AllReadyH.nil)
   rw [if_pos (by rfl)]
   go_simp
   go_at_call 57
   refine (find_any t _ sp ao xs.length c xs _ (tp_recs [] HOK.out hX) (by omega)).mono ?_
   rw [HOK.out.eq, HF.out]
   rintro _ w5 ⟨rfl, h4⟩
   have hstF := St.call0 hX h4
   clear h4
   refine hK.out _ _ ?_ (fun hHeld => ?_)
   ·exact ⟨ldA ((tabC t (.slice ao xs.length c) (.slice al t.lives.length cl))) [] hstF (rfl) (rfl), ldO hstF (H1.out)⟩
   clear hK K
   (try simp only [Act.put, List.setIfInBounds_toArray, List.set_cons_zero, List.set_cons_succ])
   refine tq 5 20 ?_
   refine tq 6 26 ?_
   refine tq 7 27 ?_
   refine tq 8 7 ?_
   refine tq 9 8 ?_
   refine wpAnyH_done (by kernel_rfl) ?_ _
   clear hHeld
   have hst : St w [] _ (TP g t (.slice ao xs.length c) (.slice al t.lives.length cl) xs R) := hstF
   clear hstF
   go_wp2_with (first | go_big_skip | go_big_guard | fail)
   go_ret
   exact does_bad (L := []) HB.out (by decide) hst
  ·skip
   obtain ⟨x, hx, hxy⟩ := okx_at HOK.out hy
   subst hxy
   have hlt : j < xs.length := (List.getElem?_eq_some_iff.1 hx).1
   obtain ⟨g2, c2, he⟩ := tp_spot [] hst (by omega)
   cases he
   have HF := hid hf
   have HRA := hid hra
   have HXJ := hid hx
   have HLL := hid ((HOK.out.ok x (List.mem_of_getElem? hx)).1)
   have HLX := hid (cellsR_len (HOK.out.ok x (List.mem_of_getElem? hx)).1)
   have HON := hid (cellsR_ones (tp_in [] HOK.out hst hx))
   have H35 := hid (PV.len (p := x.2.pv x.1) (HOK.out.ok x (List.mem_of_getElem? hx)).1)
   have HB3 := hid (birth_le HK.out (List.mem_of_getElem? hy))
   clear hx hy hf hra hfn hnm
   obtain ⟨a, ha⟩ : ∃ a, t.recs.any (fun q => (q.own == x.2.own) && newerB q x.2) = a := ⟨_, rfl⟩
   have HA := hid ha
   have HV2 := hid (show r = if a then badR 17 else (match recAt v t.recs with
    | none => badR 0
    | some q => (0, { t with recs := setN v t.recs (backR q x.2) })) by rw [HV.out, HRA.out]; show (if t.recs.any (fun q => (q.own == x.2.own) && newerB q x.2) then _ else _) = _; rw [ha])
   clear ha HV
   cases a
   ·obtain ⟨k, y', hy, hra, hfn, hfp, _⟩ := snap_vol HK.out HSB.out HRA.out
    rw [HX.out] at hra hfn hfp
    obtain ⟨y, hyk, hyy⟩ := okx_at HOK.out hy
    subst hyy
    have hkl : k < xs.length := (List.getElem?_eq_some_iff.1 hyk).1
    have HYK := hid hyk
    have HYL := hid ((HOK.out.ok y (List.mem_of_getElem? hyk)).1)
    have HYN := hid ((HOK.out.ok y (List.mem_of_getElem? hyk)).2)
    have HF2 := hid hfp
    have HB := hid (show r = (0, { t with recs := t.recs.set k (backR y.2 x.2) }) by rw [HV2.out, hra, if_neg (by decide)]; show ((0 : Int), { t with recs := setN v t.recs (backR y.2 x.2) }) = _; unfold setN; rw [hfn]; rfl)
    clear hy hra hfn hfp hyk HV2
    go_enter Tryz.func72, Tryz.ntmps72
    go_wp2_with (first | go_big_skip | go_big_guard | (refine wl_loadE rfl rfl rfl ?_; first | refine ⟨_, Loads.atA (tabC t (.slice (some ⟨g2, 0, none⟩) xs.length c) (.slice al t.lives.length cl)) [] hst rfl rfl, ?_⟩ | refine ⟨_, Loads.at [] hst rfl, ?_⟩ | refine ⟨_, tp_loadR0 [] HOK.out hst HXJ.out, ?_⟩ | refine ⟨_, Loads.at [_] hst4 rfl, ?_⟩ | refine ⟨_, Loads.atA (tabC t (.slice (some ⟨g2, 0, none⟩) xs.length c) (.slice al t.lives.length cl)) [_] hst4 rfl rfl, ?_⟩ | refine ⟨_, Loads.old hst H1.out, ?_⟩) | (go_at_call 68; refine (split_any sp _ (by omega)).mono ?_; rw [HX.out]; rintro _ w9 ⟨rfl, h4⟩; replace hst := St.call0 hst h4; clear h4))
    have hX := hst.drew
    clear hst
    refine wp_region_held_drew (S := (fun w' => (loadVarH 27 ⟨g, 0, none⟩).run Tryz.prog w' = .ok (.agg (List.toArray ((tabC t (.slice (some ⟨g2, 0, none⟩) xs.length c) (.slice al t.lives.length cl))))) w' ∧ (loadVarH 9 ⟨g1, 0, none⟩).run Tryz.prog w' = .ok (.string ⟨sp.toArray⟩) w')) (by kernel_rfl) (by exact ⟨ldA ((tabC t (.slice (some ⟨g2, 0, none⟩) xs.length c) (.slice al t.lives.length cl))) [] hX (rfl) (rfl), ldO hX (H1.out)⟩) (fun hHeld => ?_)
    refine tq 0 21 ?_
    refine tq 3 24 ?_
    refine tq 1 22 ?_
    refine tq 2 23 ?_
    refine wpAnyH_ready (rs := [4]) (by kernel_rfl) (by simp) ?_
    refine (AllReadyH.cons (o := ⟨some 25, _, _, _, _, _⟩) rfl (fun K hK => ?_) AllReadyH.nil)
    rw [if_pos (by rfl)]
    go_simp
    go_at_call 57
    refine (find_any t _ sp (some ⟨g2, 0, none⟩) xs.length c xs _ (tp_recs [] HOK.out hX) (by omega)).mono ?_
    rw [HOK.out.eq, HF.out]
    rintro _ w5 ⟨rfl, h4⟩
    have hstF := St.call0 hX h4
    clear h4
    refine hK.out _ _ ?_ (fun hHeld => ?_)
    ·exact ⟨ldA ((tabC t (.slice (some ⟨g2, 0, none⟩) xs.length c) (.slice al t.lives.length cl))) [] hstF (rfl) (rfl), ldO hstF (H1.out)⟩
    clear hK K
    (try simp only [Act.put, List.setIfInBounds_toArray, List.set_cons_zero, List.set_cons_succ])
    refine tq 5 20 ?_
    refine tq 6 26 ?_
    refine tq 7 27 ?_
    refine tq 8 7 ?_
    refine tq 9 8 ?_
    refine wpAnyH_done (by kernel_rfl) ?_ _
    clear hHeld
    have hst : St w [] _ (TP g t (.slice (some ⟨g2, 0, none⟩) xs.length c) (.slice al t.lives.length cl) xs R) := hstF
    clear hstF
    go_wp2_with (first | go_big_skip | go_big_guard | (refine wl_loadE rfl rfl rfl ?_; first | refine ⟨_, Loads.atA (tabC t (.slice (some ⟨g2, 0, none⟩) xs.length c) (.slice al t.lives.length cl)) [] hst rfl rfl, ?_⟩ | refine ⟨_, Loads.at [] hst rfl, ?_⟩ | refine ⟨_, tp_loadR0 [] HOK.out hst HXJ.out, ?_⟩ | refine ⟨_, Loads.at [_] hst4 rfl, ?_⟩ | refine ⟨_, Loads.atA (tabC t (.slice (some ⟨g2, 0, none⟩) xs.length c) (.slice al t.lives.length cl)) [_] hst4 rfl rfl, ?_⟩ | refine ⟨_, Loads.old hst H1.out, ?_⟩) | (refine wl_index rfl rfl rfl rfl hlt ?_) | (refine wl_alloc hst rfl rfl ?_; intro g9 w3 hst3; clear hst) | (refine wl_storeA [] hst3 rfl rfl rfl rfl (by exact HLX.out) HON.out rfl ?_; intro w4 h4; have hst4 : St w [] w4 ([.blk g9 53 (cellsR x)] ++ TP g t (.slice (some ⟨g2, 0, none⟩) xs.length c) (.slice al t.lives.length cl) xs R) := h4; clear hst3 h4) | (go_at_call 58; refine (containsR_any 73 g9 (fun y => (y.own == x.2.own) && newerB y x.2) _ xs.length c xs _ (fun _ _ => rfl) (fun y w' hy h => rollC_any x (fun j v hv => St.old_cell h (by have := hst4.range (.head _) j v (by rw [List.drop_zero]; exact hv); rwa [Nat.zero_add] at this ⊢) (by simp)) HLL.out y (RC.In.old h ((tp_recs [_] HOK.out hst4).each y hy))) (tp_recs [_] HOK.out hst4) (by omega)).mono ?_; rw [HOK.out.eq, HA.out]; rintro _ w9 ⟨rfl, h4⟩; replace hst4 := St.call0 hst4 h4; clear h4) | (go_at_call 57; refine (find_any t _ v (some ⟨g2, 0, none⟩) xs.length c xs _ (tp_recs [_] HOK.out hst4) (by omega)).mono ?_; rw [HOK.out.eq, HF2.out]; rintro _ w9 ⟨rfl, h4⟩; replace hst4 := St.call0 hst4 h4; clear h4))
    have hY := hst4.drew
    clear hst4
    refine wp_region_held_drew (S := (fun w' => (loadVarH 22 ⟨g, 1, none⟩).run Tryz.prog w' = .ok (.slice (some ⟨g2, 0, none⟩) xs.length c) w' ∧ (loadVarH 3 ⟨g9, 3, none⟩).run Tryz.prog w' = .ok (.int .i64 x.2.size) w' ∧ (loadVarH 32 ⟨g9, 4, none⟩).run Tryz.prog w' = .ok (.agg (List.toArray ((x.2.pv x.1).cells))) w')) (by kernel_rfl) (by exact ⟨ldS [_] hY rfl, ldS [] hY rfl, ldA ((x.2.pv x.1).cells) [] hY (H35.out) (cellsR_root HLL.out)⟩) (fun hHeld => ?_)
    refine tq 0 51 ?_
    refine tq 4 55 ?_
    refine tq 5 56 ?_
    refine tq 9 60 ?_
    refine tq 10 61 ?_
    refine tq 12 63 ?_
    refine tq 1 52 ?_
    refine tq 6 57 ?_
    refine tq 11 62 ?_
    refine tq 13 64 ?_
    refine tq 2 53 ?_
    refine tq 7 58 ?_
    refine tq 3 54 ?_
    refine tq 8 59 ?_
    refine wpAnyH_ready (rs := [14]) (by kernel_rfl) (by simp) ?_
    refine (AllReadyH.cons (o := ⟨some 65, _, _, _, _, _⟩) rfl (fun K hK => ?_) AllReadyH.nil)
    rw [if_pos (by rfl)]
    go_simp
    go_at_call 69
    refine (ownP_any (x.2.pv x.1) _ (tp_in [_] HOK.out hY HXJ.out).1 (by show x.2.l.length ≤ 100000; have := HB3.out.1; omega)).mono ?_
    rintro _ w5 ⟨a5, n5, c5, rfl, h4, hl5⟩
    have h5 := St.call hY h4
    have hst5 : St w [] w5 ([.row (.slice a5 n5 c5) 102 2 n5 (addrsV x.2.l), .blk g9 53 (cellsR x)] ++ TP g t (.slice (some ⟨g2, 0, none⟩) xs.length c) (.slice al t.lives.length cl) xs R) := h5
    subst hl5
    clear h4 h5
    refine hK.out _ _ ?_ (fun hHeld => ?_)
    ·exact ⟨ldS [_, _] hst5 rfl, ldS [_] hst5 rfl, ldA ((x.2.pv x.1).cells) [_] hst5 (H35.out) (cellsR_root HLL.out)⟩
    clear hK K
    (try simp only [Act.put, List.setIfInBounds_toArray, List.set_cons_zero, List.set_cons_succ])
    refine tq 15 66 ?_
    refine tq 16 67 ?_
    refine wpAnyH_ready (rs := [17]) (by kernel_rfl) (by simp) ?_
    refine (AllReadyH.cons (o := ⟨none, _, _, _, _, _⟩) rfl (fun K hK => ?_) AllReadyH.nil)
    rw [if_pos (by rfl)]
    refine ow_of_wl (ops := #[]) (by rfl) ?_
    refine wl_storeRow1 [_, _, _] hst5 rfl rfl rfl rfl (v := .int .i64 x.2.size) rfl rfl (by omega) (by omega) ?_
    intro w6 hst6
    rw [recsV_put HOK.out.LX HYK.out (d := 3) (by show 3 + 1 ≤ 44; decide) (put_size y x.2.size)] at hst6
    refine q0_nil ?_
    refine hK.out _ _ ?_ (fun hHeld => ?_)
    ·exact ⟨ldS [_, _] hst6 rfl, ldS [_] hst6 rfl, ldA ((x.2.pv x.1).cells) [_] hst6 (H35.out) (cellsR_root HLL.out)⟩
    clear hK K
    (try simp only [Act.put, List.setIfInBounds_toArray, List.set_cons_zero, List.set_cons_succ])
    refine tq 18 68 ?_
    refine tq 19 69 ?_
    refine wpAnyH_ready (rs := [20]) (by kernel_rfl) (by simp) ?_
    refine (AllReadyH.cons (o := ⟨none, _, _, _, _, _⟩) rfl (fun K hK => ?_) AllReadyH.nil)
    rw [if_pos (by rfl)]
    refine ow_of_wl (ops := #[]) (by rfl) ?_
    refine wl_storeRow [_, _, _] hst6 rfl rfl rfl rfl (m := 35) (vs := PV.cells ((x.2.pv undef).re (.slice a5 (x.2.pv x.1).l.length c5))) (PV.len (p := (x.2.pv undef).re (.slice a5 (x.2.pv x.1).l.length c5)) HLL.out) (PV.ones_of (p := (x.2.pv undef).re (.slice a5 (x.2.pv x.1).l.length c5)) rfl) (by omega) (by omega) ?_
    intro w7 hst7
    have hLX2 : LX (xs.set k (y.1, { y.2 with size := x.2.size })) := fun q hq => by
     rcases List.mem_or_eq_of_mem_set hq with h | rfl
     ·exact HOK.out.LX q h
     ·exact HYL.out
    rw [recsV_put hLX2 (by rw [List.getElem?_set_self (by exact hkl)]) (d := 4) (by rw [PV.len (p := (x.2.pv undef).re (.slice a5 (x.2.pv x.1).l.length c5)) HLL.out]; decide) (put_back y x.2 (.slice a5 (x.2.pv x.1).l.length c5) HYL.out HLL.out), List.set_set] at hst7
    refine q0_nil ?_
    refine hK.out _ _ ?_ (fun hHeld => ?_)
    ·exact ⟨ldS [_, _] hst7 rfl, ldS [_] hst7 rfl, ldA ((x.2.pv x.1).cells) [_] hst7 (H35.out) (cellsR_root HLL.out)⟩
    clear hK K
    (try simp only [Act.put, List.setIfInBounds_toArray, List.set_cons_zero, List.set_cons_succ])
    refine wpAnyH_done (by kernel_rfl) ?_ _
    clear hHeld
    go_wp2_with (first | go_big_skip | go_big_guard | fail)
    go_ret
    exact set_done (E := [.blk g9 53 (cellsR x)]) (k := k) (v := y) (y := ((.slice a5 (x.2.pv x.1).l.length c5 : Value), backR y.2 x.2)) HB.out HOK.out HYK.out ⟨HLL.out, HYN.out⟩ hst7
   ·have HB := hid (show r = badR 17 from HV2.out)
    clear HV2
    go_enter Tryz.func72, Tryz.ntmps72
    go_wp2_with (first | go_big_skip | go_big_guard | (refine wl_loadE rfl rfl rfl ?_; first | refine ⟨_, Loads.atA (tabC t (.slice (some ⟨g2, 0, none⟩) xs.length c) (.slice al t.lives.length cl)) [] hst rfl rfl, ?_⟩ | refine ⟨_, Loads.at [] hst rfl, ?_⟩ | refine ⟨_, tp_loadR0 [] HOK.out hst HXJ.out, ?_⟩ | refine ⟨_, Loads.at [_] hst4 rfl, ?_⟩ | refine ⟨_, Loads.atA (tabC t (.slice (some ⟨g2, 0, none⟩) xs.length c) (.slice al t.lives.length cl)) [_] hst4 rfl rfl, ?_⟩ | refine ⟨_, Loads.old hst H1.out, ?_⟩) | (go_at_call 68; refine (split_any sp _ (by omega)).mono ?_; rw [HX.out]; rintro _ w9 ⟨rfl, h4⟩; replace hst := St.call0 hst h4; clear h4))
    have hX := hst.drew
    clear hst
    refine wp_region_held_drew (S := (fun w' => (loadVarH 27 ⟨g, 0, none⟩).run Tryz.prog w' = .ok (.agg (List.toArray ((tabC t (.slice (some ⟨g2, 0, none⟩) xs.length c) (.slice al t.lives.length cl))))) w' ∧ (loadVarH 9 ⟨g1, 0, none⟩).run Tryz.prog w' = .ok (.string ⟨sp.toArray⟩) w')) (by kernel_rfl) (by exact ⟨ldA ((tabC t (.slice (some ⟨g2, 0, none⟩) xs.length c) (.slice al t.lives.length cl))) [] hX (rfl) (rfl), ldO hX (H1.out)⟩) (fun hHeld => ?_)
    refine tq 0 21 ?_
    refine tq 3 24 ?_
    refine tq 1 22 ?_
    refine tq 2 23 ?_
    refine wpAnyH_ready (rs := [4]) (by kernel_rfl) (by simp) ?_
    refine (AllReadyH.cons (o := ⟨some 25, _, _, _, _, _⟩) rfl (fun K hK => ?_) AllReadyH.nil)
    rw [if_pos (by rfl)]
    go_simp
    go_at_call 57
    refine (find_any t _ sp (some ⟨g2, 0, none⟩) xs.length c xs _ (tp_recs [] HOK.out hX) (by omega)).mono ?_
    rw [HOK.out.eq, HF.out]
    rintro _ w5 ⟨rfl, h4⟩
    have hstF := St.call0 hX h4
    clear h4
    refine hK.out _ _ ?_ (fun hHeld => ?_)
    ·exact ⟨ldA ((tabC t (.slice (some ⟨g2, 0, none⟩) xs.length c) (.slice al t.lives.length cl))) [] hstF (rfl) (rfl), ldO hstF (H1.out)⟩
    clear hK K
    (try simp only [Act.put, List.setIfInBounds_toArray, List.set_cons_zero, List.set_cons_succ])
    refine tq 5 20 ?_
    refine tq 6 26 ?_
    refine tq 7 27 ?_
    refine tq 8 7 ?_
    refine tq 9 8 ?_
    refine wpAnyH_done (by kernel_rfl) ?_ _
    clear hHeld
    have hst : St w [] _ (TP g t (.slice (some ⟨g2, 0, none⟩) xs.length c) (.slice al t.lives.length cl) xs R) := hstF
    clear hstF
    go_wp2_with (first | go_big_skip | go_big_guard | (refine wl_loadE rfl rfl rfl ?_; first | refine ⟨_, Loads.atA (tabC t (.slice (some ⟨g2, 0, none⟩) xs.length c) (.slice al t.lives.length cl)) [] hst rfl rfl, ?_⟩ | refine ⟨_, Loads.at [] hst rfl, ?_⟩ | refine ⟨_, tp_loadR0 [] HOK.out hst HXJ.out, ?_⟩ | refine ⟨_, Loads.at [_] hst4 rfl, ?_⟩ | refine ⟨_, Loads.atA (tabC t (.slice (some ⟨g2, 0, none⟩) xs.length c) (.slice al t.lives.length cl)) [_] hst4 rfl rfl, ?_⟩ | refine ⟨_, Loads.old hst H1.out, ?_⟩) | (refine wl_index rfl rfl rfl rfl hlt ?_) | (refine wl_alloc hst rfl rfl ?_; intro g9 w3 hst3; clear hst) | (refine wl_storeA [] hst3 rfl rfl rfl rfl (by exact HLX.out) HON.out rfl ?_; intro w4 h4; have hst4 : St w [] w4 ([.blk g9 53 (cellsR x)] ++ TP g t (.slice (some ⟨g2, 0, none⟩) xs.length c) (.slice al t.lives.length cl) xs R) := h4; clear hst3 h4) | (go_at_call 58; refine (containsR_any 73 g9 (fun y => (y.own == x.2.own) && newerB y x.2) _ xs.length c xs _ (fun _ _ => rfl) (fun y w' hy h => rollC_any x (fun j v hv => St.old_cell h (by have := hst4.range (.head _) j v (by rw [List.drop_zero]; exact hv); rwa [Nat.zero_add] at this ⊢) (by simp)) HLL.out y (RC.In.old h ((tp_recs [_] HOK.out hst4).each y hy))) (tp_recs [_] HOK.out hst4) (by omega)).mono ?_; rw [HOK.out.eq, HA.out]; rintro _ w9 ⟨rfl, h4⟩; replace hst4 := St.call0 hst4 h4; clear h4))
    go_ret
    exact does_bad (L := [_]) HB.out (by decide) hst4
end Go.Proofs.YtifajcblbedcoaaGreat
namespace Go.Proofs.YtifajcblbedcoaaGreat
set_option linter.unusedVariables false
set_option linter.unusedSimpArgs false
open Go.RowKit Hp
attribute [local irreducible] Go.Calls Go.wpList
set_option maxRecDepth 100000
set_option maxHeartbeats 8000000
attribute [local go_sem ↓] heldInt heldInts heldRecs heldRec heldStr heldTab heldPtr
section
variable {w w1 : World} {g : Nat} {t : TC} {lv : Value} {xs : List (Value × RC)} {R : List HA}
theorem tp_loadI {g2 c j : Nat} {x : Value × RC} (hok : Okx xs t) (hst : St w [] w1 (TP g t (.slice (some ⟨g2, 0, none⟩) xs.length c) lv xs R)) (hx : xs[j]? = some x) : Loads Tryz.prog w1 3 ⟨g2, j * 44, none⟩ (.int .i64 x.2.id) := by
 have h := tp_range [] hok hst hx 0 _ rfl
 rw [Nat.add_zero] at h
 exact Loads.cell (inferInstance : TyS Tryz.prog 3).out h
theorem tp_loadI0 {g2 c j : Nat} {x : Value × RC} (hok : Okx xs t) (hst : St w [] w1 (TP g t (.slice (some ⟨g2, 0, none⟩) xs.length c) lv xs R)) (hx : xs[j]? = some x) : Loads Tryz.prog w1 3 ⟨g2, 0 + j * 44, none⟩ (.int .i64 x.2.id) := by
 rw [Nat.zero_add]
 exact tp_loadI hok hst hx
end
theorem any_okx {xs : List (Value × RC)} {t : TC} (h : Okx xs t) {w0 w : World} {M : List Nat} {L : List HA} (hst : St w0 M w L) (hi : ∀ x ∈ xs, RC.In w x) : (recsV xs).all (·.oneCell') = true := by
 rw [recsV, List.all_flatMap, List.all_eq_true]
 exact fun x hx => cellsR_ones (hi x hx)
theorem drop_does {w : World} {g1 : Nat} (nm : List UInt8) (h1 : w.cell? ⟨g1, 0, none⟩ = some (.string ⟨nm.toArray⟩)) (hl : nm.length ≤ 1000000) (t : TC) (hk : t.ok = true) :
  Does 55 #[.pointer (some ⟨g1, 0, none⟩)] w t (dropT t nm) := by
 intro g ao c al cl xs R w1 hok hst0
 show Calls _ _ #[.pointer (some ⟨g, 0, none⟩), .pointer (some ⟨g1, 0, none⟩)] _ _
 have hst := hst0
 have H1 := hid h1
 have HOK := hid hok
 have HK := hid hk
 have b2 : xs.length ≤ 16 := by rw [hok.len]; exact ok_many hk
 clear hst0 hok hk h1
 obtain ⟨r, hr⟩ : ∃ r, r = dropT t nm := ⟨_, rfl⟩
 rw [← hr]
 obtain ⟨f, hx⟩ : ∃ f, namedB nm = f := ⟨_, rfl⟩
 have HNB := hid hx
 have HV := hid (show r = if f then (match recAt nm t.recs with
  | none => badR 6
  | some q => if t.recs.any (fun x => (x.own == q.id) || (x.origin == q.id)) then badR 17 else (0, { t with recs := t.recs.eraseIdx (findN nm t.recs).toNat })) else badR 2 by rw [hr]; unfold dropT; rw [hx]; rfl)
 clear hr hx
 cases f
 ·have HB := hid (show r = badR 2 from HV.out)
  clear HV
  go_enter Tryz.func55, Tryz.ntmps55
  go_wp2_with (first | go_big_skip | go_big_guard | (refine wl_loadE rfl rfl rfl ?_; first | refine ⟨_, Loads.atA (tabC t (.slice ao xs.length c) (.slice al t.lives.length cl)) [] hst rfl rfl, ?_⟩ | refine ⟨_, Loads.old hst H1.out, ?_⟩) | (go_at_call 56; refine (named_any nm _ (by omega)).mono ?_; rw [HNB.out]; rintro _ w9 ⟨rfl, h4⟩; replace hst := St.call0 hst h4; clear h4))
  go_ret
  exact does_bad (L := []) HB.out (by decide) hst
 ·rcases find_split (nm := nm) (l := t.recs) with ⟨hra, hf⟩ | ⟨j, y, hy, hra, hfn, hf, hnm⟩
  ·have HF := hid hf
   have HB := hid (show r = badR 6 by rw [HV.out, hra]; rfl)
   clear HV hf hra
   go_enter Tryz.func55, Tryz.ntmps55
   go_wp2_with (first | go_big_skip | go_big_guard | (refine wl_loadE rfl rfl rfl ?_; first | refine ⟨_, Loads.atA (tabC t (.slice ao xs.length c) (.slice al t.lives.length cl)) [] hst rfl rfl, ?_⟩ | refine ⟨_, Loads.old hst H1.out, ?_⟩) | (go_at_call 56; refine (named_any nm _ (by omega)).mono ?_; rw [HNB.out]; rintro _ w9 ⟨rfl, h4⟩; replace hst := St.call0 hst h4; clear h4))
   have hX := hst.drew
   clear hst
   refine wp_region_held_drew (S := (fun w' => (loadVarH 27 ⟨g, 0, none⟩).run Tryz.prog w' = .ok (.agg (List.toArray ((tabC t (.slice ao xs.length c) (.slice al t.lives.length cl))))) w' ∧ (loadVarH 9 ⟨g1, 0, none⟩).run Tryz.prog w' = .ok (.string ⟨nm.toArray⟩) w')) (by kernel_rfl) (by exact ⟨ldA ((tabC t (.slice ao xs.length c) (.slice al t.lives.length cl))) [] hX (rfl) (rfl), ldO hX (H1.out)⟩) (fun hHeld => ?_)
   refine tq 0 11 ?_
   refine tq 3 14 ?_
   refine tq 1 12 ?_
   refine tq 2 13 ?_
   refine wpAnyH_ready (rs := [4]) (by kernel_rfl) (by simp) ?_
   refine (AllReadyH.cons (o := ⟨some 15, _, _, _, _, _⟩) rfl (fun K hK => ?_) AllReadyH.nil)
   rw [if_pos (by rfl)]
   go_simp
   go_at_call 57
   refine (find_any t _ nm ao xs.length c xs _ (tp_recs [] HOK.out hX) (by omega)).mono ?_
   rw [HOK.out.eq, HF.out]
   rintro _ w5 ⟨rfl, h4⟩
   have hstF := St.call0 hX h4
   clear h4
   refine hK.out _ _ ?_ (fun hHeld => ?_)
   ·exact ⟨ldA ((tabC t (.slice ao xs.length c) (.slice al t.lives.length cl))) [] hstF (rfl) (rfl), ldO hstF (H1.out)⟩
   clear hK K
   (try simp only [Act.put, List.setIfInBounds_toArray, List.set_cons_zero, List.set_cons_succ])
   refine tq 5 10 ?_
   refine tq 6 16 ?_
   refine tq 7 17 ?_
   refine tq 8 4 ?_
   refine tq 9 5 ?_
   refine wpAnyH_done (by kernel_rfl) ?_ _
   clear hHeld
   have hst : St w [] _ (TP g t (.slice ao xs.length c) (.slice al t.lives.length cl) xs R) := hstF
   clear hstF
   go_wp2_with (first | go_big_skip | go_big_guard | fail)
   go_ret
   exact does_bad (L := []) HB.out (by decide) hst
  ·have HFN := hid hfn
   obtain ⟨x, hx, hxy⟩ := okx_at HOK.out hy
   subst hxy
   have hlt : j < xs.length := (List.getElem?_eq_some_iff.1 hx).1
   obtain ⟨g2, c2, he⟩ := tp_spot [] hst (by omega)
   cases he
   have HF := hid hf
   have HRA := hid hra
   have HXJ := hid hx
   have HLL := hid ((HOK.out.ok x (List.mem_of_getElem? hx)).1)
   have HLX := hid (cellsR_len (HOK.out.ok x (List.mem_of_getElem? hx)).1)
   have HON := hid (cellsR_ones (tp_in [] HOK.out hst hx))
   have H35 := hid (PV.len (p := x.2.pv x.1) (HOK.out.ok x (List.mem_of_getElem? hx)).1)
   have HB3 := hid (birth_le HK.out (List.mem_of_getElem? hy))
   clear hx hy hf hra hfn hnm
   obtain ⟨a, ha⟩ : ∃ a, t.recs.any (fun q => (q.own == x.2.id) || (q.origin == x.2.id)) = a := ⟨_, rfl⟩
   have HA := hid ha
   have HV2 := hid (show r = if a then badR 17 else (0, { t with recs := t.recs.eraseIdx j }) by rw [HV.out, HRA.out, HFN.out]; show (if t.recs.any (fun q => (q.own == x.2.id) || (q.origin == x.2.id)) then _ else _) = _; rw [ha]; rfl)
   clear ha HV
   have z1 : IntKind.i64.wrap ((j : Int) + 1) = (j : Int) + 1 := IntWalk.i64_in _ (by omega)
   cases a
   ·have HB := hid (show r = (0, { t with recs := t.recs.eraseIdx j }) from HV2.out)
    clear HV2
    go_enter Tryz.func55, Tryz.ntmps55
    go_wp2_with (first | go_big_skip | go_big_guard | (refine wl_loadE rfl rfl rfl ?_; first | refine ⟨_, Loads.atA (tabC t (.slice (some ⟨g2, 0, none⟩) xs.length c) (.slice al t.lives.length cl)) [] hst rfl rfl, ?_⟩ | refine ⟨_, Loads.at [] hst rfl, ?_⟩ | refine ⟨.int .i64 x.2.id, tp_loadI HOK.out hst HXJ.out, ?_⟩ | refine ⟨.int .i64 x.2.id, tp_loadI0 HOK.out hst HXJ.out, ?_⟩ | refine ⟨_, Loads.at [_] hst4 rfl, ?_⟩ | refine ⟨_, Loads.old hst H1.out, ?_⟩) | (go_at_call 56; refine (named_any nm _ (by omega)).mono ?_; rw [HNB.out]; rintro _ w9 ⟨rfl, h4⟩; replace hst := St.call0 hst h4; clear h4))
    have hX := hst.drew
    clear hst
    refine wp_region_held_drew (S := (fun w' => (loadVarH 27 ⟨g, 0, none⟩).run Tryz.prog w' = .ok (.agg (List.toArray ((tabC t (.slice (some ⟨g2, 0, none⟩) xs.length c) (.slice al t.lives.length cl))))) w' ∧ (loadVarH 9 ⟨g1, 0, none⟩).run Tryz.prog w' = .ok (.string ⟨nm.toArray⟩) w')) (by kernel_rfl) (by exact ⟨ldA ((tabC t (.slice (some ⟨g2, 0, none⟩) xs.length c) (.slice al t.lives.length cl))) [] hX (rfl) (rfl), ldO hX (H1.out)⟩) (fun hHeld => ?_)
    refine tq 0 11 ?_
    refine tq 3 14 ?_
    refine tq 1 12 ?_
    refine tq 2 13 ?_
    refine wpAnyH_ready (rs := [4]) (by kernel_rfl) (by simp) ?_
    refine (AllReadyH.cons (o := ⟨some 15, _, _, _, _, _⟩) rfl (fun K hK => ?_) AllReadyH.nil)
    rw [if_pos (by rfl)]
    go_simp
    go_at_call 57
    refine (find_any t _ nm (some ⟨g2, 0, none⟩) xs.length c xs _ (tp_recs [] HOK.out hX) (by omega)).mono ?_
    rw [HOK.out.eq, HF.out]
    rintro _ w5 ⟨rfl, h4⟩
    have hstF := St.call0 hX h4
    clear h4
    refine hK.out _ _ ?_ (fun hHeld => ?_)
    ·exact ⟨ldA ((tabC t (.slice (some ⟨g2, 0, none⟩) xs.length c) (.slice al t.lives.length cl))) [] hstF (rfl) (rfl), ldO hstF (H1.out)⟩
    clear hK K
    (try simp only [Act.put, List.setIfInBounds_toArray, List.set_cons_zero, List.set_cons_succ])
    refine tq 5 10 ?_
    refine tq 6 16 ?_
    refine tq 7 17 ?_
    refine tq 8 4 ?_
    refine tq 9 5 ?_
    refine wpAnyH_done (by kernel_rfl) ?_ _
    clear hHeld
    have hst : St w [] _ (TP g t (.slice (some ⟨g2, 0, none⟩) xs.length c) (.slice al t.lives.length cl) xs R) := hstF
    clear hstF
    go_wp2_with (first | go_big_skip | go_big_guard | (refine wl_loadE rfl rfl rfl ?_; first | refine ⟨_, Loads.atA (tabC t (.slice (some ⟨g2, 0, none⟩) xs.length c) (.slice al t.lives.length cl)) [] hst rfl rfl, ?_⟩ | refine ⟨_, Loads.at [] hst rfl, ?_⟩ | refine ⟨.int .i64 x.2.id, tp_loadI HOK.out hst HXJ.out, ?_⟩ | refine ⟨.int .i64 x.2.id, tp_loadI0 HOK.out hst HXJ.out, ?_⟩ | refine ⟨_, Loads.at [_] hst4 rfl, ?_⟩ | refine ⟨_, Loads.old hst H1.out, ?_⟩) | (refine wl_index rfl rfl rfl rfl hlt ?_) | (refine wl_alloc hst rfl rfl ?_; intro g6 w3 hst3; clear hst) | (refine wl_store [] hst3 rfl rfl rfl (off := 0) (v := .int .i64 x.2.id) rfl rfl rfl (by show (0 : Nat) + 1 ≤ 1; decide) ?_; intro w4 h4; have hst4 : St w [] w4 ([.blk g6 3 [.int .i64 x.2.id]] ++ TP g t (.slice (some ⟨g2, 0, none⟩) xs.length c) (.slice al t.lives.length cl) xs R) := h4; clear hst3 h4) | (go_at_call 58; refine (containsR_any 59 g6 (fun y => (y.own == x.2.id) || (y.origin == x.2.id)) _ xs.length c xs _ (fun _ _ => rfl) (fun y w' hy h => dropC_any (St.old_cell h (hst4.cell (g := g6) (off := 0) (.head _) rfl) (by simp)) y (RC.In.old h ((tp_recs [_] HOK.out hst4).each y hy))) (tp_recs [_] HOK.out hst4) (by omega)).mono ?_; rw [HOK.out.eq, HA.out]; rintro _ w9 ⟨rfl, h4⟩; replace hst4 := St.call0 hst4 h4; clear h4) | (go_at_call 60; refine (delete_any g2 xs.length c j (recsV xs) (St.front (L1 := [_, _]) hst4) (recsV_lenL HOK.out.LX) (any_okx HOK.out hst4 (fun x hx => (tp_recs [_] HOK.out hst4).each x hx)) hlt (by omega)).mono ?_; rintro _ w9 ⟨rfl, h4⟩; have hst5 : St w [] w9 (.row (.slice (some ⟨g2, 0, none⟩) (xs.length - 1) c) 53 44 (xs.length - 1) (recsV (xs.eraseIdx j)) :: .blk g6 3 [.int .i64 x.2.id] :: .blk g 27 (tabC t (.slice (some ⟨g2, 0, none⟩) xs.length c) (.slice al t.lives.length cl)) :: .row (.slice al t.lives.length cl) 3 1 t.lives.length (numsV t.lives) :: (xs.map rootH ++ R)) := (by rw [← recsV_erase HOK.out.LX hlt]; exact h4); clear h4 hst4) | (refine wl_store [_, _] hst5 rfl rfl rfl (off := 1) (v := .slice (some ⟨g2, 0, none⟩) (xs.length - 1) c) rfl rfl rfl (by show (1 : Nat) + 1 ≤ 7; decide) ?_; intro w7 hst6; clear hst5))
    go_ret
    exact del_done (E := [.blk g6 3 [.int .i64 x.2.id]]) HB.out HOK.out hlt (St.perm hst6 ((List.Perm.swap _ _ _).trans (.cons _ (.swap _ _ _))))
   ·have HB := hid (show r = badR 17 from HV2.out)
    clear HV2
    go_enter Tryz.func55, Tryz.ntmps55
    go_wp2_with (first | go_big_skip | go_big_guard | (refine wl_loadE rfl rfl rfl ?_; first | refine ⟨_, Loads.atA (tabC t (.slice (some ⟨g2, 0, none⟩) xs.length c) (.slice al t.lives.length cl)) [] hst rfl rfl, ?_⟩ | refine ⟨_, Loads.at [] hst rfl, ?_⟩ | refine ⟨.int .i64 x.2.id, tp_loadI HOK.out hst HXJ.out, ?_⟩ | refine ⟨.int .i64 x.2.id, tp_loadI0 HOK.out hst HXJ.out, ?_⟩ | refine ⟨_, Loads.at [_] hst4 rfl, ?_⟩ | refine ⟨_, Loads.old hst H1.out, ?_⟩) | (go_at_call 56; refine (named_any nm _ (by omega)).mono ?_; rw [HNB.out]; rintro _ w9 ⟨rfl, h4⟩; replace hst := St.call0 hst h4; clear h4))
    have hX := hst.drew
    clear hst
    refine wp_region_held_drew (S := (fun w' => (loadVarH 27 ⟨g, 0, none⟩).run Tryz.prog w' = .ok (.agg (List.toArray ((tabC t (.slice (some ⟨g2, 0, none⟩) xs.length c) (.slice al t.lives.length cl))))) w' ∧ (loadVarH 9 ⟨g1, 0, none⟩).run Tryz.prog w' = .ok (.string ⟨nm.toArray⟩) w')) (by kernel_rfl) (by exact ⟨ldA ((tabC t (.slice (some ⟨g2, 0, none⟩) xs.length c) (.slice al t.lives.length cl))) [] hX (rfl) (rfl), ldO hX (H1.out)⟩) (fun hHeld => ?_)
    refine tq 0 11 ?_
    refine tq 3 14 ?_
    refine tq 1 12 ?_
    refine tq 2 13 ?_
    refine wpAnyH_ready (rs := [4]) (by kernel_rfl) (by simp) ?_
    refine (AllReadyH.cons (o := ⟨some 15, _, _, _, _, _⟩) rfl (fun K hK => ?_) AllReadyH.nil)
    rw [if_pos (by rfl)]
    go_simp
    go_at_call 57
    refine (find_any t _ nm (some ⟨g2, 0, none⟩) xs.length c xs _ (tp_recs [] HOK.out hX) (by omega)).mono ?_
    rw [HOK.out.eq, HF.out]
    rintro _ w5 ⟨rfl, h4⟩
    have hstF := St.call0 hX h4
    clear h4
    refine hK.out _ _ ?_ (fun hHeld => ?_)
    ·exact ⟨ldA ((tabC t (.slice (some ⟨g2, 0, none⟩) xs.length c) (.slice al t.lives.length cl))) [] hstF (rfl) (rfl), ldO hstF (H1.out)⟩
    clear hK K
    (try simp only [Act.put, List.setIfInBounds_toArray, List.set_cons_zero, List.set_cons_succ])
    refine tq 5 10 ?_
    refine tq 6 16 ?_
    refine tq 7 17 ?_
    refine tq 8 4 ?_
    refine tq 9 5 ?_
    refine wpAnyH_done (by kernel_rfl) ?_ _
    clear hHeld
    have hst : St w [] _ (TP g t (.slice (some ⟨g2, 0, none⟩) xs.length c) (.slice al t.lives.length cl) xs R) := hstF
    clear hstF
    go_wp2_with (first | go_big_skip | go_big_guard | (refine wl_loadE rfl rfl rfl ?_; first | refine ⟨_, Loads.atA (tabC t (.slice (some ⟨g2, 0, none⟩) xs.length c) (.slice al t.lives.length cl)) [] hst rfl rfl, ?_⟩ | refine ⟨_, Loads.at [] hst rfl, ?_⟩ | refine ⟨.int .i64 x.2.id, tp_loadI HOK.out hst HXJ.out, ?_⟩ | refine ⟨.int .i64 x.2.id, tp_loadI0 HOK.out hst HXJ.out, ?_⟩ | refine ⟨_, Loads.at [_] hst4 rfl, ?_⟩ | refine ⟨_, Loads.old hst H1.out, ?_⟩) | (refine wl_index rfl rfl rfl rfl hlt ?_) | (refine wl_alloc hst rfl rfl ?_; intro g6 w3 hst3; clear hst) | (refine wl_store [] hst3 rfl rfl rfl (off := 0) (v := .int .i64 x.2.id) rfl rfl rfl (by show (0 : Nat) + 1 ≤ 1; decide) ?_; intro w4 h4; have hst4 : St w [] w4 ([.blk g6 3 [.int .i64 x.2.id]] ++ TP g t (.slice (some ⟨g2, 0, none⟩) xs.length c) (.slice al t.lives.length cl) xs R) := h4; clear hst3 h4) | (go_at_call 58; refine (containsR_any 59 g6 (fun y => (y.own == x.2.id) || (y.origin == x.2.id)) _ xs.length c xs _ (fun _ _ => rfl) (fun y w' hy h => dropC_any (St.old_cell h (hst4.cell (g := g6) (off := 0) (.head _) rfl) (by simp)) y (RC.In.old h ((tp_recs [_] HOK.out hst4).each y hy))) (tp_recs [_] HOK.out hst4) (by omega)).mono ?_; rw [HOK.out.eq, HA.out]; rintro _ w9 ⟨rfl, h4⟩; replace hst4 := St.call0 hst4 h4; clear h4))
    go_ret
    exact does_bad (L := [_]) HB.out (by decide) hst4
end Go.Proofs.YtifajcblbedcoaaGreat
