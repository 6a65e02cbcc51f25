/- What is done to a table that is handed in, in memory of its own. -/
import Derived.Test.YtifajcblbedcoaaJBased
import Derived.Test.YtifajcblbedcoaaJBasea
import Derived.Test.YtifajcblbedcoaaSepP
import Derived.Test.YtifajcblbedcoaaNT5
import Derived.Test.YtifajcblbedcoaaD0
import Derived.Test.YtifajcblbedcoaaJBaseb
import Derived.Test.YtifajcblbedcoaaSepK
import Derived.Test.YtifajcblbedcoaaJBasec
import Derived.Deep.DeepCutAuto
namespace Go.Proofs.Ytifajcblbedcoaa
set_option linter.unusedVariables false
set_option linter.unusedSimpArgs false
open Go.RowKit Hp
attribute [local irreducible] Go.Calls
set_option maxHeartbeats 4000000
theorem results_cellTmp {fn : Func} {p q : Tmp} {ty : TypeId} {tmps : Array Value} {P : Program} {w : World} {A : Addr} {v : Value} (h : fn.results = #[.cell p ty, .tmp q]) (hp : tmps.getD p undef = .pointer (some A)) (hl : Loads P w ty A v) :
    (results fn tmps).run P w = .ok (.tuple #[v, tmps.getD q undef]) w := by
  have hl' : (loadVar ty A).run P w = .ok v w := hl
  have hp' : tmps[p]?.getD undef = .pointer (some A) := by simpa using hp
  simp [results, h, hp', asAddr, hl', Sem.run_bind]
theorem zN_ln (lv : Int) : (zN lv).Ln := (zN_in lv default).ln
theorem zN_ones (lv : Int) : (zN lv).cells.all (·.oneCell') = true := by
  have : (zN lv).cells = .int .i64 lv :: (zN 0).cells.tail := rfl
  rw [this, List.all_cons]
  rfl
theorem zN_get (lv : Int) : ∀ j, (zN lv).get j = zP
  | 0 => rfl
  | 1 => rfl
  | 2 => rfl
  | _ + 3 => rfl
end Go.Proofs.Ytifajcblbedcoaa
namespace Go.Proofs.Ytifajcblbedcoaa
set_option linter.unusedVariables false
set_option linter.unusedSimpArgs false
open Go.RowKit Hp
attribute [local irreducible] Go.Calls
set_option maxHeartbeats 4000000
/-- y is x with address lists of its own (rows of R) for the first k pointers. -/
def NV.isO (E : TypeId) (y x : NV) (R : List HA) (k : Nat) : Prop := ∀ j, j < k → (y.get j).eqd (x.get j) ∧ ∃ ao n c, (y.get j).sv = .slice ao n c ∧ HA.row (.slice ao n c) E 2 n (addrsV (y.get j).l) ∈ R ∧ (y.get j).l.length = n
def ownOut (x : NV) (w : World) (E : TypeId) (e : Ending) (w' : World) : Prop :=
  ∃ (y : NV) (R : List HA), e = .returned (.agg y.cells.toArray) ∧ St w [] w' R ∧ y.lv = x.lv ∧ y.isO E x R 4
theorem put_sv {x : NV} (h : x.Ln) {k : Nat} (hk : k < 4) (v : Value) : putAt x.cells (1 + k * 35) [v] = (x.set k { x.get k with sv := v }).cells := by
  have h0 : x.p0.cells.length = 35 := PV.len (h 0)
  have h1 : x.p1.cells.length = 35 := PV.len (h 1)
  have h2 : x.p2.cells.length = 35 := PV.len (h 2)
  have go : ∀ (a c : List Value) (s : Value) (n : Nat) (X Y : List Value), X = a ++ ([s] ++ c) → Y = a ++ ([v] ++ c) → n = a.length → putAt X n [v] = Y := by
    intro a c s n X Y e1 e2 e3
    rw [e1, e2]
    exact put_at a [s] c [v] rfl e3
  obtain rfl | rfl | rfl | rfl : k = 0 ∨ k = 1 ∨ k = 2 ∨ k = 3 := by omega
  · exact go [.int .i64 x.lv] (x.p0.cells.tail ++ (x.p1.cells ++ (x.p2.cells ++ x.p3.cells))) x.p0.sv _ _ _ rfl rfl rfl
  · exact go (.int .i64 x.lv :: x.p0.cells) (x.p1.cells.tail ++ (x.p2.cells ++ x.p3.cells)) x.p1.sv _ _ _ rfl rfl (by simp [h0])
  · refine go (.int .i64 x.lv :: (x.p0.cells ++ x.p1.cells)) (x.p2.cells.tail ++ x.p3.cells) x.p2.sv _ _ _ ?_ ?_ (by simp [h0, h1])
    · rw [List.cons_append, List.append_assoc]; rfl
    · rw [List.cons_append, List.append_assoc]; rfl
  · refine go (.int .i64 x.lv :: (x.p0.cells ++ (x.p1.cells ++ x.p2.cells))) x.p3.cells.tail x.p3.sv _ _ _ ?_ ?_ (by simp [h0, h1, h2])
    · rw [List.cons_append, List.append_assoc, List.append_assoc]; rfl
    · rw [List.cons_append, List.append_assoc, List.append_assoc]; rfl
theorem set_ln {y : NV} (h : y.Ln) {k : Nat} (hk : k < 4) {p : PV} (hp : L32 p.S) : ∀ j, L32 ((y.set k p).get j).S := by
  have main : ∀ j, j < 4 → L32 ((y.set k p).get j).S := by
    intro j hj
    by_cases e : j = k
    · subst e; rw [NV.get_set_same y hk]; exact hp
    · rw [NV.get_set_other y hk hj e]; exact h j
  intro j
  match j with
  | 0 => exact main 0 (by omega)
  | 1 => exact main 1 (by omega)
  | 2 => exact main 2 (by omega)
  | _ + 3 => exact main 3 (by omega)
theorem PV.ones_of {p : PV} {ao : Option Addr} {n c : Nat} (h : p.sv = .slice ao n c) : p.cells.all (·.oneCell') = true := by
  rw [PV.cells, h]
  exact ptr_ones _ _ _ _ _ _
theorem NV.isO.ones {E : TypeId} {y x : NV} {R : List HA} (h : y.isO E x R 4) (_hl : y.lv = x.lv) : y.cells.all (·.oneCell') = true := by
  have g : ∀ j, j < 4 → (y.get j).cells.all (·.oneCell') = true := fun j hj => by
    obtain ⟨_, ao, n, c, h2, _⟩ := h j hj
    exact PV.ones_of h2
  have h0 : y.p0.cells.all (·.oneCell') = true := g 0 (by omega)
  have h1 : y.p1.cells.all (·.oneCell') = true := g 1 (by omega)
  have h2 : y.p2.cells.all (·.oneCell') = true := g 2 (by omega)
  have h3 : y.p3.cells.all (·.oneCell') = true := g 3 (by omega)
  rw [NV.cells, List.all_cons, List.all_append, List.all_append, List.all_append, h0, h1, h2, h3]
  rfl
theorem addrs_ones (l : List (Int × Int)) : (addrsV l).all (·.oneCell') = true := by
  induction l with
  | nil => rfl
  | cons a l ih =>
    rw [addrsV, List.all_cons, List.all_cons, ih]
    rfl
end Go.Proofs.Ytifajcblbedcoaa
namespace Go.Proofs.Ytifajcblbedcoaa
set_option linter.unusedVariables false
set_option linter.unusedSimpArgs false
open Go.RowKit Hp
attribute [local irreducible] Go.Calls
set_option maxHeartbeats 4000000
set_option maxRecDepth 100000
theorem xor_u8 (x y : UInt8) : bits .xor .u8 (x.toNat : Int) (y.toNat : Int) = ((x ^^^ y).toNat : Int) := by
  have hx := x.toNat_lt
  have hy := y.toNat_lt
  have h : x.toNat ^^^ y.toNat < 2 ^ 8 := Nat.xor_lt_two_pow hx hy
  have e : (BitVec.ofInt 8 (x.toNat : Int) ^^^ BitVec.ofInt 8 (y.toNat : Int)).toNat = x.toNat ^^^ y.toNat := by
    rw [BitVec.toNat_xor, BitVec.ofInt_natCast, BitVec.ofInt_natCast, BitVec.toNat_ofNat, BitVec.toNat_ofNat, Nat.mod_eq_of_lt (by omega), Nat.mod_eq_of_lt (by omega)]
  show IntKind.u8.wrap ((BitVec.ofInt 8 (x.toNat : Int) ^^^ BitVec.ofInt 8 (y.toNat : Int)).toNat : Int) = _
  rw [e, UInt8.toNat_xor]
  show ((x.toNat ^^^ y.toNat : Nat) : Int) % 256 = _
  omega
/-- p with other addresses' slice. -/
abbrev PV.re (p : PV) (s : Value) : PV := ⟨s, p.l, p.b, p.v, p.S⟩
def overB (l : List UInt8) : List UInt8 := l.map (· ^^^ 90)
theorem over_step (bs : List UInt8) {k : Nat} (hk : k < bs.length) (x : UInt8) (hx : x = bs.getD k 0) : putAt (bytesV (overB (bs.take k) ++ bs.drop k)) k [.int .u8 ((x ^^^ 90).toNat : Int)] = bytesV (overB (bs.take (k + 1)) ++ bs.drop (k + 1)) := by
  have e : bs.drop k = bs.getD k 0 :: bs.drop (k + 1) := by rw [List.drop_eq_getElem_cons hk]; simp [List.getD, hk]
  have e2 : bs.take (k + 1) = bs.take k ++ [bs.getD k 0] := by rw [List.take_succ_eq_append_getElem hk]; simp [List.getD, hk]
  have hl : (bytesV (overB (bs.take k))).length = k := by simp [overB]; omega
  rw [e2, bytesV_append]
  have := put_at (bytesV (overB (bs.take k))) (bytesV [bs.getD k 0]) (bytesV (bs.drop (k + 1))) [.int .u8 ((x ^^^ 90).toNat : Int)] rfl hl.symm
  rw [e]
  have h3 : bytesV (bs.getD k 0 :: bs.drop (k + 1)) = bytesV [bs.getD k 0] ++ bytesV (bs.drop (k + 1)) := by simp [bytesV]
  rw [h3, this]
  simp [overB, bytesV, hx]
theorem over_get (bs : List UInt8) {k : Nat} (hk : k < bs.length) : (bytesV (overB (bs.take k) ++ bs.drop k))[k]? = some (.int .u8 ((bs.getD k 0).toNat : Int)) := by
  have hl : (overB (bs.take k)).length = k := by simp [overB]; omega
  rw [bytesV, List.getElem?_map, List.getElem?_append_right (by omega), hl, Nat.sub_self, List.getElem?_drop]
  simp [List.getD, hk]
end Go.Proofs.Ytifajcblbedcoaa
namespace Go.Proofs.Ytifajcblbedcoaa
set_option linter.unusedVariables false
set_option linter.unusedSimpArgs false
open Go.RowKit Hp
attribute [local irreducible] Go.Calls Go.wpList Hp.gvV Hp.gB Hp.gA Hp.bOr Hp.bAnd Hp.bNot
set_option maxRecDepth 100000
set_option maxHeartbeats 8000000
theorem sized_any (n : Int) (w : World) : Calls Try.prog 27 #[.int .i64 n] w fun e w' => e = .returned (.bool (inB n 1 64)) ∧ St w [] w' [] := by
  have hst := St.refl w
  unfold inB
  by_cases h1 : 1 ≤ n
  · have d1 : decide (n ≥ 1) = true := decide_eq_true h1
    have d2 : decide (1 ≤ n) = true := d1
    rw [d2]
    clear h1
    go_enter Try.func27, Try.ntmps27
    go_wp2_with (first | go_big_skip | go_big_guard | fail)
    go_ret
    exact ⟨rfl, hst⟩
  · have d1 : decide (n ≥ 1) = false := decide_eq_false h1
    have d2 : decide (1 ≤ n) = false := d1
    rw [d2]
    clear h1
    go_enter Try.func27, Try.ntmps27
    go_wp2_with (first | go_big_skip | go_big_guard | fail)
    go_ret
    exact ⟨rfl, hst⟩
theorem commit_any (n : Int) (w : World) : Calls Try.prog 28 #[.int .i64 n] w fun e w' => e = .returned (.bool (txgB n)) ∧ St w [] w' [] := by
  have hst := St.refl w
  unfold txgB inB
  by_cases h1 : 1 ≤ n
  · have d1 : decide (n ≥ 1) = true := decide_eq_true h1
    have d2 : decide (1 ≤ n) = true := d1
    rw [d2]
    clear h1
    go_enter Try.func28, Try.ntmps28
    go_wp2_with (first | go_big_skip | go_big_guard | fail)
    go_ret
    exact ⟨rfl, hst⟩
  · have d1 : decide (n ≥ 1) = false := decide_eq_false h1
    have d2 : decide (1 ≤ n) = false := d1
    rw [d2]
    clear h1
    go_enter Try.func28, Try.ntmps28
    go_wp2_with (first | go_big_skip | go_big_guard | fail)
    go_ret
    exact ⟨rfl, hst⟩
theorem limit13_any (n : Int) (w : World) : Calls Try.prog 44 #[.int .i64 n] w fun e w' => e = .returned (.bool (limB n)) ∧ St w [] w' [] := by
  have hst := St.refl w
  unfold limB inB
  by_cases h1 : 0 ≤ n
  · have d1 : decide (n ≥ 0) = true := decide_eq_true h1
    have d2 : decide (0 ≤ n) = true := d1
    rw [d2]
    clear h1
    go_enter Try.func44, Try.ntmps44
    go_wp2_with (first | go_big_skip | go_big_guard | fail)
    go_ret
    exact ⟨rfl, hst⟩
  · have d1 : decide (n ≥ 0) = false := decide_eq_false h1
    have d2 : decide (0 ≤ n) = false := d1
    rw [d2]
    clear h1
    go_enter Try.func44, Try.ntmps44
    go_wp2_with (first | go_big_skip | go_big_guard | fail)
    go_ret
    exact ⟨rfl, hst⟩
theorem named_any (nm : List UInt8) (w : World) (hl : nm.length ≤ 9223372036854775807) : Calls Try.prog 32 #[str nm] w fun e w' => e = .returned (.bool (namedB nm)) ∧ St w [] w' [] := by
  have hst := St.refl w
  have HL := hid hl
  unfold namedB
  obtain ⟨a, ha⟩ : ∃ a, a = partB nm := ⟨_, rfl⟩
  obtain ⟨b, hb⟩ : ∃ b, b = snapB nm := ⟨_, rfl⟩
  rw [← ha, ← hb]
  have HA := hid ha
  have HB := hid hb
  clear ha hb hl
  cases a
  all_goals
    go_enter Try.func32, Try.ntmps32
    go_wp2_with (first | go_big_skip | go_big_guard | (go_at_call 26; refine (volume_any nm _ HL.out).mono ?_; rw [← HA.out]; rintro _ w9 ⟨rfl, h4⟩; replace hst := St.call0 hst h4; clear h4) | (go_at_call 55; refine (snap_any nm _ HL.out).mono ?_; rw [← HB.out]; rintro _ w9 ⟨rfl, h4⟩; replace hst := St.call0 hst h4; clear h4))
    go_ret
    exact ⟨rfl, hst⟩
theorem ownP_any (p : PV) (w : World) (hp : p.In w) (hl : p.l.length ≤ 100000) : Calls Try.prog 47 #[.agg p.cells.toArray] w fun e w' =>
    ∃ ao n c, e = .returned (.agg (PV.cells (p.re (.slice ao n c))).toArray) ∧ St w [] w' [.row (.slice ao n c) 87 2 n (addrsV p.l)] ∧ p.l.length = n := by
  have hst := St.refl w
  have hS := hp.1
  obtain ⟨_, ao, n, c, h2, h3, h4⟩ := hp
  have hPL := hid (PV.len (p := p) hS)
  have H2 := hid h2
  have hn : n ≤ 100000 := by rw [← h4]; exact hl
  have H4 := hid h4
  have hRd := hid h3
  have hat := hid (show p.cells[0]? = some (.slice ao n c) by rw [PV.cells, h2]; rfl)
  clear h2 h3 h4 hl
  go_enter Try.func47, Try.ntmps47
  go_wp2_with (first | go_big_skip | go_big_guard | (refine wl_boxA hst rfl rfl rfl ?_; intro g w1 hst1; clear hst) | (refine wl_alloc hst1 rfl rfl ?_; intro g2 w2 hst2; clear hst1) | (refine wl_loadE rfl rfl rfl ?_; first | refine ⟨_, Loads.at (off := 0) [_] hst2 hat.out, ?_⟩ | refine ⟨_, Loads.atA (PV.cells (p.re (.slice ao9 n c9))) [_, _] hst11 (PV.len (p := p.re (.slice ao9 n c9)) hS) (by simp), ?_⟩) | (go_at_call 62; refine (cloneA_any ao n c _ _ (Rd.old hst2 hRd.out) (addrs_ones _) hn).mono ?_; rintro _ w9 ⟨v9, rfl, h4⟩; have hst9 := St.call hst2 h4; clear h4 hst2; obtain ⟨ao9, c9, rfl, _, _⟩ := rowS [] hst9) | (refine wl_store [_, _] hst9 rfl rfl rfl (v := .slice _ _ _) rfl rfl rfl (by show _ + 1 ≤ _; rw [hPL.out]; omega) ?_; intro w10 hst10; clear hst9; have hst11 : St w [] w10 [.row (.slice ao9 n c9) 87 2 n (addrsV p.l), .blk g2 46 (ptrCells (.slice none 0 0) 0 0 nones), .blk g 46 (PV.cells (p.re (.slice ao9 n c9)))] := hst10; clear hst10) | (refine wl_storeA [_] hst11 rfl rfl rfl rfl (PV.len (p := p.re (.slice ao9 n c9)) hS) (PV.ones_of (p := p.re (.slice ao9 n c9)) rfl) rfl ?_; intro w12 hst12; clear hst11))
  have hl := Loads.atA (P := Try.prog) (off := 0) (T := 46) (PV.cells (p.re (.slice ao9 n c9))) [_] hst12 (PV.len (p := p.re (.slice ao9 n c9)) hS) (by simp)
  refine bodyPost_ret (results_cellL rfl rfl hl) rfl ?_
  exact ⟨ao9, n, c9, rfl, hst12.sub (.cons_cons _ (List.nil_sublist _)), H4.out⟩
theorem split_lenG (l : List UInt8) : (splitL l).1.length ≤ l.length ∧ (splitL l).2.1.length ≤ l.length := by
  unfold splitL
  split
  · exact cutL_len l
  · simp
theorem alike13_any (a b : List UInt8) (w : World) (ha : a.length ≤ 9223372036854775807) (hb : b.length ≤ 9223372036854775807) : Calls Try.prog 38 #[str a, str b] w fun e w' => e = .returned (.bool (alikeB a b)) ∧ St w [] w' [] := by
  have hst := St.refl w
  have HLA := hid ha
  have HLB := hid hb
  clear ha hb
  obtain ⟨E, hE⟩ : ∃ E, E = alikeB a b := ⟨_, rfl⟩
  rw [← hE]
  obtain ⟨p, hp⟩ : ∃ p, partB a = p := ⟨_, rfl⟩
  obtain ⟨q, hq⟩ : ∃ q, partB b = q := ⟨_, rfl⟩
  obtain ⟨⟨v, u, f⟩, hx⟩ : ∃ p, splitL a = p := ⟨_, rfl⟩
  obtain ⟨⟨v', u', f'⟩, hy⟩ : ∃ p, splitL b = p := ⟨_, rfl⟩
  obtain ⟨s, hs⟩ : ∃ s, (v == v') = s := ⟨_, rfl⟩
  have hE2 : E = ((p && q) || ((f && f') && s)) := by rw [hE]; unfold alikeB; rw [hp, hq, hx, hy, ← hs]
  rw [hE2]
  have HP := hid hp
  have HQ := hid hq
  have HX := hid hx
  have HY := hid hy
  have HS := hid hs
  clear hE hE2 hp hq hx hy hs
  cases p <;> cases q <;> cases f <;> cases f'
  all_goals
    go_enter Try.func38, Try.ntmps38
    go_wp2_with (first | go_big_skip | go_big_guard | (go_at_call 39; first | (refine (split_any a _ HLA.out).mono ?_; rw [HX.out]; rintro _ w9 ⟨rfl, h4⟩; replace hst := St.call0 hst h4; clear h4) | (refine (split_any b _ HLB.out).mono ?_; rw [HY.out]; rintro _ w9 ⟨rfl, h4⟩; replace hst := St.call0 hst h4; clear h4)) | (go_at_call 26; first | (refine (volume_any a _ HLA.out).mono ?_; rw [HP.out]; rintro _ w9 ⟨rfl, h4⟩; replace hst := St.call0 hst h4; clear h4) | (refine (volume_any b _ HLB.out).mono ?_; rw [HQ.out]; rintro _ w9 ⟨rfl, h4⟩; replace hst := St.call0 hst h4; clear h4)) | (refine wl_eqS rfl rfl rfl rfl ?_; rw [HS.out]))
    go_ret
    exact ⟨by first | rfl | (rw [← HS.out]; rfl) | (cases s <;> rfl), hst⟩
theorem containsR_any (fn g : Nat) (p : RC → Bool) (ao : Option Addr) (n c : Nat) (xs : List (Value × RC)) (w : World) (hfn : ∀ (a : Array Value) (w : World), (callFunc fn a).run Try.prog w = .ok (.enter fn a) w)
    (hcl : ∀ (x : Value × RC) (w' : World), x ∈ xs → St w [] w' [] → Calls Try.prog fn #[.agg (cellsR x).toArray, .pointer (some ⟨g, 0, none⟩)] w' fun e w2 => e = .returned (.bool (p x.2)) ∧ St w' [] w2 []) (hl : RecsIn w (.slice ao n c) n xs) (hb : n ≤ 1000000) :
    Calls Try.prog 34 #[.slice ao n c, capV fn g] w fun e w' => e = .returned (.bool ((xs.map (·.2)).any p)) ∧ St w [] w' [] := by
  have hst := St.refl w
  have HC := hid (indexR_any fn g p ao n c xs w hfn hcl hl hb)
  rw [← idxI_any]
  obtain ⟨i, hi⟩ : ∃ i, i = idxI p (xs.map (·.2)) := ⟨_, rfl⟩
  rw [← hi] at HC ⊢
  clear hi hcl hl
  unfold capV at HC ⊢
  go_enter Try.func34, Try.ntmps34
  go_wp2_with (first | go_big_skip | go_big_guard | (go_at_call 64; refine HC.out.mono ?_; rintro _ w9 ⟨rfl, h4⟩; replace hst := St.call0 hst h4; clear h4))
  go_ret
  exact ⟨rfl, hst⟩
end Go.Proofs.Ytifajcblbedcoaa
namespace Go.Proofs.Ytifajcblbedcoaa
set_option linter.unusedVariables false
set_option linter.unusedSimpArgs false
open Go.RowKit Hp
attribute [local irreducible] Go.Calls Go.wpList
set_option maxRecDepth 100000
set_option maxHeartbeats 8000000
attribute [local go_sem ↓] heldInt heldInts heldRecs heldRec heldStr heldTab
theorem cells_slot (x : Value × RC) : (cellsR x)[4]? = some x.1 := rfl
def LX (xs : List (Value × RC)) : Prop := ∀ x ∈ xs, L32 x.2.S
theorem OwnX.LX {L : List HA} {xs : List (Value × RC)} (h : OwnX L xs) : LX xs := fun x hx => (h x hx).2.1
theorem recsV_lenL {xs : List (Value × RC)} (h : LX xs) : (recsV xs).length = xs.length * 44 := by
  induction xs with
  | nil => rfl
  | cons x xs ih =>
    show (cellsR x ++ recsV xs).length = _
    rw [List.length_append, cellsR_len (h x (.head _)), ih (fun y hy => h y (.tail _ hy)), List.length_cons]
    omega
theorem recsV_takeL {xs : List (Value × RC)} (h : LX xs) {k : Nat} (hk : k ≤ xs.length) : (recsV xs).take (k * 44) = recsV (xs.take k) ∧ (recsV xs).drop (k * 44) = recsV (xs.drop k) := by
  have e : recsV xs = recsV (xs.take k) ++ recsV (xs.drop k) := by rw [← recsV_append, List.take_append_drop]
  have hl : (recsV (xs.take k)).length = k * 44 := by
    rw [recsV_lenL (fun x hx => h x (List.mem_of_mem_take hx)), List.length_take, Nat.min_eq_left hk]
  rw [e, ← hl, List.take_left, List.drop_left]
  exact ⟨rfl, rfl⟩
theorem recsV_at {xs : List (Value × RC)} (h : LX xs) {k : Nat} {x : Value × RC} (hx : xs[k]? = some x) {d : Nat} {v : Value} (hd : (cellsR x)[d]? = some v) : (recsV xs)[k * 44 + d]? = some v := by
  have hlt := (List.getElem?_eq_some_iff.1 hx).1
  obtain ⟨h1, h2⟩ := recsV_takeL h (k := k) (by omega)
  have h3 : (recsV xs).drop (k * 44) = cellsR x ++ recsV (xs.drop (k + 1)) := by
    rw [h2, List.drop_eq_getElem_cons hlt]
    have : xs[k] = x := (List.getElem?_eq_some_iff.1 hx).2
    rw [this]
    rfl
  have h4 : ((recsV xs).drop (k * 44))[d]? = some v := by
    rw [h3, List.getElem?_append_left (List.getElem?_eq_some_iff.1 hd).1]
    exact hd
  rwa [List.getElem?_drop] at h4
/-- A cell of an element is written. -/
theorem recsV_put {xs : List (Value × RC)} (h : LX xs) {k : Nat} {x y : Value × RC} (hx : xs[k]? = some x) {d : Nat} {vs : List Value} (hd : d + vs.length ≤ 44) (hy : putAt (cellsR x) d vs = cellsR y) : putAt (recsV xs) (k * 44 + d) vs = recsV (xs.set k y) := by
  have hlt := (List.getElem?_eq_some_iff.1 hx).1
  have hxk : xs[k] = x := (List.getElem?_eq_some_iff.1 hx).2
  have hX := cellsR_len (h x (List.mem_of_getElem? hx))
  obtain ⟨h1, h2⟩ := recsV_takeL h (k := k) (by omega)
  have e1 : recsV xs = recsV (xs.take k) ++ (cellsR x ++ recsV (xs.drop (k + 1))) := by
    have : recsV (xs.drop k) = cellsR x ++ recsV (xs.drop (k + 1)) := by rw [List.drop_eq_getElem_cons hlt, hxk]; rfl
    rw [← this, ← recsV_append, List.take_append_drop]
  have hl : (recsV (xs.take k)).length = k * 44 := by rw [← h1, List.length_take, recsV_lenL h]; omega
  have e2 : xs.set k y = xs.take k ++ y :: xs.drop (k + 1) := by rw [List.set_eq_take_append_cons_drop, if_pos hlt]
  rw [e2, recsV_append, e1]
  have e3 : recsV (y :: xs.drop (k + 1)) = cellsR y ++ recsV (xs.drop (k + 1)) := rfl
  rw [e3, ← hy]
  unfold putAt
  rw [← hl, List.take_length_add_append, List.append_assoc, Nat.add_assoc, List.drop_length_add_append, List.take_append_of_le_length (by rw [hX]; omega), List.drop_append_of_le_length (by rw [hX]; omega)]
  simp only [List.append_assoc]
theorem ownC_any {w0 w : World} {M : List Nat} {R : List HA} (g n c k m cc : Nat) (ao : Option Addr) (C ads : List Value) (hS : St w0 M w (.row (.slice (some ⟨g, 0, none⟩) n c) 51 44 n C :: R)) (hk : k < n) (hv : C[k * 44 + 4]? = some (.slice ao m cc)) (hR : Rd w (.slice ao m cc) 2 m ads) (h1 : ads.all (·.oneCell') = true) (hb : m ≤ 100000) :
    Calls Try.prog 61 #[.pointer (some ⟨g, k * 44, none⟩)] w fun e w' => ∃ (a6 : Option Addr) (c6 : Nat), e = .returned (.tuple #[]) ∧ St w0 M w' (.row (.slice (some ⟨g, 0, none⟩) n c) 51 44 n (putAt C (k * 44 + 4) [.slice a6 m c6]) :: .row (.slice a6 m c6) 87 2 m ads :: R) := by
  have hst0 := hS
  have HV := hid hv
  have HR := hid hR
  have H1 := hid h1
  clear hS hv hR h1
  go_enter Try.func61, Try.ntmps61
  go_wp2_with (first | go_big_skip | go_big_guard | (refine wl_loadE rfl rfl rfl ?_; refine ⟨_, Loads.inRow hst0 (.head _) HV.out, ?_⟩) | (go_at_call 62; refine (cloneA_any ao m cc _ _ HR.out H1.out hb).mono ?_; rintro _ w9 ⟨v9, rfl, h4⟩; have hst := St.call hst0 h4; clear h4 hst0; obtain ⟨a6, c6, rfl, _, _⟩ := rowS [] hst) | (refine wl_storeRow1 [_] hst rfl rfl rfl rfl (v := .slice a6 m c6) rfl rfl (by omega) (by omega) ?_; intro w7 hst2; clear hst))
  go_end0
  exact ⟨rfl, a6, c6, St.perm hst2 (.swap _ _ _)⟩
theorem each_any (ao : Option Addr) (n c : Nat) (xs : List (Value × RC)) (w : World) (hl : RecsIn w (.slice ao n c) n xs) (hn : n ≤ 1000) (ha : ∀ x ∈ xs, x.2.l.length ≤ 100000 ∧ x.2.name.length ≤ 1000000) :
    Calls Try.prog 60 #[.slice ao n c, .func (.func 61) #[] #[]] w fun e w' => ∃ (rv : Value) (ys : List (Value × RC)), e = .returned rv ∧ ys.map (·.2) = xs.map (·.2) ∧ (∀ y ∈ ys, L32 y.2.S ∧ y.2.name.length ≤ 1000000) ∧ St w [] w' (.row rv 51 44 n (recsV ys) :: rootRows 87 ys) := by
  have hst0 := St.refl w
  have HL := hid hl
  have HA := hid ha
  have HLX : Hid (LX xs) := hid (fun x hx => (hl.each x hx).L)
  have HN := hid hl.len
  have H1 : Hid ((recsV xs).all (·.oneCell') = true) := hid (by
    rw [recsV, List.all_flatMap, List.all_eq_true]
    exact fun x hx => cellsR_ones (hl.each x hx))
  clear hl ha
  go_enter Try.func60, Try.ntmps60
  go_wp2_with (first | go_big_skip | go_big_guard | (go_at_call 80; refine (cloneR_any ao n c _ _ (Rd.old hst0 HL.out.rd) H1.out (by omega)).mono ?_; rintro _ w9 ⟨v9, rfl, h4⟩; have hst := St.call hst0 h4; clear h4 hst0; obtain ⟨ar, cr, rfl, _, _⟩ := rowS [] hst))
  go_loopw [11] (fun i wr => ∃ (j : Nat) (ys : List (Value × RC)), j ≤ n ∧ i = .int .i64 (j : Int) ∧ ys.map (·.2) = (xs.take j).map (·.2) ∧ St w [] wr (.row (.slice ar n cr) 51 44 n (recsV (ys ++ xs.drop j)) :: rootRows 87 ys)) (fun i _ => n - (intOf i).toNat)
  case atStart => exact ⟨0, [], Nat.zero_le _, rfl, rfl, hst⟩
  case round =>
    clear hst
    obtain ⟨j, ys, hj, rfl, hy, hst⟩ := hrel
    have HY := hid hy
    have hyl : ys.length = j := by
      have := congrArg List.length hy
      rw [List.length_map, List.length_map, List.length_take, HN.out] at this
      omega
    have HYL := hid hyl
    clear hy hyl
    by_cases hlt : j < n
    · have e1 : decide ((j : Int) < (n : Int)) = true := decide_eq_true (by omega)
      have z1 : IntKind.i64.wrap ((j : Int) + 1) = (j : Int) + 1 := IntWalk.i64_in _ (by omega)
      obtain ⟨x, hx⟩ : ∃ x, xs[j]? = some x := ⟨_, List.getElem?_eq_getElem (by rw [HN.out]; exact hlt)⟩
      have hxm := List.mem_of_getElem? hx
      have hz : (ys ++ xs.drop j)[j]? = some x := by
        rw [List.getElem?_append_right (by rw [HYL.out]; exact Nat.le_refl _), HYL.out, Nat.sub_self, List.getElem?_drop, Nat.add_zero]
        exact hx
      have hzl : LX (ys ++ xs.drop j) := fun y hy => by
        rcases List.mem_append.1 hy with hy | hy
        · have h2 : y.2 ∈ (xs.take j).map (·.2) := by rw [← HY.out]; exact List.mem_map_of_mem hy
          obtain ⟨u, hu, he⟩ := List.mem_map.1 h2
          rw [← he]
          exact HLX.out u (List.mem_of_mem_take hu)
        · exact HLX.out y (List.mem_of_mem_drop hy)
      obtain ⟨hLX2, ao2, m, cc, hsv, hrd, hm⟩ := (HL.out.each x hxm).1
      have hslot := recsV_at hzl hz (d := 4) (v := .slice ao2 m cc) (by rw [cells_slot, ← hsv]; rfl)
      have HX := hid hx
      have HZ := hid hz
      have HZL := hid hzl
      have HS := hid hslot
      have HRD := hid hrd
      have HM : Hid (x.2.l.length = m) := hid hm
      have HB := hid (HA.out x hxm).1
      obtain ⟨g, c9, he, _⟩ := row_spot hst (.head _) (by omega)
      cases he
      clear hx hxm hz hzl hLX2 hsv hrd hm hslot
      go_wp2_with (first | go_big_skip | go_big_guard | (refine wl_index rfl rfl rfl rfl hlt ?_) | (go_at_call 61; refine (ownC_any (k := j) g n cr m cc ao2 _ _ hst hlt HS.out (Rd.old hst HRD.out) (addrs_ones _) (by rw [← HM.out]; exact HB.out)).mono ?_; rintro _ w9 ⟨a6, c6, rfl, h4⟩; have hst2 := h4; clear h4 hst))
      go_roundw
      case rel =>
        refine ⟨j + 1, ys ++ [(.slice a6 m c6, x.2)], by omega, rfl, ?_, ?_⟩
        · rw [List.map_append, HY.out, List.take_add_one, HX.out, List.map_append]
          rfl
        · have e2 : putAt (cellsR x) 4 [.slice a6 m c6] = cellsR ((.slice a6 m c6 : Value), x.2) := rfl
          rw [recsV_put HZL.out HZ.out (d := 4) (by show 4 + 1 ≤ 44; decide) e2] at hst2
          have e3 : (ys ++ xs.drop j).set j ((.slice a6 m c6 : Value), x.2) = (ys ++ [((.slice a6 m c6 : Value), x.2)]) ++ xs.drop (j + 1) := by
            have hlt2 : j < xs.length := by rw [HN.out]; exact hlt
            rw [List.drop_eq_getElem_cons hlt2, List.set_append_right _ _ (by rw [HYL.out]; exact Nat.le_refl _), HYL.out, Nat.sub_self, List.set_cons_zero, List.append_assoc]
            rfl
          rw [e3] at hst2
          rw [rootRows_add]
          have hm2 := HM.out
          subst hm2
          exact hst2
      case measure => simp [intOf]; omega
    · have e1 : decide ((j : Int) < (n : Int)) = false := decide_eq_false (by omega)
      obtain rfl : j = n := by omega
      go_wp2_with (first | go_big_skip | go_big_guard | fail)
      go_ret
      have hd : xs.drop j = [] := List.drop_eq_nil_of_le (by rw [HN.out]; exact Nat.le_refl _)
      have ht : xs.take j = xs := List.take_of_length_le (by rw [HN.out]; exact Nat.le_refl _)
      have hy := HY.out
      rw [hd, List.append_nil] at hst
      rw [ht] at hy
      refine ⟨_, rfl, ys, hy, fun a b hym => ?_, hst⟩
      have h2 : b ∈ xs.map (·.2) := by rw [← hy]; exact List.mem_map_of_mem (f := (·.2)) hym
      obtain ⟨u, hu, he⟩ := List.mem_map.1 h2
      rw [← he]
      exact ⟨HLX.out u hu, (HA.out u hu).2⟩
end Go.Proofs.Ytifajcblbedcoaa
namespace Go.Proofs.Ytifajcblbedcoaa
set_option linter.unusedVariables false
set_option linter.unusedSimpArgs false
open Go.RowKit Hp
def RC.sameB (x y : RC) : Bool := (((((((((x.id == y.id) && (x.name == y.name)) && (x.kind == y.kind)) && (x.size == y.size)) && (x.pv undef).same (y.pv undef)) && (x.made == y.made)) && (x.own == y.own)) && (x.origin == y.origin)) && (x.quota == y.quota)) && (x.reserve == y.reserve)
def recsB : List RC → List RC → Bool
  | [], [] => true
  | x :: l, y :: k => x.sameB y && recsB l k
  | _, _ => false
def TC.curL (t : TC) : List Int := [t.kind, t.dev, t.at_, t.txg]
def TC.sameB (t u : TC) : Bool := (((t.next == u.next) && (t.curL == u.curL)) && (t.lives == u.lives)) && recsB t.recs u.recs
theorem RC.sameB_iff {x y : RC} : x.sameB y = true ↔ x = y := by
  constructor
  · intro h
    unfold RC.sameB at h
    simp only [Bool.and_eq_true, beq_iff_eq] at h
    obtain ⟨⟨⟨⟨⟨⟨⟨⟨⟨h1, h2⟩, h3⟩, h4⟩, h5⟩, h6⟩, h7⟩, h8⟩, h9⟩, h10⟩ := h
    unfold PV.same Go.Proofs.Ytifajcblbedcoaa.sameB at h5
    simp only [Bool.and_eq_true, beq_iff_eq, decide_eq_true_eq] at h5
    obtain ⟨a1, a2, a3, a4⟩ := h5
    cases x; cases y
    simp only [RC.pv] at *
    subst h1 h2 h3 h4 h6 h7 h8 h9 h10 a1 a2 a3 a4
    rfl
  · rintro rfl
    unfold RC.sameB
    simp [PV.same, Go.Proofs.Ytifajcblbedcoaa.sameB]
theorem recsB_iff : ∀ {l k : List RC}, recsB l k = true ↔ l = k
  | [], [] => by simp [recsB]
  | [], y :: k => by simp [recsB]
  | x :: l, [] => by simp [recsB]
  | x :: l, y :: k => by
    rw [recsB, Bool.and_eq_true, RC.sameB_iff, recsB_iff]
    constructor
    · rintro ⟨rfl, rfl⟩; rfl
    · intro h
      cases h
      exact ⟨rfl, rfl⟩
theorem TC.sameB_iff {t u : TC} : t.sameB u = true ↔ t = u := by
  unfold TC.sameB
  rw [Bool.and_eq_true, Bool.and_eq_true, Bool.and_eq_true, recsB_iff, beq_iff_eq, beq_iff_eq, beq_iff_eq]
  constructor
  · rintro ⟨⟨⟨h1, h2⟩, h3⟩, h4⟩
    unfold TC.curL at h2
    simp at h2
    obtain ⟨a1, a2, a3, a4⟩ := h2
    cases t; cases u
    simp only at *
    subst h1 h3 h4 a1 a2 a3 a4
    rfl
  · rintro rfl
    exact ⟨⟨⟨rfl, rfl⟩, rfl⟩, rfl⟩
theorem recsB_len {l k : List RC} (h : l.length ≠ k.length) : recsB l k = false := by
  cases hh : recsB l k with
  | false => rfl
  | true => exact absurd (congrArg List.length (recsB_iff.1 hh)) h
theorem recsB_no {l k : List RC} {j : Nat} {x y : RC} (hx : l[j]? = some x) (hy : k[j]? = some y) (h : x.sameB y = false) : recsB l k = false := by
  cases hh : recsB l k with
  | false => rfl
  | true =>
    have := recsB_iff.1 hh
    subst this
    rw [hx] at hy
    cases hy
    rw [RC.sameB_iff.2 rfl] at h
    cases h
theorem recsB_all {l k : List RC} (hl : l.length = k.length) (h : ∀ (j : Nat) (x y : RC), l[j]? = some x → k[j]? = some y → x.sameB y = true) : recsB l k = true := by
  rw [recsB_iff]
  apply List.ext_getElem hl
  intro j h1 h2
  exact RC.sameB_iff.1 (h j _ _ (List.getElem?_eq_getElem h1) (List.getElem?_eq_getElem h2))
theorem RC.sameB_pv (x y : RC) (sv sv' : Value) : x.sameB y = ((((((((((x.id == y.id) && (x.name == y.name)) && (x.kind == y.kind)) && (x.size == y.size)) && (x.pv sv).same (y.pv sv')) && (x.made == y.made)) && (x.own == y.own)) && (x.origin == y.origin)) && (x.quota == y.quota)) && (x.reserve == y.reserve)) := rfl
theorem ints_len {l k : List Int} (h : l.length ≠ k.length) : (l == k) = false := by
  rw [beq_eq_false_iff_ne]
  exact fun e => h (by rw [e])
theorem ints_no {l k : List Int} {j : Nat} {x y : Int} (hx : l[j]? = some x) (hy : k[j]? = some y) (h : x ≠ y) : (l == k) = false := by
  rw [beq_eq_false_iff_ne]
  rintro rfl
  rw [hx] at hy
  exact h (Option.some.inj hy)
theorem ints_all {l k : List Int} (hl : l.length = k.length) (h : ∀ (j : Nat) (x y : Int), l[j]? = some x → k[j]? = some y → x = y) : (l == k) = true := by
  rw [beq_iff_eq]
  apply List.ext_getElem hl
  intro j h1 h2
  exact h j _ _ (List.getElem?_eq_getElem h1) (List.getElem?_eq_getElem h2)
theorem TC.same1 {t u : TC} (h : (t.next == u.next) = false) : t.sameB u = false := by unfold TC.sameB; rw [h]; rfl
theorem TC.same2 {t u : TC} (h : (t.curL == u.curL) = false) : t.sameB u = false := by unfold TC.sameB; rw [h]; simp
theorem TC.same3 {t u : TC} (h : (t.lives == u.lives) = false) : t.sameB u = false := by unfold TC.sameB; rw [h]; simp
theorem TC.same4 {t u : TC} (h : recsB t.recs u.recs = false) : t.sameB u = false := by unfold TC.sameB; rw [h]; simp
theorem TC.same0 {t u : TC} (h1 : (t.next == u.next) = true) (h2 : (t.curL == u.curL) = true) (h3 : (t.lives == u.lives) = true) (h4 : recsB t.recs u.recs = true) : t.sameB u = true := by unfold TC.sameB; rw [h1, h2, h3, h4]; rfl
end Go.Proofs.Ytifajcblbedcoaa
namespace Go.Proofs.Ytifajcblbedcoaa
set_option linter.unusedVariables false
set_option linter.unusedSimpArgs false
open Go.RowKit Hp
attribute [local irreducible] Go.Calls Go.wpList Hp.gvV Hp.gB Hp.gA Hp.bOr Hp.bAnd Hp.bNot PV.same
set_option maxRecDepth 100000
set_option maxHeartbeats 8000000
section
variable {p q : PV} {w : World} (hp : p.In w) (hq : q.In w)
include hp hq
end
theorem kitRec_any (x y : Value × RC) (w : World) (hx : RC.In w x) (hy : RC.In w y) : Calls Try.prog 23 #[.agg (cellsR x).toArray, .agg (cellsR y).toArray] w fun e w' => e = .returned (.bool (x.2.sameB y.2)) ∧ St w [] w' [] := by
  have hst0 := St.refl w
  have HX := hid hx
  have HY := hid hy
  have HLX := hid hx.L
  have HLY := hid hy.L
  have H35x := hid (PV.len (p := x.2.pv x.1) hx.L)
  have H35y := hid (PV.len (p := y.2.pv y.1) hy.L)
  clear hx hy
  go_enter Try.func23, Try.ntmps23
  (try simp only [List.append])
  go_wp2_with (first | go_big_skip | (refine wl_boxA hst0 rfl rfl rfl ?_; intro gx w1 hst1; clear hst0) | (refine wl_boxA hst1 rfl rfl rfl ?_; intro gy w1 hst; clear hst1) | (show wpList _ _ _ (Oper.mk _ (.fieldAddr 51 _ _) _ _ _ (some _) :: _) _ _; refine wl_gfldR rfl (by first | exact wanted_b rfl rfl | exact wanted_g rfl rfl) (by first | exact (fun hg => gvV_on hg) | exact (fun hg => gvV_gA hg) | exact (fun _ => rfl)) rfl ?_; (try simp only [Act.put, List.setIfInBounds_toArray, List.set_cons_zero, List.set_cons_succ])) | (show wpList _ _ _ (Oper.mk _ (.load _ _) _ _ _ (some _) :: _) _ _; refine wl_gloadE rfl (by first | exact wanted_b rfl rfl | exact wanted_g rfl rfl) (by first | exact (fun hg => gvV_on hg) | exact (fun hg => gvV_gA hg) | exact (fun _ => rfl)) ?_; (first | refine ⟨_, Loads.atA ((y.2.pv y.1).cells) [] hst H35y.out (cellsR_root HLY.out), ?_⟩ | refine ⟨_, Loads.at [] hst (cellsR_39 HLY.out), ?_⟩ | refine ⟨_, Loads.at [] hst (cellsR_40 HLY.out), ?_⟩ | refine ⟨_, Loads.at [] hst (cellsR_41 HLY.out), ?_⟩ | refine ⟨_, Loads.at [] hst (cellsR_42 HLY.out), ?_⟩ | refine ⟨_, Loads.at [] hst (cellsR_43 HLY.out), ?_⟩ | refine ⟨_, Loads.at [] hst rfl, ?_⟩ | refine ⟨_, Loads.atA ((x.2.pv x.1).cells) [_] hst H35x.out (cellsR_root HLX.out), ?_⟩ | refine ⟨_, Loads.at [_] hst (cellsR_39 HLX.out), ?_⟩ | refine ⟨_, Loads.at [_] hst (cellsR_40 HLX.out), ?_⟩ | refine ⟨_, Loads.at [_] hst (cellsR_41 HLX.out), ?_⟩ | refine ⟨_, Loads.at [_] hst (cellsR_42 HLX.out), ?_⟩ | refine ⟨_, Loads.at [_] hst (cellsR_43 HLX.out), ?_⟩ | refine ⟨_, Loads.at [_] hst rfl, ?_⟩); (try simp only [Act.put, List.setIfInBounds_toArray, List.set_cons_zero, List.set_cons_succ]); (repeat ((first | (show wpList _ _ _ (Oper.mk _ (.move _) _ _ _ none :: _) _ _; refine wl_mv rfl rfl rfl ?_) | (show wpList _ _ _ (Oper.mk _ (.pick _ _ _) _ _ _ none :: _) _ _; (first | (refine wl_pickOr rfl rfl rfl rfl rfl ?_; intro q hq) | (refine wl_pickAnd rfl rfl rfl rfl rfl ?_; intro q hq))) | (show wpList _ _ _ (Oper.mk _ (.pick _ _ _) _ _ _ (some _) :: _) _ _; (first | (refine wl_gpickOr rfl (by first | exact wanted_b rfl rfl | exact wanted_g rfl rfl) rfl rfl rfl ?_; intro q hq) | (refine wl_gpickAnd rfl (by first | exact wanted_b rfl rfl | exact wanted_g rfl rfl) rfl rfl rfl ?_; intro q hq))) | (show wpList _ _ _ (Oper.mk _ (.move _) _ _ _ (some _) :: _) _ _; refine wl_gmove rfl (by first | exact wanted_b rfl rfl | exact wanted_g rfl rfl) (by first | exact (fun hg => gvV_on hg) | exact (fun hg => gvV_gA hg) | exact (fun _ => rfl)) ?_)); (try simp only [Act.put, List.setIfInBounds_toArray, List.set_cons_zero, List.set_cons_succ])))) | (show wpList _ _ _ (Oper.mk _ (.binOp _ 3 _ _ _) _ _ _ (some _) :: _) _ _; refine wl_gcmp rfl (by first | exact wanted_b rfl rfl | exact wanted_g rfl rfl) (by first | exact (fun hg => gvV_on hg) | exact (fun hg => gvV_gA hg) | exact (fun _ => rfl)) (by first | exact (fun hg => gvV_on hg) | exact (fun hg => gvV_gA hg) | exact (fun _ => rfl)) rfl ?_; (try simp only [Act.put, List.setIfInBounds_toArray, List.set_cons_zero, List.set_cons_succ]); (repeat ((first | (show wpList _ _ _ (Oper.mk _ (.move _) _ _ _ none :: _) _ _; refine wl_mv rfl rfl rfl ?_) | (show wpList _ _ _ (Oper.mk _ (.pick _ _ _) _ _ _ none :: _) _ _; (first | (refine wl_pickOr rfl rfl rfl rfl rfl ?_; intro q hq) | (refine wl_pickAnd rfl rfl rfl rfl rfl ?_; intro q hq))) | (show wpList _ _ _ (Oper.mk _ (.pick _ _ _) _ _ _ (some _) :: _) _ _; (first | (refine wl_gpickOr rfl (by first | exact wanted_b rfl rfl | exact wanted_g rfl rfl) rfl rfl rfl ?_; intro q hq) | (refine wl_gpickAnd rfl (by first | exact wanted_b rfl rfl | exact wanted_g rfl rfl) rfl rfl rfl ?_; intro q hq))) | (show wpList _ _ _ (Oper.mk _ (.move _) _ _ _ (some _) :: _) _ _; refine wl_gmove rfl (by first | exact wanted_b rfl rfl | exact wanted_g rfl rfl) (by first | exact (fun hg => gvV_on hg) | exact (fun hg => gvV_gA hg) | exact (fun _ => rfl)) ?_)); (try simp only [Act.put, List.setIfInBounds_toArray, List.set_cons_zero, List.set_cons_succ])))) | (show wpList _ _ _ (Oper.mk _ (.binOp .neq 9 _ _ _) _ _ _ (some _) :: _) _ _; refine wl_gneqS rfl (by first | exact wanted_b rfl rfl | exact wanted_g rfl rfl) (by first | exact (fun hg => gvV_on hg) | exact (fun hg => gvV_gA hg) | exact (fun _ => rfl)) (by first | exact (fun hg => gvV_on hg) | exact (fun hg => gvV_gA hg) | exact (fun _ => rfl)) ?_; (try simp only [Act.put, List.setIfInBounds_toArray, List.set_cons_zero, List.set_cons_succ]); (repeat ((first | (show wpList _ _ _ (Oper.mk _ (.move _) _ _ _ none :: _) _ _; refine wl_mv rfl rfl rfl ?_) | (show wpList _ _ _ (Oper.mk _ (.pick _ _ _) _ _ _ none :: _) _ _; (first | (refine wl_pickOr rfl rfl rfl rfl rfl ?_; intro q hq) | (refine wl_pickAnd rfl rfl rfl rfl rfl ?_; intro q hq))) | (show wpList _ _ _ (Oper.mk _ (.pick _ _ _) _ _ _ (some _) :: _) _ _; (first | (refine wl_gpickOr rfl (by first | exact wanted_b rfl rfl | exact wanted_g rfl rfl) rfl rfl rfl ?_; intro q hq) | (refine wl_gpickAnd rfl (by first | exact wanted_b rfl rfl | exact wanted_g rfl rfl) rfl rfl rfl ?_; intro q hq))) | (show wpList _ _ _ (Oper.mk _ (.move _) _ _ _ (some _) :: _) _ _; refine wl_gmove rfl (by first | exact wanted_b rfl rfl | exact wanted_g rfl rfl) (by first | exact (fun hg => gvV_on hg) | exact (fun hg => gvV_gA hg) | exact (fun _ => rfl)) ?_)); (try simp only [Act.put, List.setIfInBounds_toArray, List.set_cons_zero, List.set_cons_succ])))) | (show wpList _ _ _ (Oper.mk _ (.binOp .eql 9 _ _ _) _ _ _ (some _) :: _) _ _; refine wl_geqS rfl (by first | exact wanted_b rfl rfl | exact wanted_g rfl rfl) (by first | exact (fun hg => gvV_on hg) | exact (fun hg => gvV_gA hg) | exact (fun _ => rfl)) (by first | exact (fun hg => gvV_on hg) | exact (fun hg => gvV_gA hg) | exact (fun _ => rfl)) ?_; (try simp only [Act.put, List.setIfInBounds_toArray, List.set_cons_zero, List.set_cons_succ]); (repeat ((first | (show wpList _ _ _ (Oper.mk _ (.move _) _ _ _ none :: _) _ _; refine wl_mv rfl rfl rfl ?_) | (show wpList _ _ _ (Oper.mk _ (.pick _ _ _) _ _ _ none :: _) _ _; (first | (refine wl_pickOr rfl rfl rfl rfl rfl ?_; intro q hq) | (refine wl_pickAnd rfl rfl rfl rfl rfl ?_; intro q hq))) | (show wpList _ _ _ (Oper.mk _ (.pick _ _ _) _ _ _ (some _) :: _) _ _; (first | (refine wl_gpickOr rfl (by first | exact wanted_b rfl rfl | exact wanted_g rfl rfl) rfl rfl rfl ?_; intro q hq) | (refine wl_gpickAnd rfl (by first | exact wanted_b rfl rfl | exact wanted_g rfl rfl) rfl rfl rfl ?_; intro q hq))) | (show wpList _ _ _ (Oper.mk _ (.move _) _ _ _ (some _) :: _) _ _; refine wl_gmove rfl (by first | exact wanted_b rfl rfl | exact wanted_g rfl rfl) (by first | exact (fun hg => gvV_on hg) | exact (fun hg => gvV_gA hg) | exact (fun _ => rfl)) ?_)); (try simp only [Act.put, List.setIfInBounds_toArray, List.set_cons_zero, List.set_cons_succ])))) | (show wpList _ _ _ (Oper.mk _ (.binOp .neq 9 _ _ _) _ _ _ none :: _) _ _; refine wl_neqS rfl rfl rfl rfl ?_; (try simp only [Act.put, List.setIfInBounds_toArray, List.set_cons_zero, List.set_cons_succ]); (repeat ((first | (show wpList _ _ _ (Oper.mk _ (.move _) _ _ _ none :: _) _ _; refine wl_mv rfl rfl rfl ?_) | (show wpList _ _ _ (Oper.mk _ (.pick _ _ _) _ _ _ none :: _) _ _; (first | (refine wl_pickOr rfl rfl rfl rfl rfl ?_; intro q hq) | (refine wl_pickAnd rfl rfl rfl rfl rfl ?_; intro q hq))) | (show wpList _ _ _ (Oper.mk _ (.pick _ _ _) _ _ _ (some _) :: _) _ _; (first | (refine wl_gpickOr rfl (by first | exact wanted_b rfl rfl | exact wanted_g rfl rfl) rfl rfl rfl ?_; intro q hq) | (refine wl_gpickAnd rfl (by first | exact wanted_b rfl rfl | exact wanted_g rfl rfl) rfl rfl rfl ?_; intro q hq))) | (show wpList _ _ _ (Oper.mk _ (.move _) _ _ _ (some _) :: _) _ _; refine wl_gmove rfl (by first | exact wanted_b rfl rfl | exact wanted_g rfl rfl) (by first | exact (fun hg => gvV_on hg) | exact (fun hg => gvV_gA hg) | exact (fun _ => rfl)) ?_)); (try simp only [Act.put, List.setIfInBounds_toArray, List.set_cons_zero, List.set_cons_succ])))) | (show wpList _ _ _ (Oper.mk _ (.binOp .eql 9 _ _ _) _ _ _ none :: _) _ _; refine wl_eqS rfl rfl rfl rfl ?_; (try simp only [Act.put, List.setIfInBounds_toArray, List.set_cons_zero, List.set_cons_succ]); (repeat ((first | (show wpList _ _ _ (Oper.mk _ (.move _) _ _ _ none :: _) _ _; refine wl_mv rfl rfl rfl ?_) | (show wpList _ _ _ (Oper.mk _ (.pick _ _ _) _ _ _ none :: _) _ _; (first | (refine wl_pickOr rfl rfl rfl rfl rfl ?_; intro q hq) | (refine wl_pickAnd rfl rfl rfl rfl rfl ?_; intro q hq))) | (show wpList _ _ _ (Oper.mk _ (.pick _ _ _) _ _ _ (some _) :: _) _ _; (first | (refine wl_gpickOr rfl (by first | exact wanted_b rfl rfl | exact wanted_g rfl rfl) rfl rfl rfl ?_; intro q hq) | (refine wl_gpickAnd rfl (by first | exact wanted_b rfl rfl | exact wanted_g rfl rfl) rfl rfl rfl ?_; intro q hq))) | (show wpList _ _ _ (Oper.mk _ (.move _) _ _ _ (some _) :: _) _ _; refine wl_gmove rfl (by first | exact wanted_b rfl rfl | exact wanted_g rfl rfl) (by first | exact (fun hg => gvV_on hg) | exact (fun hg => gvV_gA hg) | exact (fun _ => rfl)) ?_)); (try simp only [Act.put, List.setIfInBounds_toArray, List.set_cons_zero, List.set_cons_succ])))) | (show wpList _ _ _ (Oper.mk _ (.call (Call.mk (.builtin .len) _ #[9])) _ _ _ (some _) :: _) _ _; refine wl_glenS rfl (by first | exact wanted_b rfl rfl | exact wanted_g rfl rfl) (by first | exact (fun hg => gvV_on hg) | exact (fun hg => gvV_gA hg) | exact (fun _ => rfl)) ?_; (try simp only [Act.put, List.setIfInBounds_toArray, List.set_cons_zero, List.set_cons_succ])) | (show wpList _ _ _ (Oper.mk _ (.unOp .not _ _) _ _ _ (some _) :: _) _ _; refine wl_gnot rfl (by first | exact wanted_b rfl rfl | exact wanted_g rfl rfl) (by first | exact (fun hg => gvV_on hg) | exact (fun hg => gvV_gA hg) | exact (fun _ => rfl)) ?_; (try simp only [Act.put, List.setIfInBounds_toArray, List.set_cons_zero, List.set_cons_succ]); (repeat ((first | (show wpList _ _ _ (Oper.mk _ (.move _) _ _ _ none :: _) _ _; refine wl_mv rfl rfl rfl ?_) | (show wpList _ _ _ (Oper.mk _ (.pick _ _ _) _ _ _ none :: _) _ _; (first | (refine wl_pickOr rfl rfl rfl rfl rfl ?_; intro q hq) | (refine wl_pickAnd rfl rfl rfl rfl rfl ?_; intro q hq))) | (show wpList _ _ _ (Oper.mk _ (.pick _ _ _) _ _ _ (some _) :: _) _ _; (first | (refine wl_gpickOr rfl (by first | exact wanted_b rfl rfl | exact wanted_g rfl rfl) rfl rfl rfl ?_; intro q hq) | (refine wl_gpickAnd rfl (by first | exact wanted_b rfl rfl | exact wanted_g rfl rfl) rfl rfl rfl ?_; intro q hq))) | (show wpList _ _ _ (Oper.mk _ (.move _) _ _ _ (some _) :: _) _ _; refine wl_gmove rfl (by first | exact wanted_b rfl rfl | exact wanted_g rfl rfl) (by first | exact (fun hg => gvV_on hg) | exact (fun hg => gvV_gA hg) | exact (fun _ => rfl)) ?_)); (try simp only [Act.put, List.setIfInBounds_toArray, List.set_cons_zero, List.set_cons_succ])))) | (refine wl_loadE rfl rfl rfl ?_; first | refine ⟨_, Loads.atA ((y.2.pv y.1).cells) [] hst H35y.out (cellsR_root HLY.out), ?_⟩ | refine ⟨_, Loads.at [] hst (cellsR_39 HLY.out), ?_⟩ | refine ⟨_, Loads.at [] hst (cellsR_40 HLY.out), ?_⟩ | refine ⟨_, Loads.at [] hst (cellsR_41 HLY.out), ?_⟩ | refine ⟨_, Loads.at [] hst (cellsR_42 HLY.out), ?_⟩ | refine ⟨_, Loads.at [] hst (cellsR_43 HLY.out), ?_⟩ | refine ⟨_, Loads.at [] hst rfl, ?_⟩ | refine ⟨_, Loads.atA ((x.2.pv x.1).cells) [_] hst H35x.out (cellsR_root HLX.out), ?_⟩ | refine ⟨_, Loads.at [_] hst (cellsR_39 HLX.out), ?_⟩ | refine ⟨_, Loads.at [_] hst (cellsR_40 HLX.out), ?_⟩ | refine ⟨_, Loads.at [_] hst (cellsR_41 HLX.out), ?_⟩ | refine ⟨_, Loads.at [_] hst (cellsR_42 HLX.out), ?_⟩ | refine ⟨_, Loads.at [_] hst (cellsR_43 HLX.out), ?_⟩ | refine ⟨_, Loads.at [_] hst rfl, ?_⟩) | (show wpList _ _ _ (Oper.mk _ (.call (Call.mk (.value (.func 22)) _ _)) _ _ _ (some _) :: _) _ _; refine wl_gcall (v := .bool ((x.2.pv x.1).same (y.2.pv y.1))) hst (by first | exact wanted_b rfl rfl | exact wanted_g rfl rfl) ?_ ?_; (intro hg K hK; have Hg := hid hg; clear hg; go_simp; go_at_call 22; (try (conv => (arg 3; simp only [gvV_on Hg.out]))); refine (same_pv (x.2.pv x.1) (y.2.pv y.1) _ (PV.In.old hst HX.out.1) (PV.In.old hst HY.out.1)).mono ?_; rintro _ w9 ⟨rfl, h4⟩; have hk := hK _ (St.call0 hst h4); simp only [Act.put, List.setIfInBounds_toArray, List.set_cons_zero, List.set_cons_succ] at hk; dsimp only; exact hk); (intro w5 hst5; replace hst := hst5; clear hst5; (try simp only [Act.put, List.setIfInBounds_toArray, List.set_cons_zero, List.set_cons_succ]); (repeat ((first | (show wpList _ _ _ (Oper.mk _ (.move _) _ _ _ none :: _) _ _; refine wl_mv rfl rfl rfl ?_) | (show wpList _ _ _ (Oper.mk _ (.pick _ _ _) _ _ _ none :: _) _ _; (first | (refine wl_pickOr rfl rfl rfl rfl rfl ?_; intro q hq) | (refine wl_pickAnd rfl rfl rfl rfl rfl ?_; intro q hq))) | (show wpList _ _ _ (Oper.mk _ (.pick _ _ _) _ _ _ (some _) :: _) _ _; (first | (refine wl_gpickOr rfl (by first | exact wanted_b rfl rfl | exact wanted_g rfl rfl) rfl rfl rfl ?_; intro q hq) | (refine wl_gpickAnd rfl (by first | exact wanted_b rfl rfl | exact wanted_g rfl rfl) rfl rfl rfl ?_; intro q hq))) | (show wpList _ _ _ (Oper.mk _ (.move _) _ _ _ (some _) :: _) _ _; refine wl_gmove rfl (by first | exact wanted_b rfl rfl | exact wanted_g rfl rfl) (by first | exact (fun hg => gvV_on hg) | exact (fun hg => gvV_gA hg) | exact (fun _ => rfl)) ?_)); (try simp only [Act.put, List.setIfInBounds_toArray, List.set_cons_zero, List.set_cons_succ]))))))
  all_goals go_ret
  all_goals refine ⟨congrArg (fun z => Ending.returned (Value.bool z)) (?_ : (_ : Bool) = x.2.sameB y.2), hst.nil⟩
  all_goals
    have e := RC.sameB_pv x.2 y.2 x.1 y.1
    clear HX HY HLX HLY H35x H35y hst
    rw [e]
    clear e
    simp only [hid_iff, bNot_eq, bAnd_eq] at *
    subst_vars
    ac_rfl
end Go.Proofs.Ytifajcblbedcoaa
namespace Go.Proofs.Ytifajcblbedcoaa
set_option linter.unusedVariables false
set_option linter.unusedSimpArgs false
open Go.RowKit Hp
attribute [local irreducible] Go.Calls Go.wpList
set_option maxRecDepth 100000
set_option maxHeartbeats 8000000
attribute [local go_sem ↓] heldInt heldInts heldRecs heldRec
theorem kitInts_any (a a' : Option Addr) (n c n' c' : Nat) (l k : List Int) (w : World) (hl : Rd w (.slice a n c) 1 n (numsV l)) (hk : Rd w (.slice a' n' c') 1 n' (numsV k)) (hn : l.length = n) (hn' : k.length = n') (hb : n ≤ 1000000) (hb' : n' ≤ 1000000) :
    Calls Try.prog 56 #[.slice a n c, .slice a' n' c'] w fun e w' => e = .returned (.bool (l == k)) ∧ St w [] w' [] := by
  have hst := St.refl w
  have HL := hid hl
  have HK := hid hk
  have HN := hid hn
  have HN' := hid hn'
  obtain ⟨E, hE⟩ : ∃ E, E = (l == k) := ⟨_, rfl⟩
  rw [← hE]
  have HE := hid hE
  clear hl hk hn hn' hE
  by_cases hnn : n = n'
  · subst hnn
    have d1 : ((n : Int) != (n : Int)) = false := by simp
    go_enter Try.func56, Try.ntmps56
    go_wp2_with (first | go_big_skip | go_big_guard | fail)
    go_loopw [5] (fun i wr => ∃ j : Nat, j ≤ n ∧ i = .int .i64 (j : Int) ∧ St w [] wr [] ∧ Hid (∀ (i : Nat) (x y : Int), i < j → l[i]? = some x → k[i]? = some y → x = y)) (fun i _ => n - (intOf i).toNat)
    case atStart => exact ⟨0, Nat.zero_le _, rfl, hst, hid (fun i x y hi _ _ => by omega)⟩
    case round =>
      clear hst
      obtain ⟨j, hj, rfl, hst, HP⟩ := hrel
      by_cases hlt : j < n
      · have e1 : decide ((j : Int) < (n : Int)) = true := decide_eq_true (by omega)
        have z1 : IntKind.i64.wrap ((j : Int) + 1) = (j : Int) + 1 := IntWalk.i64_in _ (by omega)
        obtain ⟨x, hx⟩ : ∃ x, l[j]? = some x := ⟨_, List.getElem?_eq_getElem (by rw [HN.out]; exact hlt)⟩
        obtain ⟨y, hy⟩ : ∃ y, k[j]? = some y := ⟨_, List.getElem?_eq_getElem (by rw [HN'.out]; exact hlt)⟩
        obtain ⟨lb, lo, rfl, hr⟩ := Rd.at HL.out hlt
        obtain ⟨lb2, lo2, rfl, hr2⟩ := Rd.at HK.out hlt
        have HX := hid hx
        have HY := hid hy
        have HCX := hid (hr j _ (numsV_get hx))
        have HCY := hid (hr2 j _ (numsV_get hy))
        clear hx hy hr hr2
        by_cases hxy : x = y
        · have d2 : (x != y) = false := by rw [hxy]; simp
          have HXY := hid hxy
          clear hxy
          go_wp2_with (first | go_big_skip | go_big_guard | fail)
          have hX := hst.drew
          clear hst
          refine wp_region_held_drew (S := (fun w' => (loadVarH 3 ⟨lb, lo + j, none⟩).run Try.prog w' = .ok (.int .i64 x) w' ∧ (loadVarH 3 ⟨lb2, lo2 + j, none⟩).run Try.prog w' = .ok (.int .i64 y) w')) (by kernel_rfl) (by exact ⟨ldO hX HCX.out, ldO hX HCY.out⟩) (fun hHeld => ?_)
          refine tk 0 17 ?_
          (try simp only [Act.put, List.setIfInBounds_toArray, List.set_cons_zero, List.set_cons_succ])
          refine tk 1 18 ?_
          (try simp only [Act.put, List.setIfInBounds_toArray, List.set_cons_zero, List.set_cons_succ])
          refine tk 4 21 ?_
          (try simp only [Act.put, List.setIfInBounds_toArray, List.set_cons_zero, List.set_cons_succ])
          refine tk 5 22 ?_
          (try simp only [Act.put, List.setIfInBounds_toArray, List.set_cons_zero, List.set_cons_succ])
          refine tk 2 19 ?_
          (try simp only [Act.put, List.setIfInBounds_toArray, List.set_cons_zero, List.set_cons_succ])
          refine tk 6 23 ?_
          (try simp only [Act.put, List.setIfInBounds_toArray, List.set_cons_zero, List.set_cons_succ])
          refine tk 3 20 ?_
          (try simp only [Act.put, List.setIfInBounds_toArray, List.set_cons_zero, List.set_cons_succ])
          refine tk 7 24 ?_
          (try simp only [Act.put, List.setIfInBounds_toArray, List.set_cons_zero, List.set_cons_succ])
          refine tk 8 25 ?_
          (try simp only [Act.put, List.setIfInBounds_toArray, List.set_cons_zero, List.set_cons_succ])
          refine wpAnyH_done (by kernel_rfl) ?_ _
          clear hHeld
          go_wp2_with (first | go_big_skip | go_big_guard | fail)
          go_roundw
          case rel => exact ⟨j + 1, by omega, rfl, hX, hid (fun i a b hi ha hb => by
            by_cases e : i = j
            · subst e
              rw [HX.out] at ha; rw [HY.out] at hb
              cases ha; cases hb
              exact HXY.out
            · exact HP.out i a b (by omega) ha hb)⟩
          case measure => simp [intOf]; omega
        · have d2 : (x != y) = true := by rw [bne_iff_ne]; exact hxy
          have HXY := hid hxy
          clear hxy
          go_wp2_with (first | go_big_skip | go_big_guard | fail)
          have hX := hst.drew
          clear hst
          refine wp_region_held_drew (S := (fun w' => (loadVarH 3 ⟨lb, lo + j, none⟩).run Try.prog w' = .ok (.int .i64 x) w' ∧ (loadVarH 3 ⟨lb2, lo2 + j, none⟩).run Try.prog w' = .ok (.int .i64 y) w')) (by kernel_rfl) (by exact ⟨ldO hX HCX.out, ldO hX HCY.out⟩) (fun hHeld => ?_)
          refine tk 0 17 ?_
          (try simp only [Act.put, List.setIfInBounds_toArray, List.set_cons_zero, List.set_cons_succ])
          refine tk 1 18 ?_
          (try simp only [Act.put, List.setIfInBounds_toArray, List.set_cons_zero, List.set_cons_succ])
          refine tk 4 21 ?_
          (try simp only [Act.put, List.setIfInBounds_toArray, List.set_cons_zero, List.set_cons_succ])
          refine tk 5 22 ?_
          (try simp only [Act.put, List.setIfInBounds_toArray, List.set_cons_zero, List.set_cons_succ])
          refine tk 2 19 ?_
          (try simp only [Act.put, List.setIfInBounds_toArray, List.set_cons_zero, List.set_cons_succ])
          refine tk 6 23 ?_
          (try simp only [Act.put, List.setIfInBounds_toArray, List.set_cons_zero, List.set_cons_succ])
          refine tk 3 20 ?_
          (try simp only [Act.put, List.setIfInBounds_toArray, List.set_cons_zero, List.set_cons_succ])
          refine tk 7 24 ?_
          (try simp only [Act.put, List.setIfInBounds_toArray, List.set_cons_zero, List.set_cons_succ])
          refine tk 8 25 ?_
          (try simp only [Act.put, List.setIfInBounds_toArray, List.set_cons_zero, List.set_cons_succ])
          refine wpAnyH_done (by kernel_rfl) ?_ _
          clear hHeld
          go_wp2_with (first | go_big_skip | go_big_guard | fail)
          go_ret
          exact ⟨by rw [HE.out, ints_no HX.out HY.out HXY.out]; rfl, hX⟩
      · have e1 : decide ((j : Int) < (n : Int)) = false := decide_eq_false (by omega)
        go_wp2_with (first | go_big_skip | go_big_guard | fail)
        go_ret
        exact ⟨by rw [HE.out, ints_all (by rw [HN.out, HN'.out]) (fun i x y hx hy => HP.out i x y (by have := (List.getElem?_eq_some_iff.1 hx).1; have := HN.out; omega) hx hy)]; rfl, hst⟩
  · have d1 : ((n : Int) != (n' : Int)) = true := by rw [bne_iff_ne]; omega
    have HNN := hid hnn
    clear hnn
    go_enter Try.func56, Try.ntmps56
    go_wp2_with (first | go_big_skip | go_big_guard | fail)
    go_ret
    exact ⟨by rw [HE.out, ints_len (by rw [HN.out, HN'.out]; exact HNN.out)]; rfl, hst⟩
end Go.Proofs.Ytifajcblbedcoaa
namespace Go.Proofs.Ytifajcblbedcoaa
set_option linter.unusedVariables false
set_option linter.unusedSimpArgs false
open Go.RowKit Hp
attribute [local irreducible] Go.Calls Go.wpList
set_option maxRecDepth 100000
set_option maxHeartbeats 8000000
/-- A table lies in memory: its records at ar, its lives at al. -/
structure TabIn (w : World) (t : TC) (ar : Option Addr) (nr cr : Nat) (al : Option Addr) (nl cl : Nat) (xs : List (Value × RC)) : Prop where
  R : RecsIn w (.slice ar nr cr) nr xs
  eq : xs.map (·.2) = t.recs
  L : Rd w (.slice al nl cl) 1 nl (numsV t.lives)
  ln : t.lives.length = nl
  br : nr ≤ 1000000
  bl : nl ≤ 1000000
theorem TabIn.old {w0 w : World} {Ls : List HA} {t : TC} {ar al : Option Addr} {nr cr nl cl : Nat} {xs : List (Value × RC)} (hst : St w0 [] w Ls) (h : TabIn w0 t ar nr cr al nl cl xs) : TabIn w t ar nr cr al nl cl xs := ⟨h.R.old hst, h.eq, Rd.old hst h.L, h.ln, h.br, h.bl⟩
theorem TabIn.len {w : World} {t : TC} {ar al : Option Addr} {nr cr nl cl : Nat} {xs : List (Value × RC)} (h : TabIn w t ar nr cr al nl cl xs) : t.recs.length = nr := by rw [← h.eq, List.length_map, h.R.len]
theorem recs_at {w : World} {t : TC} {ar al : Option Addr} {nr cr nl cl j : Nat} {xs : List (Value × RC)} {x : Value × RC} (h : TabIn w t ar nr cr al nl cl xs) (hx : xs[j]? = some x) : t.recs[j]? = some x.2 := by rw [← h.eq]; exact map_at hx
theorem recs_all {l k : List RC} {xs ys : List (Value × RC)} {n : Nat} (hx : xs.map (·.2) = l) (hy : ys.map (·.2) = k) (hl : l.length = n) (hk : k.length = n) (h : ∀ (i : Nat) (x y : Value × RC), i < n → xs[i]? = some x → ys[i]? = some y → x.2.sameB y.2 = true) : recsB l k = true := by
  subst hx hy
  refine recsB_all (by rw [hl, hk]) (fun i x y hx hy => ?_)
  have hi : i < n := by rw [← hl]; exact (List.getElem?_eq_some_iff.1 hx).1
  rw [List.getElem?_map] at hx hy
  cases hx' : xs[i]? with
  | none => rw [hx'] at hx; cases hx
  | some u =>
    cases hy' : ys[i]? with
    | none => rw [hy'] at hy; cases hy
    | some v =>
      rw [hx'] at hx; rw [hy'] at hy
      cases hx; cases hy
      exact h i u v hi hx' hy'
attribute [local go_sem ↓] heldInt heldInts heldRecs heldRec
theorem kitTable_any (t u : TC) (ar al ar' al' : Option Addr) (nr cr nl cl nr' cr' nl' cl' : Nat) (xs ys : List (Value × RC)) (w : World) (ht : TabIn w t ar nr cr al nl cl xs) (hu : TabIn w u ar' nr' cr' al' nl' cl' ys) :
    Calls Try.prog 21 #[.agg (tabC t (.slice ar nr cr) (.slice al nl cl)).toArray, .agg (tabC u (.slice ar' nr' cr') (.slice al' nl' cl')).toArray] w fun e w' => e = .returned (.bool (t.sameB u)) ∧ St w [] w' [] := by
  have hst0 := St.refl w
  have HT := hid ht
  have HU := hid hu
  have hbr := ht.br
  have hbr' := hu.br
  have hbl := ht.bl
  have hbl' := hu.bl
  obtain ⟨E, hE⟩ : ∃ E, E = t.sameB u := ⟨_, rfl⟩
  rw [← hE]
  have HE := hid hE
  clear ht hu hE
  cases d1 : (t.next == u.next)
  · have d1' : (t.next != u.next) = true := by rw [bne, d1]; rfl
    have hv : E = false := by rw [HE.out]; exact TC.same1 d1
    rw [hv]
    clear hv
    go_enter Try.func21, Try.ntmps21
    go_wp2_with (first | go_big_skip | go_big_guard | (refine wl_boxA hst0 rfl rfl rfl ?_; intro g2 w1 hst1; clear hst0) | (refine wl_boxA hst1 rfl rfl rfl ?_; intro g3 w2 hst; clear hst1) | (refine wl_loadE rfl rfl rfl ?_; first | refine ⟨_, Loads.at [] hst rfl, ?_⟩ | refine ⟨_, Loads.at [_] hst rfl, ?_⟩ | refine ⟨_, Loads.atA [.int .i64 u.kind, .int .i64 u.dev, .int .i64 u.at_, .int .i64 u.txg] [] hst rfl rfl, ?_⟩ | refine ⟨_, Loads.atA [.int .i64 t.kind, .int .i64 t.dev, .int .i64 t.at_, .int .i64 t.txg] [_] hst rfl rfl, ?_⟩))
    go_ret
    exact ⟨rfl, hst.nil⟩
  · have d1' : (t.next != u.next) = false := by rw [bne, d1]; rfl
    cases d2 : ([t.kind, t.dev, t.at_, t.txg] == [u.kind, u.dev, u.at_, u.txg])
    · skip
      have hv : E = false := by rw [HE.out]; exact TC.same2 d2
      rw [hv]
      clear hv
      go_enter Try.func21, Try.ntmps21
      go_wp2_with (first | go_big_skip | go_big_guard | (refine wl_boxA hst0 rfl rfl rfl ?_; intro g2 w1 hst1; clear hst0) | (refine wl_boxA hst1 rfl rfl rfl ?_; intro g3 w2 hst; clear hst1) | (refine wl_loadE rfl rfl rfl ?_; first | refine ⟨_, Loads.at [] hst rfl, ?_⟩ | refine ⟨_, Loads.at [_] hst rfl, ?_⟩ | refine ⟨_, Loads.atA [.int .i64 u.kind, .int .i64 u.dev, .int .i64 u.at_, .int .i64 u.txg] [] hst rfl rfl, ?_⟩ | refine ⟨_, Loads.atA [.int .i64 t.kind, .int .i64 t.dev, .int .i64 t.at_, .int .i64 t.txg] [_] hst rfl rfl, ?_⟩))
      go_ret
      exact ⟨rfl, hst.nil⟩
    · by_cases hnn : nr = nr'
      · subst hnn
        have d5 : ((nr : Int) != (nr : Int)) = false := by simp
        cases h3 : (t.lives == u.lives)
        · have H3 := hid h3
          have hv0 := TC.same3 (u := u) h3
          have HV := hid hv0
          clear h3 hv0
          have hv : E = false := by rw [HE.out]; exact HV.out
          rw [hv]
          clear hv
          go_enter Try.func21, Try.ntmps21
          go_wp2_with (first | go_big_skip | go_big_guard | (refine wl_boxA hst0 rfl rfl rfl ?_; intro g2 w1 hst1; clear hst0) | (refine wl_boxA hst1 rfl rfl rfl ?_; intro g3 w2 hst; clear hst1) | (refine wl_loadE rfl rfl rfl ?_; first | refine ⟨_, Loads.at [] hst rfl, ?_⟩ | refine ⟨_, Loads.at [_] hst rfl, ?_⟩ | refine ⟨_, Loads.atA [.int .i64 u.kind, .int .i64 u.dev, .int .i64 u.at_, .int .i64 u.txg] [] hst rfl rfl, ?_⟩ | refine ⟨_, Loads.atA [.int .i64 t.kind, .int .i64 t.dev, .int .i64 t.at_, .int .i64 t.txg] [_] hst rfl rfl, ?_⟩) | (go_at_call 56; refine (kitInts_any al al' nl cl nl' cl' t.lives u.lives _ (Rd.old hst HT.out.L) (Rd.old hst HU.out.L) HT.out.ln HU.out.ln hbl hbl').mono ?_; rw [H3.out]; rintro _ w9 ⟨rfl, h4⟩; replace hst := St.call0 hst h4; clear h4))
          go_ret
          exact ⟨rfl, hst.nil⟩
        · have H3 := hid h3
          have H12 := hid (And.intro d1 (And.intro (show (t.curL == u.curL) = true from d2) h3))
          clear h3
          go_enter Try.func21, Try.ntmps21
          go_wp2_with (first | go_big_skip | go_big_guard | (refine wl_boxA hst0 rfl rfl rfl ?_; intro g2 w1 hst1; clear hst0) | (refine wl_boxA hst1 rfl rfl rfl ?_; intro g3 w2 hst; clear hst1) | (refine wl_loadE rfl rfl rfl ?_; first | refine ⟨_, Loads.at [] hst rfl, ?_⟩ | refine ⟨_, Loads.at [_] hst rfl, ?_⟩ | refine ⟨_, Loads.atA [.int .i64 u.kind, .int .i64 u.dev, .int .i64 u.at_, .int .i64 u.txg] [] hst rfl rfl, ?_⟩ | refine ⟨_, Loads.atA [.int .i64 t.kind, .int .i64 t.dev, .int .i64 t.at_, .int .i64 t.txg] [_] hst rfl rfl, ?_⟩) | (go_at_call 56; refine (kitInts_any al al' nl cl nl' cl' t.lives u.lives _ (Rd.old hst HT.out.L) (Rd.old hst HU.out.L) HT.out.ln HU.out.ln hbl hbl').mono ?_; rw [H3.out]; rintro _ w9 ⟨rfl, h4⟩; replace hst := St.call0 hst h4; clear h4))
          go_loopw [5] (fun i wr => ∃ j : Nat, j ≤ nr ∧ i = .int .i64 (j : Int) ∧ St w [] wr [.blk g3 27 (tabC u (.slice ar' nr cr') (.slice al' nl' cl')), .blk g2 27 (tabC t (.slice ar nr cr) (.slice al nl cl))] ∧ Hid (∀ (i : Nat) (x y : Value × RC), i < j → xs[i]? = some x → ys[i]? = some y → x.2.sameB y.2 = true)) (fun i _ => nr - (intOf i).toNat)
          case atStart => exact ⟨0, Nat.zero_le _, rfl, hst, hid (fun i x y hi _ _ => by omega)⟩
          case round =>
            clear hst
            obtain ⟨j, hj, rfl, hst, HP⟩ := hrel
            by_cases hlt : j < nr
            · have e1 : decide ((j : Int) < (nr : Int)) = true := decide_eq_true (by omega)
              have z1 : IntKind.i64.wrap ((j : Int) + 1) = (j : Int) + 1 := IntWalk.i64_in _ (by omega)
              obtain ⟨x, lb, lo, hx, rfl, hin, hr⟩ := RecsIn.at HT.out.R hlt
              obtain ⟨y, lb2, lo2, hy, rfl, hin2, hr2⟩ := RecsIn.at HU.out.R hlt
              have HX := hid hx
              have HY := hid hy
              have HIX := hid hin
              have HIY := hid hin2
              have HLX := hid (cellsR_len hin.L)
              have HLY := hid (cellsR_len hin2.L)
              have HRX := hid hr
              have HRY := hid hr2
              clear hx hy hr hr2 hin hin2
              obtain ⟨q, hq⟩ : ∃ q, q = x.2.sameB y.2 := ⟨_, rfl⟩
              have HQ := hid hq
              clear hq
              cases q
              · go_wp2_with (first | go_big_skip | go_big_guard | (refine wl_loadE rfl rfl rfl ?_; first | refine ⟨_, Loads.at [] hst rfl, ?_⟩ | refine ⟨_, Loads.at [_] hst rfl, ?_⟩ | refine ⟨_, Loads.atA [.int .i64 u.kind, .int .i64 u.dev, .int .i64 u.at_, .int .i64 u.txg] [] hst rfl rfl, ?_⟩ | refine ⟨_, Loads.atA [.int .i64 t.kind, .int .i64 t.dev, .int .i64 t.at_, .int .i64 t.txg] [_] hst rfl rfl, ?_⟩))
                have hX := hst.drew
                clear hst
                refine wp_region_held_drew (S := (fun w' => (loadVarH 22 ⟨g2, 1, none⟩).run Try.prog w' = .ok (.slice (some ⟨lb, lo, none⟩) nr cr) w' ∧ (loadVarH 22 ⟨g3, 1, none⟩).run Try.prog w' = .ok (.slice (some ⟨lb2, lo2, none⟩) nr cr') w' ∧ (loadVarH 51 ⟨lb, lo + j * 44, none⟩).run Try.prog w' = .ok (.agg (cellsR x).toArray) w' ∧ (loadVarH 51 ⟨lb2, lo2 + j * 44, none⟩).run Try.prog w' = .ok (.agg (cellsR y).toArray) w')) (by kernel_rfl) (by exact ⟨ldS [_] hX rfl, ldS [] hX rfl, ldOA hX HLX.out HRX.out, ldOA hX HLY.out HRY.out⟩) (fun hHeld => ?_)
                refine tk 0 42 ?_
                (try simp only [Act.put, List.setIfInBounds_toArray, List.set_cons_zero, List.set_cons_succ])
                refine tk 2 44 ?_
                (try simp only [Act.put, List.setIfInBounds_toArray, List.set_cons_zero, List.set_cons_succ])
                refine tk 5 47 ?_
                (try simp only [Act.put, List.setIfInBounds_toArray, List.set_cons_zero, List.set_cons_succ])
                refine tk 7 49 ?_
                (try simp only [Act.put, List.setIfInBounds_toArray, List.set_cons_zero, List.set_cons_succ])
                refine tk 1 43 ?_
                (try simp only [Act.put, List.setIfInBounds_toArray, List.set_cons_zero, List.set_cons_succ])
                refine tk 6 48 ?_
                (try simp only [Act.put, List.setIfInBounds_toArray, List.set_cons_zero, List.set_cons_succ])
                refine tk 3 45 ?_
                (try simp only [Act.put, List.setIfInBounds_toArray, List.set_cons_zero, List.set_cons_succ])
                refine tk 8 50 ?_
                (try simp only [Act.put, List.setIfInBounds_toArray, List.set_cons_zero, List.set_cons_succ])
                refine tk 4 46 ?_
                (try simp only [Act.put, List.setIfInBounds_toArray, List.set_cons_zero, List.set_cons_succ])
                refine tk 9 51 ?_
                (try simp only [Act.put, List.setIfInBounds_toArray, List.set_cons_zero, List.set_cons_succ])
                refine wpAnyH_ready (rs := [10]) (by kernel_rfl) (by simp) ?_
                refine (AllReadyH.cons (o := ⟨some 52, _, _, _, _, _⟩) rfl (fun K hK => ?_) AllReadyH.nil)
                rw [if_pos (by rfl)]
                go_simp
                go_at_call 23
                refine (kitRec_any x y _ (RC.In.old hX.nil HIX.out) (RC.In.old hX.nil HIY.out)).mono ?_
                rw [← HQ.out]
                rintro _ w9 ⟨rfl, h4⟩
                have hA6 := St.call0 hX h4
                clear h4
                refine hK.out _ _ ?_ (fun hHeld => ?_)
                · exact ⟨ldS [_] hA6 rfl, ldS [] hA6 rfl, ldOA hA6 HLX.out HRX.out, ldOA hA6 HLY.out HRY.out⟩
                clear hK K
                (try simp only [Act.put, List.setIfInBounds_toArray, List.set_cons_zero, List.set_cons_succ])
                refine tk 11 53 ?_
                (try simp only [Act.put, List.setIfInBounds_toArray, List.set_cons_zero, List.set_cons_succ])
                refine wpAnyH_done (by kernel_rfl) ?_ _
                clear hHeld
                go_wp2_with (first | go_big_skip | go_big_guard | fail)
                go_ret
                exact ⟨by rw [HE.out, TC.same4 (recsB_no (recs_at HT.out HX.out) (recs_at HU.out HY.out) HQ.out.symm)]; rfl, hA6.nil⟩
              · go_wp2_with (first | go_big_skip | go_big_guard | (refine wl_loadE rfl rfl rfl ?_; first | refine ⟨_, Loads.at [] hst rfl, ?_⟩ | refine ⟨_, Loads.at [_] hst rfl, ?_⟩ | refine ⟨_, Loads.atA [.int .i64 u.kind, .int .i64 u.dev, .int .i64 u.at_, .int .i64 u.txg] [] hst rfl rfl, ?_⟩ | refine ⟨_, Loads.atA [.int .i64 t.kind, .int .i64 t.dev, .int .i64 t.at_, .int .i64 t.txg] [_] hst rfl rfl, ?_⟩))
                have hX := hst.drew
                clear hst
                refine wp_region_held_drew (S := (fun w' => (loadVarH 22 ⟨g2, 1, none⟩).run Try.prog w' = .ok (.slice (some ⟨lb, lo, none⟩) nr cr) w' ∧ (loadVarH 22 ⟨g3, 1, none⟩).run Try.prog w' = .ok (.slice (some ⟨lb2, lo2, none⟩) nr cr') w' ∧ (loadVarH 51 ⟨lb, lo + j * 44, none⟩).run Try.prog w' = .ok (.agg (cellsR x).toArray) w' ∧ (loadVarH 51 ⟨lb2, lo2 + j * 44, none⟩).run Try.prog w' = .ok (.agg (cellsR y).toArray) w')) (by kernel_rfl) (by exact ⟨ldS [_] hX rfl, ldS [] hX rfl, ldOA hX HLX.out HRX.out, ldOA hX HLY.out HRY.out⟩) (fun hHeld => ?_)
                refine tk 0 42 ?_
                (try simp only [Act.put, List.setIfInBounds_toArray, List.set_cons_zero, List.set_cons_succ])
                refine tk 2 44 ?_
                (try simp only [Act.put, List.setIfInBounds_toArray, List.set_cons_zero, List.set_cons_succ])
                refine tk 5 47 ?_
                (try simp only [Act.put, List.setIfInBounds_toArray, List.set_cons_zero, List.set_cons_succ])
                refine tk 7 49 ?_
                (try simp only [Act.put, List.setIfInBounds_toArray, List.set_cons_zero, List.set_cons_succ])
                refine tk 1 43 ?_
                (try simp only [Act.put, List.setIfInBounds_toArray, List.set_cons_zero, List.set_cons_succ])
                refine tk 6 48 ?_
                (try simp only [Act.put, List.setIfInBounds_toArray, List.set_cons_zero, List.set_cons_succ])
                refine tk 3 45 ?_
                (try simp only [Act.put, List.setIfInBounds_toArray, List.set_cons_zero, List.set_cons_succ])
                refine tk 8 50 ?_
                (try simp only [Act.put, List.setIfInBounds_toArray, List.set_cons_zero, List.set_cons_succ])
                refine tk 4 46 ?_
                (try simp only [Act.put, List.setIfInBounds_toArray, List.set_cons_zero, List.set_cons_succ])
                refine tk 9 51 ?_
                (try simp only [Act.put, List.setIfInBounds_toArray, List.set_cons_zero, List.set_cons_succ])
                refine wpAnyH_ready (rs := [10]) (by kernel_rfl) (by simp) ?_
                refine (AllReadyH.cons (o := ⟨some 52, _, _, _, _, _⟩) rfl (fun K hK => ?_) AllReadyH.nil)
                rw [if_pos (by rfl)]
                go_simp
                go_at_call 23
                refine (kitRec_any x y _ (RC.In.old hX.nil HIX.out) (RC.In.old hX.nil HIY.out)).mono ?_
                rw [← HQ.out]
                rintro _ w9 ⟨rfl, h4⟩
                have hA6 := St.call0 hX h4
                clear h4
                refine hK.out _ _ ?_ (fun hHeld => ?_)
                · exact ⟨ldS [_] hA6 rfl, ldS [] hA6 rfl, ldOA hA6 HLX.out HRX.out, ldOA hA6 HLY.out HRY.out⟩
                clear hK K
                (try simp only [Act.put, List.setIfInBounds_toArray, List.set_cons_zero, List.set_cons_succ])
                refine tk 11 53 ?_
                (try simp only [Act.put, List.setIfInBounds_toArray, List.set_cons_zero, List.set_cons_succ])
                refine wpAnyH_done (by kernel_rfl) ?_ _
                clear hHeld
                go_wp2_with (first | go_big_skip | go_big_guard | fail)
                go_roundw
                case rel => exact ⟨j + 1, by omega, rfl, hA6, hid (fun i a b hi ha hb => by
                  by_cases e : i = j
                  · subst e
                    rw [HX.out] at ha; rw [HY.out] at hb
                    cases ha; cases hb
                    exact HQ.out.symm
                  · exact HP.out i a b (by omega) ha hb)⟩
                case measure => simp [intOf]; omega
            · have e1 : decide ((j : Int) < (nr : Int)) = false := decide_eq_false (by omega)
              obtain rfl : j = nr := by omega
              have H4 := hid (recs_all HT.out.eq HU.out.eq HT.out.len HU.out.len HP.out)
              clear HP
              go_wp2_with (first | go_big_skip | go_big_guard | (refine wl_loadE rfl rfl rfl ?_; first | refine ⟨_, Loads.at [] hst rfl, ?_⟩ | refine ⟨_, Loads.at [_] hst rfl, ?_⟩ | refine ⟨_, Loads.atA [.int .i64 u.kind, .int .i64 u.dev, .int .i64 u.at_, .int .i64 u.txg] [] hst rfl rfl, ?_⟩ | refine ⟨_, Loads.atA [.int .i64 t.kind, .int .i64 t.dev, .int .i64 t.at_, .int .i64 t.txg] [_] hst rfl rfl, ?_⟩))
              go_ret
              exact ⟨by rw [HE.out, TC.same0 H12.out.1 H12.out.2.1 H12.out.2.2 H4.out]; rfl, hst.nil⟩
      · have d5 : ((nr : Int) != (nr' : Int)) = true := by rw [bne_iff_ne]; omega
        have hv0 := TC.same4 (t := t) (u := u) (recsB_len (by rw [HT.out.len, HU.out.len]; exact hnn))
        have HV := hid hv0
        clear hv0 hnn
        have hv : E = false := by rw [HE.out]; exact HV.out
        rw [hv]
        clear hv
        go_enter Try.func21, Try.ntmps21
        go_wp2_with (first | go_big_skip | go_big_guard | (refine wl_boxA hst0 rfl rfl rfl ?_; intro g2 w1 hst1; clear hst0) | (refine wl_boxA hst1 rfl rfl rfl ?_; intro g3 w2 hst; clear hst1) | (refine wl_loadE rfl rfl rfl ?_; first | refine ⟨_, Loads.at [] hst rfl, ?_⟩ | refine ⟨_, Loads.at [_] hst rfl, ?_⟩ | refine ⟨_, Loads.atA [.int .i64 u.kind, .int .i64 u.dev, .int .i64 u.at_, .int .i64 u.txg] [] hst rfl rfl, ?_⟩ | refine ⟨_, Loads.atA [.int .i64 t.kind, .int .i64 t.dev, .int .i64 t.at_, .int .i64 t.txg] [_] hst rfl rfl, ?_⟩))
        go_ret
        exact ⟨rfl, hst.nil⟩
end Go.Proofs.Ytifajcblbedcoaa
namespace Go.Proofs.Ytifajcblbedcoaa
set_option linter.unusedVariables false
set_option linter.unusedSimpArgs false
open Go.RowKit Hp
attribute [local irreducible] Go.Calls Go.wpList
set_option maxRecDepth 100000
set_option maxHeartbeats 8000000
attribute [local go_sem ↓] heldInt heldInts heldCur
theorem bldT3 (z a b c d : Int) (ao : Option Addr) (n k : Nat) : Try.prog.built 27 [(0, .int .i64 z), (2, .agg #[.int .i64 a, .int .i64 b, .int .i64 c, .int .i64 d]), (3, .slice ao n k)] = some #[.int .i64 z, .slice none 0 0, .int .i64 a, .int .i64 b, .int .i64 c, .int .i64 d, .slice ao n k] := by kernel_rfl
theorem put_root (x : Value × RC) (hL : L32 x.2.S) (v : Value) : putAt (cellsR x) 4 (PV.cells ((x.2.pv x.1).re v)) = cellsR (v, x.2) :=
  xC_put4 (p := x.2.pv x.1) (q := (x.2.pv x.1).re v) hL hL
theorem row_sliceC {w0 w : World} {M : List Nat} (L1 : List HA) {L2 : List HA} {v : Value} {T : TypeId} {sz n : Nat} {xs : List Value} (h : St w0 M w (L1 ++ .row v T sz n xs :: L2)) : ∃ ao c, v = .slice ao n c ∧ n ≤ c ∧ c ≤ 9223372036854775807 := by
  obtain ⟨ao, c, e, h1, h2, _⟩ := row_form h (List.mem_append.2 (.inr (.head _)))
  exact ⟨ao, c, e, h1, h2⟩
theorem results_cellC {fn : Func} {p : Tmp} {ty : TypeId} {tmps : Array Value} {P : Program} {w : World} {A : Addr} {v : Value} (h : fn.results = #[.cell p ty]) (hp : tmps.getD p undef = .pointer (some A)) (hl : Loads P w ty A v) :
    (results fn tmps).run P w = .ok v w := by
  have hl' : (loadVar ty A).run P w = .ok v w := hl
  have hp' : tmps[p]?.getD undef = .pointer (some A) := by simpa using hp
  simp [results, h, hp', asAddr, hl', Sem.run_bind]
end Go.Proofs.Ytifajcblbedcoaa
namespace Go.Proofs.Ytifajcblbedcoaa
set_option linter.unusedVariables false
set_option linter.unusedSimpArgs false
open Go.RowKit Hp
attribute [local irreducible] Go.Calls Go.wpList
set_option maxRecDepth 100000
set_option maxHeartbeats 8000000
def overR : List Value := xC (-7) [111, 118, 101, 114] 0 0 zP 0 0 0 0 0
theorem bldOver : Try.prog.built 51 [(0, .int .i64 (-7)), (1, .string ⟨#[111, 118, 101, 114]⟩)] = some overR.toArray := by kernel_rfl
theorem overR_len : overR.length = 44 := rfl
theorem overR_ones : overR.all (·.oneCell') = true := rfl
def rowOf (E : TypeId) (x : Value × RC) : HA := .row x.1 E 2 x.2.l.length (addrsV x.2.l)
theorem rootRows_perm (E : TypeId) (xs : List (Value × RC)) : (rootRows E xs).Perm (xs.map (rowOf E)) := by
  unfold rootRows
  exact (List.reverse_perm xs).map _
theorem drop_recs {xs : List (Value × RC)} {zs : List Value} {j : Nat} {x : Value × RC} (hx : xs[j]? = some x) (hL : (cellsR x).length = 44) (h : zs.drop (j * 44) = recsV (xs.drop j)) : zs[j * 44 + 4]? = some x.1 ∧ zs.drop ((j + 1) * 44) = recsV (xs.drop (j + 1)) ∧ xs.drop j = x :: xs.drop (j + 1) := by
  have hd : xs.drop j = x :: xs.drop (j + 1) := by
    obtain ⟨hlt, hg⟩ := List.getElem?_eq_some_iff.1 hx
    rw [List.drop_eq_getElem_cons hlt, hg]
  have hr : recsV (xs.drop j) = cellsR x ++ recsV (xs.drop (j + 1)) := by rw [hd]; rfl
  refine ⟨?_, ?_, hd⟩
  · rw [← List.getElem?_drop, h, hr, List.getElem?_append_left (by omega)]
    rfl
  · rw [show (j + 1) * 44 = j * 44 + 44 by omega, ← List.drop_drop, h, hr, List.drop_left' hL]
end Go.Proofs.Ytifajcblbedcoaa
namespace Go.Proofs.Ytifajcblbedcoaa
set_option linter.unusedVariables false
set_option linter.unusedSimpArgs false
open Go.RowKit Hp
attribute [local irreducible] Go.Calls Go.wpList
set_option maxRecDepth 100000
set_option maxHeartbeats 8000000
attribute [local go_sem ↓] heldInt heldInts heldRecs heldRec heldStr heldTab
/-- A table of one's own: its cells at g, its records, its lives, each record's addresses. -/
def TP (g : Nat) (t : TC) (rv lv : Value) (xs : List (Value × RC)) (R : List HA) : List HA := .blk g 27 (tabC t rv lv) :: .row rv 51 44 xs.length (recsV xs) :: .row lv 3 1 t.lives.length (numsV t.lives) :: (xs.map rootH ++ R)
structure Okx (xs : List (Value × RC)) (t : TC) : Prop where
  eq : xs.map (·.2) = t.recs
  ok : ∀ x ∈ xs, L32 x.2.S ∧ x.2.name.length ≤ 1000000
theorem Okx.own {xs : List (Value × RC)} {t : TC} (h : Okx xs t) (y : HA) (R : List HA) : OwnX (y :: (xs.map rootH ++ R)) xs := fun x hx => ⟨.tail _ (List.mem_append_left _ (List.mem_map_of_mem hx)), h.ok x hx⟩
theorem Okx.len {xs : List (Value × RC)} {t : TC} (h : Okx xs t) : xs.length = t.recs.length := by rw [← h.eq, List.length_map]
theorem RC.Bd.rootLen {r : RC} (h : r.Bd) : r.l.length ≤ 3 := (check_bd h.root).1
/-- What a function value tells, and leaves. -/
def DoesPost (g : Nat) (al : Option Addr) (cl : Nat) (w : World) (t : TC) (r : TR) (R : List HA) (e : Ending) (w' : World) : Prop :=
  e = .returned (.int .i64 r.1) ∧ ((r.1 == 0) = true → ∃ rv xs', Okx xs' r.2 ∧ St w [] w' (TP g r.2 rv (.slice al t.lives.length cl) xs' R) ∧ r.2.lives = t.lives) ∧ ((r.1 == 0) = false → St w [] w' R)
/-- What a function value does to a table of one's own. -/
def Does (F : FuncId) (caps : Array Value) (w : World) (t : TC) (r : TR) : Prop :=
  ∀ (g : Nat) (ao : Option Addr) (c : Nat) (al : Option Addr) (cl : Nat) (xs : List (Value × RC)) (R : List HA) (w1 : World), Okx xs t → St w [] w1 (TP g t (.slice ao xs.length c) (.slice al t.lives.length cl) xs R) →
    Calls Try.prog F (#[.pointer (some ⟨g, 0, none⟩)] ++ caps) w1 (DoesPost g al cl w t r R)
/-- What a call tells. -/
def TabRet (r : TR) (w : World) (e : Ending) (w' : World) : Prop :=
  ∃ rv lv xs, e = .returned (.tuple #[.agg (tabC r.2 rv lv).toArray, .int .i64 r.1]) ∧ Okx xs r.2 ∧ St w [] w' (.row rv 51 44 xs.length (recsV xs) :: .row lv 3 1 r.2.lives.length (numsV r.2.lives) :: xs.map rootH)
theorem tabRet_bad {w w' : World} {L : List HA} (h : St w [] w' L) (z : Int) : TabRet (badR z) w (.returned (.tuple #[.agg tab0.toArray, .int .i64 z])) w' :=
  ⟨.slice none 0 0, .slice none 0 0, [], rfl, ⟨rfl, fun _ h => by cases h⟩, St.nilR _ 44 (St.nilR _ 1 h.nil)⟩
theorem perm_owned {a b c d : HA} {R R' : List HA} (h : R.Perm R') : ((a :: R) ++ [b, c, d]).Perm (d :: a :: b :: (R' ++ [c])) := by
  have h1 : (R ++ [b, c, d]).Perm (b :: (R' ++ [c, d])) := (h.append_right _).trans List.perm_middle
  have h2 : (R' ++ [c, d]).Perm (d :: (R' ++ [c])) := by
    have e : R' ++ [c, d] = (R' ++ [c]) ++ [d] := by simp
    rw [e]
    exact List.perm_append_singleton _ _
  have h3 : (a :: (R ++ [b, c, d])).Perm (a :: b :: d :: (R' ++ [c])) := .cons _ (h1.trans (.cons _ h2))
  exact h3.trans ((List.Perm.cons _ (.swap _ _ _)).trans (.swap _ _ _))
theorem results_cellR {fn : Func} {p q : Tmp} {ty : TypeId} {tmps : Array Value} {P : Program} {w : World} {A : Addr} {v u : Value} (h : fn.results = #[.cell p ty, .tmp q]) (hp : tmps.getD p undef = .pointer (some A)) (hq : tmps.getD q undef = u) (hl : Loads P w ty A v) :
    (results fn tmps).run P w = .ok (.tuple #[v, u]) w := by
  have hl' : (loadVar ty A).run P w = .ok v w := hl
  have hp' : tmps[p]?.getD undef = .pointer (some A) := by simpa using hp
  have hq' : tmps[q]?.getD undef = u := by simpa using hq
  simp [results, h, hp', hq', asAddr, hl', Sem.run_bind]
theorem owned_any (F : FuncId) (caps : Array Value) (hF : ∀ (a : Array Value) (w : World), (callFunc F a).run Try.prog w = .ok (.enter F a) w) (t : TC) (ar al : Option Addr) (nr cr nl cl : Nat) (xs : List (Value × RC)) (w : World) (ht : TabIn w t ar nr cr al nl cl xs) (r : TR) (hd : t.ok = true → Does F caps w t r) :
    Calls Try.prog 24 #[.agg (tabC t (.slice ar nr cr) (.slice al nl cl)).toArray, .func (.func F) #[] caps] w (TabRet (opR t r) w) := by
  have hst0 := St.refl w
  have HT := hid ht
  have HD := hid hd
  have b1 := ht.br
  have b2 := ht.bl
  have b3 := ht.len
  have b4 := ht.ln
  obtain ⟨Q, hQ⟩ : ∃ Q, Q = opR t r := ⟨_, rfl⟩
  rw [← hQ]
  have HQ := hid hQ
  clear ht hd hQ
  cases hok : t.ok with
  | false =>
    have HE := hid (err_no hok)
    have HR := hid (show Q = badR 2 by rw [HQ.out]; unfold opR; rw [hok]; rfl)
    clear hok
    go_enter Try.func24, Try.ntmps24
    go_wp2_with (first | go_big_skip | go_big_guard | (refine wl_boxA hst0 rfl rfl rfl ?_; intro g w1 hst1; clear hst0) | (refine wl_alloc hst1 rfl rfl ?_; intro g4 w2 hst; clear hst1) | (refine wl_loadE rfl rfl rfl ?_; first | refine ⟨_, Loads.atA (tabC t (.slice ar nr cr) (.slice al nl cl)) [_] hst rfl rfl, ?_⟩ | refine ⟨_, Loads.at [_] hst rfl, ?_⟩ | refine ⟨_, Loads.at [_, _] hA2 rfl, ?_⟩ | refine ⟨_, Loads.atA (tabC u (.slice a9 xs9.length c9) (.slice a2 nl c2)) [] hB1 rfl rfl, ?_⟩) | (go_at_call 58; refine (check12_any t ar al nr cr nl cl xs _ (HT.out.R.old hst.nil) HT.out.eq (by omega) (Rd.old hst.nil HT.out.L) HT.out.ln (by omega)).mono ?_; rw [HE.out]; rintro _ w9 ⟨rfl, h4⟩; replace hst := St.call0 hst h4; clear h4) | (refine wl_build0 rfl rfl ?_) | (refine wl_storeA [] hst rfl rfl rfl rfl rfl rfl rfl ?_; intro w7 hst2; clear hst))
    have hl := Loads.atA (P := Try.prog) (off := 0) (T := 27) tab0 [] hst2 rfl rfl
    refine bodyPost_ret (results_cellR rfl rfl rfl hl) rfl ?_
    rw [HR.out]
    exact tabRet_bad hst2 2
  | true =>
    have HE := hid (err_yes hok)
    have hbd := ok_bd hok
    have HDD := hid (HD.out hok)
    have b5 := hbd.many
    have b6 := hbd.lives
    have HR := hid (show Q = if r.1 == 0 then r else badR r.1 by rw [HQ.out]; unfold opR; rw [hok]; rfl)
    have HRL := hid (show ∀ x ∈ xs, x.2.l.length ≤ 100000 ∧ x.2.name.length ≤ 1000000 from fun x hx => by
      have hx2 : x.2 ∈ t.recs := by rw [← HT.out.eq]; exact List.mem_map_of_mem hx
      have q1 := (hbd.recs x.2 hx2).rootLen
      have q2 := (hbd.recs x.2 hx2).name
      omega)
    clear hok hbd HD HQ
    obtain ⟨⟨z, u⟩, hru⟩ : ∃ q, q = r := ⟨_, rfl⟩
    subst hru
    have HRR := HR
    cases hz : (z == 0)
    · have d1 : (z != 0) = !(z == 0) := rfl
      rw [hz] at d1
      have HZ := hid hz
      clear hz
      go_enter Try.func24, Try.ntmps24
      go_wp2_with (first | go_big_skip | go_big_guard | (refine wl_boxA hst0 rfl rfl rfl ?_; intro g w1 hst1; clear hst0) | (refine wl_alloc hst1 rfl rfl ?_; intro g4 w2 hst; clear hst1) | (refine wl_loadE rfl rfl rfl ?_; first | refine ⟨_, Loads.atA (tabC t (.slice ar nr cr) (.slice al nl cl)) [_] hst rfl rfl, ?_⟩ | refine ⟨_, Loads.at [_] hst rfl, ?_⟩ | refine ⟨_, Loads.at [_, _] hA2 rfl, ?_⟩ | refine ⟨_, Loads.atA (tabC u (.slice a9 xs9.length c9) (.slice a2 nl c2)) [] hB1 rfl rfl, ?_⟩) | (go_at_call 58; refine (check12_any t ar al nr cr nl cl xs _ (HT.out.R.old hst.nil) HT.out.eq (by omega) (Rd.old hst.nil HT.out.L) HT.out.ln (by omega)).mono ?_; rw [HE.out]; rintro _ w9 ⟨rfl, h4⟩; replace hst := St.call0 hst h4; clear h4) | (go_at_call 59; refine (cloneI_any al nl cl _ _ (Rd.old hst HT.out.L) (ones_numsV _) (by omega)).mono ?_; rintro _ w9 ⟨v9, rfl, h4⟩; have hA1 := St.call hst h4; clear h4 hst; obtain ⟨a2, c2, rfl, _, _⟩ := rowS [] hA1) | (refine wl_store [_, _] hA1 rfl rfl rfl (off := 6) (v := .slice a2 nl c2) rfl rfl rfl (by show (6 : Nat) + 1 ≤ 7; decide) ?_; intro w6 h4; have hA2 : St w [] w6 (.row (.slice a2 nl c2) 3 1 nl (numsV t.lives) :: .blk g4 27 tab0 :: .blk g 27 (tabC t (.slice ar nr cr) (.slice a2 nl c2)) :: []) := h4; clear h4 hA1) | (go_at_call 60; refine (each_any ar nr cr xs _ (HT.out.R.old hA2.nil) (by omega) HRL.out).mono ?_; rintro _ w9 ⟨rv9, ys, rfl, hy9, ho9, h4⟩; have hA3 := St.call hA2 h4; clear h4 hA2; obtain ⟨a3, c3, rfl, _, _⟩ := rowS [] hA3; have HYE : Hid (ys.map (·.2) = t.recs) := hid (by rw [hy9]; exact HT.out.eq); have HYO := hid ho9; clear hy9 ho9; have hA4 : St w [] w9 (.blk g 27 (tabC t (.slice ar nr cr) (.slice a2 nl c2)) :: .row (.slice a3 nr c3) 51 44 nr (recsV ys) :: .row (.slice a2 nl c2) 3 1 nl (numsV t.lives) :: (ys.map rootH ++ [.blk g4 27 tab0])) := St.perm hA3 (perm_owned (rootRows_perm _ ys)); clear hA3) | (refine wl_store [] hA4 rfl rfl rfl (off := 1) (v := .slice a3 nr c3) rfl rfl rfl (by show (1 : Nat) + 1 ≤ 7; decide) ?_; intro w7 h4; have hB0 : St w [] w7 (TP g t (.slice a3 ys.length c3) (.slice a2 t.lives.length c2) ys [.blk g4 27 tab0]) := (by have q1 : ys.length = nr := (by rw [← List.length_map (f := fun x : Value × RC => x.2), HYE.out]; exact b3); unfold TP; rw [q1, b4]; exact h4); clear h4 hA4) | (refine (HDD.out g a3 c3 a2 c2 ys [.blk g4 27 tab0] _ ⟨HYE.out, HYO.out⟩ hB0).mono ?_; rintro _ w8 ⟨rfl, hgood, hbad⟩; have hC1 := hbad HZ.out; clear hgood hbad hB0) | (refine wl_build0 rfl rfl ?_) | (refine wl_storeA [] hC1 rfl rfl rfl rfl rfl rfl rfl ?_; intro w7 hC2; clear hC1))
      have hl := Loads.atA (P := Try.prog) (off := 0) (T := 27) tab0 [] hC2 rfl rfl
      refine bodyPost_ret (results_cellR rfl rfl rfl hl) rfl ?_
      have hq := HR.out
      rw [HZ.out] at hq
      rw [hq]
      exact tabRet_bad hC2 z
    · have d1 : (z != 0) = !(z == 0) := rfl
      rw [hz] at d1
      have HZ := hid hz
      clear hz
      go_enter Try.func24, Try.ntmps24
      go_wp2_with (first | go_big_skip | go_big_guard | (refine wl_boxA hst0 rfl rfl rfl ?_; intro g w1 hst1; clear hst0) | (refine wl_alloc hst1 rfl rfl ?_; intro g4 w2 hst; clear hst1) | (refine wl_loadE rfl rfl rfl ?_; first | refine ⟨_, Loads.atA (tabC t (.slice ar nr cr) (.slice al nl cl)) [_] hst rfl rfl, ?_⟩ | refine ⟨_, Loads.at [_] hst rfl, ?_⟩ | refine ⟨_, Loads.at [_, _] hA2 rfl, ?_⟩ | refine ⟨_, Loads.atA (tabC u (.slice a9 xs9.length c9) (.slice a2 nl c2)) [] hB1 rfl rfl, ?_⟩) | (go_at_call 58; refine (check12_any t ar al nr cr nl cl xs _ (HT.out.R.old hst.nil) HT.out.eq (by omega) (Rd.old hst.nil HT.out.L) HT.out.ln (by omega)).mono ?_; rw [HE.out]; rintro _ w9 ⟨rfl, h4⟩; replace hst := St.call0 hst h4; clear h4) | (go_at_call 59; refine (cloneI_any al nl cl _ _ (Rd.old hst HT.out.L) (ones_numsV _) (by omega)).mono ?_; rintro _ w9 ⟨v9, rfl, h4⟩; have hA1 := St.call hst h4; clear h4 hst; obtain ⟨a2, c2, rfl, _, _⟩ := rowS [] hA1) | (refine wl_store [_, _] hA1 rfl rfl rfl (off := 6) (v := .slice a2 nl c2) rfl rfl rfl (by show (6 : Nat) + 1 ≤ 7; decide) ?_; intro w6 h4; have hA2 : St w [] w6 (.row (.slice a2 nl c2) 3 1 nl (numsV t.lives) :: .blk g4 27 tab0 :: .blk g 27 (tabC t (.slice ar nr cr) (.slice a2 nl c2)) :: []) := h4; clear h4 hA1) | (go_at_call 60; refine (each_any ar nr cr xs _ (HT.out.R.old hA2.nil) (by omega) HRL.out).mono ?_; rintro _ w9 ⟨rv9, ys, rfl, hy9, ho9, h4⟩; have hA3 := St.call hA2 h4; clear h4 hA2; obtain ⟨a3, c3, rfl, _, _⟩ := rowS [] hA3; have HYE : Hid (ys.map (·.2) = t.recs) := hid (by rw [hy9]; exact HT.out.eq); have HYO := hid ho9; clear hy9 ho9; have hA4 : St w [] w9 (.blk g 27 (tabC t (.slice ar nr cr) (.slice a2 nl c2)) :: .row (.slice a3 nr c3) 51 44 nr (recsV ys) :: .row (.slice a2 nl c2) 3 1 nl (numsV t.lives) :: (ys.map rootH ++ [.blk g4 27 tab0])) := St.perm hA3 (perm_owned (rootRows_perm _ ys)); clear hA3) | (refine wl_store [] hA4 rfl rfl rfl (off := 1) (v := .slice a3 nr c3) rfl rfl rfl (by show (1 : Nat) + 1 ≤ 7; decide) ?_; intro w7 h4; have hB0 : St w [] w7 (TP g t (.slice a3 ys.length c3) (.slice a2 t.lives.length c2) ys [.blk g4 27 tab0]) := (by have q1 : ys.length = nr := (by rw [← List.length_map (f := fun x : Value × RC => x.2), HYE.out]; exact b3); unfold TP; rw [q1, b4]; exact h4); clear h4 hA4) | (refine (HDD.out g a3 c3 a2 c2 ys [.blk g4 27 tab0] _ ⟨HYE.out, HYO.out⟩ hB0).mono ?_; rintro _ w8 ⟨rfl, hgood, hbad⟩; obtain ⟨rv9, xs9, hok9, hB1, hlv9⟩ := hgood HZ.out; clear hgood hbad hB0; rw [b4] at hB1; obtain ⟨a9, c9, rfl, _, _⟩ := rowS [_] hB1; have HOK := hid hok9; have HLV := hid hlv9; clear hok9 hlv9) | (refine wl_build0 rfl rfl ?_) | (refine wl_storeA (_ :: _ :: _ :: List.map rootH xs9) hB1 rfl rfl rfl rfl (vs := tabC u (.slice a9 xs9.length c9) (.slice a2 nl c2)) rfl rfl rfl ?_; intro w7 hB2; clear hB1))
      have hl := Loads.atA (P := Try.prog) (off := 0) (T := 27) (tabC u (.slice a9 xs9.length c9) (.slice a2 nl c2)) (_ :: _ :: _ :: List.map rootH xs9) hB2 rfl rfl
      refine bodyPost_ret (results_cellR rfl rfl rfl hl) rfl ?_
      have hq := HR.out
      rw [HZ.out] at hq
      have hz0 : z = 0 := by simpa using HZ.out
      subst hz0
      rw [hq]
      exact ⟨_, _, xs9, rfl, HOK.out, St.sub hB2 (.cons _ (.cons_cons _ (.cons_cons _ (List.sublist_append_left _ _))))⟩
end Go.Proofs.Ytifajcblbedcoaa
