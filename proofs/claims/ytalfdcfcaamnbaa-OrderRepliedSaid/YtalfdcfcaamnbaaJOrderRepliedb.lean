import Derived.Test.YtalfdcfcaamnbaaO1
import Derived.Test.YtalfdcfcaamnbaaJOrderReplieda
import Derived.Test.YtalfdcfcaamnbaaO3
import Derived.Test.YtalfdcfcaamnbaaKB
namespace Go.Proofs.Ytalfdcfcaamnbaa
set_option linter.unusedVariables false
set_option linter.unusedSimpArgs false
open Go.RowKit Hp
attribute [local irreducible] Go.Calls
set_option maxRecDepth 100000
set_option maxHeartbeats 4000000
/-- The place of the first that is so; -1: none. -/
def idxI {α : Type} (p : α → Bool) : List α → Int
  | [] => -1
  | x :: l => if p x then 0 else if idxI p l < 0 then -1 else idxI p l + 1
theorem idxI_any {α : Type} (p : α → Bool) (l : List α) : decide (idxI p l ≥ 0) = l.any p := by
  induction l with
  | nil => rfl
  | cons x l ih =>
    unfold idxI
    rw [List.any_cons, ← ih]
    by_cases hx : p x = true
    · simp [hx]
    · by_cases hi : idxI p l < 0
      · simp [hx, hi]
      · simp [hx, hi]
        omega
theorem idxI_first {α : Type} {p : α → Bool} {l : List α} {k : Nat} (hk : k < l.length) (hp : p l[k] = true) (h0 : ∀ j (h : j < k), p (l[j]'(by omega)) = false) : idxI p l = k := by
  induction l generalizing k with
  | nil => simp at hk
  | cons x l ih =>
    unfold idxI
    cases k with
    | zero => simp at hp; simp [hp]
    | succ k =>
      have hx := h0 0 (by omega)
      simp at hx
      have := ih (k := k) (by simpa using hk) (by simpa using hp) (fun j h => by have := h0 (j + 1) (by omega); simpa using this)
      simp [hx, this]
      omega
theorem idxI_none {α : Type} {p : α → Bool} {l : List α} (h0 : ∀ x ∈ l, p x = false) : idxI p l = -1 := by
  induction l with
  | nil => rfl
  | cons x l ih =>
    unfold idxI
    have := ih (fun y hy => h0 y (by simp [hy]))
    simp [h0 x (by simp), this]
theorem indexS_any {w0 : World} {M : List Nat} {L : List HA} (fn : Nat) (p : List UInt8 → Bool) (ao : Option Addr) (n c : Nat) (l : List (List UInt8)) (w : World) (hfn : ∀ (a : Array Value) (w : World), (callFunc fn a).run Try.prog w = .ok (.enter fn a) w)
    (hcl : ∀ (x : List UInt8) (w : World), x ∈ l → Calls Try.prog fn #[strV x] w fun e w' => e = .returned (.bool (p x)) ∧ St w [] w' []) (hl : Rd w (.slice ao n c) 1 n (strsV l)) (hn : l.length = n) (hb : n ≤ 1000000) :
    Calls Try.prog 62 #[.slice ao n c, .func (.func fn) #[] #[]] w fun e w' => e = .returned (.int .i64 (idxI p l)) ∧ St w [] w' [] := by
  have hst := St.refl w
  have HN := hid hn
  clear hn
  go_enter Try.func62, Try.ntmps62
  go_wp2_with (first | go_big_skip | go_big_guard | fail)
  go_loopw [8] (fun i wr => ∃ j : Nat, j ≤ n ∧ i = .int .i64 (j : Int) ∧ St w [] wr [] ∧ Hid (∀ x ∈ l.take j, p x = false)) (fun i _ => n - (intOf i).toNat)
  case atStart => exact ⟨0, Nat.zero_le _, rfl, hst, hid (by simp)⟩
  case round =>
    clear hst
    obtain ⟨j, hj, rfl, hst, HP⟩ := hrel
    by_cases hlt : j < n
    · have d1 : decide ((j : Int) < (n : Int)) = true := decide_eq_true (by omega)
      have z1 : IntKind.i64.wrap ((j : Int) + 1) = (j : Int) + 1 := IntWalk.i64_in _ (by omega)
      have hjl : j < l.length := by rw [HN.out]; exact hlt
      obtain ⟨x, hx⟩ : ∃ x, l[j]? = some x := ⟨_, List.getElem?_eq_getElem hjl⟩
      have HX := hid hx
      have hm := hid (List.mem_of_getElem? hx)
      obtain ⟨b, off, rfl, hr⟩ := Rd.at hl hlt
      have hcell := hid (hr j _ (strsV_get hx))
      obtain ⟨q, hq⟩ : ∃ q, q = p x := ⟨_, rfl⟩
      have HQ := hid hq
      clear hx hq hr hjl
      cases q
      · go_wp2_with (first | go_big_skip | go_big_guard | (refine wl_index rfl rfl rfl rfl hlt ?_) | (refine wl_loadE rfl rfl rfl ?_; refine ⟨_, Loads.old hst (by rw [Nat.mul_one]; exact hcell.out), ?_⟩) | (refine (hcl x _ hm.out).mono ?_; rw [← HQ.out]; rintro _ w9 ⟨rfl, h4⟩; have hst1 := St.call0 hst h4; clear h4 hst))
        go_roundw
        case rel =>
          refine ⟨j + 1, by omega, rfl, hst1, hid (fun y hy => ?_)⟩
          rw [List.take_add_one, HX.out] at hy
          rcases List.mem_append.1 hy with hy | hy
          · exact HP.out y hy
          · simp at hy
            rw [hy, ← HQ.out]
        case measure => simp [intOf]; omega
      · go_wp2_with (first | go_big_skip | go_big_guard | (refine wl_index rfl rfl rfl rfl hlt ?_) | (refine wl_loadE rfl rfl rfl ?_; refine ⟨_, Loads.old hst (by rw [Nat.mul_one]; exact hcell.out), ?_⟩) | (refine (hcl x _ hm.out).mono ?_; rw [← HQ.out]; rintro _ w9 ⟨rfl, h4⟩; have hst1 := St.call0 hst h4; clear h4 hst))
        go_ret
        refine ⟨?_, hst1⟩
        have hjl : j < l.length := by rw [HN.out]; exact hlt
        have e1 : l[j] = x := by
          have := HX.out
          rw [List.getElem?_eq_getElem hjl] at this
          exact Option.some.inj this
        have e2 : idxI p l = j := idxI_first hjl (by rw [e1, ← HQ.out]) (fun i hi => HP.out _ (by
          rw [List.mem_take_iff_getElem]
          exact ⟨i, by omega, rfl⟩))
        rw [e2]
        rfl
    · have d1 : decide ((j : Int) < (n : Int)) = false := decide_eq_false (by omega)
      go_wp2_with (first | go_big_skip | go_big_guard | fail)
      go_ret
      refine ⟨?_, hst⟩
      have e2 : idxI p l = -1 := idxI_none (fun y hy => HP.out y (by rw [List.take_of_length_le (by rw [HN.out]; omega)]; exact hy))
      rw [e2]
      rfl
theorem containsS_any {w0 : World} {M : List Nat} {L : List HA} (fn : Nat) (p : List UInt8 → Bool) (ao : Option Addr) (n c : Nat) (l : List (List UInt8)) (w : World) (hfn : ∀ (a : Array Value) (w : World), (callFunc fn a).run Try.prog w = .ok (.enter fn a) w)
    (hcl : ∀ (x : List UInt8) (w : World), x ∈ l → Calls Try.prog fn #[strV x] w fun e w' => e = .returned (.bool (p x)) ∧ St w [] w' []) (hl : Rd w (.slice ao n c) 1 n (strsV l)) (hn : l.length = n) (hb : n ≤ 1000000) :
    Calls Try.prog 41 #[.slice ao n c, .func (.func fn) #[] #[]] w fun e w' => e = .returned (.bool (l.any p)) ∧ St w [] w' [] := by
  have hst := St.refl w
  have HN := hid hn
  have HA := hid (idxI_any p l)
  clear hn
  go_enter Try.func41, Try.ntmps41
  go_wp2_with (first | go_big_skip | go_big_guard | (go_at_call 62; refine (indexS_any (w0 := w) (M := []) (L := []) fn p ao n c l _ hfn hcl (Rd.old hst hl) HN.out hb).mono ?_; rintro _ w9 ⟨rfl, h4⟩; have hst1 := St.call0 hst h4; clear h4 hst))
  go_ret
  refine ⟨?_, hst1⟩
  rw [← HA.out]
  rfl
theorem indexI_any {w0 : World} {M : List Nat} {L : List HA} (fn : Nat) (p : Int → Bool) (ao : Option Addr) (n c : Nat) (l : List (Int)) (w : World) (hfn : ∀ (a : Array Value) (w : World), (callFunc fn a).run Try.prog w = .ok (.enter fn a) w)
    (hcl : ∀ (x : Int) (w : World), x ∈ l → Calls Try.prog fn #[(fun x => Value.int .i64 x) x] w fun e w' => e = .returned (.bool (p x)) ∧ St w [] w' []) (hl : Rd w (.slice ao n c) 1 n (intsV l)) (hn : l.length = n) (hb : n ≤ 1000000) :
    Calls Try.prog 87 #[.slice ao n c, .func (.func fn) #[] #[]] w fun e w' => e = .returned (.int .i64 (idxI p l)) ∧ St w [] w' [] := by
  have hst := St.refl w
  have HN := hid hn
  clear hn
  go_enter Try.func87, Try.ntmps87
  go_wp2_with (first | go_big_skip | go_big_guard | fail)
  go_loopw [8] (fun i wr => ∃ j : Nat, j ≤ n ∧ i = .int .i64 (j : Int) ∧ St w [] wr [] ∧ Hid (∀ x ∈ l.take j, p x = false)) (fun i _ => n - (intOf i).toNat)
  case atStart => exact ⟨0, Nat.zero_le _, rfl, hst, hid (by simp)⟩
  case round =>
    clear hst
    obtain ⟨j, hj, rfl, hst, HP⟩ := hrel
    by_cases hlt : j < n
    · have d1 : decide ((j : Int) < (n : Int)) = true := decide_eq_true (by omega)
      have z1 : IntKind.i64.wrap ((j : Int) + 1) = (j : Int) + 1 := IntWalk.i64_in _ (by omega)
      have hjl : j < l.length := by rw [HN.out]; exact hlt
      obtain ⟨x, hx⟩ : ∃ x, l[j]? = some x := ⟨_, List.getElem?_eq_getElem hjl⟩
      have HX := hid hx
      have hm := hid (List.mem_of_getElem? hx)
      obtain ⟨b, off, rfl, hr⟩ := Rd.at hl hlt
      have hcell := hid (hr j _ (intsV_get hx))
      obtain ⟨q, hq⟩ : ∃ q, q = p x := ⟨_, rfl⟩
      have HQ := hid hq
      clear hx hq hr hjl
      cases q
      · go_wp2_with (first | go_big_skip | go_big_guard | (refine wl_index rfl rfl rfl rfl hlt ?_) | (refine wl_loadE rfl rfl rfl ?_; refine ⟨_, Loads.old hst (by rw [Nat.mul_one]; exact hcell.out), ?_⟩) | (refine (hcl x _ hm.out).mono ?_; rw [← HQ.out]; rintro _ w9 ⟨rfl, h4⟩; have hst1 := St.call0 hst h4; clear h4 hst))
        go_roundw
        case rel =>
          refine ⟨j + 1, by omega, rfl, hst1, hid (fun y hy => ?_)⟩
          rw [List.take_add_one, HX.out] at hy
          rcases List.mem_append.1 hy with hy | hy
          · exact HP.out y hy
          · simp at hy
            rw [hy, ← HQ.out]
        case measure => simp [intOf]; omega
      · go_wp2_with (first | go_big_skip | go_big_guard | (refine wl_index rfl rfl rfl rfl hlt ?_) | (refine wl_loadE rfl rfl rfl ?_; refine ⟨_, Loads.old hst (by rw [Nat.mul_one]; exact hcell.out), ?_⟩) | (refine (hcl x _ hm.out).mono ?_; rw [← HQ.out]; rintro _ w9 ⟨rfl, h4⟩; have hst1 := St.call0 hst h4; clear h4 hst))
        go_ret
        refine ⟨?_, hst1⟩
        have hjl : j < l.length := by rw [HN.out]; exact hlt
        have e1 : l[j] = x := by
          have := HX.out
          rw [List.getElem?_eq_getElem hjl] at this
          exact Option.some.inj this
        have e2 : idxI p l = j := idxI_first hjl (by rw [e1, ← HQ.out]) (fun i hi => HP.out _ (by
          rw [List.mem_take_iff_getElem]
          exact ⟨i, by omega, rfl⟩))
        rw [e2]
        rfl
    · have d1 : decide ((j : Int) < (n : Int)) = false := decide_eq_false (by omega)
      go_wp2_with (first | go_big_skip | go_big_guard | fail)
      go_ret
      refine ⟨?_, hst⟩
      have e2 : idxI p l = -1 := idxI_none (fun y hy => HP.out y (by rw [List.take_of_length_le (by rw [HN.out]; omega)]; exact hy))
      rw [e2]
      rfl
theorem containsI_any {w0 : World} {M : List Nat} {L : List HA} (fn : Nat) (p : Int → Bool) (ao : Option Addr) (n c : Nat) (l : List (Int)) (w : World) (hfn : ∀ (a : Array Value) (w : World), (callFunc fn a).run Try.prog w = .ok (.enter fn a) w)
    (hcl : ∀ (x : Int) (w : World), x ∈ l → Calls Try.prog fn #[(fun x => Value.int .i64 x) x] w fun e w' => e = .returned (.bool (p x)) ∧ St w [] w' []) (hl : Rd w (.slice ao n c) 1 n (intsV l)) (hn : l.length = n) (hb : n ≤ 1000000) :
    Calls Try.prog 68 #[.slice ao n c, .func (.func fn) #[] #[]] w fun e w' => e = .returned (.bool (l.any p)) ∧ St w [] w' [] := by
  have hst := St.refl w
  have HN := hid hn
  have HA := hid (idxI_any p l)
  clear hn
  go_enter Try.func68, Try.ntmps68
  go_wp2_with (first | go_big_skip | go_big_guard | (go_at_call 87; refine (indexI_any (w0 := w) (M := []) (L := []) fn p ao n c l _ hfn hcl (Rd.old hst hl) HN.out hb).mono ?_; rintro _ w9 ⟨rfl, h4⟩; have hst1 := St.call0 hst h4; clear h4 hst))
  go_ret
  refine ⟨?_, hst1⟩
  rw [← HA.out]
  rfl
end Go.Proofs.Ytalfdcfcaamnbaa
namespace Go.Proofs.Ytalfdcfcaamnbaa
set_option linter.unusedVariables false
set_option linter.unusedSimpArgs false
open Go.RowKit Hp
attribute [local irreducible] Go.Calls Go.wpList Hp.gvV Hp.gB Hp.gA Hp.bOr Hp.bAnd Hp.bNot us withinB
set_option maxRecDepth 100000
set_option maxHeartbeats 4000000
/-- An order. -/
structure OV where
  (op n m : Int)
  (name : List UInt8)
  (dest : List UInt8)
  (l : List (List UInt8))
  (b : List UInt8)
def OV.cells (o : OV) (lv bv : Value) : List Value := [.int .i64 o.op, strV o.name, strV o.dest, .int .i64 o.n, .int .i64 o.m, lv, bv]
def OV.oddA (o : OV) : Bool := ((((decide (o.op < 1) || decide (24 < o.op)) || !withinB o.n) || !withinB o.m) || decide (16 < (o.l.length : Int))) || decide (16384 < (o.b.length : Int))
def longB (s : List UInt8) : Bool := decide ((48 : Int) < (s.length : Int))
def OV.oddB (o : OV) : Bool := (longB o.name || longB o.dest) || o.l.any longB
def OV.oddC (o : OV) : Bool := (((((!(o.name == []) && !us o.op 0) || (!(o.dest == []) && !us o.op 1)) || ((o.n != 0) && !us o.op 2)) || ((o.m != 0) && !us o.op 3)) || (decide (0 < (o.l.length : Int)) && !us o.op 4)) || (decide (0 < (o.b.length : Int)) && !us o.op 5)
def OV.check (o : OV) : Int := if o.oddA then 2 else if o.oddB then 2 else if o.oddC then 2 else 0
theorem longB_any (s : List UInt8) (w : World) : Calls Try.prog 39 #[strV s] w fun e w' => e = .returned (.bool (longB s)) ∧ St w [] w' [] := long_any s w
attribute [local irreducible] longB
theorem check_any (o : OV) (al ab : Option Addr) (nl cl nb cb : Nat) (w : World) (hl : Rd w (.slice al nl cl) 1 nl (strsV o.l)) (hnl : o.l.length = nl) (hnb : o.b.length = nb) (hb : nl ≤ 1000000) :
    Calls Try.prog 15 #[.agg (o.cells (.slice al nl cl) (.slice ab nb cb)).toArray] w fun e w' => e = .returned (.int .i64 o.check) ∧ St w [] w' [] := by
  have hst0 := St.refl w
  have hA : OV.oddA o = ((((((decide (o.op < 1) || decide (24 < o.op)) || !withinB o.n) || !withinB o.m) || decide (16 < (nl : Int))) || decide (16384 < (nb : Int)))) := by unfold OV.oddA; rw [hnl, hnb]
  have hC : OV.oddC o = ((((((!(o.name == []) && !us o.op 0) || (!(o.dest == []) && !us o.op 1)) || ((o.n != 0) && !us o.op 2)) || ((o.m != 0) && !us o.op 3)) || (decide (0 < (nl : Int)) && !us o.op 4)) || (decide (0 < (nb : Int)) && !us o.op 5)) := by unfold OV.oddC; rw [hnl, hnb]
  have HA := hid hA
  have HC := hid hC
  have HLn := hid hnl
  clear hnl hnb hA hC
  show Calls Try.prog 15 #[.agg (List.toArray [.int .i64 o.op, strV o.name, strV o.dest, .int .i64 o.n, .int .i64 o.m, .slice al nl cl, .slice ab nb cb])] w _
  go_enter Try.func15, Try.ntmps15
  go_wp2_with (first | go_big_skip | (refine wl_boxA hst0 rfl rfl rfl ?_; intro g1 _ hst1; clear hst0) | (refine wl_loadE rfl rfl rfl ?_; first | refine ⟨_, Loads.at [] hst1 rfl, ?_⟩) | (go_at_call 17; refine (uses_any o.op _).mono ?_; rintro _ w9 ⟨rfl, h4⟩; have hst2 := St.call0 hst1 h4; clear h4 hst1) | (refine wl_alloc hst2 rfl rfl ?_; intro g3 _ hst3; clear hst2) | (refine wl_storeA [] hst3 rfl rfl rfl rfl rfl rfl rfl ?_; intro w6 hst; clear hst3) | (show wpList _ _ _ (Oper.mk _ (.fieldAddr _ _ _) _ _ _ (some _) :: _) _ _; refine wl_gfld1 rfl (by first | exact wanted_b rfl rfl | exact wanted_g rfl rfl) (by first | exact (fun hg => gvV_on hg) | exact (fun hg => gvV_gA hg) | exact (fun _ => rfl)) (by kernel_rfl) ?_; (try simp only [Act.put, List.setIfInBounds_toArray, List.set_cons_zero, List.set_cons_succ])) | (show wpList _ _ _ (Oper.mk _ (.load _ _) _ _ _ (some _) :: _) _ _; refine wl_gloadE rfl (by first | exact wanted_b rfl rfl | exact wanted_g rfl rfl) (by first | exact (fun hg => gvV_on hg) | exact (fun hg => gvV_gA hg) | exact (fun _ => rfl)) ?_; (first | refine ⟨_, Loads.at [_] hst rfl, ?_⟩ | refine ⟨_, Loads.at [] hst rfl, ?_⟩); (try simp only [Act.put, List.setIfInBounds_toArray, List.set_cons_zero, List.set_cons_succ]); (repeat ((first | (show wpList _ _ _ (Oper.mk _ (.move _) _ _ _ none :: _) _ _; refine wl_mv rfl rfl rfl ?_) | (show wpList _ _ _ (Oper.mk _ (.pick _ _ _) _ _ _ none :: _) _ _; (first | (refine wl_pickOr rfl rfl rfl rfl rfl ?_; intro q hq) | (refine wl_pickAnd rfl rfl rfl rfl rfl ?_; intro q hq))) | (show wpList _ _ _ (Oper.mk _ (.pick _ _ _) _ _ _ (some _) :: _) _ _; (first | (refine wl_gpickOr rfl (by first | exact wanted_b rfl rfl | exact wanted_g rfl rfl) rfl rfl rfl ?_; intro q hq) | (refine wl_gpickAnd rfl (by first | exact wanted_b rfl rfl | exact wanted_g rfl rfl) rfl rfl rfl ?_; intro q hq))) | (show wpList _ _ _ (Oper.mk _ (.move _) _ _ _ (some _) :: _) _ _; refine wl_gmove rfl (by first | exact wanted_b rfl rfl | exact wanted_g rfl rfl) (by first | exact (fun hg => gvV_on hg) | exact (fun hg => gvV_gA hg) | exact (fun _ => rfl)) ?_)); (try simp only [Act.put, List.setIfInBounds_toArray, List.set_cons_zero, List.set_cons_succ])))) | (show wpList _ _ _ (Oper.mk _ (.binOp _ 3 _ _ _) _ _ _ (some _) :: _) _ _; refine wl_gcmp rfl (by first | exact wanted_b rfl rfl | exact wanted_g rfl rfl) (by first | exact (fun hg => gvV_on hg) | exact (fun hg => gvV_gA hg) | exact (fun _ => rfl)) (by first | exact (fun hg => gvV_on hg) | exact (fun hg => gvV_gA hg) | exact (fun _ => rfl)) rfl ?_; (try simp only [Act.put, List.setIfInBounds_toArray, List.set_cons_zero, List.set_cons_succ]); (repeat ((first | (show wpList _ _ _ (Oper.mk _ (.move _) _ _ _ none :: _) _ _; refine wl_mv rfl rfl rfl ?_) | (show wpList _ _ _ (Oper.mk _ (.pick _ _ _) _ _ _ none :: _) _ _; (first | (refine wl_pickOr rfl rfl rfl rfl rfl ?_; intro q hq) | (refine wl_pickAnd rfl rfl rfl rfl rfl ?_; intro q hq))) | (show wpList _ _ _ (Oper.mk _ (.pick _ _ _) _ _ _ (some _) :: _) _ _; (first | (refine wl_gpickOr rfl (by first | exact wanted_b rfl rfl | exact wanted_g rfl rfl) rfl rfl rfl ?_; intro q hq) | (refine wl_gpickAnd rfl (by first | exact wanted_b rfl rfl | exact wanted_g rfl rfl) rfl rfl rfl ?_; intro q hq))) | (show wpList _ _ _ (Oper.mk _ (.move _) _ _ _ (some _) :: _) _ _; refine wl_gmove rfl (by first | exact wanted_b rfl rfl | exact wanted_g rfl rfl) (by first | exact (fun hg => gvV_on hg) | exact (fun hg => gvV_gA hg) | exact (fun _ => rfl)) ?_)); (try simp only [Act.put, List.setIfInBounds_toArray, List.set_cons_zero, List.set_cons_succ])))) | (show wpList _ _ _ (Oper.mk _ (.binOp .neq 9 _ _ _) _ _ _ (some _) :: _) _ _; refine wl_gneqS rfl (by first | exact wanted_b rfl rfl | exact wanted_g rfl rfl) (by first | exact (fun hg => gvV_on hg) | exact (fun hg => gvV_gA hg) | exact (fun _ => rfl)) (by first | exact (fun hg => gvV_on hg) | exact (fun hg => gvV_gA hg) | exact (fun _ => rfl)) ?_; (try simp only [Act.put, List.setIfInBounds_toArray, List.set_cons_zero, List.set_cons_succ]); (repeat ((first | (show wpList _ _ _ (Oper.mk _ (.move _) _ _ _ none :: _) _ _; refine wl_mv rfl rfl rfl ?_) | (show wpList _ _ _ (Oper.mk _ (.pick _ _ _) _ _ _ none :: _) _ _; (first | (refine wl_pickOr rfl rfl rfl rfl rfl ?_; intro q hq) | (refine wl_pickAnd rfl rfl rfl rfl rfl ?_; intro q hq))) | (show wpList _ _ _ (Oper.mk _ (.pick _ _ _) _ _ _ (some _) :: _) _ _; (first | (refine wl_gpickOr rfl (by first | exact wanted_b rfl rfl | exact wanted_g rfl rfl) rfl rfl rfl ?_; intro q hq) | (refine wl_gpickAnd rfl (by first | exact wanted_b rfl rfl | exact wanted_g rfl rfl) rfl rfl rfl ?_; intro q hq))) | (show wpList _ _ _ (Oper.mk _ (.move _) _ _ _ (some _) :: _) _ _; refine wl_gmove rfl (by first | exact wanted_b rfl rfl | exact wanted_g rfl rfl) (by first | exact (fun hg => gvV_on hg) | exact (fun hg => gvV_gA hg) | exact (fun _ => rfl)) ?_)); (try simp only [Act.put, List.setIfInBounds_toArray, List.set_cons_zero, List.set_cons_succ])))) | (show wpList _ _ _ (Oper.mk _ (.binOp .eql 9 _ _ _) _ _ _ (some _) :: _) _ _; refine wl_geqS rfl (by first | exact wanted_b rfl rfl | exact wanted_g rfl rfl) (by first | exact (fun hg => gvV_on hg) | exact (fun hg => gvV_gA hg) | exact (fun _ => rfl)) (by first | exact (fun hg => gvV_on hg) | exact (fun hg => gvV_gA hg) | exact (fun _ => rfl)) ?_; (try simp only [Act.put, List.setIfInBounds_toArray, List.set_cons_zero, List.set_cons_succ]); (repeat ((first | (show wpList _ _ _ (Oper.mk _ (.move _) _ _ _ none :: _) _ _; refine wl_mv rfl rfl rfl ?_) | (show wpList _ _ _ (Oper.mk _ (.pick _ _ _) _ _ _ none :: _) _ _; (first | (refine wl_pickOr rfl rfl rfl rfl rfl ?_; intro q hq) | (refine wl_pickAnd rfl rfl rfl rfl rfl ?_; intro q hq))) | (show wpList _ _ _ (Oper.mk _ (.pick _ _ _) _ _ _ (some _) :: _) _ _; (first | (refine wl_gpickOr rfl (by first | exact wanted_b rfl rfl | exact wanted_g rfl rfl) rfl rfl rfl ?_; intro q hq) | (refine wl_gpickAnd rfl (by first | exact wanted_b rfl rfl | exact wanted_g rfl rfl) rfl rfl rfl ?_; intro q hq))) | (show wpList _ _ _ (Oper.mk _ (.move _) _ _ _ (some _) :: _) _ _; refine wl_gmove rfl (by first | exact wanted_b rfl rfl | exact wanted_g rfl rfl) (by first | exact (fun hg => gvV_on hg) | exact (fun hg => gvV_gA hg) | exact (fun _ => rfl)) ?_)); (try simp only [Act.put, List.setIfInBounds_toArray, List.set_cons_zero, List.set_cons_succ])))) | (show wpList _ _ _ (Oper.mk _ (.binOp .neq 9 _ _ _) _ _ _ none :: _) _ _; refine wl_neqS rfl rfl rfl rfl ?_; (try simp only [Act.put, List.setIfInBounds_toArray, List.set_cons_zero, List.set_cons_succ]); (repeat ((first | (show wpList _ _ _ (Oper.mk _ (.move _) _ _ _ none :: _) _ _; refine wl_mv rfl rfl rfl ?_) | (show wpList _ _ _ (Oper.mk _ (.pick _ _ _) _ _ _ none :: _) _ _; (first | (refine wl_pickOr rfl rfl rfl rfl rfl ?_; intro q hq) | (refine wl_pickAnd rfl rfl rfl rfl rfl ?_; intro q hq))) | (show wpList _ _ _ (Oper.mk _ (.pick _ _ _) _ _ _ (some _) :: _) _ _; (first | (refine wl_gpickOr rfl (by first | exact wanted_b rfl rfl | exact wanted_g rfl rfl) rfl rfl rfl ?_; intro q hq) | (refine wl_gpickAnd rfl (by first | exact wanted_b rfl rfl | exact wanted_g rfl rfl) rfl rfl rfl ?_; intro q hq))) | (show wpList _ _ _ (Oper.mk _ (.move _) _ _ _ (some _) :: _) _ _; refine wl_gmove rfl (by first | exact wanted_b rfl rfl | exact wanted_g rfl rfl) (by first | exact (fun hg => gvV_on hg) | exact (fun hg => gvV_gA hg) | exact (fun _ => rfl)) ?_)); (try simp only [Act.put, List.setIfInBounds_toArray, List.set_cons_zero, List.set_cons_succ])))) | (show wpList _ _ _ (Oper.mk _ (.binOp .eql 9 _ _ _) _ _ _ none :: _) _ _; refine wl_eqS rfl rfl rfl rfl ?_; (try simp only [Act.put, List.setIfInBounds_toArray, List.set_cons_zero, List.set_cons_succ]); (repeat ((first | (show wpList _ _ _ (Oper.mk _ (.move _) _ _ _ none :: _) _ _; refine wl_mv rfl rfl rfl ?_) | (show wpList _ _ _ (Oper.mk _ (.pick _ _ _) _ _ _ none :: _) _ _; (first | (refine wl_pickOr rfl rfl rfl rfl rfl ?_; intro q hq) | (refine wl_pickAnd rfl rfl rfl rfl rfl ?_; intro q hq))) | (show wpList _ _ _ (Oper.mk _ (.pick _ _ _) _ _ _ (some _) :: _) _ _; (first | (refine wl_gpickOr rfl (by first | exact wanted_b rfl rfl | exact wanted_g rfl rfl) rfl rfl rfl ?_; intro q hq) | (refine wl_gpickAnd rfl (by first | exact wanted_b rfl rfl | exact wanted_g rfl rfl) rfl rfl rfl ?_; intro q hq))) | (show wpList _ _ _ (Oper.mk _ (.move _) _ _ _ (some _) :: _) _ _; refine wl_gmove rfl (by first | exact wanted_b rfl rfl | exact wanted_g rfl rfl) (by first | exact (fun hg => gvV_on hg) | exact (fun hg => gvV_gA hg) | exact (fun _ => rfl)) ?_)); (try simp only [Act.put, List.setIfInBounds_toArray, List.set_cons_zero, List.set_cons_succ])))) | (show wpList _ _ _ (Oper.mk _ (.call (Call.mk (.builtin .len) _ #[9])) _ _ _ (some _) :: _) _ _; refine wl_glenS rfl (by first | exact wanted_b rfl rfl | exact wanted_g rfl rfl) (by first | exact (fun hg => gvV_on hg) | exact (fun hg => gvV_gA hg) | exact (fun _ => rfl)) ?_; (try simp only [Act.put, List.setIfInBounds_toArray, List.set_cons_zero, List.set_cons_succ])) | (show wpList _ _ _ (Oper.mk _ (.call (Call.mk (.builtin .len) _ #[23])) _ _ _ (some _) :: _) _ _; refine wl_glen rfl (by first | exact wanted_b rfl rfl | exact wanted_g rfl rfl) (by first | exact (fun hg => gvV_on hg) | exact (fun hg => gvV_gA hg) | exact (fun _ => rfl)) ?_; (try simp only [Act.put, List.setIfInBounds_toArray, List.set_cons_zero, List.set_cons_succ])) | (show wpList _ _ _ (Oper.mk _ (.call (Call.mk (.builtin .len) _ #[22])) _ _ _ (some _) :: _) _ _; refine wl_glen rfl (by first | exact wanted_b rfl rfl | exact wanted_g rfl rfl) (by first | exact (fun hg => gvV_on hg) | exact (fun hg => gvV_gA hg) | exact (fun _ => rfl)) ?_; (try simp only [Act.put, List.setIfInBounds_toArray, List.set_cons_zero, List.set_cons_succ])) | (show wpList _ _ _ (Oper.mk _ (.unOp .not _ _) _ _ _ (some _) :: _) _ _; refine wl_gnot rfl (by first | exact wanted_b rfl rfl | exact wanted_g rfl rfl) (by first | exact (fun hg => gvV_on hg) | exact (fun hg => gvV_gA hg) | exact (fun _ => rfl)) ?_; (try simp only [Act.put, List.setIfInBounds_toArray, List.set_cons_zero, List.set_cons_succ]); (repeat ((first | (show wpList _ _ _ (Oper.mk _ (.move _) _ _ _ none :: _) _ _; refine wl_mv rfl rfl rfl ?_) | (show wpList _ _ _ (Oper.mk _ (.pick _ _ _) _ _ _ none :: _) _ _; (first | (refine wl_pickOr rfl rfl rfl rfl rfl ?_; intro q hq) | (refine wl_pickAnd rfl rfl rfl rfl rfl ?_; intro q hq))) | (show wpList _ _ _ (Oper.mk _ (.pick _ _ _) _ _ _ (some _) :: _) _ _; (first | (refine wl_gpickOr rfl (by first | exact wanted_b rfl rfl | exact wanted_g rfl rfl) rfl rfl rfl ?_; intro q hq) | (refine wl_gpickAnd rfl (by first | exact wanted_b rfl rfl | exact wanted_g rfl rfl) rfl rfl rfl ?_; intro q hq))) | (show wpList _ _ _ (Oper.mk _ (.move _) _ _ _ (some _) :: _) _ _; refine wl_gmove rfl (by first | exact wanted_b rfl rfl | exact wanted_g rfl rfl) (by first | exact (fun hg => gvV_on hg) | exact (fun hg => gvV_gA hg) | exact (fun _ => rfl)) ?_)); (try simp only [Act.put, List.setIfInBounds_toArray, List.set_cons_zero, List.set_cons_succ])))) | (show wpList _ _ _ (Oper.mk _ (.call (Call.mk (.value (.func 40)) _ _)) _ _ _ (some _) :: _) _ _; refine wl_gcall (v := .bool (withinB o.n)) hst (by first | exact wanted_b rfl rfl | exact wanted_g rfl rfl) ?_ ?_; (intro hg K hK; have Hg := hid hg; clear hg; go_simp; go_at_call 40; (try (conv => (arg 3; simp only [gvV_on Hg.out]))); refine (within_any o.n _).mono ?_; rintro _ w9 ⟨rfl, h4⟩; have hk := hK _ (St.call0 hst h4); simp only [Act.put, List.setIfInBounds_toArray, List.set_cons_zero, List.set_cons_succ] at hk; dsimp only; exact hk); (intro w5 hst5; replace hst := hst5; clear hst5; (try simp only [Act.put, List.setIfInBounds_toArray, List.set_cons_zero, List.set_cons_succ]); (repeat ((first | (show wpList _ _ _ (Oper.mk _ (.move _) _ _ _ none :: _) _ _; refine wl_mv rfl rfl rfl ?_) | (show wpList _ _ _ (Oper.mk _ (.pick _ _ _) _ _ _ none :: _) _ _; (first | (refine wl_pickOr rfl rfl rfl rfl rfl ?_; intro q hq) | (refine wl_pickAnd rfl rfl rfl rfl rfl ?_; intro q hq))) | (show wpList _ _ _ (Oper.mk _ (.pick _ _ _) _ _ _ (some _) :: _) _ _; (first | (refine wl_gpickOr rfl (by first | exact wanted_b rfl rfl | exact wanted_g rfl rfl) rfl rfl rfl ?_; intro q hq) | (refine wl_gpickAnd rfl (by first | exact wanted_b rfl rfl | exact wanted_g rfl rfl) rfl rfl rfl ?_; intro q hq))) | (show wpList _ _ _ (Oper.mk _ (.move _) _ _ _ (some _) :: _) _ _; refine wl_gmove rfl (by first | exact wanted_b rfl rfl | exact wanted_g rfl rfl) (by first | exact (fun hg => gvV_on hg) | exact (fun hg => gvV_gA hg) | exact (fun _ => rfl)) ?_)); (try simp only [Act.put, List.setIfInBounds_toArray, List.set_cons_zero, List.set_cons_succ]))))) | (show wpList _ _ _ (Oper.mk _ (.call (Call.mk (.value (.func 40)) _ _)) _ _ _ (some _) :: _) _ _; refine wl_gcall (v := .bool (withinB o.m)) hst (by first | exact wanted_b rfl rfl | exact wanted_g rfl rfl) ?_ ?_; (intro hg K hK; have Hg := hid hg; clear hg; go_simp; go_at_call 40; (try (conv => (arg 3; simp only [gvV_on Hg.out]))); refine (within_any o.m _).mono ?_; rintro _ w9 ⟨rfl, h4⟩; have hk := hK _ (St.call0 hst h4); simp only [Act.put, List.setIfInBounds_toArray, List.set_cons_zero, List.set_cons_succ] at hk; dsimp only; exact hk); (intro w5 hst5; replace hst := hst5; clear hst5; (try simp only [Act.put, List.setIfInBounds_toArray, List.set_cons_zero, List.set_cons_succ]); (repeat ((first | (show wpList _ _ _ (Oper.mk _ (.move _) _ _ _ none :: _) _ _; refine wl_mv rfl rfl rfl ?_) | (show wpList _ _ _ (Oper.mk _ (.pick _ _ _) _ _ _ none :: _) _ _; (first | (refine wl_pickOr rfl rfl rfl rfl rfl ?_; intro q hq) | (refine wl_pickAnd rfl rfl rfl rfl rfl ?_; intro q hq))) | (show wpList _ _ _ (Oper.mk _ (.pick _ _ _) _ _ _ (some _) :: _) _ _; (first | (refine wl_gpickOr rfl (by first | exact wanted_b rfl rfl | exact wanted_g rfl rfl) rfl rfl rfl ?_; intro q hq) | (refine wl_gpickAnd rfl (by first | exact wanted_b rfl rfl | exact wanted_g rfl rfl) rfl rfl rfl ?_; intro q hq))) | (show wpList _ _ _ (Oper.mk _ (.move _) _ _ _ (some _) :: _) _ _; refine wl_gmove rfl (by first | exact wanted_b rfl rfl | exact wanted_g rfl rfl) (by first | exact (fun hg => gvV_on hg) | exact (fun hg => gvV_gA hg) | exact (fun _ => rfl)) ?_)); (try simp only [Act.put, List.setIfInBounds_toArray, List.set_cons_zero, List.set_cons_succ]))))) | (show wpList _ _ _ (Oper.mk _ (.call (Call.mk (.value (.tmp _)) _ _)) _ _ _ (some _) :: _) _ _; refine wl_gcall (v := .bool (longB o.dest)) hst (by first | exact wanted_b rfl rfl | exact wanted_g rfl rfl) ?_ ?_; (intro hg K hK; have Hg := hid hg; clear hg; go_simp; go_at_call 39; (try (conv => (arg 3; simp only [gvV_on Hg.out]))); refine (longB_any o.dest _).mono ?_; rintro _ w9 ⟨rfl, h4⟩; have hk := hK _ (St.call0 hst h4); simp only [Act.put, List.setIfInBounds_toArray, List.set_cons_zero, List.set_cons_succ] at hk; dsimp only; exact hk); (intro w5 hst5; replace hst := hst5; clear hst5; (try simp only [Act.put, List.setIfInBounds_toArray, List.set_cons_zero, List.set_cons_succ]); (repeat ((first | (show wpList _ _ _ (Oper.mk _ (.move _) _ _ _ none :: _) _ _; refine wl_mv rfl rfl rfl ?_) | (show wpList _ _ _ (Oper.mk _ (.pick _ _ _) _ _ _ none :: _) _ _; (first | (refine wl_pickOr rfl rfl rfl rfl rfl ?_; intro q hq) | (refine wl_pickAnd rfl rfl rfl rfl rfl ?_; intro q hq))) | (show wpList _ _ _ (Oper.mk _ (.pick _ _ _) _ _ _ (some _) :: _) _ _; (first | (refine wl_gpickOr rfl (by first | exact wanted_b rfl rfl | exact wanted_g rfl rfl) rfl rfl rfl ?_; intro q hq) | (refine wl_gpickAnd rfl (by first | exact wanted_b rfl rfl | exact wanted_g rfl rfl) rfl rfl rfl ?_; intro q hq))) | (show wpList _ _ _ (Oper.mk _ (.move _) _ _ _ (some _) :: _) _ _; refine wl_gmove rfl (by first | exact wanted_b rfl rfl | exact wanted_g rfl rfl) (by first | exact (fun hg => gvV_on hg) | exact (fun hg => gvV_gA hg) | exact (fun _ => rfl)) ?_)); (try simp only [Act.put, List.setIfInBounds_toArray, List.set_cons_zero, List.set_cons_succ]))))) | (show wpList _ _ _ (Oper.mk _ (.call (Call.mk (.value (.func 41)) _ _)) _ _ _ (some _) :: _) _ _; refine wl_gcall (v := .bool (o.l.any longB)) hst (by first | exact wanted_b rfl rfl | exact wanted_g rfl rfl) ?_ ?_; (intro hg K hK; have Hg := hid hg; clear hg; go_simp; go_at_call 41; (try (conv => (arg 3; simp only [gvV_on Hg.out]))); refine (containsS_any (w0 := w) (M := []) (L := []) 39 longB al nl cl o.l _ (fun _ _ => rfl) (fun x w _ => longB_any x w) (Rd.old hst hl) HLn.out (by omega)).mono ?_; rintro _ w9 ⟨rfl, h4⟩; have hk := hK _ (St.call0 hst h4); simp only [Act.put, List.setIfInBounds_toArray, List.set_cons_zero, List.set_cons_succ] at hk; dsimp only; exact hk); (intro w5 hst5; replace hst := hst5; clear hst5; (try simp only [Act.put, List.setIfInBounds_toArray, List.set_cons_zero, List.set_cons_succ]); (repeat ((first | (show wpList _ _ _ (Oper.mk _ (.move _) _ _ _ none :: _) _ _; refine wl_mv rfl rfl rfl ?_) | (show wpList _ _ _ (Oper.mk _ (.pick _ _ _) _ _ _ none :: _) _ _; (first | (refine wl_pickOr rfl rfl rfl rfl rfl ?_; intro q hq) | (refine wl_pickAnd rfl rfl rfl rfl rfl ?_; intro q hq))) | (show wpList _ _ _ (Oper.mk _ (.pick _ _ _) _ _ _ (some _) :: _) _ _; (first | (refine wl_gpickOr rfl (by first | exact wanted_b rfl rfl | exact wanted_g rfl rfl) rfl rfl rfl ?_; intro q hq) | (refine wl_gpickAnd rfl (by first | exact wanted_b rfl rfl | exact wanted_g rfl rfl) rfl rfl rfl ?_; intro q hq))) | (show wpList _ _ _ (Oper.mk _ (.move _) _ _ _ (some _) :: _) _ _; refine wl_gmove rfl (by first | exact wanted_b rfl rfl | exact wanted_g rfl rfl) (by first | exact (fun hg => gvV_on hg) | exact (fun hg => gvV_gA hg) | exact (fun _ => rfl)) ?_)); (try simp only [Act.put, List.setIfInBounds_toArray, List.set_cons_zero, List.set_cons_succ]))))) | (refine wl_loadE rfl rfl rfl ?_; first | refine ⟨_, Loads.at [_] hst rfl, ?_⟩ | refine ⟨_, Loads.at [] hst rfl, ?_⟩) | (go_at_call 39; refine (longB_any o.name _).mono ?_; rintro _ w9 ⟨rfl, h4⟩; replace hst := St.call0 hst h4; clear h4; (try simp only [Act.put, List.setIfInBounds_toArray, List.set_cons_zero, List.set_cons_succ]); (repeat ((first | (show wpList _ _ _ (Oper.mk _ (.move _) _ _ _ none :: _) _ _; refine wl_mv rfl rfl rfl ?_) | (show wpList _ _ _ (Oper.mk _ (.pick _ _ _) _ _ _ none :: _) _ _; (first | (refine wl_pickOr rfl rfl rfl rfl rfl ?_; intro q hq) | (refine wl_pickAnd rfl rfl rfl rfl rfl ?_; intro q hq))) | (show wpList _ _ _ (Oper.mk _ (.pick _ _ _) _ _ _ (some _) :: _) _ _; (first | (refine wl_gpickOr rfl (by first | exact wanted_b rfl rfl | exact wanted_g rfl rfl) rfl rfl rfl ?_; intro q hq) | (refine wl_gpickAnd rfl (by first | exact wanted_b rfl rfl | exact wanted_g rfl rfl) rfl rfl rfl ?_; intro q hq))) | (show wpList _ _ _ (Oper.mk _ (.move _) _ _ _ (some _) :: _) _ _; refine wl_gmove rfl (by first | exact wanted_b rfl rfl | exact wanted_g rfl rfl) (by first | exact (fun hg => gvV_on hg) | exact (fun hg => gvV_gA hg) | exact (fun _ => rfl)) ?_)); (try simp only [Act.put, List.setIfInBounds_toArray, List.set_cons_zero, List.set_cons_succ])))))
  all_goals go_ret
  all_goals refine ⟨congrArg (fun z => Ending.returned (Value.int .i64 z)) (?_ : (_ : Int) = o.check), hst.nil⟩
  all_goals
    have e : OV.oddB o = ((longB o.name || longB o.dest) || o.l.any longB) := rfl
    have hA := HA.out
    have hC := HC.out
    clear HA HC HLn hst hl
    simp only [hid_iff, bNot_eq] at *
    simp only [OV.check, hA, hC, e]
    clear hA hC e
    simp_all only [Bool.false_or, Bool.true_or, if_true, if_false, Bool.false_eq_true]
end Go.Proofs.Ytalfdcfcaamnbaa
namespace Go.Proofs.Ytalfdcfcaamnbaa
set_option linter.unusedVariables false
set_option linter.unusedSimpArgs false
open Go.RowKit Hp
attribute [local irreducible] Go.Calls Go.wpList
set_option maxRecDepth 100000
set_option maxHeartbeats 4000000
/-- What an order's fields write, one behind the other. -/
def ordF (o : OV) : List (WR → WR) := [fun s => putW s (numR o.op 1), fun s => putW s (textR o.name 48), fun s => putW s (textR o.dest 48), fun s => putW s (numR o.n 4), fun s => putW s (numR o.m 4),
  fun s => putAll (putW s (numR (o.l.length : Int) 1)) (o.l.map fun t => textR t 48), fun s => putW (putW s (numR (o.b.length : Int) 3)) (0, o.b)]
def putO (o : OV) : WR := if o.check = 0 then goAll (0, []) (ordF o) else (o.check, [])
/-- An order that the walk can take. -/
structure OV.Ok (o : OV) : Prop where
  op : -9223372036854775808 ≤ o.op ∧ o.op ≤ 9223372036854775807
  n : -9223372036854775808 ≤ o.n ∧ o.n ≤ 9223372036854775807
  m : -9223372036854775808 ≤ o.m ∧ o.m ≤ 9223372036854775807
  name : o.name.length ≤ 1000000
  dest : o.dest.length ≤ 1000000
  ln : o.l.length ≤ 1000000
  lt : ∀ t ∈ o.l, t.length ≤ 1000000
  bn : o.b.length ≤ 100000
theorem ordF_len (o : OV) : ∀ f ∈ ordF o, ∀ s : WR, s.2.length ≤ 65536 → (f s).2.length ≤ 65536 := by
  intro f hf s hs
  unfold ordF at hf
  simp only [List.mem_cons, List.not_mem_nil, or_false] at hf
  rcases hf with rfl | rfl | rfl | rfl | rfl | rfl | rfl
  · exact putW_len hs
  · exact putW_len hs
  · exact putW_len hs
  · exact putW_len hs
  · exact putW_len hs
  · exact putAll_len (putW_len hs)
  · exact putW_len (putW_len hs)
theorem parts_ok {w0 w : World} {M : List Nat} {L : List HA} {o : OV} (ok : o.Ok) {al ab : Option Addr} {nl cl nb cb gp go : Nat} {n0 z0 l0 h0 n1 n2 n3 z3 l3 h3 n4 z4 l4 h4 n5 z5 m5 f5 n6 : Nat}
    (h : St w0 M w ((.blk gp 89 (partsC (partsPs n0 z0 l0 h0 n1 n2 n3 z3 l3 h3 n4 z4 l4 h4 n5 z5 m5 f5 n6)) :: partsBoxes go n0 z0 l0 h0 n1 n2 n3 z3 l3 h3 n4 z4 l4 h4 n5 z5 m5 f5 n6) ++ .blk go 25 [.int .i64 o.op, strV o.name, strV o.dest, .int .i64 o.n, .int .i64 o.m, .slice al nl cl, .slice ab nb cb] :: L))
    (hl : Rd w (.slice al nl cl) 1 nl (strsV o.l)) (hb : Rd w (.slice ab nb cb) 1 nb (bytesV o.b)) (hnl : o.l.length = nl) (hnb : o.b.length = nb) :
    ∀ (k : Nat) (p : PartV) (f : WR → WR), (partsPs n0 z0 l0 h0 n1 n2 n3 z3 l3 h3 n4 z4 l4 h4 n5 z5 m5 f5 n6)[k]? = some p → (ordF o)[k]? = some f → PutOk w p.pf p.pc f := by
  unfold partsBoxes at h
  intro k p f hp hf
  match k, hp, hf with
  | 0, hp, hf => cases hp; cases hf; exact num1_put (h.cell (off := 0) (.tail _ (.tail _ (.tail _ (.tail _ (.tail _ (.tail _ (.tail _ (.tail _ (.tail _ (.tail _ (.tail _ (.tail _ (.tail _ (.tail _ (.tail _ (.tail _ (.tail _ (.tail _ (.tail _ (.head _)))))))))))))))))))) rfl) (h.cell (off := 0) (.tail _ (.tail _ (.tail _ (.tail _ (.tail _ (.tail _ (.tail _ (.tail _ (.tail _ (.tail _ (.tail _ (.tail _ (.tail _ (.tail _ (.tail _ (.tail _ (.tail _ (.tail _ (.head _))))))))))))))))))) rfl) (h.cell (off := 0) (.tail _ (.tail _ (.tail _ (.tail _ (.tail _ (.tail _ (.tail _ (.tail _ (.tail _ (.tail _ (.tail _ (.tail _ (.tail _ (.tail _ (.tail _ (.tail _ (.tail _ (.tail _ (.tail _ (.tail _ (.head _))))))))))))))))))))) rfl) (by decide) ok.op
  | 1, hp, hf => cases hp; cases hf; exact text1_put (h.cell (off := 0) (.tail _ (.tail _ (.tail _ (.tail _ (.tail _ (.tail _ (.tail _ (.tail _ (.tail _ (.tail _ (.tail _ (.tail _ (.tail _ (.tail _ (.tail _ (.head _)))))))))))))))) rfl) (h.cell (off := 1) (.tail _ (.tail _ (.tail _ (.tail _ (.tail _ (.tail _ (.tail _ (.tail _ (.tail _ (.tail _ (.tail _ (.tail _ (.tail _ (.tail _ (.tail _ (.tail _ (.tail _ (.tail _ (.tail _ (.tail _ (.head _))))))))))))))))))))) rfl) ok.name
  | 2, hp, hf => cases hp; cases hf; exact text1_put (h.cell (off := 0) (.tail _ (.tail _ (.tail _ (.tail _ (.tail _ (.tail _ (.tail _ (.tail _ (.tail _ (.tail _ (.tail _ (.tail _ (.tail _ (.tail _ (.head _))))))))))))))) rfl) (h.cell (off := 2) (.tail _ (.tail _ (.tail _ (.tail _ (.tail _ (.tail _ (.tail _ (.tail _ (.tail _ (.tail _ (.tail _ (.tail _ (.tail _ (.tail _ (.tail _ (.tail _ (.tail _ (.tail _ (.tail _ (.tail _ (.head _))))))))))))))))))))) rfl) ok.dest
  | 3, hp, hf => cases hp; cases hf; exact num1_put (h.cell (off := 0) (.tail _ (.tail _ (.tail _ (.tail _ (.tail _ (.tail _ (.tail _ (.tail _ (.tail _ (.tail _ (.tail _ (.tail _ (.tail _ (.head _)))))))))))))) rfl) (h.cell (off := 0) (.tail _ (.tail _ (.tail _ (.tail _ (.tail _ (.tail _ (.tail _ (.tail _ (.tail _ (.tail _ (.tail _ (.tail _ (.head _))))))))))))) rfl) (h.cell (off := 3) (.tail _ (.tail _ (.tail _ (.tail _ (.tail _ (.tail _ (.tail _ (.tail _ (.tail _ (.tail _ (.tail _ (.tail _ (.tail _ (.tail _ (.tail _ (.tail _ (.tail _ (.tail _ (.tail _ (.tail _ (.head _))))))))))))))))))))) rfl) (by decide) ok.n
  | 4, hp, hf => cases hp; cases hf; exact num1_put (h.cell (off := 0) (.tail _ (.tail _ (.tail _ (.tail _ (.tail _ (.tail _ (.tail _ (.tail _ (.tail _ (.head _)))))))))) rfl) (h.cell (off := 0) (.tail _ (.tail _ (.tail _ (.tail _ (.tail _ (.tail _ (.tail _ (.tail _ (.head _))))))))) rfl) (h.cell (off := 4) (.tail _ (.tail _ (.tail _ (.tail _ (.tail _ (.tail _ (.tail _ (.tail _ (.tail _ (.tail _ (.tail _ (.tail _ (.tail _ (.tail _ (.tail _ (.tail _ (.tail _ (.tail _ (.tail _ (.tail _ (.head _))))))))))))))))))))) rfl) (by decide) ok.m
  | 5, hp, hf => cases hp; cases hf; subst hnl; exact listS_put (h.cell (off := 0) (.tail _ (.tail _ (.tail _ (.tail _ (.tail _ (.head _)))))) rfl) (h.cell (off := 0) (.tail _ (.tail _ (.tail _ (.tail _ (.head _))))) rfl) (h.cell (off := 0) (.tail _ (.tail _ (.head _))) rfl) (h.cell (off := 5) (.tail _ (.tail _ (.tail _ (.tail _ (.tail _ (.tail _ (.tail _ (.tail _ (.tail _ (.tail _ (.tail _ (.tail _ (.tail _ (.tail _ (.tail _ (.tail _ (.tail _ (.tail _ (.tail _ (.tail _ (.head _))))))))))))))))))))) rfl) hl rfl ok.ln ok.lt (by decide)
  | 6, hp, hf => cases hp; cases hf; subst hnb; exact raw1_put (h.cell (off := 0) (.tail _ (.head _)) rfl) (h.cell (off := 6) (.tail _ (.tail _ (.tail _ (.tail _ (.tail _ (.tail _ (.tail _ (.tail _ (.tail _ (.tail _ (.tail _ (.tail _ (.tail _ (.tail _ (.tail _ (.tail _ (.tail _ (.tail _ (.tail _ (.tail _ (.head _))))))))))))))))))))) rfl) hb rfl ok.bn
  | k + 7, hp, _ => simp [partsPs] at hp
theorem parts_fn {n0 z0 l0 h0 n1 n2 n3 z3 l3 h3 n4 z4 l4 h4 n5 z5 m5 f5 n6 : Nat} : ∀ p ∈ partsPs n0 z0 l0 h0 n1 n2 n3 z3 l3 h3 n4 z4 l4 h4 n5 z5 m5 f5 n6, ∀ (a : Array Value) (w : World), (callFunc p.pf a).run Try.prog w = .ok (.enter p.pf a) w := by
  intro p hp a w
  unfold partsPs at hp
  simp only [List.mem_cons, List.not_mem_nil, or_false] at hp
  rcases hp with rfl | rfl | rfl | rfl | rfl | rfl | rfl <;> rfl
theorem oput_bad (o : OV) (ok : o.Ok) (al ab : Option Addr) (nl cl nb cb : Nat) (w : World) (hl : Rd w (.slice al nl cl) 1 nl (strsV o.l)) (hb : Rd w (.slice ab nb cb) 1 nb (bytesV o.b)) (hnl : o.l.length = nl) (hnb : o.b.length = nb) (h0 : o.check ≠ 0) :
    Calls Try.prog 12 #[.agg (o.cells (.slice al nl cl) (.slice ab nb cb)).toArray] w (OutP w (putO o)) := by
  have hst0 := St.refl w
  have HL := hid hl
  have HB := hid hb
  have HNL := hid hnl
  have HNB := hid hnb
  have hln : nl ≤ 1000000 := by rw [← hnl]; exact ok.ln
  obtain ⟨R, hR⟩ : ∃ R, R = putO o := ⟨_, rfl⟩
  have HR := hid hR
  rw [← hR]
  obtain ⟨ck, hck⟩ : ∃ ck, ck = o.check := ⟨_, rfl⟩
  have HCK := hid hck
  have d0 : (ck != 0) = true := by rw [hck]; simpa using h0
  have H0 := hid h0
  clear hl hb hnl hnb hR hck h0
  show Calls Try.prog 12 #[.agg (List.toArray [.int .i64 o.op, strV o.name, strV o.dest, .int .i64 o.n, .int .i64 o.m, .slice al nl cl, .slice ab nb cb])] w _
  go_enter Try.func12, Try.ntmps12
  go_wp2_with (first | go_big_skip | go_big_guard | (refine wl_boxA hst0 rfl rfl rfl ?_; intro g1 _ hst1; clear hst0) | (refine wl_loadE rfl rfl rfl ?_; refine ⟨_, Loads.whole (T := 25) [] hst1 rfl, ?_⟩) | (go_at_call 15; refine (check_any o al ab nl cl nb cb _ (Rd.old hst1 HL.out) HNL.out HNB.out hln).mono ?_; rw [← HCK.out]; rintro _ w9 ⟨rfl, h4⟩; have hst2 := St.call0 hst1 h4; clear h4 hst1))
  go_ret2
  have e : R = (ck, []) := by rw [HR.out, HCK.out]; unfold putO; rw [if_neg H0.out]
  refine ⟨.slice none 0 0, by rw [e]; rfl, ?_⟩
  rw [e, show outW (ck, []) = [] from by unfold outW; split <;> rfl]
  exact St.nilPQ isB _ 1 hst2.nil
theorem oput_ok (o : OV) (ok : o.Ok) (al ab : Option Addr) (nl cl nb cb : Nat) (w : World) (hl : Rd w (.slice al nl cl) 1 nl (strsV o.l)) (hb : Rd w (.slice ab nb cb) 1 nb (bytesV o.b)) (hnl : o.l.length = nl) (hnb : o.b.length = nb) (h0 : o.check = 0) :
    Calls Try.prog 12 #[.agg (o.cells (.slice al nl cl) (.slice ab nb cb)).toArray] w (OutP w (putO o)) := by
  have hst0 := St.refl w
  have HL := hid hl
  have HB := hid hb
  have HNL := hid hnl
  have HNB := hid hnb
  have hln : nl ≤ 1000000 := by rw [← hnl]; exact ok.ln
  obtain ⟨R, hR⟩ : ∃ R, R = putO o := ⟨_, rfl⟩
  have HR := hid hR
  rw [← hR]
  obtain ⟨ck, hck⟩ : ∃ ck, ck = o.check := ⟨_, rfl⟩
  have HCK := hid hck
  have d0 : (ck != 0) = false := by rw [hck]; simpa using h0
  have H0 := hid h0
  clear hl hb hnl hnb hR hck h0
  show Calls Try.prog 12 #[.agg (List.toArray [.int .i64 o.op, strV o.name, strV o.dest, .int .i64 o.n, .int .i64 o.m, .slice al nl cl, .slice ab nb cb])] w _
  go_enter Try.func12, Try.ntmps12
  go_wp2_with (first | go_big_skip | go_big_guard | (refine wl_boxA hst0 rfl rfl rfl ?_; intro g1 _ hst1; clear hst0) | (refine wl_loadE rfl rfl rfl ?_; refine ⟨_, Loads.whole (T := 25) [] hst1 rfl, ?_⟩) | (go_at_call 15; refine (check_any o al ab nl cl nb cb _ (Rd.old hst1 HL.out) HNL.out HNB.out hln).mono ?_; rw [← HCK.out]; rintro _ w9 ⟨rfl, h4⟩; have hst2 := St.call0 hst1 h4; clear h4 hst1) | (go_at_call 34; refine (parts_any g1 _).mono ?_; rintro _ w10 ⟨gp, n0, z0, l0, h0, n1, n2, n3, z3, l3, h3, n4, z4, l4, h4, n5, z5, m5, f5, n6, rfl, hh⟩; have hst3 := St.call hst2 hh; clear hh hst2) | (go_at_call 33; have hP := parts_ok ok (L := []) hst3 (Rd.old hst3 HL.out) (Rd.old hst3 HB.out) HNL.out HNB.out; refine (parts_put (some ⟨gp, 0, none⟩) 7 7 (partsPs n0 z0 l0 h0 n1 n2 n3 z3 l3 h3 n4 z4 l4 h4 n5 z5 m5 f5 n6) (ordF o) _ (Rd.blk hst3 (.head _) (Nat.le_refl _) (by decide) rfl rfl) rfl rfl (by decide) parts_fn hP (ordF_len o)).mono ?_; rintro _ w11 ⟨u, rfl, hh⟩; have hst4 := St.call hst3 hh; clear hh hst3))
  go_ret2
  have e : R = goAll (0, []) (ordF o) := by rw [HR.out]; unfold putO; rw [if_pos H0.out]
  rw [e]
  exact ⟨u, rfl, St.sub hst4 (List.sublist_append_left _ _)⟩
theorem oput_any (o : OV) (ok : o.Ok) (al ab : Option Addr) (nl cl nb cb : Nat) (w : World) (hl : Rd w (.slice al nl cl) 1 nl (strsV o.l)) (hb : Rd w (.slice ab nb cb) 1 nb (bytesV o.b)) (hnl : o.l.length = nl) (hnb : o.b.length = nb) :
    Calls Try.prog 12 #[.agg (o.cells (.slice al nl cl) (.slice ab nb cb)).toArray] w (OutP w (putO o)) := by
  by_cases h0 : o.check = 0
  · exact oput_ok o ok al ab nl cl nb cb w hl hb hnl hnb h0
  · exact oput_bad o ok al ab nl cl nb cb w hl hb hnl hnb h0
end Go.Proofs.Ytalfdcfcaamnbaa
namespace Go.Proofs.Ytalfdcfcaamnbaa
set_option linter.unusedVariables false
set_option linter.unusedSimpArgs false
open Go.RowKit Hp
attribute [local irreducible] Go.Calls Go.wpList
set_option maxRecDepth 100000
set_option maxHeartbeats 4000000
/-- How an order's fields are read, one behind the other. -/
def getF (B : List UInt8) : List (RS × OV → RS × OV) := [
  fun y => ((stepR y.1 (numRR B y.1.pos 1 1 24) 0).1, { y.2 with op := (stepR y.1 (numRR B y.1.pos 1 1 24) 0).2 }),
  fun y => ((textF B y.1).1, { y.2 with name := (textF B y.1).2 }),
  fun y => ((textF B y.1).1, { y.2 with dest := (textF B y.1).2 }),
  fun y => ((stepR y.1 (numRR B y.1.pos 4 0 2147483647) 0).1, { y.2 with n := (stepR y.1 (numRR B y.1.pos 4 0 2147483647) 0).2 }),
  fun y => ((stepR y.1 (numRR B y.1.pos 4 0 2147483647) 0).1, { y.2 with m := (stepR y.1 (numRR B y.1.pos 4 0 2147483647) 0).2 }),
  fun y => ((listR (textF B) B 1 16 y.1).1, { y.2 with l := (listR (textF B) B 1 16 y.1).2 }),
  fun y => ((rawS B y.1).1, { y.2 with b := (rawS B y.1).2 })]
theorem rawS_pos {B : List UInt8} {s : RS} (hp : s.pos ≤ B.length) : (rawS B s).1.pos ≤ B.length := raw_pos (num_pos hp)
theorem listR_pos {α : Type} {f : RS → RS × α} {B : List UInt8} {size most : Int} {s : RS} (hf : ∀ s : RS, s.pos ≤ B.length → (f s).1.pos ≤ B.length) (hp : s.pos ≤ B.length) : (listR f B size most s).1.pos ≤ B.length := manyS_pos (num_pos hp) hf _
theorem textF_pos {B : List UInt8} (s : RS) (hp : s.pos ≤ B.length) : (textF B s).1.pos ≤ B.length := text_pos hp
theorem wideF_pos {B : List UInt8} (s : RS) (hp : s.pos ≤ B.length) : (wideF B s).1.pos ≤ B.length := num_pos hp
theorem getF_pos (B : List UInt8) : ∀ f ∈ getF B, ∀ y : RS × OV, y.1.pos ≤ B.length → (f y).1.pos ≤ B.length := by
  intro f hf y hy
  unfold getF at hf
  simp only [List.mem_cons, List.not_mem_nil, or_false] at hf
  rcases hf with rfl | rfl | rfl | rfl | rfl | rfl | rfl
  · exact num_pos hy
  · exact text_pos hy
  · exact text_pos hy
  · exact num_pos hy
  · exact num_pos hy
  · exact listR_pos textF_pos hy
  · exact rawS_pos hy
def OV.none : OV := ⟨0, 0, 0, [], [], [], []⟩
/-- The order that bytes are, its fault. -/
def getO (B : List UInt8) : OV × Int × Int :=
  let S := goAll ((⟨0, 0, 0⟩, OV.none) : RS × OV) (getF B)
  let e := if (endR B S.1).1 = 0 then S.2.check else (endR B S.1).1
  if e = 0 then (S.2, e, (endR B S.1).2) else (OV.none, e, (endR B S.1).2)
/-- An order under way. -/
def ordM (go k : Nat) (x : OV) (a : Value × Value) : List HA := match k with
  | 6 => [.blk go 25 (x.cells a.1 (.slice none 0 0)), .rowP isS a.1 9 1 x.l.length (strsV x.l)]
  | 7 => [.rowP isB a.2 5 1 x.b.length (bytesV x.b), .blk go 25 (x.cells a.1 a.2), .rowP isS a.1 9 1 x.l.length (strsV x.l)]
  | _ => [.blk go 25 (x.cells (.slice none 0 0) (.slice none 0 0))]
theorem parts_gok {w0 w : World} {M0 : List Nat} {L : List HA} {B : List UInt8} (hB : B.length ≤ 100000) {gp go : Nat} {n0 z0 l0 h0 n1 n2 n3 z3 l3 h3 n4 z4 l4 h4 n5 z5 m5 f5 n6 : Nat}
    (h : St w0 M0 w ((.blk gp 89 (partsC (partsPs n0 z0 l0 h0 n1 n2 n3 z3 l3 h3 n4 z4 l4 h4 n5 z5 m5 f5 n6)) :: partsBoxes go n0 z0 l0 h0 n1 n2 n3 z3 l3 h3 n4 z4 l4 h4 n5 z5 m5 f5 n6) ++ .blk go 25 (OV.none.cells (.slice none 0 0) (.slice none 0 0)) :: L)) :
    ∀ (k : Nat) (p : PartV) (f : RS × OV → RS × OV), (partsPs n0 z0 l0 h0 n1 n2 n3 z3 l3 h3 n4 z4 l4 h4 n5 z5 m5 f5 n6)[k]? = some p → (getF B)[k]? = some f → GetOk w [go] (ordM go k) (ordM go (k + 1)) p.gf p.gc B f := by
  have hh := h
  unfold partsBoxes at hh
  have hd : ∀ (i : Nat) (q : Nat) (T : TypeId) (cs : List Value), i < 20 → (HA.blk gp 89 (partsC (partsPs n0 z0 l0 h0 n1 n2 n3 z3 l3 h3 n4 z4 l4 h4 n5 z5 m5 f5 n6)) :: partsBoxes go n0 z0 l0 h0 n1 n2 n3 z3 l3 h3 n4 z4 l4 h4 n5 z5 m5 f5 n6)[i]? = some (.blk q T cs) → q ∉ [go] := by
    intro i q T cs hi hx hq
    have hap := h.apart
    unfold Apart at hap
    rw [List.pairwise_append] at hap
    have h1 := hap.2.2 _ (List.mem_of_getElem? hx) _ List.mem_cons_self q rfl
    simp only [List.mem_singleton] at hq
    exact h1 (by rw [hq]; rfl)
  have hne_n0 : n0 ∉ [go] := hd 19 _ _ _ (by decide) rfl
  have hne_z0 : z0 ∉ [go] := hd 18 _ _ _ (by decide) rfl
  have hne_l0 : l0 ∉ [go] := hd 17 _ _ _ (by decide) rfl
  have hne_h0 : h0 ∉ [go] := hd 16 _ _ _ (by decide) rfl
  have hne_n1 : n1 ∉ [go] := hd 15 _ _ _ (by decide) rfl
  have hne_n2 : n2 ∉ [go] := hd 14 _ _ _ (by decide) rfl
  have hne_n3 : n3 ∉ [go] := hd 13 _ _ _ (by decide) rfl
  have hne_z3 : z3 ∉ [go] := hd 12 _ _ _ (by decide) rfl
  have hne_l3 : l3 ∉ [go] := hd 11 _ _ _ (by decide) rfl
  have hne_h3 : h3 ∉ [go] := hd 10 _ _ _ (by decide) rfl
  have hne_n4 : n4 ∉ [go] := hd 9 _ _ _ (by decide) rfl
  have hne_z4 : z4 ∉ [go] := hd 8 _ _ _ (by decide) rfl
  have hne_l4 : l4 ∉ [go] := hd 7 _ _ _ (by decide) rfl
  have hne_h4 : h4 ∉ [go] := hd 6 _ _ _ (by decide) rfl
  have hne_n5 : n5 ∉ [go] := hd 5 _ _ _ (by decide) rfl
  have hne_z5 : z5 ∉ [go] := hd 4 _ _ _ (by decide) rfl
  have hne_m5 : m5 ∉ [go] := hd 3 _ _ _ (by decide) rfl
  have hne_f5 : f5 ∉ [go] := hd 2 _ _ _ (by decide) rfl
  have hne_n6 : n6 ∉ [go] := hd 1 _ _ _ (by decide) rfl
  clear hd
  intro k p f hp hf
  match k, hp, hf with
  | 0, hp, hf => cases hp; cases hf; exact fun g bv s x a w9 hw hs => (num2_at g bv B s _ [] [] go 0 _ (x.cells (.slice none 0 0) (.slice none 0 0)) w9 hw.selfF hs hB (by show (0 : Nat) < 7; decide) (hw.old_cell (hh.cell (off := 0) (.tail _ (.tail _ (.tail _ (.tail _ (.tail _ (.tail _ (.tail _ (.tail _ (.tail _ (.tail _ (.tail _ (.tail _ (.tail _ (.tail _ (.tail _ (.tail _ (.tail _ (.tail _ (.tail _ (.head _)))))))))))))))))))) rfl) (hne_n0)) (elem_off hw (World.block_lt_of_cell? w _ (hh.cell (off := 0) (.tail _ (.tail _ (.tail _ (.tail _ (.tail _ (.tail _ (.tail _ (.tail _ (.tail _ (.tail _ (.tail _ (.tail _ (.tail _ (.tail _ (.tail _ (.tail _ (.tail _ (.tail _ (.tail _ (.head _)))))))))))))))))))) rfl)) (hne_n0)) (hw.old_cell (hh.cell (off := 0) (.tail _ (.tail _ (.tail _ (.tail _ (.tail _ (.tail _ (.tail _ (.tail _ (.tail _ (.tail _ (.tail _ (.tail _ (.tail _ (.tail _ (.tail _ (.tail _ (.tail _ (.tail _ (.head _))))))))))))))))))) rfl) (hne_z0)) (elem_off hw (World.block_lt_of_cell? w _ (hh.cell (off := 0) (.tail _ (.tail _ (.tail _ (.tail _ (.tail _ (.tail _ (.tail _ (.tail _ (.tail _ (.tail _ (.tail _ (.tail _ (.tail _ (.tail _ (.tail _ (.tail _ (.tail _ (.tail _ (.head _))))))))))))))))))) rfl)) (hne_z0)) (hw.old_cell (hh.cell (off := 0) (.tail _ (.tail _ (.tail _ (.tail _ (.tail _ (.tail _ (.tail _ (.tail _ (.tail _ (.tail _ (.tail _ (.tail _ (.tail _ (.tail _ (.tail _ (.tail _ (.tail _ (.head _)))))))))))))))))) rfl) (hne_l0)) (elem_off hw (World.block_lt_of_cell? w _ (hh.cell (off := 0) (.tail _ (.tail _ (.tail _ (.tail _ (.tail _ (.tail _ (.tail _ (.tail _ (.tail _ (.tail _ (.tail _ (.tail _ (.tail _ (.tail _ (.tail _ (.tail _ (.tail _ (.head _)))))))))))))))))) rfl)) (hne_l0)) (hw.old_cell (hh.cell (off := 0) (.tail _ (.tail _ (.tail _ (.tail _ (.tail _ (.tail _ (.tail _ (.tail _ (.tail _ (.tail _ (.tail _ (.tail _ (.tail _ (.tail _ (.tail _ (.tail _ (.head _))))))))))))))))) rfl) (hne_h0)) (elem_off hw (World.block_lt_of_cell? w _ (hh.cell (off := 0) (.tail _ (.tail _ (.tail _ (.tail _ (.tail _ (.tail _ (.tail _ (.tail _ (.tail _ (.tail _ (.tail _ (.tail _ (.tail _ (.tail _ (.tail _ (.tail _ (.head _))))))))))))))))) rfl)) (hne_h0)) (by decide)).mono fun e w8 ⟨he, h8⟩ => ⟨he, a, h8⟩
  | 1, hp, hf => cases hp; cases hf; exact fun g bv s x a w9 hw hs => (text2_at g bv B s _ [] [] go 1 _ (x.cells (.slice none 0 0) (.slice none 0 0)) w9 hw.selfF hs hB (by show (1 : Nat) < 7; decide) (hw.old_cell (hh.cell (off := 0) (.tail _ (.tail _ (.tail _ (.tail _ (.tail _ (.tail _ (.tail _ (.tail _ (.tail _ (.tail _ (.tail _ (.tail _ (.tail _ (.tail _ (.tail _ (.head _)))))))))))))))) rfl) (hne_n1)) (elem_off hw (World.block_lt_of_cell? w _ (hh.cell (off := 0) (.tail _ (.tail _ (.tail _ (.tail _ (.tail _ (.tail _ (.tail _ (.tail _ (.tail _ (.tail _ (.tail _ (.tail _ (.tail _ (.tail _ (.tail _ (.head _)))))))))))))))) rfl)) (hne_n1))).mono fun e w8 ⟨he, h8⟩ => ⟨he, a, h8⟩
  | 2, hp, hf => cases hp; cases hf; exact fun g bv s x a w9 hw hs => (text2_at g bv B s _ [] [] go 2 _ (x.cells (.slice none 0 0) (.slice none 0 0)) w9 hw.selfF hs hB (by show (2 : Nat) < 7; decide) (hw.old_cell (hh.cell (off := 0) (.tail _ (.tail _ (.tail _ (.tail _ (.tail _ (.tail _ (.tail _ (.tail _ (.tail _ (.tail _ (.tail _ (.tail _ (.tail _ (.tail _ (.head _))))))))))))))) rfl) (hne_n2)) (elem_off hw (World.block_lt_of_cell? w _ (hh.cell (off := 0) (.tail _ (.tail _ (.tail _ (.tail _ (.tail _ (.tail _ (.tail _ (.tail _ (.tail _ (.tail _ (.tail _ (.tail _ (.tail _ (.tail _ (.head _))))))))))))))) rfl)) (hne_n2))).mono fun e w8 ⟨he, h8⟩ => ⟨he, a, h8⟩
  | 3, hp, hf => cases hp; cases hf; exact fun g bv s x a w9 hw hs => (num2_at g bv B s _ [] [] go 3 _ (x.cells (.slice none 0 0) (.slice none 0 0)) w9 hw.selfF hs hB (by show (3 : Nat) < 7; decide) (hw.old_cell (hh.cell (off := 0) (.tail _ (.tail _ (.tail _ (.tail _ (.tail _ (.tail _ (.tail _ (.tail _ (.tail _ (.tail _ (.tail _ (.tail _ (.tail _ (.head _)))))))))))))) rfl) (hne_n3)) (elem_off hw (World.block_lt_of_cell? w _ (hh.cell (off := 0) (.tail _ (.tail _ (.tail _ (.tail _ (.tail _ (.tail _ (.tail _ (.tail _ (.tail _ (.tail _ (.tail _ (.tail _ (.tail _ (.head _)))))))))))))) rfl)) (hne_n3)) (hw.old_cell (hh.cell (off := 0) (.tail _ (.tail _ (.tail _ (.tail _ (.tail _ (.tail _ (.tail _ (.tail _ (.tail _ (.tail _ (.tail _ (.tail _ (.head _))))))))))))) rfl) (hne_z3)) (elem_off hw (World.block_lt_of_cell? w _ (hh.cell (off := 0) (.tail _ (.tail _ (.tail _ (.tail _ (.tail _ (.tail _ (.tail _ (.tail _ (.tail _ (.tail _ (.tail _ (.tail _ (.head _))))))))))))) rfl)) (hne_z3)) (hw.old_cell (hh.cell (off := 0) (.tail _ (.tail _ (.tail _ (.tail _ (.tail _ (.tail _ (.tail _ (.tail _ (.tail _ (.tail _ (.tail _ (.head _)))))))))))) rfl) (hne_l3)) (elem_off hw (World.block_lt_of_cell? w _ (hh.cell (off := 0) (.tail _ (.tail _ (.tail _ (.tail _ (.tail _ (.tail _ (.tail _ (.tail _ (.tail _ (.tail _ (.tail _ (.head _)))))))))))) rfl)) (hne_l3)) (hw.old_cell (hh.cell (off := 0) (.tail _ (.tail _ (.tail _ (.tail _ (.tail _ (.tail _ (.tail _ (.tail _ (.tail _ (.tail _ (.head _))))))))))) rfl) (hne_h3)) (elem_off hw (World.block_lt_of_cell? w _ (hh.cell (off := 0) (.tail _ (.tail _ (.tail _ (.tail _ (.tail _ (.tail _ (.tail _ (.tail _ (.tail _ (.tail _ (.head _))))))))))) rfl)) (hne_h3)) (by decide)).mono fun e w8 ⟨he, h8⟩ => ⟨he, a, h8⟩
  | 4, hp, hf => cases hp; cases hf; exact fun g bv s x a w9 hw hs => (num2_at g bv B s _ [] [] go 4 _ (x.cells (.slice none 0 0) (.slice none 0 0)) w9 hw.selfF hs hB (by show (4 : Nat) < 7; decide) (hw.old_cell (hh.cell (off := 0) (.tail _ (.tail _ (.tail _ (.tail _ (.tail _ (.tail _ (.tail _ (.tail _ (.tail _ (.head _)))))))))) rfl) (hne_n4)) (elem_off hw (World.block_lt_of_cell? w _ (hh.cell (off := 0) (.tail _ (.tail _ (.tail _ (.tail _ (.tail _ (.tail _ (.tail _ (.tail _ (.tail _ (.head _)))))))))) rfl)) (hne_n4)) (hw.old_cell (hh.cell (off := 0) (.tail _ (.tail _ (.tail _ (.tail _ (.tail _ (.tail _ (.tail _ (.tail _ (.head _))))))))) rfl) (hne_z4)) (elem_off hw (World.block_lt_of_cell? w _ (hh.cell (off := 0) (.tail _ (.tail _ (.tail _ (.tail _ (.tail _ (.tail _ (.tail _ (.tail _ (.head _))))))))) rfl)) (hne_z4)) (hw.old_cell (hh.cell (off := 0) (.tail _ (.tail _ (.tail _ (.tail _ (.tail _ (.tail _ (.tail _ (.head _)))))))) rfl) (hne_l4)) (elem_off hw (World.block_lt_of_cell? w _ (hh.cell (off := 0) (.tail _ (.tail _ (.tail _ (.tail _ (.tail _ (.tail _ (.tail _ (.head _)))))))) rfl)) (hne_l4)) (hw.old_cell (hh.cell (off := 0) (.tail _ (.tail _ (.tail _ (.tail _ (.tail _ (.tail _ (.head _))))))) rfl) (hne_h4)) (elem_off hw (World.block_lt_of_cell? w _ (hh.cell (off := 0) (.tail _ (.tail _ (.tail _ (.tail _ (.tail _ (.tail _ (.head _))))))) rfl)) (hne_h4)) (by decide)).mono fun e w8 ⟨he, h8⟩ => ⟨he, a, h8⟩
  | 5, hp, hf => cases hp; cases hf; exact fun g bv s x a w9 hw hs => (listS_at g bv B s _ [] go 5 _ (x.cells (.slice none 0 0) (.slice none 0 0)) w9 hw.selfF hs hB (by show (5 : Nat) < 7; decide) rfl (hw.old_cell (hh.cell (off := 0) (.tail _ (.tail _ (.tail _ (.tail _ (.tail _ (.head _)))))) rfl) (hne_n5)) (elem_off hw (World.block_lt_of_cell? w _ (hh.cell (off := 0) (.tail _ (.tail _ (.tail _ (.tail _ (.tail _ (.head _)))))) rfl)) (hne_n5)) (hw.old_cell (hh.cell (off := 0) (.tail _ (.tail _ (.tail _ (.tail _ (.head _))))) rfl) (hne_z5)) (elem_off hw (World.block_lt_of_cell? w _ (hh.cell (off := 0) (.tail _ (.tail _ (.tail _ (.tail _ (.head _))))) rfl)) (hne_z5)) (hw.old_cell (hh.cell (off := 0) (.tail _ (.tail _ (.tail _ (.head _)))) rfl) (hne_m5)) (elem_off hw (World.block_lt_of_cell? w _ (hh.cell (off := 0) (.tail _ (.tail _ (.tail _ (.head _)))) rfl)) (hne_m5)) (hw.old_cell (hh.cell (off := 0) (.tail _ (.tail _ (.head _))) rfl) (hne_f5)) (elem_off hw (World.block_lt_of_cell? w _ (hh.cell (off := 0) (.tail _ (.tail _ (.head _))) rfl)) (hne_f5)) (by decide) (by decide)).mono fun e w8 ⟨he, lv, h8⟩ => ⟨he, (lv, a.2), h8⟩
  | 6, hp, hf => cases hp; cases hf; exact fun g bv s x a w9 hw hs => (raw2_at g bv B s _ [] [.rowP isS a.1 9 1 x.l.length (strsV x.l)] go 6 _ (x.cells a.1 (.slice none 0 0)) w9 hw.selfF hs hB (by show (6 : Nat) < 7; decide) (hw.old_cell (hh.cell (off := 0) (.tail _ (.head _)) rfl) (hne_n6)) (elem_off hw (World.block_lt_of_cell? w _ (hh.cell (off := 0) (.tail _ (.head _)) rfl)) (hne_n6)) (num_pos hs) (by have := num_in (B := B) (s := s) (size := 3) (low := 0) (high := 16384) ⟨by decide, by decide⟩; omega)).mono fun e w8 ⟨he, u, h8⟩ => ⟨he, (a.1, u), h8⟩
  | k + 7, hp, _ => simp [partsPs] at hp
theorem parts_gfn {n0 z0 l0 h0 n1 n2 n3 z3 l3 h3 n4 z4 l4 h4 n5 z5 m5 f5 n6 : Nat} : ∀ p ∈ partsPs n0 z0 l0 h0 n1 n2 n3 z3 l3 h3 n4 z4 l4 h4 n5 z5 m5 f5 n6, ∀ (a : Array Value) (w : World), (callFunc p.gf a).run Try.prog w = .ok (.enter p.gf a) w := by
  intro p hp a w
  unfold partsPs at hp
  simp only [List.mem_cons, List.not_mem_nil, or_false] at hp
  rcases hp with rfl | rfl | rfl | rfl | rfl | rfl | rfl <;> rfl
end Go.Proofs.Ytalfdcfcaamnbaa
namespace Go.Proofs.Ytalfdcfcaamnbaa
set_option linter.unusedVariables false
set_option linter.unusedSimpArgs false
open Go.RowKit Hp
attribute [local irreducible] Go.Calls Go.wpList
set_option maxRecDepth 100000
set_option maxHeartbeats 4000000
theorem loadedOr (A : Addr) : loadVar 25 A = loadVarH 25 A := rfl
theorem Hp.St.apartH {w0 w : World} {M : List Nat} {L1 L2 : List HA} {g q : Nat} {T T' : TypeId} {cs cs' : List Value} (h : St w0 M w (.blk g T cs :: (L1 ++ .blk q T' cs' :: L2))) : g ∉ [q] := by
  intro hq
  have hap := h.apart
  unfold Apart at hap
  rw [List.pairwise_cons] at hap
  exact hap.1 (.blk q T' cs') (List.mem_append_right _ List.mem_cons_self) g rfl (by
    simp only [List.mem_singleton] at hq
    rw [hq]; rfl)
theorem Hp.St.newOff {w0 w : World} {L1 L2 : List HA} {q : Nat} {T : TypeId} {cs : List Value} (h : St w0 [] w (L1 ++ .blk q T cs :: L2)) {v : Value} {sz n : Nat} {xs : List Value} (hr : Rd w0 v sz n xs) (hs : 0 < sz) : Off v [q] := by
  refine Off.old hr hs fun k hk => ?_
  simp only [List.mem_singleton] at hk
  subst hk
  rcases h.own (.blk k T cs) (by simp) k rfl with h1 | h1
  · exact h1
  · cases h1
theorem get_len (B : List UInt8) : (goAll ((⟨0, 0, 0⟩, OV.none) : RS × OV) (getF B)).2.l.length ≤ 16 := by
  show (listR (textF B) B 1 16 _).2.length ≤ 16
  unfold listR
  rw [manyS_len]
  have := num_in (B := B) (s := ((textF B ((textF B (stepR ⟨0, 0, 0⟩ (numRR B 0 1 1 24) 0).1).1)).1)) (size := 1) (low := 0) (high := 16) ⟨by decide, by decide⟩
  refine Int.toNat_le.2 ?_
  exact (num_in ⟨by decide, by decide⟩).2
/-- What Get tells. -/
def GetP (w : World) (r : OV × Int × Int) (e : Ending) (w' : World) : Prop := ∃ lv bv, e = .returned (.tuple #[.agg (r.1.cells lv bv).toArray, .agg #[.int .i64 r.2.1, .int .i64 r.2.2]]) ∧
  St w [] w' [.rowP isS lv 9 1 r.1.l.length (strsV r.1.l), .rowP isB bv 5 1 r.1.b.length (bytesV r.1.b)]
section
attribute [local go_sem ↓] loadedOr loadedFt
theorem oget_bad (ao : Option Addr) (n c : Nat) (B : List UInt8) (w : World) (hr : Rd w (.slice ao n c) 1 n (bytesV B)) (hn : B.length = n) (hb : n ≤ 100000) (h0 : (endR B (goAll ((⟨0, 0, 0⟩, OV.none) : RS × OV) (getF B)).1).1 ≠ 0) :
    Calls Try.prog 22 #[.slice ao n c] w (GetP w (getO B)) := by
  have hst0 := St.refl w
  have HR := hid hr
  have HN := hid hn
  have hBl : B.length ≤ 100000 := by rw [hn]; exact hb
  obtain ⟨S, hS⟩ : ∃ S, S = goAll ((⟨0, 0, 0⟩, OV.none) : RS × OV) (getF B) := ⟨_, rfl⟩
  have HS := hid hS
  obtain ⟨f, hf⟩ : ∃ f, f = endR B S.1 := ⟨_, rfl⟩
  have HF := hid hf
  obtain ⟨ck, hck⟩ : ∃ ck, ck = S.2.check := ⟨_, rfl⟩
  have HCK := hid hck
  rw [← hS] at h0
  rw [← hf] at h0
  obtain ⟨R, hR⟩ : ∃ R, R = getO B := ⟨_, rfl⟩
  rw [← hR]
  have e : R = (OV.none, f.1, f.2) := by
    rw [hR]; unfold getO; simp only [← hS, ← hf]
    rw [if_neg h0, if_neg h0]
  have d0 : (f.1 == 0) = false := by simpa using h0
  have d1 : (f.1 != 0) = true := by simpa using h0
  have HE := hid e
  clear hS hf hck hR e h0 hr hn
  go_enter Try.func22, Try.ntmps22
  go_wp2_with (first | go_big_skip | go_big_guard | (refine wl_alloc (T := 25) hst0 rfl rfl ?_; intro g2 _ hst1; clear hst0) | (refine wl_alloc hst1 rfl rfl ?_; intro g3 _ hst2; clear hst1) | (refine wl_alloc (T := 25) hst2 rfl rfl ?_; intro go _ hst3; clear hst2) | (go_at_call 34; refine (parts_any go _).mono ?_; rintro _ w10 ⟨gp, n0, z0, l0, h0, n1, n2, n3, z3, l3, h3, n4, z4, l4, h4, n5, z5, m5, f5, n6, rfl, hh⟩; have hst4 := St.call hst3 hh; clear hh hst3) | (go_at_call 44; have hSel := (St.sub hst4 ((List.Sublist.trans (List.Sublist.cons_cons _ (List.nil_sublist _)) (List.sublist_append_right _ _)) : List.Sublist [_] _)).selfF; refine (parts_get (σ := OV) (τ := Value × Value) ao n c B (some ⟨gp, 0, none⟩) 7 7 (partsPs n0 z0 l0 h0 n1 n2 n3 z3 l3 h3 n4 z4 l4 h4 n5 z5 m5 f5 n6) (getF B) (ordM go) [go] OV.none (.slice none 0 0, .slice none 0 0) w10 hSel (Rd.old hst4 HR.out) HN.out hb (Rd.blk hst4 (.head _) (Nat.le_refl _) (by decide) rfl rfl) (fun b off hbo => by cases hbo; exact St.apartH hst4) (St.newOff hst4 HR.out (by decide)) rfl rfl (by decide) parts_gfn (parts_gok hBl hst4) (getF_pos B)).mono ?_; rw [← HS.out, ← HF.out]; rintro _ w11 ⟨a1, rfl, hh⟩; have hst5 := St.sub (St.callF [_] (St.front (.blk gp 89 (partsC (partsPs n0 z0 l0 h0 n1 n2 n3 z3 l3 h3 n4 z4 l4 h4 n5 z5 m5 f5 n6)) :: partsBoxes go n0 z0 l0 h0 n1 n2 n3 z3 l3 h3 n4 z4 l4 h4 n5 z5 m5 f5 n6) hst4) hh) (List.Sublist.append (List.Sublist.refl _) (List.sublist_append_right (HA.blk gp 89 (partsC (partsPs n0 z0 l0 h0 n1 n2 n3 z3 l3 h3 n4 z4 l4 h4 n5 z5 m5 f5 n6)) :: partsBoxes go n0 z0 l0 h0 n1 n2 n3 z3 l3 h3 n4 z4 l4 h4 n5 z5 m5 f5 n6) _)); clear hh hst4 hSel) | (refine wl_alloc hst5 rfl rfl ?_; intro g5 w12 hst6; clear hst5) | (refine wl_storeA [] hst6 rfl rfl rfl rfl rfl rfl rfl ?_; intro w13 hst7; clear hst6; obtain ⟨lv, bv⟩ := a1; unfold ordM at hst7; obtain ⟨ab, cb, rfl⟩ := St.rowPSliceF [_] hst7; obtain ⟨al, cl, rfl⟩ := St.rowPSliceF [_, _, _] hst7) | (refine wl_loadE rfl rfl rfl ?_; first | refine ⟨_, Loads.at [] hst7 rfl, ?_⟩))
  have hX := hst7.drew
  clear hst7
  refine wp_region_held_drew (S := (fun w' => (loadVarH 42 ⟨g5, 0, none⟩).run Try.prog w' = .ok (.agg (List.toArray ([.int .i64 f.1, .int .i64 f.2]))) w')) (by kernel_rfl) (by exact ldA ([.int .i64 f.1, .int .i64 f.2]) [] hX (rfl) (rfl)) (fun hHeld => ?_)
  refine wpAnyH_take (i := 0) (oi := ⟨some 18, _, _, _, _, _⟩) (v := ?_) rfl (by kernel_rfl) (by kernel_rfl) (by kernel_rfl) (fun _ _ _ h => h) (Or.inl ⟨by rfl, ?_⟩) (by assumption) ?_
  rotate_left
  · intro w hSw; (try dsimp only at hSw); go_simp; try with_reducible rfl
  (try simp only [Act.put, List.setIfInBounds_toArray, List.set_cons_zero, List.set_cons_succ])
  refine wpAnyH_take (i := 1) (oi := ⟨some 19, _, _, _, _, _⟩) (v := ?_) rfl (by kernel_rfl) (by kernel_rfl) (by kernel_rfl) (fun _ _ _ h => h) (Or.inl ⟨by rfl, ?_⟩) (by assumption) ?_
  rotate_left
  · intro w hSw; (try dsimp only at hSw); go_simp; try with_reducible rfl
  (try simp only [Act.put, List.setIfInBounds_toArray, List.set_cons_zero, List.set_cons_succ])
  refine wpAnyH_ready (rs := [2]) (by kernel_rfl) (by simp) ?_
  refine (AllReadyH.cons (o := ⟨none, _, _, _, _, _⟩) rfl (fun K hK => ?_) AllReadyH.nil)
  rw [if_pos (by rfl)]
  refine ow_of_wl (ops := #[]) (by rfl) ?_
  refine wl_storeA [_, _, _, _, _] hX rfl rfl rfl rfl rfl rfl rfl ?_
  intro w25 hZ5
  refine q0_nil ?_
  refine hK.out _ _ ?_ (fun hHeld => ?_)
  · exact ldA ([.int .i64 f.1, .int .i64 f.2]) [] hZ5 (rfl) (rfl)
  clear hK K
  (try simp only [Act.put, List.setIfInBounds_toArray, List.set_cons_zero, List.set_cons_succ])
  refine wpAnyH_ready (rs := [3]) (by kernel_rfl) (by simp) ?_
  refine (AllReadyH.cons (o := ⟨none, _, _, _, _, _⟩) rfl (fun K hK => ?_) AllReadyH.nil)
  rw [if_pos (by rfl)]
  refine ow_of_wl (ops := #[]) (by rfl) ?_
  refine wl_storeA [_, _, _, _] hZ5 rfl rfl rfl rfl rfl rfl rfl ?_
  intro w24 hZ4
  refine q0_nil ?_
  refine hK.out _ _ ?_ (fun hHeld => ?_)
  · exact ldA ([.int .i64 f.1, .int .i64 f.2]) [] hZ4 (rfl) (rfl)
  clear hK K
  (try simp only [Act.put, List.setIfInBounds_toArray, List.set_cons_zero, List.set_cons_succ])
  refine wpAnyH_done (by kernel_rfl) ?_ _
  clear hHeld
  go_wp2_with (first | go_big_skip | go_big_guard | fail)
  refine bodyPost_ret (results_cell2L rfl rfl rfl (Loads.whole (T := 25) [_, _, _, _, _] hZ4 rfl) (Loads.whole (T := 42) [_, _, _, _] hZ4 rfl)) rfl ?_
  rw [HE.out]
  exact ⟨.slice none 0 0, .slice none 0 0, rfl, St.nilPQ isS _ 1 (St.nilPQ isB _ 1 hZ4.nil)⟩
theorem oget_odd (ao : Option Addr) (n c : Nat) (B : List UInt8) (w : World) (hr : Rd w (.slice ao n c) 1 n (bytesV B)) (hn : B.length = n) (hb : n ≤ 100000) (h0 : (endR B (goAll ((⟨0, 0, 0⟩, OV.none) : RS × OV) (getF B)).1).1 = 0) (h1 : (goAll ((⟨0, 0, 0⟩, OV.none) : RS × OV) (getF B)).2.check ≠ 0) :
    Calls Try.prog 22 #[.slice ao n c] w (GetP w (getO B)) := by
  have hst0 := St.refl w
  have HR := hid hr
  have HN := hid hn
  have hBl : B.length ≤ 100000 := by rw [hn]; exact hb
  obtain ⟨S, hS⟩ : ∃ S, S = goAll ((⟨0, 0, 0⟩, OV.none) : RS × OV) (getF B) := ⟨_, rfl⟩
  have HS := hid hS
  obtain ⟨f, hf⟩ : ∃ f, f = endR B S.1 := ⟨_, rfl⟩
  have HF := hid hf
  obtain ⟨ck, hck⟩ : ∃ ck, ck = S.2.check := ⟨_, rfl⟩
  have HCK := hid hck
  rw [← hS] at h0 h1
  rw [← hf] at h0
  rw [← hck] at h1
  obtain ⟨R, hR⟩ : ∃ R, R = getO B := ⟨_, rfl⟩
  rw [← hR]
  have e : R = (OV.none, ck, f.2) := by
    rw [hR]; unfold getO; simp only [← hS, ← hf, ← hck]
    rw [if_pos h0, if_neg h1]
  have d0 : (f.1 == 0) = true := by simpa using h0
  have d1 : (ck != 0) = true := by simpa using h1
  have HE := hid e
  clear hS hf hck hR e h0 h1 hr hn
  go_enter Try.func22, Try.ntmps22
  go_wp2_with (first | go_big_skip | go_big_guard | (refine wl_alloc (T := 25) hst0 rfl rfl ?_; intro g2 _ hst1; clear hst0) | (refine wl_alloc hst1 rfl rfl ?_; intro g3 _ hst2; clear hst1) | (refine wl_alloc (T := 25) hst2 rfl rfl ?_; intro go _ hst3; clear hst2) | (go_at_call 34; refine (parts_any go _).mono ?_; rintro _ w10 ⟨gp, n0, z0, l0, h0, n1, n2, n3, z3, l3, h3, n4, z4, l4, h4, n5, z5, m5, f5, n6, rfl, hh⟩; have hst4 := St.call hst3 hh; clear hh hst3) | (go_at_call 44; have hSel := (St.sub hst4 ((List.Sublist.trans (List.Sublist.cons_cons _ (List.nil_sublist _)) (List.sublist_append_right _ _)) : List.Sublist [_] _)).selfF; refine (parts_get (σ := OV) (τ := Value × Value) ao n c B (some ⟨gp, 0, none⟩) 7 7 (partsPs n0 z0 l0 h0 n1 n2 n3 z3 l3 h3 n4 z4 l4 h4 n5 z5 m5 f5 n6) (getF B) (ordM go) [go] OV.none (.slice none 0 0, .slice none 0 0) w10 hSel (Rd.old hst4 HR.out) HN.out hb (Rd.blk hst4 (.head _) (Nat.le_refl _) (by decide) rfl rfl) (fun b off hbo => by cases hbo; exact St.apartH hst4) (St.newOff hst4 HR.out (by decide)) rfl rfl (by decide) parts_gfn (parts_gok hBl hst4) (getF_pos B)).mono ?_; rw [← HS.out, ← HF.out]; rintro _ w11 ⟨a1, rfl, hh⟩; have hst5 := St.sub (St.callF [_] (St.front (.blk gp 89 (partsC (partsPs n0 z0 l0 h0 n1 n2 n3 z3 l3 h3 n4 z4 l4 h4 n5 z5 m5 f5 n6)) :: partsBoxes go n0 z0 l0 h0 n1 n2 n3 z3 l3 h3 n4 z4 l4 h4 n5 z5 m5 f5 n6) hst4) hh) (List.Sublist.append (List.Sublist.refl _) (List.sublist_append_right (HA.blk gp 89 (partsC (partsPs n0 z0 l0 h0 n1 n2 n3 z3 l3 h3 n4 z4 l4 h4 n5 z5 m5 f5 n6)) :: partsBoxes go n0 z0 l0 h0 n1 n2 n3 z3 l3 h3 n4 z4 l4 h4 n5 z5 m5 f5 n6) _)); clear hh hst4 hSel) | (refine wl_alloc hst5 rfl rfl ?_; intro g5 w12 hst6; clear hst5) | (refine wl_storeA [] hst6 rfl rfl rfl rfl rfl rfl rfl ?_; intro w13 hst7; clear hst6; obtain ⟨lv, bv⟩ := a1; unfold ordM at hst7; obtain ⟨ab, cb, rfl⟩ := St.rowPSliceF [_] hst7; obtain ⟨al, cl, rfl⟩ := St.rowPSliceF [_, _, _] hst7) | (refine wl_loadE rfl rfl rfl ?_; first | refine ⟨_, Loads.at [] hst7 rfl, ?_⟩) | (refine wl_loadE rfl rfl rfl ?_; refine ⟨_, Loads.whole (T := 25) [_, _] hst7 rfl, ?_⟩) | (go_at_call 15; refine (check_any S.2 al ab S.2.l.length cl S.2.b.length cb _ (Rd.rowP hst7 (.tail _ (.tail _ (.tail _ (.head _))))) rfl rfl (by rw [HS.out]; exact Nat.le_trans (get_len B) (by decide))).mono ?_; rw [← HCK.out]; rintro _ w14 ⟨rfl, h4⟩; have hst8 := St.call0 hst7 h4; clear h4 hst7) | (refine wl_store [] hst8 rfl rfl rfl (v := .int _ _) rfl rfl rfl (by show (1 : Nat) ≤ 2; decide) ?_; intro w15 hst9; clear hst8) | (refine wl_loadE rfl rfl rfl ?_; first | refine ⟨_, Loads.at [] hst9 rfl, ?_⟩))
  have hst10 : St w [] w15 (.blk g5 42 [.int .i64 ck, .int .i64 f.2] :: _) := hst9
  clear hst9
  have hX := hst10.drew
  clear hst10
  refine wp_region_held_drew (S := (fun w' => (loadVarH 42 ⟨g5, 0, none⟩).run Try.prog w' = .ok (.agg (List.toArray ([.int .i64 ck, .int .i64 f.2]))) w')) (by kernel_rfl) (by exact ldA ([.int .i64 ck, .int .i64 f.2]) [] hX (rfl) (rfl)) (fun hHeld => ?_)
  refine wpAnyH_take (i := 0) (oi := ⟨some 18, _, _, _, _, _⟩) (v := ?_) rfl (by kernel_rfl) (by kernel_rfl) (by kernel_rfl) (fun _ _ _ h => h) (Or.inl ⟨by rfl, ?_⟩) (by assumption) ?_
  rotate_left
  · intro w hSw; (try dsimp only at hSw); go_simp; try with_reducible rfl
  (try simp only [Act.put, List.setIfInBounds_toArray, List.set_cons_zero, List.set_cons_succ])
  refine wpAnyH_take (i := 1) (oi := ⟨some 19, _, _, _, _, _⟩) (v := ?_) rfl (by kernel_rfl) (by kernel_rfl) (by kernel_rfl) (fun _ _ _ h => h) (Or.inl ⟨by rfl, ?_⟩) (by assumption) ?_
  rotate_left
  · intro w hSw; (try dsimp only at hSw); go_simp; try with_reducible rfl
  (try simp only [Act.put, List.setIfInBounds_toArray, List.set_cons_zero, List.set_cons_succ])
  refine wpAnyH_ready (rs := [2]) (by kernel_rfl) (by simp) ?_
  refine (AllReadyH.cons (o := ⟨none, _, _, _, _, _⟩) rfl (fun K hK => ?_) AllReadyH.nil)
  rw [if_pos (by rfl)]
  refine ow_of_wl (ops := #[]) (by rfl) ?_
  refine wl_storeA [_, _, _, _, _] hX rfl rfl rfl rfl rfl rfl rfl ?_
  intro w25 hZ5
  refine q0_nil ?_
  refine hK.out _ _ ?_ (fun hHeld => ?_)
  · exact ldA ([.int .i64 ck, .int .i64 f.2]) [] hZ5 (rfl) (rfl)
  clear hK K
  (try simp only [Act.put, List.setIfInBounds_toArray, List.set_cons_zero, List.set_cons_succ])
  refine wpAnyH_ready (rs := [3]) (by kernel_rfl) (by simp) ?_
  refine (AllReadyH.cons (o := ⟨none, _, _, _, _, _⟩) rfl (fun K hK => ?_) AllReadyH.nil)
  rw [if_pos (by rfl)]
  refine ow_of_wl (ops := #[]) (by rfl) ?_
  refine wl_storeA [_, _, _, _] hZ5 rfl rfl rfl rfl rfl rfl rfl ?_
  intro w24 hZ4
  refine q0_nil ?_
  refine hK.out _ _ ?_ (fun hHeld => ?_)
  · exact ldA ([.int .i64 ck, .int .i64 f.2]) [] hZ4 (rfl) (rfl)
  clear hK K
  (try simp only [Act.put, List.setIfInBounds_toArray, List.set_cons_zero, List.set_cons_succ])
  refine wpAnyH_done (by kernel_rfl) ?_ _
  clear hHeld
  go_wp2_with (first | go_big_skip | go_big_guard | fail)
  refine bodyPost_ret (results_cell2L rfl rfl rfl (Loads.whole (T := 25) [_, _, _, _, _] hZ4 rfl) (Loads.whole (T := 42) [_, _, _, _] hZ4 rfl)) rfl ?_
  rw [HE.out]
  exact ⟨.slice none 0 0, .slice none 0 0, rfl, St.nilPQ isS _ 1 (St.nilPQ isB _ 1 hZ4.nil)⟩
theorem oget_ok (ao : Option Addr) (n c : Nat) (B : List UInt8) (w : World) (hr : Rd w (.slice ao n c) 1 n (bytesV B)) (hn : B.length = n) (hb : n ≤ 100000) (h0 : (endR B (goAll ((⟨0, 0, 0⟩, OV.none) : RS × OV) (getF B)).1).1 = 0) (h1 : (goAll ((⟨0, 0, 0⟩, OV.none) : RS × OV) (getF B)).2.check = 0) :
    Calls Try.prog 22 #[.slice ao n c] w (GetP w (getO B)) := by
  have hst0 := St.refl w
  have HR := hid hr
  have HN := hid hn
  have hBl : B.length ≤ 100000 := by rw [hn]; exact hb
  obtain ⟨S, hS⟩ : ∃ S, S = goAll ((⟨0, 0, 0⟩, OV.none) : RS × OV) (getF B) := ⟨_, rfl⟩
  have HS := hid hS
  obtain ⟨f, hf⟩ : ∃ f, f = endR B S.1 := ⟨_, rfl⟩
  have HF := hid hf
  obtain ⟨ck, hck⟩ : ∃ ck, ck = S.2.check := ⟨_, rfl⟩
  have HCK := hid hck
  rw [← hS] at h0 h1
  rw [← hf] at h0
  rw [← hck] at h1
  obtain ⟨R, hR⟩ : ∃ R, R = getO B := ⟨_, rfl⟩
  rw [← hR]
  have e : R = (S.2, ck, f.2) := by
    rw [hR]; unfold getO; simp only [← hS, ← hf, ← hck]
    rw [if_pos h0, if_pos h1]
  have d0 : (f.1 == 0) = true := by simpa using h0
  have d1 : (ck != 0) = false := by simpa using h1
  have HE := hid e
  clear hS hf hck hR e h0 h1 hr hn
  go_enter Try.func22, Try.ntmps22
  go_wp2_with (first | go_big_skip | go_big_guard | (refine wl_alloc (T := 25) hst0 rfl rfl ?_; intro g2 _ hst1; clear hst0) | (refine wl_alloc hst1 rfl rfl ?_; intro g3 _ hst2; clear hst1) | (refine wl_alloc (T := 25) hst2 rfl rfl ?_; intro go _ hst3; clear hst2) | (go_at_call 34; refine (parts_any go _).mono ?_; rintro _ w10 ⟨gp, n0, z0, l0, h0, n1, n2, n3, z3, l3, h3, n4, z4, l4, h4, n5, z5, m5, f5, n6, rfl, hh⟩; have hst4 := St.call hst3 hh; clear hh hst3) | (go_at_call 44; have hSel := (St.sub hst4 ((List.Sublist.trans (List.Sublist.cons_cons _ (List.nil_sublist _)) (List.sublist_append_right _ _)) : List.Sublist [_] _)).selfF; refine (parts_get (σ := OV) (τ := Value × Value) ao n c B (some ⟨gp, 0, none⟩) 7 7 (partsPs n0 z0 l0 h0 n1 n2 n3 z3 l3 h3 n4 z4 l4 h4 n5 z5 m5 f5 n6) (getF B) (ordM go) [go] OV.none (.slice none 0 0, .slice none 0 0) w10 hSel (Rd.old hst4 HR.out) HN.out hb (Rd.blk hst4 (.head _) (Nat.le_refl _) (by decide) rfl rfl) (fun b off hbo => by cases hbo; exact St.apartH hst4) (St.newOff hst4 HR.out (by decide)) rfl rfl (by decide) parts_gfn (parts_gok hBl hst4) (getF_pos B)).mono ?_; rw [← HS.out, ← HF.out]; rintro _ w11 ⟨a1, rfl, hh⟩; have hst5 := St.sub (St.callF [_] (St.front (.blk gp 89 (partsC (partsPs n0 z0 l0 h0 n1 n2 n3 z3 l3 h3 n4 z4 l4 h4 n5 z5 m5 f5 n6)) :: partsBoxes go n0 z0 l0 h0 n1 n2 n3 z3 l3 h3 n4 z4 l4 h4 n5 z5 m5 f5 n6) hst4) hh) (List.Sublist.append (List.Sublist.refl _) (List.sublist_append_right (HA.blk gp 89 (partsC (partsPs n0 z0 l0 h0 n1 n2 n3 z3 l3 h3 n4 z4 l4 h4 n5 z5 m5 f5 n6)) :: partsBoxes go n0 z0 l0 h0 n1 n2 n3 z3 l3 h3 n4 z4 l4 h4 n5 z5 m5 f5 n6) _)); clear hh hst4 hSel) | (refine wl_alloc hst5 rfl rfl ?_; intro g5 w12 hst6; clear hst5) | (refine wl_storeA [] hst6 rfl rfl rfl rfl rfl rfl rfl ?_; intro w13 hst7; clear hst6; obtain ⟨lv, bv⟩ := a1; unfold ordM at hst7; obtain ⟨ab, cb, rfl⟩ := St.rowPSliceF [_] hst7; obtain ⟨al, cl, rfl⟩ := St.rowPSliceF [_, _, _] hst7) | (refine wl_loadE rfl rfl rfl ?_; first | refine ⟨_, Loads.at [] hst7 rfl, ?_⟩) | (refine wl_loadE rfl rfl rfl ?_; refine ⟨_, Loads.whole (T := 25) [_, _] hst7 rfl, ?_⟩) | (go_at_call 15; refine (check_any S.2 al ab S.2.l.length cl S.2.b.length cb _ (Rd.rowP hst7 (.tail _ (.tail _ (.tail _ (.head _))))) rfl rfl (by rw [HS.out]; exact Nat.le_trans (get_len B) (by decide))).mono ?_; rw [← HCK.out]; rintro _ w14 ⟨rfl, h4⟩; have hst8 := St.call0 hst7 h4; clear h4 hst7) | (refine wl_store [] hst8 rfl rfl rfl (v := .int _ _) rfl rfl rfl (by show (1 : Nat) ≤ 2; decide) ?_; intro w15 hst9; clear hst8) | (refine wl_loadE rfl rfl rfl ?_; first | refine ⟨_, Loads.at [] hst9 rfl, ?_⟩))
  have hst10 : St w [] w15 (.blk g5 42 [.int .i64 ck, .int .i64 f.2] :: _) := hst9
  clear hst9
  have hX := hst10.drew
  clear hst10
  refine wp_region_held_drew (S := (fun w' => (loadVarH 42 ⟨g5, 0, none⟩).run Try.prog w' = .ok (.agg (List.toArray ([.int .i64 ck, .int .i64 f.2]))) w' ∧ (loadVarH 25 ⟨go, 0, none⟩).run Try.prog w' = .ok (.agg (List.toArray (S.2.cells (.slice al S.2.l.length cl) (.slice ab S.2.b.length cb)))) w')) (by kernel_rfl) (by exact ⟨ldA ([.int .i64 ck, .int .i64 f.2]) [] hX (rfl) (rfl), ldA (S.2.cells (.slice al S.2.l.length cl) (.slice ab S.2.b.length cb)) [_, _] hX (rfl) (rfl)⟩) (fun hHeld => ?_)
  refine wpAnyH_take (i := 0) (oi := ⟨some 20, _, _, _, _, _⟩) (v := ?_) rfl (by kernel_rfl) (by kernel_rfl) (by kernel_rfl) (fun _ _ _ h => h) (Or.inl ⟨by rfl, ?_⟩) (by assumption) ?_
  rotate_left
  · intro w hSw; (try dsimp only at hSw); go_simp; try with_reducible rfl
  (try simp only [Act.put, List.setIfInBounds_toArray, List.set_cons_zero, List.set_cons_succ])
  refine wpAnyH_take (i := 1) (oi := ⟨some 21, _, _, _, _, _⟩) (v := ?_) rfl (by kernel_rfl) (by kernel_rfl) (by kernel_rfl) (fun _ _ _ h => h) (Or.inl ⟨by rfl, ?_⟩) (by assumption) ?_
  rotate_left
  · intro w hSw; (try dsimp only at hSw); go_simp; try with_reducible rfl
  (try simp only [Act.put, List.setIfInBounds_toArray, List.set_cons_zero, List.set_cons_succ])
  refine wpAnyH_ready (rs := [2]) (by kernel_rfl) (by simp) ?_
  refine (AllReadyH.cons (o := ⟨none, _, _, _, _, _⟩) rfl (fun K hK => ?_) AllReadyH.nil)
  rw [if_pos (by rfl)]
  refine ow_of_wl (ops := #[]) (by rfl) ?_
  refine wl_storeA [_, _, _, _, _] hX rfl rfl rfl rfl rfl rfl rfl ?_
  intro w25 hZ5
  refine q0_nil ?_
  refine hK.out _ _ ?_ (fun hHeld => ?_)
  · exact ⟨ldA ([.int .i64 ck, .int .i64 f.2]) [] hZ5 (rfl) (rfl), ldA (S.2.cells (.slice al S.2.l.length cl) (.slice ab S.2.b.length cb)) [_, _] hZ5 (rfl) (rfl)⟩
  clear hK K
  (try simp only [Act.put, List.setIfInBounds_toArray, List.set_cons_zero, List.set_cons_succ])
  refine wpAnyH_ready (rs := [3]) (by kernel_rfl) (by simp) ?_
  refine (AllReadyH.cons (o := ⟨none, _, _, _, _, _⟩) rfl (fun K hK => ?_) AllReadyH.nil)
  rw [if_pos (by rfl)]
  refine ow_of_wl (ops := #[]) (by rfl) ?_
  refine wl_storeA [_, _, _, _] hZ5 rfl rfl rfl rfl rfl rfl rfl ?_
  intro w24 hZ4
  refine q0_nil ?_
  refine hK.out _ _ ?_ (fun hHeld => ?_)
  · exact ⟨ldA ([.int .i64 ck, .int .i64 f.2]) [] hZ4 (rfl) (rfl), ldA (S.2.cells (.slice al S.2.l.length cl) (.slice ab S.2.b.length cb)) [_, _] hZ4 (rfl) (rfl)⟩
  clear hK K
  (try simp only [Act.put, List.setIfInBounds_toArray, List.set_cons_zero, List.set_cons_succ])
  refine wpAnyH_done (by kernel_rfl) ?_ _
  clear hHeld
  go_wp2_with (first | go_big_skip | go_big_guard | fail)
  refine bodyPost_ret (results_cell2L rfl rfl rfl (Loads.whole (T := 25) [_, _, _, _, _] hZ4 rfl) (Loads.whole (T := 42) [_, _, _, _] hZ4 rfl)) rfl ?_
  rw [HE.out]
  refine ⟨_, _, rfl, ?_⟩
  exact St.sub (St.front (L1 := [_, _, _, _, _]) (St.front (L1 := [_, _, _, _]) (St.front (L1 := [_, _, _]) (St.front (L1 := [_, _, _, _]) (St.front (L1 := [_, _, _, _, _]) (St.front (L1 := [_, _, _, _, _]) hZ4)))))) (.cons_cons _ (.cons_cons _ (List.nil_sublist _)))
theorem oget_any (ao : Option Addr) (n c : Nat) (B : List UInt8) (w : World) (hr : Rd w (.slice ao n c) 1 n (bytesV B)) (hn : B.length = n) (hb : n ≤ 100000) :
    Calls Try.prog 22 #[.slice ao n c] w (GetP w (getO B)) := by
  by_cases h0 : (endR B (goAll ((⟨0, 0, 0⟩, OV.none) : RS × OV) (getF B)).1).1 = 0
  · by_cases h1 : (goAll ((⟨0, 0, 0⟩, OV.none) : RS × OV) (getF B)).2.check = 0
    · exact oget_ok ao n c B w hr hn hb h0 h1
    · exact oget_odd ao n c B w hr hn hb h0 h1
  · exact oget_bad ao n c B w hr hn hb h0
end
end Go.Proofs.Ytalfdcfcaamnbaa
namespace Go.Proofs.Ytalfdcfcaamnbaa
set_option linter.unusedVariables false
set_option linter.unusedSimpArgs false
open Go.RowKit Hp
attribute [local irreducible] Go.Calls Go.wpList
set_option maxRecDepth 100000
set_option maxHeartbeats 4000000
/-- The chapter's order. -/
def mkO : OV := ⟨1, 4, 0, [97], [], [], []⟩
theorem mkO_ok : mkO.Ok := ⟨by decide, by decide, by decide, by decide, by decide, by decide, by decide, by decide⟩
def mkB : List UInt8 := [1, 1, 97] ++ (List.replicate 97 0 ++ [0, 0, 4, 0, 0, 0, 0, 0, 0, 0, 0])
theorem mkO_put : putO mkO = (0, mkB) := by decide +kernel
theorem mkB_get : getO mkB = (mkO, 0, 0) := by kernel_rfl
theorem usesC_freed : usesC 11 = [.bool false, .bool false, .bool false, .bool false, .bool true, .bool false] := by kernel_rfl
end Go.Proofs.Ytalfdcfcaamnbaa
namespace Go.Proofs.Ytalfdcfcaamnbaa
set_option linter.unusedVariables false
set_option linter.unusedSimpArgs false
open Go.RowKit Hp
attribute [local irreducible] Go.Calls Go.wpList
set_option maxRecDepth 100000
set_option maxHeartbeats 4000000
theorem eqlUses (b0 b1 b2 b3 b4 b5 : Bool) (w : World) : (binOp .eql 35 (.agg #[.bool b0, .bool b1, .bool b2, .bool b3, .bool b4, .bool b5]) (.agg #[.bool b0, .bool b1, .bool b2, .bool b3, .bool b4, .bool b5])).run Try.prog w = .ok (.bool true) w := by
  cases b0 <;> cases b1 <;> cases b2 <;> cases b3 <;> cases b4 <;> cases b5 <;> kernel_rfl
theorem neqUses (b0 b1 b2 b3 b4 b5 : Bool) (w : World) : (binOp .neq 35 (.agg #[.bool b0, .bool b1, .bool b2, .bool b3, .bool b4, .bool b5]) (.agg #[.bool b0, .bool b1, .bool b2, .bool b3, .bool b4, .bool b5])).run Try.prog w = .ok (.bool false) w := by
  cases b0 <;> cases b1 <;> cases b2 <;> cases b3 <;> cases b4 <;> cases b5 <;> kernel_rfl
theorem guardUses (k : BinOp) (x y : Operand) (xs ys : Array Value) (w : World) : (eqGuard k 35 x y (.agg xs) (.agg ys)).run Try.prog w = .ok () w :=
  Hp.run_eqGuard_agg (P := Try.prog) (T := 35) (by kernel_rfl) k x y xs ys
theorem wl_eqUses {ops : Array Oper} {rest : List Oper} {o : Oper} {a : Act} {w : World} {Q : Exit → Act → World → Prop} {T' : TypeId} {x y : Operand} {op : Int} (hop : o.op = .binOp .eql 35 x y T') (hw : Region.wanted o (yielded ops a.tmps) = true) (hx : a.eval x = .agg (usesC op).toArray) (hy : a.eval y = .agg (usesC op).toArray)
    (h : wpList Try.prog ops Q rest (a.put o.dst (.bool true)) w) : wpList Try.prog ops Q (o :: rest) a w := by
  refine wl_run hw ?_ h
  have e := eqlUses (us op 0) (us op 1) (us op 2) (us op 3) (us op 4) (us op 5) w
  unfold execOp
  simp only [hop, hx, hy, Sem.run_bind, guardUses, Result.andThen_ok]
  show ((binOp .eql 35 (.agg (usesC op).toArray) (.agg (usesC op).toArray)).run Try.prog w).andThen _ = _
  rw [show (binOp .eql 35 (.agg (usesC op).toArray) (.agg (usesC op).toArray)).run Try.prog w = .ok (.bool true) w from e]
  rfl
theorem wl_neqUses {ops : Array Oper} {rest : List Oper} {o : Oper} {a : Act} {w : World} {Q : Exit → Act → World → Prop} {T' : TypeId} {x y : Operand} {op : Int} (hop : o.op = .binOp .neq 35 x y T') (hw : Region.wanted o (yielded ops a.tmps) = true) (hx : a.eval x = .agg (usesC op).toArray) (hy : a.eval y = .agg (usesC op).toArray)
    (h : wpList Try.prog ops Q rest (a.put o.dst (.bool false)) w) : wpList Try.prog ops Q (o :: rest) a w := by
  refine wl_run hw ?_ h
  have e := neqUses (us op 0) (us op 1) (us op 2) (us op 3) (us op 4) (us op 5) w
  unfold execOp
  simp only [hop, hx, hy, Sem.run_bind, guardUses, Result.andThen_ok]
  show ((binOp .neq 35 (.agg (usesC op).toArray) (.agg (usesC op).toArray)).run Try.prog w).andThen _ = _
  rw [show (binOp .neq 35 (.agg (usesC op).toArray) (.agg (usesC op).toArray)).run Try.prog w = .ok (.bool false) w from e]
  rfl
instance oP2 : TyP2 Try.prog 42 := ⟨by kernel_rfl⟩
@[go_sem ↓] theorem oeqlFault (a b c d : Int) (w : World) : (binOp .eql 42 (.agg #[.int .i64 a, .int .i64 b]) (.agg #[.int .i64 c, .int .i64 d])).run Try.prog w = .ok (.bool ((a == c) && (b == d))) w := run_eql_p2 oP2 a b c d .i64 .i64 w
@[go_sem ↓] theorem oneqFault (a b c d : Int) (w : World) : (binOp .neq 42 (.agg #[.int .i64 a, .int .i64 b]) (.agg #[.int .i64 c, .int .i64 d])).run Try.prog w = .ok (.bool (!((a == c) && (b == d)))) w := run_neq_p2 oP2 a b c d .i64 .i64 w
@[go_sem ↓] theorem oguardFault (op : BinOp) (x y : Operand) (xs ys : Array Value) (w : World) : (eqGuard op 42 x y (.agg xs) (.agg ys)).run Try.prog w = .ok () w := run_guard_p2 oP2 op x y xs ys w
theorem mkB_len : mkB.length = 111 := by decide
theorem awake_any (w : World) : Calls Try.prog 10 #[] w fun e w' => e = .returned (.bool true) ∧ St w [] w' [] := by
  have hst0 := St.refl w
  go_enter Try.func10, Try.ntmps10
  go_wp2_with (first | go_big_skip | go_big_guard | (refine wl_buildX (T := 25) (cs := [.int .i64 1, .string ⟨#[97]⟩, .string ⟨#[]⟩, .int .i64 4, .int .i64 0, .slice none 0 0, .slice none 0 0]) [(0, .int .i64 1), (1, .string ⟨#[97]⟩), (3, .int .i64 4)] rfl rfl (by exact rfl) (by kernel_rfl) ?_) | (go_at_call 12; refine (oput_any mkO mkO_ok none none 0 0 0 0 _ (Rd.nil _ _) (Rd.nil _ _) rfl rfl).mono ?_; rw [mkO_put]; rintro _ w2 ⟨u, rfl, h4⟩; have hst1 : St w [] w2 ([] ++ .rowP isB u 5 1 111 (bytesV mkB) :: []) := h4; obtain ⟨g, cap, cs, rfl, hc1, hc2, hc3, hc4, _, hst⟩ := (St.openP (L1 := []) hst1).resolve_left (fun hh => absurd hh.2.1 (by decide)); have HX := hid (show (cs.drop 0).take (bytesV mkB).length = bytesV mkB by rw [List.drop_zero, length_bytesV, mkB_len]; exact hc4); have n3 : (3 : Int) ≤ (cap : Int) := (by omega); have n4 : (111 : Int) ≤ (cap : Int) := (by omega); have n5 : ¬ (cap = 100) := (by omega); have n6 : ¬ ((cap : Int) = 100) := (by omega); clear h4 hst0 hst1 hc3 hc4) | (apply wl_bsX [.int .u8 1, .int .u8 1, .int .u8 97] [.int .u8 1, .int .u8 1, .int .u8 97] hst; rfl; rfl; exact rfl; exact rfl; infer_instance; infer_instance; rfl; rfl; rfl; intro gl _ hst5; replace hst := hst5; clear hst5) | (apply wl_bsX [.int .u8 0, .int .u8 0, .int .u8 4, .int .u8 0, .int .u8 0, .int .u8 0, .int .u8 0, .int .u8 0, .int .u8 0, .int .u8 0, .int .u8 0] [.int .u8 0, .int .u8 0, .int .u8 4, .int .u8 0, .int .u8 0, .int .u8 0, .int .u8 0, .int .u8 0, .int .u8 0, .int .u8 0, .int .u8 0] hst; rfl; rfl; exact rfl; exact rfl; infer_instance; infer_instance; rfl; rfl; rfl; intro gl _ hst5; replace hst := hst5; clear hst5) | (go_at_call 14; refine (sameBytes_any _ _ 3 3 (mkB.take 3) [1, 1, 97] _ (Rd.takeN (n := 111) (by (first | exact Rd.blk hst (.head _) hc1 hc2 (by rw [length_bytesV, mkB_len]) HX.out | exact Rd.blk hst (.tail _ (.head _)) hc1 hc2 (by rw [length_bytesV, mkB_len]) HX.out | exact Rd.blk hst (.tail _ (.tail _ (.head _))) hc1 hc2 (by rw [length_bytesV, mkB_len]) HX.out)) (by decide)) (Rd.blk0 hst rfl (by decide))).mono ?_; rw [show (mkB.take 3 == [1, 1, 97]) = true from by decide]; rintro _ w9 ⟨rfl, h4⟩; replace hst := St.call0 hst h4; clear h4) | (go_at_call 14; refine (sameBytes_any _ _ 11 11 ((mkB.drop 100).take 11) [0, 0, 4, 0, 0, 0, 0, 0, 0, 0, 0] _ (Rd.win (off := 0) (n := 111) (c := cap) 100 (by (first | exact Rd.blk hst (.head _) hc1 hc2 (by rw [length_bytesV, mkB_len]) HX.out | exact Rd.blk hst (.tail _ (.head _)) hc1 hc2 (by rw [length_bytesV, mkB_len]) HX.out | exact Rd.blk hst (.tail _ (.tail _ (.head _))) hc1 hc2 (by rw [length_bytesV, mkB_len]) HX.out)) rfl (by decide) ⟨by omega, by omega⟩) (Rd.blk0 hst rfl (by decide))).mono ?_; rw [show ((mkB.drop 100).take 11 == [0, 0, 4, 0, 0, 0, 0, 0, 0, 0, 0]) = true from by decide]; rintro _ w9 ⟨rfl, h4⟩; replace hst := St.call0 hst h4; clear h4) | (go_at_call 22; refine (oget_any (some ⟨g, 0, none⟩) 111 cap mkB _ (by (first | exact Rd.blk hst (.head _) hc1 hc2 (by rw [length_bytesV, mkB_len]) HX.out | exact Rd.blk hst (.tail _ (.head _)) hc1 hc2 (by rw [length_bytesV, mkB_len]) HX.out | exact Rd.blk hst (.tail _ (.tail _ (.head _))) hc1 hc2 (by rw [length_bytesV, mkB_len]) HX.out)) mkB_len (by decide)).mono ?_; rw [mkB_get]; rintro _ w11 ⟨lv, bv, rfl, h4⟩; have hst6 := St.call hst h4; clear h4 hst; obtain ⟨al, cl, rfl⟩ := St.rowPSliceF [] hst6; obtain ⟨ab, cb, rfl⟩ := St.rowPSliceF [_] hst6) | (refine wl_alloc (T := 25) hst6 rfl rfl ?_; intro g3 _ hst7; clear hst6) | (refine wl_alloc (T := 42) hst7 rfl rfl ?_; intro g4 _ hst8; clear hst7) | (refine wl_storeA (T := 25) (vs := [.int .i64 1, .string ⟨#[97]⟩, .string ⟨#[]⟩, .int .i64 4, .int .i64 0, .slice al 0 cl, .slice ab 0 cb]) [_] hst8 rfl rfl (by kernel_rfl) (by kernel_rfl) rfl rfl rfl ?_; intro w21 hst9; clear hst8) | (refine wl_storeA (T := 42) (vs := [.int .i64 0, .int .i64 0]) [] hst9 rfl rfl (by kernel_rfl) (by kernel_rfl) rfl rfl rfl ?_; intro w22 hst10; clear hst9) | (refine wl_loadE rfl rfl rfl ?_; first | refine ⟨_, Loads.at [_] hst10 rfl, ?_⟩ | refine ⟨_, Loads.at [] hst10 rfl, ?_⟩) | (go_at_call 17; refine (uses_any 11 _).mono ?_; rintro _ w23 ⟨rfl, h4⟩; have hst11 := St.call0 hst10 h4; clear h4 hst10) | (refine wl_buildX (T := 35) (cs := usesC 11) [(4, .bool true)] rfl rfl (by exact rfl) (by kernel_rfl) ?_) | (refine wl_eqUses (op := 11) rfl rfl (by kernel_rfl) (by kernel_rfl) ?_))
  go_ret
  exact ⟨rfl, hst11.nil⟩
end Go.Proofs.Ytalfdcfcaamnbaa
namespace Go.Proofs.Ytalfdcfcaamnbaa
set_option linter.unusedVariables false
set_option linter.unusedSimpArgs false
open Go.RowKit Hp
attribute [local irreducible] Go.Calls Go.wpList
set_option maxRecDepth 100000
set_option maxHeartbeats 4000000
/-- A reply. -/
structure RV where
  (err : Int)
  (n : List Int)
  (b : List UInt8)
def RV.cells (r : RV) (nv bv : Value) : List Value := [.int .i64 r.err, nv, bv]
def oddW (z : Int) : Bool := decide (z < 0) || decide (1099511627775 < z)
def RV.fine (r : RV) : Bool := if r.err < 0 ∨ 999 < r.err ∨ 2000 < r.n.length ∨ 16384 < r.b.length ∨ r.n.any oddW = true then false else if r.err = 0 then true else decide ((r.n.length : Int) + (r.b.length : Int) = 0)
theorem oddW_any (z : Int) (w : World) : Calls Try.prog 67 #[.int .i64 z] w fun e w' => e = .returned (.bool (oddW z)) ∧ St w [] w' [] := by
  have hst := St.refl w
  unfold oddW
  by_cases h1 : z < 0
  · have d1 : decide (z < 0) = true := decide_eq_true h1
    rw [d1]
    clear h1
    go_enter Try.func67, Try.ntmps67
    go_wp2_with (first | go_big_skip | go_big_guard | fail)
    go_ret
    exact ⟨rfl, hst⟩
  · have d1 : decide (z < 0) = false := decide_eq_false h1
    rw [d1]
    clear h1
    go_enter Try.func67, Try.ntmps67
    go_wp2_with (first | go_big_skip | go_big_guard | fail)
    go_ret
    exact ⟨by rw [Bool.false_or]; rfl, hst⟩
theorem fine_any (r : RV) (an ab : Option Addr) (nn cn nb cb : Nat) (w : World) (hN : Rd w (.slice an nn cn) 1 nn (intsV r.n)) (hnn : r.n.length = nn) (hnb : r.b.length = nb) :
    Calls Try.prog 50 #[.agg (r.cells (.slice an nn cn) (.slice ab nb cb)).toArray] w fun e w' => e = .returned (.bool r.fine) ∧ St w [] w' [] := by
  have hst0 := St.refl w
  have HN := hid hN
  have HL := hid hnn
  have hF : r.fine = if r.err < 0 ∨ 999 < r.err ∨ 2000 < nn ∨ 16384 < nb ∨ r.n.any oddW = true then false else if r.err = 0 then true else decide ((nn : Int) + (nb : Int) = 0) := by unfold RV.fine; rw [hnn, hnb]
  show Calls Try.prog 50 #[.agg (List.toArray [.int .i64 r.err, .slice an nn cn, .slice ab nb cb])] w _
  clear hN hnn hnb
  by_cases c1 : r.err < 0
  · have hE : r.fine = false := by rw [hF]; exact if_pos (by omega)
    have d1 : decide (r.err < 0) = true := decide_eq_true (by omega)
    rw [hE]
    clear hE hF c1
    go_enter Try.func50, Try.ntmps50
    go_wp2_with (first | go_big_skip | go_big_guard | (refine wl_boxA hst0 rfl rfl rfl ?_; intro g1 _ hst; clear hst0) | (refine wl_loadE rfl rfl rfl ?_; first | refine ⟨_, Loads.at [] hst rfl, ?_⟩))
    go_ret
    exact ⟨rfl, hst.nil⟩
  by_cases c2 : 999 < r.err
  · have hE : r.fine = false := by rw [hF]; exact if_pos (by omega)
    have d1 : decide (r.err < 0) = false := decide_eq_false (by omega)
    have d2 : decide (999 < r.err) = true := decide_eq_true (by omega)
    rw [hE]
    clear hE hF c1 c2
    go_enter Try.func50, Try.ntmps50
    go_wp2_with (first | go_big_skip | go_big_guard | (refine wl_boxA hst0 rfl rfl rfl ?_; intro g1 _ hst; clear hst0) | (refine wl_loadE rfl rfl rfl ?_; first | refine ⟨_, Loads.at [] hst rfl, ?_⟩))
    go_ret
    exact ⟨rfl, hst.nil⟩
  by_cases c3 : 2000 < nn
  · have hE : r.fine = false := by rw [hF]; exact if_pos (by omega)
    have d1 : decide (r.err < 0) = false := decide_eq_false (by omega)
    have d2 : decide (999 < r.err) = false := decide_eq_false (by omega)
    have d3 : decide ((2000 : Int) < (nn : Int)) = true := decide_eq_true (by omega)
    rw [hE]
    clear hE hF c1 c2 c3
    go_enter Try.func50, Try.ntmps50
    go_wp2_with (first | go_big_skip | go_big_guard | (refine wl_boxA hst0 rfl rfl rfl ?_; intro g1 _ hst; clear hst0) | (refine wl_loadE rfl rfl rfl ?_; first | refine ⟨_, Loads.at [] hst rfl, ?_⟩))
    go_ret
    exact ⟨rfl, hst.nil⟩
  by_cases c4 : 16384 < nb
  · have hE : r.fine = false := by rw [hF]; exact if_pos (by omega)
    have d1 : decide (r.err < 0) = false := decide_eq_false (by omega)
    have d2 : decide (999 < r.err) = false := decide_eq_false (by omega)
    have d3 : decide ((2000 : Int) < (nn : Int)) = false := decide_eq_false (by omega)
    have d4 : decide ((16384 : Int) < (nb : Int)) = true := decide_eq_true (by omega)
    rw [hE]
    clear hE hF c1 c2 c3 c4
    go_enter Try.func50, Try.ntmps50
    go_wp2_with (first | go_big_skip | go_big_guard | (refine wl_boxA hst0 rfl rfl rfl ?_; intro g1 _ hst; clear hst0) | (refine wl_loadE rfl rfl rfl ?_; first | refine ⟨_, Loads.at [] hst rfl, ?_⟩))
    go_ret
    exact ⟨rfl, hst.nil⟩
  have d1 : decide (r.err < 0) = false := decide_eq_false (by omega)
  have d2 : decide (999 < r.err) = false := decide_eq_false (by omega)
  have d3 : decide ((2000 : Int) < (nn : Int)) = false := decide_eq_false (by omega)
  have d4 : decide ((16384 : Int) < (nb : Int)) = false := decide_eq_false (by omega)
  have hb1 : nn ≤ 2000 := by omega
  have hb2 : nb ≤ 16384 := by omega
  have z1 : IntKind.i64.wrap ((nn : Int) + (nb : Int)) = (nn : Int) + (nb : Int) := IntWalk.i64_in _ (by omega)
  by_cases c5 : r.n.any oddW = true
  · have hE : r.fine = false := by rw [hF]; exact if_pos (.inr (.inr (.inr (.inr c5))))
    have HA := hid c5
    rw [hE]
    clear hE hF c1 c2 c3 c4 c5
    go_enter Try.func50, Try.ntmps50
    go_wp2_with (first | go_big_skip | go_big_guard | (refine wl_boxA hst0 rfl rfl rfl ?_; intro g1 _ hst; clear hst0) | (refine wl_loadE rfl rfl rfl ?_; first | refine ⟨_, Loads.at [] hst rfl, ?_⟩) | (go_at_call 68; refine (containsI_any (w0 := w) (M := []) (L := []) 67 oddW an nn cn r.n _ (fun _ _ => rfl) (fun x w _ => oddW_any x w) (Rd.old hst HN.out) HL.out (by omega)).mono ?_; rw [HA.out]; rintro _ w9 ⟨rfl, h4⟩; replace hst := St.call0 hst h4; clear h4))
    go_ret
    exact ⟨rfl, hst.nil⟩
  have HA := hid (Bool.eq_false_iff.2 c5)
  rw [if_neg (by rintro (h | h | h | h | h); exact c1 h; exact c2 h; exact c3 h; exact c4 h; exact c5 h)] at hF
  by_cases c6 : r.err = 0
  · have d6 : (r.err != 0) = false := by simpa using c6
    rw [if_pos c6] at hF
    rw [hF]
    clear hF c1 c2 c3 c4 c5 c6
    go_enter Try.func50, Try.ntmps50
    go_wp2_with (first | go_big_skip | go_big_guard | (refine wl_boxA hst0 rfl rfl rfl ?_; intro g1 _ hst; clear hst0) | (refine wl_loadE rfl rfl rfl ?_; first | refine ⟨_, Loads.at [] hst rfl, ?_⟩) | (go_at_call 68; refine (containsI_any (w0 := w) (M := []) (L := []) 67 oddW an nn cn r.n _ (fun _ _ => rfl) (fun x w _ => oddW_any x w) (Rd.old hst HN.out) HL.out (by omega)).mono ?_; rw [HA.out]; rintro _ w9 ⟨rfl, h4⟩; replace hst := St.call0 hst h4; clear h4))
    go_ret
    exact ⟨rfl, hst.nil⟩
  · have d6 : (r.err != 0) = true := by simpa using c6
    rw [if_neg c6] at hF
    have e7 : decide ((nn : Int) + (nb : Int) = 0) = ((nn : Int) + (nb : Int) == 0) := rfl
    rw [hF, e7]
    clear hF c1 c2 c3 c4 c5 c6 e7
    go_enter Try.func50, Try.ntmps50
    go_wp2_with (first | go_big_skip | go_big_guard | (refine wl_boxA hst0 rfl rfl rfl ?_; intro g1 _ hst; clear hst0) | (refine wl_loadE rfl rfl rfl ?_; first | refine ⟨_, Loads.at [] hst rfl, ?_⟩) | (go_at_call 68; refine (containsI_any (w0 := w) (M := []) (L := []) 67 oddW an nn cn r.n _ (fun _ _ => rfl) (fun x w _ => oddW_any x w) (Rd.old hst HN.out) HL.out (by omega)).mono ?_; rw [HA.out]; rintro _ w9 ⟨rfl, h4⟩; replace hst := St.call0 hst h4; clear h4))
    go_ret
    exact ⟨rfl, hst.nil⟩
theorem qfine_any (r : RV) (an ab : Option Addr) (nn cn nb cb : Nat) (w : World) (hN : Rd w (.slice an nn cn) 1 nn (intsV r.n)) (hnn : r.n.length = nn) (hnb : r.b.length = nb) :
    Calls Try.prog 52 #[.agg (r.cells (.slice an nn cn) (.slice ab nb cb)).toArray] w fun e w' => e = .returned (.bool r.fine) ∧ St w [] w' [] := by
  have hst0 := St.refl w
  have HN := hid hN
  have HL := hid hnn
  have hF : r.fine = if r.err < 0 ∨ 999 < r.err ∨ 2000 < nn ∨ 16384 < nb ∨ r.n.any oddW = true then false else if r.err = 0 then true else decide ((nn : Int) + (nb : Int) = 0) := by unfold RV.fine; rw [hnn, hnb]
  show Calls Try.prog 52 #[.agg (List.toArray [.int .i64 r.err, .slice an nn cn, .slice ab nb cb])] w _
  clear hN hnn hnb
  by_cases c1 : r.err < 0
  · have hE : r.fine = false := by rw [hF]; exact if_pos (by omega)
    have d1 : decide (r.err < 0) = true := decide_eq_true (by omega)
    rw [hE]
    clear hE hF c1
    go_enter Try.func52, Try.ntmps52
    go_wp2_with (first | go_big_skip | go_big_guard | (refine wl_boxA hst0 rfl rfl rfl ?_; intro g1 _ hst; clear hst0) | (refine wl_loadE rfl rfl rfl ?_; first | refine ⟨_, Loads.at [] hst rfl, ?_⟩))
    go_ret
    exact ⟨rfl, hst.nil⟩
  by_cases c2 : 999 < r.err
  · have hE : r.fine = false := by rw [hF]; exact if_pos (by omega)
    have d1 : decide (r.err < 0) = false := decide_eq_false (by omega)
    have d2 : decide (999 < r.err) = true := decide_eq_true (by omega)
    rw [hE]
    clear hE hF c1 c2
    go_enter Try.func52, Try.ntmps52
    go_wp2_with (first | go_big_skip | go_big_guard | (refine wl_boxA hst0 rfl rfl rfl ?_; intro g1 _ hst; clear hst0) | (refine wl_loadE rfl rfl rfl ?_; first | refine ⟨_, Loads.at [] hst rfl, ?_⟩))
    go_ret
    exact ⟨rfl, hst.nil⟩
  by_cases c3 : 2000 < nn
  · have hE : r.fine = false := by rw [hF]; exact if_pos (by omega)
    have d1 : decide (r.err < 0) = false := decide_eq_false (by omega)
    have d2 : decide (999 < r.err) = false := decide_eq_false (by omega)
    have d3 : decide ((2000 : Int) < (nn : Int)) = true := decide_eq_true (by omega)
    rw [hE]
    clear hE hF c1 c2 c3
    go_enter Try.func52, Try.ntmps52
    go_wp2_with (first | go_big_skip | go_big_guard | (refine wl_boxA hst0 rfl rfl rfl ?_; intro g1 _ hst; clear hst0) | (refine wl_loadE rfl rfl rfl ?_; first | refine ⟨_, Loads.at [] hst rfl, ?_⟩))
    go_ret
    exact ⟨rfl, hst.nil⟩
  by_cases c4 : 16384 < nb
  · have hE : r.fine = false := by rw [hF]; exact if_pos (by omega)
    have d1 : decide (r.err < 0) = false := decide_eq_false (by omega)
    have d2 : decide (999 < r.err) = false := decide_eq_false (by omega)
    have d3 : decide ((2000 : Int) < (nn : Int)) = false := decide_eq_false (by omega)
    have d4 : decide ((16384 : Int) < (nb : Int)) = true := decide_eq_true (by omega)
    rw [hE]
    clear hE hF c1 c2 c3 c4
    go_enter Try.func52, Try.ntmps52
    go_wp2_with (first | go_big_skip | go_big_guard | (refine wl_boxA hst0 rfl rfl rfl ?_; intro g1 _ hst; clear hst0) | (refine wl_loadE rfl rfl rfl ?_; first | refine ⟨_, Loads.at [] hst rfl, ?_⟩))
    go_ret
    exact ⟨rfl, hst.nil⟩
  have d1 : decide (r.err < 0) = false := decide_eq_false (by omega)
  have d2 : decide (999 < r.err) = false := decide_eq_false (by omega)
  have d3 : decide ((2000 : Int) < (nn : Int)) = false := decide_eq_false (by omega)
  have d4 : decide ((16384 : Int) < (nb : Int)) = false := decide_eq_false (by omega)
  have hb1 : nn ≤ 2000 := by omega
  have hb2 : nb ≤ 16384 := by omega
  have z1 : IntKind.i64.wrap ((nn : Int) + (nb : Int)) = (nn : Int) + (nb : Int) := IntWalk.i64_in _ (by omega)
  by_cases c5 : r.err ≠ 0 ∧ 0 < nn + nb
  · have hE : r.fine = false := by
      rw [hF]
      split
      · rfl
      · rw [if_neg c5.1]
        exact decide_eq_false (by omega)
    have d5 : (r.err != 0) = true := by simpa using c5.1
    have d6 : decide ((0 : Int) < (nn : Int) + (nb : Int)) = true := decide_eq_true (by omega)
    rw [hE]
    clear hE hF c1 c2 c3 c4 c5
    go_enter Try.func52, Try.ntmps52
    go_wp2_with (first | go_big_skip | go_big_guard | (refine wl_boxA hst0 rfl rfl rfl ?_; intro g1 _ hst; clear hst0) | (refine wl_loadE rfl rfl rfl ?_; first | refine ⟨_, Loads.at [] hst rfl, ?_⟩))
    go_ret
    exact ⟨rfl, hst.nil⟩
  have hG : r.fine = !(r.n.any oddW) := by
    rw [hF]
    cases ha : r.n.any oddW
    · rw [if_neg (by rintro (h | h | h | h | h); exact c1 h; exact c2 h; exact c3 h; exact c4 h; exact Bool.false_ne_true h)]
      by_cases c6 : r.err = 0
      · rw [if_pos c6]; rfl
      · rw [if_neg c6]
        exact decide_eq_true (by omega)
    · rw [if_pos (.inr (.inr (.inr (.inr rfl))))]; rfl
  have HG := hid hG
  obtain ⟨R, hR⟩ : ∃ R, R = r.fine := ⟨_, rfl⟩
  have HR := hid hR
  rw [← hR]
  by_cases c6 : r.err = 0
  · have d5 : (r.err != 0) = false := by simpa using c6
    clear hF hG hR c1 c2 c3 c4 c5 c6
    go_enter Try.func52, Try.ntmps52
    go_wp2_with (first | go_big_skip | go_big_guard | (refine wl_boxA hst0 rfl rfl rfl ?_; intro g1 _ hst; clear hst0) | (refine wl_loadE rfl rfl rfl ?_; first | refine ⟨_, Loads.at [] hst rfl, ?_⟩))
    go_loopw [3] (fun i wr => ∃ j : Nat, j ≤ nn ∧ i = .int .i64 (j : Int) ∧ St w [] wr [.blk g1 49 [.int .i64 r.err, .slice an nn cn, .slice ab nb cb]] ∧ Hid (∀ x ∈ r.n.take j, oddW x = false)) (fun i _ => nn - (intOf i).toNat)
    case atStart => exact ⟨0, Nat.zero_le _, rfl, hst, hid (by simp)⟩
    case round =>
      clear hst
      obtain ⟨j, hj, rfl, hst, HP⟩ := hrel
      by_cases hlt : j < nn
      · have d7 : decide ((j : Int) < (nn : Int)) = true := decide_eq_true (by omega)
        have z2 : IntKind.i64.wrap ((j : Int) + 1) = (j : Int) + 1 := IntWalk.i64_in _ (by omega)
        have hjl : j < r.n.length := by rw [HL.out]; exact hlt
        obtain ⟨x, hx⟩ : ∃ x, r.n[j]? = some x := ⟨_, List.getElem?_eq_getElem hjl⟩
        have HX := hid hx
        obtain ⟨b, off, rfl, hr⟩ := Rd.at HN.out hlt
        have hcell := hid (show w.cell? ⟨b, off + j, none⟩ = some (.int .i64 x) from hr j _ (intsV_get hx))
        clear hx hr hjl
        by_cases k1 : x < 0
        · have d8 : decide (x < 0) = true := decide_eq_true k1
          have HO := hid (show oddW x = true by unfold oddW; rw [d8]; rfl)
          clear k1
          go_wp2_with (first | go_big_skip | go_big_guard | (refine wl_index rfl rfl rfl rfl hlt ?_) | (refine wl_loadE rfl rfl rfl ?_; first | refine ⟨_, Loads.at [] hst rfl, ?_⟩ | refine ⟨_, Loads.old hst (by rw [Nat.mul_one]; exact hcell.out), ?_⟩))
          go_ret
          refine ⟨congrArg (fun z => Ending.returned (Value.bool z)) (?_ : (_ : Bool) = R), hst.nil⟩
          rw [HR.out, HG.out, List.any_eq_true.2 ⟨x, List.mem_of_getElem? HX.out, HO.out⟩]
          rfl
        have d8 : decide (x < 0) = false := decide_eq_false k1
        by_cases k2 : 1099511627775 < x
        · have d9 : decide (1099511627775 < x) = true := decide_eq_true k2
          have HO := hid (show oddW x = true by unfold oddW; rw [d9, Bool.or_true])
          clear k1 k2
          go_wp2_with (first | go_big_skip | go_big_guard | (refine wl_index rfl rfl rfl rfl hlt ?_) | (refine wl_loadE rfl rfl rfl ?_; first | refine ⟨_, Loads.at [] hst rfl, ?_⟩ | refine ⟨_, Loads.old hst (by rw [Nat.mul_one]; exact hcell.out), ?_⟩))
          go_ret
          refine ⟨congrArg (fun z => Ending.returned (Value.bool z)) (?_ : (_ : Bool) = R), hst.nil⟩
          rw [HR.out, HG.out, List.any_eq_true.2 ⟨x, List.mem_of_getElem? HX.out, HO.out⟩]
          rfl
        · have d9 : decide (1099511627775 < x) = false := decide_eq_false k2
          have HO := hid (show oddW x = false by unfold oddW; rw [d8, d9]; rfl)
          clear k1 k2
          go_wp2_with (first | go_big_skip | go_big_guard | (refine wl_index rfl rfl rfl rfl hlt ?_) | (refine wl_loadE rfl rfl rfl ?_; first | refine ⟨_, Loads.at [] hst rfl, ?_⟩ | refine ⟨_, Loads.old hst (by rw [Nat.mul_one]; exact hcell.out), ?_⟩))
          go_roundw
          case rel =>
            refine ⟨j + 1, by omega, rfl, hst, hid (fun y hy => ?_)⟩
            rw [List.take_add_one, HX.out] at hy
            rcases List.mem_append.1 hy with hy | hy
            · exact HP.out y hy
            · simp at hy
              rw [hy, HO.out]
          case measure => simp [intOf]; omega
      · have hjn : j = nn := by omega
        have d7 : decide ((j : Int) < (nn : Int)) = false := decide_eq_false (by omega)
        have hany : r.n.any oddW = false := by
          rw [List.any_eq_false]
          intro x hx
          rw [HP.out x (by rw [List.take_of_length_le (by rw [HL.out]; omega)]; exact hx)]
          exact Bool.false_ne_true
        have HY := hid hany
        clear hany hjn
        go_wp2_with (first | go_big_skip | go_big_guard | (refine wl_loadE rfl rfl rfl ?_; refine ⟨_, Loads.at [] hst rfl, ?_⟩))
        go_ret
        refine ⟨congrArg (fun z => Ending.returned (Value.bool z)) (?_ : (_ : Bool) = R), hst.nil⟩
        rw [HR.out, HG.out, HY.out]
        rfl
  · have d5 : (r.err != 0) = true := by simpa using c6
    have d6 : decide ((0 : Int) < (nn : Int) + (nb : Int)) = false := decide_eq_false (by omega)
    clear hF hG hR c1 c2 c3 c4 c5 c6
    go_enter Try.func52, Try.ntmps52
    go_wp2_with (first | go_big_skip | go_big_guard | (refine wl_boxA hst0 rfl rfl rfl ?_; intro g1 _ hst; clear hst0) | (refine wl_loadE rfl rfl rfl ?_; first | refine ⟨_, Loads.at [] hst rfl, ?_⟩))
    go_loopw [3] (fun i wr => ∃ j : Nat, j ≤ nn ∧ i = .int .i64 (j : Int) ∧ St w [] wr [.blk g1 49 [.int .i64 r.err, .slice an nn cn, .slice ab nb cb]] ∧ Hid (∀ x ∈ r.n.take j, oddW x = false)) (fun i _ => nn - (intOf i).toNat)
    case atStart => exact ⟨0, Nat.zero_le _, rfl, hst, hid (by simp)⟩
    case round =>
      clear hst
      obtain ⟨j, hj, rfl, hst, HP⟩ := hrel
      by_cases hlt : j < nn
      · have d7 : decide ((j : Int) < (nn : Int)) = true := decide_eq_true (by omega)
        have z2 : IntKind.i64.wrap ((j : Int) + 1) = (j : Int) + 1 := IntWalk.i64_in _ (by omega)
        have hjl : j < r.n.length := by rw [HL.out]; exact hlt
        obtain ⟨x, hx⟩ : ∃ x, r.n[j]? = some x := ⟨_, List.getElem?_eq_getElem hjl⟩
        have HX := hid hx
        obtain ⟨b, off, rfl, hr⟩ := Rd.at HN.out hlt
        have hcell := hid (show w.cell? ⟨b, off + j, none⟩ = some (.int .i64 x) from hr j _ (intsV_get hx))
        clear hx hr hjl
        by_cases k1 : x < 0
        · have d8 : decide (x < 0) = true := decide_eq_true k1
          have HO := hid (show oddW x = true by unfold oddW; rw [d8]; rfl)
          clear k1
          go_wp2_with (first | go_big_skip | go_big_guard | (refine wl_index rfl rfl rfl rfl hlt ?_) | (refine wl_loadE rfl rfl rfl ?_; first | refine ⟨_, Loads.at [] hst rfl, ?_⟩ | refine ⟨_, Loads.old hst (by rw [Nat.mul_one]; exact hcell.out), ?_⟩))
          go_ret
          refine ⟨congrArg (fun z => Ending.returned (Value.bool z)) (?_ : (_ : Bool) = R), hst.nil⟩
          rw [HR.out, HG.out, List.any_eq_true.2 ⟨x, List.mem_of_getElem? HX.out, HO.out⟩]
          rfl
        have d8 : decide (x < 0) = false := decide_eq_false k1
        by_cases k2 : 1099511627775 < x
        · have d9 : decide (1099511627775 < x) = true := decide_eq_true k2
          have HO := hid (show oddW x = true by unfold oddW; rw [d9, Bool.or_true])
          clear k1 k2
          go_wp2_with (first | go_big_skip | go_big_guard | (refine wl_index rfl rfl rfl rfl hlt ?_) | (refine wl_loadE rfl rfl rfl ?_; first | refine ⟨_, Loads.at [] hst rfl, ?_⟩ | refine ⟨_, Loads.old hst (by rw [Nat.mul_one]; exact hcell.out), ?_⟩))
          go_ret
          refine ⟨congrArg (fun z => Ending.returned (Value.bool z)) (?_ : (_ : Bool) = R), hst.nil⟩
          rw [HR.out, HG.out, List.any_eq_true.2 ⟨x, List.mem_of_getElem? HX.out, HO.out⟩]
          rfl
        · have d9 : decide (1099511627775 < x) = false := decide_eq_false k2
          have HO := hid (show oddW x = false by unfold oddW; rw [d8, d9]; rfl)
          clear k1 k2
          go_wp2_with (first | go_big_skip | go_big_guard | (refine wl_index rfl rfl rfl rfl hlt ?_) | (refine wl_loadE rfl rfl rfl ?_; first | refine ⟨_, Loads.at [] hst rfl, ?_⟩ | refine ⟨_, Loads.old hst (by rw [Nat.mul_one]; exact hcell.out), ?_⟩))
          go_roundw
          case rel =>
            refine ⟨j + 1, by omega, rfl, hst, hid (fun y hy => ?_)⟩
            rw [List.take_add_one, HX.out] at hy
            rcases List.mem_append.1 hy with hy | hy
            · exact HP.out y hy
            · simp at hy
              rw [hy, HO.out]
          case measure => simp [intOf]; omega
      · have hjn : j = nn := by omega
        have d7 : decide ((j : Int) < (nn : Int)) = false := decide_eq_false (by omega)
        have hany : r.n.any oddW = false := by
          rw [List.any_eq_false]
          intro x hx
          rw [HP.out x (by rw [List.take_of_length_le (by rw [HL.out]; omega)]; exact hx)]
          exact Bool.false_ne_true
        have HY := hid hany
        clear hany hjn
        go_wp2_with (first | go_big_skip | go_big_guard | (refine wl_loadE rfl rfl rfl ?_; refine ⟨_, Loads.at [] hst rfl, ?_⟩))
        go_ret
        refine ⟨congrArg (fun z => Ending.returned (Value.bool z)) (?_ : (_ : Bool) = R), hst.nil⟩
        rw [HR.out, HG.out, HY.out]
        rfl
end Go.Proofs.Ytalfdcfcaamnbaa
namespace Go.Proofs.Ytalfdcfcaamnbaa
set_option linter.unusedVariables false
set_option linter.unusedSimpArgs false
open Go.RowKit Hp
attribute [local irreducible] Go.Calls Go.wpList
set_option maxRecDepth 100000
set_option maxHeartbeats 4000000
/-- What a reply's fields write, one behind the other. -/
def repF (r : RV) : List (WR → WR) := [fun s => putW s (numR r.err 2), fun s => putAll (putW s (numR (r.n.length : Int) 2)) (r.n.map fun t => numR t 5), fun s => putW (putW s (numR (r.b.length : Int) 3)) (0, r.b)]
def putR (r : RV) : WR := if r.fine = true then goAll (0, []) (repF r) else (2, [])
/-- A reply that the walk can take. -/
structure RV.Ok (r : RV) : Prop where
  err : -9223372036854775808 ≤ r.err ∧ r.err ≤ 9223372036854775807
  ln : r.n.length ≤ 1000000
  lt : ∀ t ∈ r.n, -9223372036854775808 ≤ t ∧ t ≤ 9223372036854775807
  bn : r.b.length ≤ 100000
theorem repF_len (r : RV) : ∀ f ∈ repF r, ∀ s : WR, s.2.length ≤ 65536 → (f s).2.length ≤ 65536 := by
  intro f hf s hs
  unfold repF at hf
  simp only [List.mem_cons, List.not_mem_nil, or_false] at hf
  rcases hf with rfl | rfl | rfl
  · exact putW_len hs
  · exact putAll_len (putW_len hs)
  · exact putW_len (putW_len hs)
theorem replies_ok {w0 w : World} {M : List Nat} {L : List HA} {r : RV} (ok : r.Ok) {an ab : Option Addr} {nn cn nb cb gp go ge : Nat} {n0 z0 l0 h0 n1 z1 m1 f1 n2 : Nat}
    (h : St w0 M w ((.blk gp 89 (partsC (repliesPs n0 z0 l0 h0 n1 z1 m1 f1 n2)) :: repliesBoxes go ge n0 z0 l0 h0 n1 z1 m1 f1 n2) ++ .blk ge 3 [.int .i64 r.err] :: .blk go 49 [.int .i64 r.err, .slice an nn cn, .slice ab nb cb] :: L))
    (hl : Rd w (.slice an nn cn) 1 nn (intsV r.n)) (hb : Rd w (.slice ab nb cb) 1 nb (bytesV r.b)) (hnn : r.n.length = nn) (hnb : r.b.length = nb) :
    ∀ (k : Nat) (p : PartV) (f : WR → WR), (repliesPs n0 z0 l0 h0 n1 z1 m1 f1 n2)[k]? = some p → (repF r)[k]? = some f → PutOk w p.pf p.pc f := by
  unfold repliesBoxes at h
  intro k p f hp hf
  match k, hp, hf with
  | 0, hp, hf => cases hp; cases hf; exact num1_put (h.cell (off := 0) (.tail _ (.tail _ (.tail _ (.tail _ (.tail _ (.tail _ (.tail _ (.tail _ (.tail _ (.head _)))))))))) rfl) (h.cell (off := 0) (.tail _ (.tail _ (.tail _ (.tail _ (.tail _ (.tail _ (.tail _ (.tail _ (.head _))))))))) rfl) (h.cell (off := 0) (.tail _ (.tail _ (.tail _ (.tail _ (.tail _ (.tail _ (.tail _ (.tail _ (.tail _ (.tail _ (.head _))))))))))) rfl) (by decide) ok.err
  | 1, hp, hf => cases hp; cases hf; subst hnn; exact listI_put (h.cell (off := 0) (.tail _ (.tail _ (.tail _ (.tail _ (.tail _ (.head _)))))) rfl) (h.cell (off := 0) (.tail _ (.tail _ (.tail _ (.tail _ (.head _))))) rfl) (h.cell (off := 0) (.tail _ (.tail _ (.head _))) rfl) (h.cell (off := 1) (.tail _ (.tail _ (.tail _ (.tail _ (.tail _ (.tail _ (.tail _ (.tail _ (.tail _ (.tail _ (.tail _ (.head _)))))))))))) rfl) hl rfl ok.ln ok.lt (by decide)
  | 2, hp, hf => cases hp; cases hf; subst hnb; exact raw1_put (h.cell (off := 0) (.tail _ (.head _)) rfl) (h.cell (off := 2) (.tail _ (.tail _ (.tail _ (.tail _ (.tail _ (.tail _ (.tail _ (.tail _ (.tail _ (.tail _ (.tail _ (.head _)))))))))))) rfl) hb rfl ok.bn
  | k + 3, hp, _ => simp [repliesPs] at hp
theorem replies_fn {n0 z0 l0 h0 n1 z1 m1 f1 n2 : Nat} : ∀ p ∈ repliesPs n0 z0 l0 h0 n1 z1 m1 f1 n2, ∀ (a : Array Value) (w : World), (callFunc p.pf a).run Try.prog w = .ok (.enter p.pf a) w := by
  intro p hp a w
  unfold repliesPs at hp
  simp only [List.mem_cons, List.not_mem_nil, or_false] at hp
  rcases hp with rfl | rfl | rfl <;> rfl
theorem oputR_bad (r : RV) (ok : r.Ok) (an ab : Option Addr) (nn cn nb cb : Nat) (w : World) (hl : Rd w (.slice an nn cn) 1 nn (intsV r.n)) (hb : Rd w (.slice ab nb cb) 1 nb (bytesV r.b)) (hnn : r.n.length = nn) (hnb : r.b.length = nb) (h0 : r.fine = false) :
    Calls Try.prog 27 #[.agg (r.cells (.slice an nn cn) (.slice ab nb cb)).toArray] w (OutP w (putR r)) := by
  have hst0 := St.refl w
  have HL := hid hl
  have HB := hid hb
  have HNL := hid hnn
  have HNB := hid hnb
  obtain ⟨R, hR⟩ : ∃ R, R = putR r := ⟨_, rfl⟩
  have HR := hid hR
  rw [← hR]
  have H0 := hid h0
  clear hl hb hnn hnb hR h0
  show Calls Try.prog 27 #[.agg (List.toArray [.int .i64 r.err, .slice an nn cn, .slice ab nb cb])] w _
  go_enter Try.func27, Try.ntmps27
  go_wp2_with (first | go_big_skip | go_big_guard | (refine wl_boxA hst0 rfl rfl rfl ?_; intro g1 _ hst1; clear hst0) | (refine wl_loadE rfl rfl rfl ?_; first | refine ⟨_, Loads.whole (T := 49) [] hst1 rfl, ?_⟩ | refine ⟨_, Loads.at [] hst2 rfl, ?_⟩) | (go_at_call 50; refine (fine_any r an ab nn cn nb cb _ (Rd.old hst1 HL.out) HNL.out HNB.out).mono ?_; rw [H0.out]; rintro _ w9 ⟨rfl, h4⟩; have hst2 := St.call0 hst1 h4; clear h4 hst1))
  go_ret2
  have e : R = (2, []) := by rw [HR.out]; unfold putR; rw [if_neg (by rw [H0.out]; exact Bool.false_ne_true)]
  refine ⟨.slice none 0 0, by rw [e]; rfl, ?_⟩
  rw [e, show outW (2, []) = [] from rfl]
  exact St.nilPQ isB _ 1 hst2.nil
theorem oputR_ok (r : RV) (ok : r.Ok) (an ab : Option Addr) (nn cn nb cb : Nat) (w : World) (hl : Rd w (.slice an nn cn) 1 nn (intsV r.n)) (hb : Rd w (.slice ab nb cb) 1 nb (bytesV r.b)) (hnn : r.n.length = nn) (hnb : r.b.length = nb) (h0 : r.fine = true) :
    Calls Try.prog 27 #[.agg (r.cells (.slice an nn cn) (.slice ab nb cb)).toArray] w (OutP w (putR r)) := by
  have hst0 := St.refl w
  have HL := hid hl
  have HB := hid hb
  have HNL := hid hnn
  have HNB := hid hnb
  obtain ⟨R, hR⟩ : ∃ R, R = putR r := ⟨_, rfl⟩
  have HR := hid hR
  rw [← hR]
  have H0 := hid h0
  clear hl hb hnn hnb hR h0
  show Calls Try.prog 27 #[.agg (List.toArray [.int .i64 r.err, .slice an nn cn, .slice ab nb cb])] w _
  go_enter Try.func27, Try.ntmps27
  go_wp2_with (first | go_big_skip | go_big_guard | (refine wl_boxA hst0 rfl rfl rfl ?_; intro g1 _ hst1; clear hst0) | (refine wl_loadE rfl rfl rfl ?_; first | refine ⟨_, Loads.whole (T := 49) [] hst1 rfl, ?_⟩ | refine ⟨_, Loads.at [] hst2 rfl, ?_⟩) | (go_at_call 50; refine (fine_any r an ab nn cn nb cb _ (Rd.old hst1 HL.out) HNL.out HNB.out).mono ?_; rw [H0.out]; rintro _ w9 ⟨rfl, h4⟩; have hst2 := St.call0 hst1 h4; clear h4 hst1) | (refine wl_alloc (T := 3) hst2 rfl rfl ?_; intro g4 _ hst3; clear hst2) | (refine wl_store [] hst3 rfl rfl rfl (v := .int _ _) rfl rfl rfl (by show (1 : Nat) ≤ 1; decide) ?_; intro w5 hst4; clear hst3; have hst5 : St w [] w5 (.blk g4 3 [.int .i64 r.err] :: .blk g1 49 [.int .i64 r.err, .slice an nn cn, .slice ab nb cb] :: []) := hst4; clear hst4) | (go_at_call 51; refine (replies_any g1 g4 _).mono ?_; rintro _ w10 ⟨gp, n0, z0, l0, h0, n1, z1, m1, f1, n2, rfl, hh⟩; have hst6 := St.call hst5 hh; clear hh hst5) | (go_at_call 33; have hP := replies_ok ok (L := []) hst6 (Rd.old hst6 HL.out) (Rd.old hst6 HB.out) HNL.out HNB.out; refine (parts_put (some ⟨gp, 0, none⟩) 3 3 (repliesPs n0 z0 l0 h0 n1 z1 m1 f1 n2) (repF r) _ (Rd.blk hst6 (.head _) (Nat.le_refl _) (by decide) rfl rfl) rfl rfl (by decide) replies_fn hP (repF_len r)).mono ?_; rintro _ w11 ⟨u, rfl, hh⟩; have hst7 := St.call hst6 hh; clear hh hst6))
  go_ret2
  have e : R = goAll (0, []) (repF r) := by rw [HR.out]; unfold putR; rw [if_pos H0.out]
  rw [e]
  exact ⟨u, rfl, St.sub hst7 (List.sublist_append_left _ _)⟩
theorem oputR_any (r : RV) (ok : r.Ok) (an ab : Option Addr) (nn cn nb cb : Nat) (w : World) (hl : Rd w (.slice an nn cn) 1 nn (intsV r.n)) (hb : Rd w (.slice ab nb cb) 1 nb (bytesV r.b)) (hnn : r.n.length = nn) (hnb : r.b.length = nb) :
    Calls Try.prog 27 #[.agg (r.cells (.slice an nn cn) (.slice ab nb cb)).toArray] w (OutP w (putR r)) := by
  cases h0 : r.fine
  · exact oputR_bad r ok an ab nn cn nb cb w hl hb hnn hnb h0
  · exact oputR_ok r ok an ab nn cn nb cb w hl hb hnn hnb h0
end Go.Proofs.Ytalfdcfcaamnbaa
