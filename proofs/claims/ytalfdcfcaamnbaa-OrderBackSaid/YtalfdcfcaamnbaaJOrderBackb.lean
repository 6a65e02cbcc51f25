import Derived.Test.YtalfdcfcaamnbaaO1
import Derived.Test.YtalfdcfcaamnbaaJOrderBacka
import Derived.Test.YtalfdcfcaamnbaaO3
import Derived.Test.YtalfdcfcaamnbaaKB
namespace Go.Proofs.Ytalfdcfcaamnbaa
set_option linter.unusedVariables false
set_option linter.unusedSimpArgs false
open Go.RowKit Hp
attribute [local irreducible] Go.Calls
set_option maxRecDepth 100000
set_option maxHeartbeats 4000000
/-- The place of the first that is so; -1: none. -/
def idxI {α : Type} (p : α → Bool) : List α → Int
  | [] => -1
  | x :: l => if p x then 0 else if idxI p l < 0 then -1 else idxI p l + 1
theorem idxI_any {α : Type} (p : α → Bool) (l : List α) : decide (idxI p l ≥ 0) = l.any p := by
  induction l with
  | nil => rfl
  | cons x l ih =>
    unfold idxI
    rw [List.any_cons, ← ih]
    by_cases hx : p x = true
    · simp [hx]
    · by_cases hi : idxI p l < 0
      · simp [hx, hi]
      · simp [hx, hi]
        omega
theorem idxI_first {α : Type} {p : α → Bool} {l : List α} {k : Nat} (hk : k < l.length) (hp : p l[k] = true) (h0 : ∀ j (h : j < k), p (l[j]'(by omega)) = false) : idxI p l = k := by
  induction l generalizing k with
  | nil => simp at hk
  | cons x l ih =>
    unfold idxI
    cases k with
    | zero => simp at hp; simp [hp]
    | succ k =>
      have hx := h0 0 (by omega)
      simp at hx
      have := ih (k := k) (by simpa using hk) (by simpa using hp) (fun j h => by have := h0 (j + 1) (by omega); simpa using this)
      simp [hx, this]
      omega
theorem idxI_none {α : Type} {p : α → Bool} {l : List α} (h0 : ∀ x ∈ l, p x = false) : idxI p l = -1 := by
  induction l with
  | nil => rfl
  | cons x l ih =>
    unfold idxI
    have := ih (fun y hy => h0 y (by simp [hy]))
    simp [h0 x (by simp), this]
theorem indexS_any {w0 : World} {M : List Nat} {L : List HA} (fn : Nat) (p : List UInt8 → Bool) (ao : Option Addr) (n c : Nat) (l : List (List UInt8)) (w : World) (hfn : ∀ (a : Array Value) (w : World), (callFunc fn a).run Try.prog w = .ok (.enter fn a) w)
    (hcl : ∀ (x : List UInt8) (w : World), x ∈ l → Calls Try.prog fn #[strV x] w fun e w' => e = .returned (.bool (p x)) ∧ St w [] w' []) (hl : Rd w (.slice ao n c) 1 n (strsV l)) (hn : l.length = n) (hb : n ≤ 1000000) :
    Calls Try.prog 62 #[.slice ao n c, .func (.func fn) #[] #[]] w fun e w' => e = .returned (.int .i64 (idxI p l)) ∧ St w [] w' [] := by
  have hst := St.refl w
  have HN := hid hn
  clear hn
  go_enter Try.func62, Try.ntmps62
  go_wp2_with (first | go_big_skip | go_big_guard | fail)
  go_loopw [8] (fun i wr => ∃ j : Nat, j ≤ n ∧ i = .int .i64 (j : Int) ∧ St w [] wr [] ∧ Hid (∀ x ∈ l.take j, p x = false)) (fun i _ => n - (intOf i).toNat)
  case atStart => exact ⟨0, Nat.zero_le _, rfl, hst, hid (by simp)⟩
  case round =>
    clear hst
    obtain ⟨j, hj, rfl, hst, HP⟩ := hrel
    by_cases hlt : j < n
    · have d1 : decide ((j : Int) < (n : Int)) = true := decide_eq_true (by omega)
      have z1 : IntKind.i64.wrap ((j : Int) + 1) = (j : Int) + 1 := IntWalk.i64_in _ (by omega)
      have hjl : j < l.length := by rw [HN.out]; exact hlt
      obtain ⟨x, hx⟩ : ∃ x, l[j]? = some x := ⟨_, List.getElem?_eq_getElem hjl⟩
      have HX := hid hx
      have hm := hid (List.mem_of_getElem? hx)
      obtain ⟨b, off, rfl, hr⟩ := Rd.at hl hlt
      have hcell := hid (hr j _ (strsV_get hx))
      obtain ⟨q, hq⟩ : ∃ q, q = p x := ⟨_, rfl⟩
      have HQ := hid hq
      clear hx hq hr hjl
      cases q
      · go_wp2_with (first | go_big_skip | go_big_guard | (refine wl_index rfl rfl rfl rfl hlt ?_) | (refine wl_loadE rfl rfl rfl ?_; refine ⟨_, Loads.old hst (by rw [Nat.mul_one]; exact hcell.out), ?_⟩) | (refine (hcl x _ hm.out).mono ?_; rw [← HQ.out]; rintro _ w9 ⟨rfl, h4⟩; have hst1 := St.call0 hst h4; clear h4 hst))
        go_roundw
        case rel =>
          refine ⟨j + 1, by omega, rfl, hst1, hid (fun y hy => ?_)⟩
          rw [List.take_add_one, HX.out] at hy
          rcases List.mem_append.1 hy with hy | hy
          · exact HP.out y hy
          · simp at hy
            rw [hy, ← HQ.out]
        case measure => simp [intOf]; omega
      · go_wp2_with (first | go_big_skip | go_big_guard | (refine wl_index rfl rfl rfl rfl hlt ?_) | (refine wl_loadE rfl rfl rfl ?_; refine ⟨_, Loads.old hst (by rw [Nat.mul_one]; exact hcell.out), ?_⟩) | (refine (hcl x _ hm.out).mono ?_; rw [← HQ.out]; rintro _ w9 ⟨rfl, h4⟩; have hst1 := St.call0 hst h4; clear h4 hst))
        go_ret
        refine ⟨?_, hst1⟩
        have hjl : j < l.length := by rw [HN.out]; exact hlt
        have e1 : l[j] = x := by
          have := HX.out
          rw [List.getElem?_eq_getElem hjl] at this
          exact Option.some.inj this
        have e2 : idxI p l = j := idxI_first hjl (by rw [e1, ← HQ.out]) (fun i hi => HP.out _ (by
          rw [List.mem_take_iff_getElem]
          exact ⟨i, by omega, rfl⟩))
        rw [e2]
        rfl
    · have d1 : decide ((j : Int) < (n : Int)) = false := decide_eq_false (by omega)
      go_wp2_with (first | go_big_skip | go_big_guard | fail)
      go_ret
      refine ⟨?_, hst⟩
      have e2 : idxI p l = -1 := idxI_none (fun y hy => HP.out y (by rw [List.take_of_length_le (by rw [HN.out]; omega)]; exact hy))
      rw [e2]
      rfl
theorem containsS_any {w0 : World} {M : List Nat} {L : List HA} (fn : Nat) (p : List UInt8 → Bool) (ao : Option Addr) (n c : Nat) (l : List (List UInt8)) (w : World) (hfn : ∀ (a : Array Value) (w : World), (callFunc fn a).run Try.prog w = .ok (.enter fn a) w)
    (hcl : ∀ (x : List UInt8) (w : World), x ∈ l → Calls Try.prog fn #[strV x] w fun e w' => e = .returned (.bool (p x)) ∧ St w [] w' []) (hl : Rd w (.slice ao n c) 1 n (strsV l)) (hn : l.length = n) (hb : n ≤ 1000000) :
    Calls Try.prog 41 #[.slice ao n c, .func (.func fn) #[] #[]] w fun e w' => e = .returned (.bool (l.any p)) ∧ St w [] w' [] := by
  have hst := St.refl w
  have HN := hid hn
  have HA := hid (idxI_any p l)
  clear hn
  go_enter Try.func41, Try.ntmps41
  go_wp2_with (first | go_big_skip | go_big_guard | (go_at_call 62; refine (indexS_any (w0 := w) (M := []) (L := []) fn p ao n c l _ hfn hcl (Rd.old hst hl) HN.out hb).mono ?_; rintro _ w9 ⟨rfl, h4⟩; have hst1 := St.call0 hst h4; clear h4 hst))
  go_ret
  refine ⟨?_, hst1⟩
  rw [← HA.out]
  rfl
theorem indexI_any {w0 : World} {M : List Nat} {L : List HA} (fn : Nat) (p : Int → Bool) (ao : Option Addr) (n c : Nat) (l : List (Int)) (w : World) (hfn : ∀ (a : Array Value) (w : World), (callFunc fn a).run Try.prog w = .ok (.enter fn a) w)
    (hcl : ∀ (x : Int) (w : World), x ∈ l → Calls Try.prog fn #[(fun x => Value.int .i64 x) x] w fun e w' => e = .returned (.bool (p x)) ∧ St w [] w' []) (hl : Rd w (.slice ao n c) 1 n (intsV l)) (hn : l.length = n) (hb : n ≤ 1000000) :
    Calls Try.prog 87 #[.slice ao n c, .func (.func fn) #[] #[]] w fun e w' => e = .returned (.int .i64 (idxI p l)) ∧ St w [] w' [] := by
  have hst := St.refl w
  have HN := hid hn
  clear hn
  go_enter Try.func87, Try.ntmps87
  go_wp2_with (first | go_big_skip | go_big_guard | fail)
  go_loopw [8] (fun i wr => ∃ j : Nat, j ≤ n ∧ i = .int .i64 (j : Int) ∧ St w [] wr [] ∧ Hid (∀ x ∈ l.take j, p x = false)) (fun i _ => n - (intOf i).toNat)
  case atStart => exact ⟨0, Nat.zero_le _, rfl, hst, hid (by simp)⟩
  case round =>
    clear hst
    obtain ⟨j, hj, rfl, hst, HP⟩ := hrel
    by_cases hlt : j < n
    · have d1 : decide ((j : Int) < (n : Int)) = true := decide_eq_true (by omega)
      have z1 : IntKind.i64.wrap ((j : Int) + 1) = (j : Int) + 1 := IntWalk.i64_in _ (by omega)
      have hjl : j < l.length := by rw [HN.out]; exact hlt
      obtain ⟨x, hx⟩ : ∃ x, l[j]? = some x := ⟨_, List.getElem?_eq_getElem hjl⟩
      have HX := hid hx
      have hm := hid (List.mem_of_getElem? hx)
      obtain ⟨b, off, rfl, hr⟩ := Rd.at hl hlt
      have hcell := hid (hr j _ (intsV_get hx))
      obtain ⟨q, hq⟩ : ∃ q, q = p x := ⟨_, rfl⟩
      have HQ := hid hq
      clear hx hq hr hjl
      cases q
      · go_wp2_with (first | go_big_skip | go_big_guard | (refine wl_index rfl rfl rfl rfl hlt ?_) | (refine wl_loadE rfl rfl rfl ?_; refine ⟨_, Loads.old hst (by rw [Nat.mul_one]; exact hcell.out), ?_⟩) | (refine (hcl x _ hm.out).mono ?_; rw [← HQ.out]; rintro _ w9 ⟨rfl, h4⟩; have hst1 := St.call0 hst h4; clear h4 hst))
        go_roundw
        case rel =>
          refine ⟨j + 1, by omega, rfl, hst1, hid (fun y hy => ?_)⟩
          rw [List.take_add_one, HX.out] at hy
          rcases List.mem_append.1 hy with hy | hy
          · exact HP.out y hy
          · simp at hy
            rw [hy, ← HQ.out]
        case measure => simp [intOf]; omega
      · go_wp2_with (first | go_big_skip | go_big_guard | (refine wl_index rfl rfl rfl rfl hlt ?_) | (refine wl_loadE rfl rfl rfl ?_; refine ⟨_, Loads.old hst (by rw [Nat.mul_one]; exact hcell.out), ?_⟩) | (refine (hcl x _ hm.out).mono ?_; rw [← HQ.out]; rintro _ w9 ⟨rfl, h4⟩; have hst1 := St.call0 hst h4; clear h4 hst))
        go_ret
        refine ⟨?_, hst1⟩
        have hjl : j < l.length := by rw [HN.out]; exact hlt
        have e1 : l[j] = x := by
          have := HX.out
          rw [List.getElem?_eq_getElem hjl] at this
          exact Option.some.inj this
        have e2 : idxI p l = j := idxI_first hjl (by rw [e1, ← HQ.out]) (fun i hi => HP.out _ (by
          rw [List.mem_take_iff_getElem]
          exact ⟨i, by omega, rfl⟩))
        rw [e2]
        rfl
    · have d1 : decide ((j : Int) < (n : Int)) = false := decide_eq_false (by omega)
      go_wp2_with (first | go_big_skip | go_big_guard | fail)
      go_ret
      refine ⟨?_, hst⟩
      have e2 : idxI p l = -1 := idxI_none (fun y hy => HP.out y (by rw [List.take_of_length_le (by rw [HN.out]; omega)]; exact hy))
      rw [e2]
      rfl
theorem containsI_any {w0 : World} {M : List Nat} {L : List HA} (fn : Nat) (p : Int → Bool) (ao : Option Addr) (n c : Nat) (l : List (Int)) (w : World) (hfn : ∀ (a : Array Value) (w : World), (callFunc fn a).run Try.prog w = .ok (.enter fn a) w)
    (hcl : ∀ (x : Int) (w : World), x ∈ l → Calls Try.prog fn #[(fun x => Value.int .i64 x) x] w fun e w' => e = .returned (.bool (p x)) ∧ St w [] w' []) (hl : Rd w (.slice ao n c) 1 n (intsV l)) (hn : l.length = n) (hb : n ≤ 1000000) :
    Calls Try.prog 68 #[.slice ao n c, .func (.func fn) #[] #[]] w fun e w' => e = .returned (.bool (l.any p)) ∧ St w [] w' [] := by
  have hst := St.refl w
  have HN := hid hn
  have HA := hid (idxI_any p l)
  clear hn
  go_enter Try.func68, Try.ntmps68
  go_wp2_with (first | go_big_skip | go_big_guard | (go_at_call 87; refine (indexI_any (w0 := w) (M := []) (L := []) fn p ao n c l _ hfn hcl (Rd.old hst hl) HN.out hb).mono ?_; rintro _ w9 ⟨rfl, h4⟩; have hst1 := St.call0 hst h4; clear h4 hst))
  go_ret
  refine ⟨?_, hst1⟩
  rw [← HA.out]
  rfl
end Go.Proofs.Ytalfdcfcaamnbaa
namespace Go.Proofs.Ytalfdcfcaamnbaa
set_option linter.unusedVariables false
set_option linter.unusedSimpArgs false
open Go.RowKit Hp
attribute [local irreducible] Go.Calls Go.wpList Hp.gvV Hp.gB Hp.gA Hp.bOr Hp.bAnd Hp.bNot us withinB
set_option maxRecDepth 100000
set_option maxHeartbeats 4000000
/-- An order. -/
structure OV where
  (op n m : Int)
  (name : List UInt8)
  (dest : List UInt8)
  (l : List (List UInt8))
  (b : List UInt8)
def OV.cells (o : OV) (lv bv : Value) : List Value := [.int .i64 o.op, strV o.name, strV o.dest, .int .i64 o.n, .int .i64 o.m, lv, bv]
def OV.oddA (o : OV) : Bool := ((((decide (o.op < 1) || decide (24 < o.op)) || !withinB o.n) || !withinB o.m) || decide (16 < (o.l.length : Int))) || decide (16384 < (o.b.length : Int))
def longB (s : List UInt8) : Bool := decide ((48 : Int) < (s.length : Int))
def OV.oddB (o : OV) : Bool := (longB o.name || longB o.dest) || o.l.any longB
def OV.oddC (o : OV) : Bool := (((((!(o.name == []) && !us o.op 0) || (!(o.dest == []) && !us o.op 1)) || ((o.n != 0) && !us o.op 2)) || ((o.m != 0) && !us o.op 3)) || (decide (0 < (o.l.length : Int)) && !us o.op 4)) || (decide (0 < (o.b.length : Int)) && !us o.op 5)
def OV.check (o : OV) : Int := if o.oddA then 2 else if o.oddB then 2 else if o.oddC then 2 else 0
theorem longB_any (s : List UInt8) (w : World) : Calls Try.prog 39 #[strV s] w fun e w' => e = .returned (.bool (longB s)) ∧ St w [] w' [] := long_any s w
attribute [local irreducible] longB
theorem check_any (o : OV) (al ab : Option Addr) (nl cl nb cb : Nat) (w : World) (hl : Rd w (.slice al nl cl) 1 nl (strsV o.l)) (hnl : o.l.length = nl) (hnb : o.b.length = nb) (hb : nl ≤ 1000000) :
    Calls Try.prog 15 #[.agg (o.cells (.slice al nl cl) (.slice ab nb cb)).toArray] w fun e w' => e = .returned (.int .i64 o.check) ∧ St w [] w' [] := by
  have hst0 := St.refl w
  have hA : OV.oddA o = ((((((decide (o.op < 1) || decide (24 < o.op)) || !withinB o.n) || !withinB o.m) || decide (16 < (nl : Int))) || decide (16384 < (nb : Int)))) := by unfold OV.oddA; rw [hnl, hnb]
  have hC : OV.oddC o = ((((((!(o.name == []) && !us o.op 0) || (!(o.dest == []) && !us o.op 1)) || ((o.n != 0) && !us o.op 2)) || ((o.m != 0) && !us o.op 3)) || (decide (0 < (nl : Int)) && !us o.op 4)) || (decide (0 < (nb : Int)) && !us o.op 5)) := by unfold OV.oddC; rw [hnl, hnb]
  have HA := hid hA
  have HC := hid hC
  have HLn := hid hnl
  clear hnl hnb hA hC
  show Calls Try.prog 15 #[.agg (List.toArray [.int .i64 o.op, strV o.name, strV o.dest, .int .i64 o.n, .int .i64 o.m, .slice al nl cl, .slice ab nb cb])] w _
  go_enter Try.func15, Try.ntmps15
  go_wp2_with (first | go_big_skip | (refine wl_boxA hst0 rfl rfl rfl ?_; intro g1 _ hst1; clear hst0) | (refine wl_loadE rfl rfl rfl ?_; first | refine ⟨_, Loads.at [] hst1 rfl, ?_⟩) | (go_at_call 17; refine (uses_any o.op _).mono ?_; rintro _ w9 ⟨rfl, h4⟩; have hst2 := St.call0 hst1 h4; clear h4 hst1) | (refine wl_alloc hst2 rfl rfl ?_; intro g3 _ hst3; clear hst2) | (refine wl_storeA [] hst3 rfl rfl rfl rfl rfl rfl rfl ?_; intro w6 hst; clear hst3) | (show wpList _ _ _ (Oper.mk _ (.fieldAddr _ _ _) _ _ _ (some _) :: _) _ _; refine wl_gfld1 rfl (by first | exact wanted_b rfl rfl | exact wanted_g rfl rfl) (by first | exact (fun hg => gvV_on hg) | exact (fun hg => gvV_gA hg) | exact (fun _ => rfl)) (by kernel_rfl) ?_; (try simp only [Act.put, List.setIfInBounds_toArray, List.set_cons_zero, List.set_cons_succ])) | (show wpList _ _ _ (Oper.mk _ (.load _ _) _ _ _ (some _) :: _) _ _; refine wl_gloadE rfl (by first | exact wanted_b rfl rfl | exact wanted_g rfl rfl) (by first | exact (fun hg => gvV_on hg) | exact (fun hg => gvV_gA hg) | exact (fun _ => rfl)) ?_; (first | refine ⟨_, Loads.at [_] hst rfl, ?_⟩ | refine ⟨_, Loads.at [] hst rfl, ?_⟩); (try simp only [Act.put, List.setIfInBounds_toArray, List.set_cons_zero, List.set_cons_succ]); (repeat ((first | (show wpList _ _ _ (Oper.mk _ (.move _) _ _ _ none :: _) _ _; refine wl_mv rfl rfl rfl ?_) | (show wpList _ _ _ (Oper.mk _ (.pick _ _ _) _ _ _ none :: _) _ _; (first | (refine wl_pickOr rfl rfl rfl rfl rfl ?_; intro q hq) | (refine wl_pickAnd rfl rfl rfl rfl rfl ?_; intro q hq))) | (show wpList _ _ _ (Oper.mk _ (.pick _ _ _) _ _ _ (some _) :: _) _ _; (first | (refine wl_gpickOr rfl (by first | exact wanted_b rfl rfl | exact wanted_g rfl rfl) rfl rfl rfl ?_; intro q hq) | (refine wl_gpickAnd rfl (by first | exact wanted_b rfl rfl | exact wanted_g rfl rfl) rfl rfl rfl ?_; intro q hq))) | (show wpList _ _ _ (Oper.mk _ (.move _) _ _ _ (some _) :: _) _ _; refine wl_gmove rfl (by first | exact wanted_b rfl rfl | exact wanted_g rfl rfl) (by first | exact (fun hg => gvV_on hg) | exact (fun hg => gvV_gA hg) | exact (fun _ => rfl)) ?_)); (try simp only [Act.put, List.setIfInBounds_toArray, List.set_cons_zero, List.set_cons_succ])))) | (show wpList _ _ _ (Oper.mk _ (.binOp _ 3 _ _ _) _ _ _ (some _) :: _) _ _; refine wl_gcmp rfl (by first | exact wanted_b rfl rfl | exact wanted_g rfl rfl) (by first | exact (fun hg => gvV_on hg) | exact (fun hg => gvV_gA hg) | exact (fun _ => rfl)) (by first | exact (fun hg => gvV_on hg) | exact (fun hg => gvV_gA hg) | exact (fun _ => rfl)) rfl ?_; (try simp only [Act.put, List.setIfInBounds_toArray, List.set_cons_zero, List.set_cons_succ]); (repeat ((first | (show wpList _ _ _ (Oper.mk _ (.move _) _ _ _ none :: _) _ _; refine wl_mv rfl rfl rfl ?_) | (show wpList _ _ _ (Oper.mk _ (.pick _ _ _) _ _ _ none :: _) _ _; (first | (refine wl_pickOr rfl rfl rfl rfl rfl ?_; intro q hq) | (refine wl_pickAnd rfl rfl rfl rfl rfl ?_; intro q hq))) | (show wpList _ _ _ (Oper.mk _ (.pick _ _ _) _ _ _ (some _) :: _) _ _; (first | (refine wl_gpickOr rfl (by first | exact wanted_b rfl rfl | exact wanted_g rfl rfl) rfl rfl rfl ?_; intro q hq) | (refine wl_gpickAnd rfl (by first | exact wanted_b rfl rfl | exact wanted_g rfl rfl) rfl rfl rfl ?_; intro q hq))) | (show wpList _ _ _ (Oper.mk _ (.move _) _ _ _ (some _) :: _) _ _; refine wl_gmove rfl (by first | exact wanted_b rfl rfl | exact wanted_g rfl rfl) (by first | exact (fun hg => gvV_on hg) | exact (fun hg => gvV_gA hg) | exact (fun _ => rfl)) ?_)); (try simp only [Act.put, List.setIfInBounds_toArray, List.set_cons_zero, List.set_cons_succ])))) | (show wpList _ _ _ (Oper.mk _ (.binOp .neq 9 _ _ _) _ _ _ (some _) :: _) _ _; refine wl_gneqS rfl (by first | exact wanted_b rfl rfl | exact wanted_g rfl rfl) (by first | exact (fun hg => gvV_on hg) | exact (fun hg => gvV_gA hg) | exact (fun _ => rfl)) (by first | exact (fun hg => gvV_on hg) | exact (fun hg => gvV_gA hg) | exact (fun _ => rfl)) ?_; (try simp only [Act.put, List.setIfInBounds_toArray, List.set_cons_zero, List.set_cons_succ]); (repeat ((first | (show wpList _ _ _ (Oper.mk _ (.move _) _ _ _ none :: _) _ _; refine wl_mv rfl rfl rfl ?_) | (show wpList _ _ _ (Oper.mk _ (.pick _ _ _) _ _ _ none :: _) _ _; (first | (refine wl_pickOr rfl rfl rfl rfl rfl ?_; intro q hq) | (refine wl_pickAnd rfl rfl rfl rfl rfl ?_; intro q hq))) | (show wpList _ _ _ (Oper.mk _ (.pick _ _ _) _ _ _ (some _) :: _) _ _; (first | (refine wl_gpickOr rfl (by first | exact wanted_b rfl rfl | exact wanted_g rfl rfl) rfl rfl rfl ?_; intro q hq) | (refine wl_gpickAnd rfl (by first | exact wanted_b rfl rfl | exact wanted_g rfl rfl) rfl rfl rfl ?_; intro q hq))) | (show wpList _ _ _ (Oper.mk _ (.move _) _ _ _ (some _) :: _) _ _; refine wl_gmove rfl (by first | exact wanted_b rfl rfl | exact wanted_g rfl rfl) (by first | exact (fun hg => gvV_on hg) | exact (fun hg => gvV_gA hg) | exact (fun _ => rfl)) ?_)); (try simp only [Act.put, List.setIfInBounds_toArray, List.set_cons_zero, List.set_cons_succ])))) | (show wpList _ _ _ (Oper.mk _ (.binOp .eql 9 _ _ _) _ _ _ (some _) :: _) _ _; refine wl_geqS rfl (by first | exact wanted_b rfl rfl | exact wanted_g rfl rfl) (by first | exact (fun hg => gvV_on hg) | exact (fun hg => gvV_gA hg) | exact (fun _ => rfl)) (by first | exact (fun hg => gvV_on hg) | exact (fun hg => gvV_gA hg) | exact (fun _ => rfl)) ?_; (try simp only [Act.put, List.setIfInBounds_toArray, List.set_cons_zero, List.set_cons_succ]); (repeat ((first | (show wpList _ _ _ (Oper.mk _ (.move _) _ _ _ none :: _) _ _; refine wl_mv rfl rfl rfl ?_) | (show wpList _ _ _ (Oper.mk _ (.pick _ _ _) _ _ _ none :: _) _ _; (first | (refine wl_pickOr rfl rfl rfl rfl rfl ?_; intro q hq) | (refine wl_pickAnd rfl rfl rfl rfl rfl ?_; intro q hq))) | (show wpList _ _ _ (Oper.mk _ (.pick _ _ _) _ _ _ (some _) :: _) _ _; (first | (refine wl_gpickOr rfl (by first | exact wanted_b rfl rfl | exact wanted_g rfl rfl) rfl rfl rfl ?_; intro q hq) | (refine wl_gpickAnd rfl (by first | exact wanted_b rfl rfl | exact wanted_g rfl rfl) rfl rfl rfl ?_; intro q hq))) | (show wpList _ _ _ (Oper.mk _ (.move _) _ _ _ (some _) :: _) _ _; refine wl_gmove rfl (by first | exact wanted_b rfl rfl | exact wanted_g rfl rfl) (by first | exact (fun hg => gvV_on hg) | exact (fun hg => gvV_gA hg) | exact (fun _ => rfl)) ?_)); (try simp only [Act.put, List.setIfInBounds_toArray, List.set_cons_zero, List.set_cons_succ])))) | (show wpList _ _ _ (Oper.mk _ (.binOp .neq 9 _ _ _) _ _ _ none :: _) _ _; refine wl_neqS rfl rfl rfl rfl ?_; (try simp only [Act.put, List.setIfInBounds_toArray, List.set_cons_zero, List.set_cons_succ]); (repeat ((first | (show wpList _ _ _ (Oper.mk _ (.move _) _ _ _ none :: _) _ _; refine wl_mv rfl rfl rfl ?_) | (show wpList _ _ _ (Oper.mk _ (.pick _ _ _) _ _ _ none :: _) _ _; (first | (refine wl_pickOr rfl rfl rfl rfl rfl ?_; intro q hq) | (refine wl_pickAnd rfl rfl rfl rfl rfl ?_; intro q hq))) | (show wpList _ _ _ (Oper.mk _ (.pick _ _ _) _ _ _ (some _) :: _) _ _; (first | (refine wl_gpickOr rfl (by first | exact wanted_b rfl rfl | exact wanted_g rfl rfl) rfl rfl rfl ?_; intro q hq) | (refine wl_gpickAnd rfl (by first | exact wanted_b rfl rfl | exact wanted_g rfl rfl) rfl rfl rfl ?_; intro q hq))) | (show wpList _ _ _ (Oper.mk _ (.move _) _ _ _ (some _) :: _) _ _; refine wl_gmove rfl (by first | exact wanted_b rfl rfl | exact wanted_g rfl rfl) (by first | exact (fun hg => gvV_on hg) | exact (fun hg => gvV_gA hg) | exact (fun _ => rfl)) ?_)); (try simp only [Act.put, List.setIfInBounds_toArray, List.set_cons_zero, List.set_cons_succ])))) | (show wpList _ _ _ (Oper.mk _ (.binOp .eql 9 _ _ _) _ _ _ none :: _) _ _; refine wl_eqS rfl rfl rfl rfl ?_; (try simp only [Act.put, List.setIfInBounds_toArray, List.set_cons_zero, List.set_cons_succ]); (repeat ((first | (show wpList _ _ _ (Oper.mk _ (.move _) _ _ _ none :: _) _ _; refine wl_mv rfl rfl rfl ?_) | (show wpList _ _ _ (Oper.mk _ (.pick _ _ _) _ _ _ none :: _) _ _; (first | (refine wl_pickOr rfl rfl rfl rfl rfl ?_; intro q hq) | (refine wl_pickAnd rfl rfl rfl rfl rfl ?_; intro q hq))) | (show wpList _ _ _ (Oper.mk _ (.pick _ _ _) _ _ _ (some _) :: _) _ _; (first | (refine wl_gpickOr rfl (by first | exact wanted_b rfl rfl | exact wanted_g rfl rfl) rfl rfl rfl ?_; intro q hq) | (refine wl_gpickAnd rfl (by first | exact wanted_b rfl rfl | exact wanted_g rfl rfl) rfl rfl rfl ?_; intro q hq))) | (show wpList _ _ _ (Oper.mk _ (.move _) _ _ _ (some _) :: _) _ _; refine wl_gmove rfl (by first | exact wanted_b rfl rfl | exact wanted_g rfl rfl) (by first | exact (fun hg => gvV_on hg) | exact (fun hg => gvV_gA hg) | exact (fun _ => rfl)) ?_)); (try simp only [Act.put, List.setIfInBounds_toArray, List.set_cons_zero, List.set_cons_succ])))) | (show wpList _ _ _ (Oper.mk _ (.call (Call.mk (.builtin .len) _ #[9])) _ _ _ (some _) :: _) _ _; refine wl_glenS rfl (by first | exact wanted_b rfl rfl | exact wanted_g rfl rfl) (by first | exact (fun hg => gvV_on hg) | exact (fun hg => gvV_gA hg) | exact (fun _ => rfl)) ?_; (try simp only [Act.put, List.setIfInBounds_toArray, List.set_cons_zero, List.set_cons_succ])) | (show wpList _ _ _ (Oper.mk _ (.call (Call.mk (.builtin .len) _ #[23])) _ _ _ (some _) :: _) _ _; refine wl_glen rfl (by first | exact wanted_b rfl rfl | exact wanted_g rfl rfl) (by first | exact (fun hg => gvV_on hg) | exact (fun hg => gvV_gA hg) | exact (fun _ => rfl)) ?_; (try simp only [Act.put, List.setIfInBounds_toArray, List.set_cons_zero, List.set_cons_succ])) | (show wpList _ _ _ (Oper.mk _ (.call (Call.mk (.builtin .len) _ #[22])) _ _ _ (some _) :: _) _ _; refine wl_glen rfl (by first | exact wanted_b rfl rfl | exact wanted_g rfl rfl) (by first | exact (fun hg => gvV_on hg) | exact (fun hg => gvV_gA hg) | exact (fun _ => rfl)) ?_; (try simp only [Act.put, List.setIfInBounds_toArray, List.set_cons_zero, List.set_cons_succ])) | (show wpList _ _ _ (Oper.mk _ (.unOp .not _ _) _ _ _ (some _) :: _) _ _; refine wl_gnot rfl (by first | exact wanted_b rfl rfl | exact wanted_g rfl rfl) (by first | exact (fun hg => gvV_on hg) | exact (fun hg => gvV_gA hg) | exact (fun _ => rfl)) ?_; (try simp only [Act.put, List.setIfInBounds_toArray, List.set_cons_zero, List.set_cons_succ]); (repeat ((first | (show wpList _ _ _ (Oper.mk _ (.move _) _ _ _ none :: _) _ _; refine wl_mv rfl rfl rfl ?_) | (show wpList _ _ _ (Oper.mk _ (.pick _ _ _) _ _ _ none :: _) _ _; (first | (refine wl_pickOr rfl rfl rfl rfl rfl ?_; intro q hq) | (refine wl_pickAnd rfl rfl rfl rfl rfl ?_; intro q hq))) | (show wpList _ _ _ (Oper.mk _ (.pick _ _ _) _ _ _ (some _) :: _) _ _; (first | (refine wl_gpickOr rfl (by first | exact wanted_b rfl rfl | exact wanted_g rfl rfl) rfl rfl rfl ?_; intro q hq) | (refine wl_gpickAnd rfl (by first | exact wanted_b rfl rfl | exact wanted_g rfl rfl) rfl rfl rfl ?_; intro q hq))) | (show wpList _ _ _ (Oper.mk _ (.move _) _ _ _ (some _) :: _) _ _; refine wl_gmove rfl (by first | exact wanted_b rfl rfl | exact wanted_g rfl rfl) (by first | exact (fun hg => gvV_on hg) | exact (fun hg => gvV_gA hg) | exact (fun _ => rfl)) ?_)); (try simp only [Act.put, List.setIfInBounds_toArray, List.set_cons_zero, List.set_cons_succ])))) | (show wpList _ _ _ (Oper.mk _ (.call (Call.mk (.value (.func 40)) _ _)) _ _ _ (some _) :: _) _ _; refine wl_gcall (v := .bool (withinB o.n)) hst (by first | exact wanted_b rfl rfl | exact wanted_g rfl rfl) ?_ ?_; (intro hg K hK; have Hg := hid hg; clear hg; go_simp; go_at_call 40; (try (conv => (arg 3; simp only [gvV_on Hg.out]))); refine (within_any o.n _).mono ?_; rintro _ w9 ⟨rfl, h4⟩; have hk := hK _ (St.call0 hst h4); simp only [Act.put, List.setIfInBounds_toArray, List.set_cons_zero, List.set_cons_succ] at hk; dsimp only; exact hk); (intro w5 hst5; replace hst := hst5; clear hst5; (try simp only [Act.put, List.setIfInBounds_toArray, List.set_cons_zero, List.set_cons_succ]); (repeat ((first | (show wpList _ _ _ (Oper.mk _ (.move _) _ _ _ none :: _) _ _; refine wl_mv rfl rfl rfl ?_) | (show wpList _ _ _ (Oper.mk _ (.pick _ _ _) _ _ _ none :: _) _ _; (first | (refine wl_pickOr rfl rfl rfl rfl rfl ?_; intro q hq) | (refine wl_pickAnd rfl rfl rfl rfl rfl ?_; intro q hq))) | (show wpList _ _ _ (Oper.mk _ (.pick _ _ _) _ _ _ (some _) :: _) _ _; (first | (refine wl_gpickOr rfl (by first | exact wanted_b rfl rfl | exact wanted_g rfl rfl) rfl rfl rfl ?_; intro q hq) | (refine wl_gpickAnd rfl (by first | exact wanted_b rfl rfl | exact wanted_g rfl rfl) rfl rfl rfl ?_; intro q hq))) | (show wpList _ _ _ (Oper.mk _ (.move _) _ _ _ (some _) :: _) _ _; refine wl_gmove rfl (by first | exact wanted_b rfl rfl | exact wanted_g rfl rfl) (by first | exact (fun hg => gvV_on hg) | exact (fun hg => gvV_gA hg) | exact (fun _ => rfl)) ?_)); (try simp only [Act.put, List.setIfInBounds_toArray, List.set_cons_zero, List.set_cons_succ]))))) | (show wpList _ _ _ (Oper.mk _ (.call (Call.mk (.value (.func 40)) _ _)) _ _ _ (some _) :: _) _ _; refine wl_gcall (v := .bool (withinB o.m)) hst (by first | exact wanted_b rfl rfl | exact wanted_g rfl rfl) ?_ ?_; (intro hg K hK; have Hg := hid hg; clear hg; go_simp; go_at_call 40; (try (conv => (arg 3; simp only [gvV_on Hg.out]))); refine (within_any o.m _).mono ?_; rintro _ w9 ⟨rfl, h4⟩; have hk := hK _ (St.call0 hst h4); simp only [Act.put, List.setIfInBounds_toArray, List.set_cons_zero, List.set_cons_succ] at hk; dsimp only; exact hk); (intro w5 hst5; replace hst := hst5; clear hst5; (try simp only [Act.put, List.setIfInBounds_toArray, List.set_cons_zero, List.set_cons_succ]); (repeat ((first | (show wpList _ _ _ (Oper.mk _ (.move _) _ _ _ none :: _) _ _; refine wl_mv rfl rfl rfl ?_) | (show wpList _ _ _ (Oper.mk _ (.pick _ _ _) _ _ _ none :: _) _ _; (first | (refine wl_pickOr rfl rfl rfl rfl rfl ?_; intro q hq) | (refine wl_pickAnd rfl rfl rfl rfl rfl ?_; intro q hq))) | (show wpList _ _ _ (Oper.mk _ (.pick _ _ _) _ _ _ (some _) :: _) _ _; (first | (refine wl_gpickOr rfl (by first | exact wanted_b rfl rfl | exact wanted_g rfl rfl) rfl rfl rfl ?_; intro q hq) | (refine wl_gpickAnd rfl (by first | exact wanted_b rfl rfl | exact wanted_g rfl rfl) rfl rfl rfl ?_; intro q hq))) | (show wpList _ _ _ (Oper.mk _ (.move _) _ _ _ (some _) :: _) _ _; refine wl_gmove rfl (by first | exact wanted_b rfl rfl | exact wanted_g rfl rfl) (by first | exact (fun hg => gvV_on hg) | exact (fun hg => gvV_gA hg) | exact (fun _ => rfl)) ?_)); (try simp only [Act.put, List.setIfInBounds_toArray, List.set_cons_zero, List.set_cons_succ]))))) | (show wpList _ _ _ (Oper.mk _ (.call (Call.mk (.value (.tmp _)) _ _)) _ _ _ (some _) :: _) _ _; refine wl_gcall (v := .bool (longB o.dest)) hst (by first | exact wanted_b rfl rfl | exact wanted_g rfl rfl) ?_ ?_; (intro hg K hK; have Hg := hid hg; clear hg; go_simp; go_at_call 39; (try (conv => (arg 3; simp only [gvV_on Hg.out]))); refine (longB_any o.dest _).mono ?_; rintro _ w9 ⟨rfl, h4⟩; have hk := hK _ (St.call0 hst h4); simp only [Act.put, List.setIfInBounds_toArray, List.set_cons_zero, List.set_cons_succ] at hk; dsimp only; exact hk); (intro w5 hst5; replace hst := hst5; clear hst5; (try simp only [Act.put, List.setIfInBounds_toArray, List.set_cons_zero, List.set_cons_succ]); (repeat ((first | (show wpList _ _ _ (Oper.mk _ (.move _) _ _ _ none :: _) _ _; refine wl_mv rfl rfl rfl ?_) | (show wpList _ _ _ (Oper.mk _ (.pick _ _ _) _ _ _ none :: _) _ _; (first | (refine wl_pickOr rfl rfl rfl rfl rfl ?_; intro q hq) | (refine wl_pickAnd rfl rfl rfl rfl rfl ?_; intro q hq))) | (show wpList _ _ _ (Oper.mk _ (.pick _ _ _) _ _ _ (some _) :: _) _ _; (first | (refine wl_gpickOr rfl (by first | exact wanted_b rfl rfl | exact wanted_g rfl rfl) rfl rfl rfl ?_; intro q hq) | (refine wl_gpickAnd rfl (by first | exact wanted_b rfl rfl | exact wanted_g rfl rfl) rfl rfl rfl ?_; intro q hq))) | (show wpList _ _ _ (Oper.mk _ (.move _) _ _ _ (some _) :: _) _ _; refine wl_gmove rfl (by first | exact wanted_b rfl rfl | exact wanted_g rfl rfl) (by first | exact (fun hg => gvV_on hg) | exact (fun hg => gvV_gA hg) | exact (fun _ => rfl)) ?_)); (try simp only [Act.put, List.setIfInBounds_toArray, List.set_cons_zero, List.set_cons_succ]))))) | (show wpList _ _ _ (Oper.mk _ (.call (Call.mk (.value (.func 41)) _ _)) _ _ _ (some _) :: _) _ _; refine wl_gcall (v := .bool (o.l.any longB)) hst (by first | exact wanted_b rfl rfl | exact wanted_g rfl rfl) ?_ ?_; (intro hg K hK; have Hg := hid hg; clear hg; go_simp; go_at_call 41; (try (conv => (arg 3; simp only [gvV_on Hg.out]))); refine (containsS_any (w0 := w) (M := []) (L := []) 39 longB al nl cl o.l _ (fun _ _ => rfl) (fun x w _ => longB_any x w) (Rd.old hst hl) HLn.out (by omega)).mono ?_; rintro _ w9 ⟨rfl, h4⟩; have hk := hK _ (St.call0 hst h4); simp only [Act.put, List.setIfInBounds_toArray, List.set_cons_zero, List.set_cons_succ] at hk; dsimp only; exact hk); (intro w5 hst5; replace hst := hst5; clear hst5; (try simp only [Act.put, List.setIfInBounds_toArray, List.set_cons_zero, List.set_cons_succ]); (repeat ((first | (show wpList _ _ _ (Oper.mk _ (.move _) _ _ _ none :: _) _ _; refine wl_mv rfl rfl rfl ?_) | (show wpList _ _ _ (Oper.mk _ (.pick _ _ _) _ _ _ none :: _) _ _; (first | (refine wl_pickOr rfl rfl rfl rfl rfl ?_; intro q hq) | (refine wl_pickAnd rfl rfl rfl rfl rfl ?_; intro q hq))) | (show wpList _ _ _ (Oper.mk _ (.pick _ _ _) _ _ _ (some _) :: _) _ _; (first | (refine wl_gpickOr rfl (by first | exact wanted_b rfl rfl | exact wanted_g rfl rfl) rfl rfl rfl ?_; intro q hq) | (refine wl_gpickAnd rfl (by first | exact wanted_b rfl rfl | exact wanted_g rfl rfl) rfl rfl rfl ?_; intro q hq))) | (show wpList _ _ _ (Oper.mk _ (.move _) _ _ _ (some _) :: _) _ _; refine wl_gmove rfl (by first | exact wanted_b rfl rfl | exact wanted_g rfl rfl) (by first | exact (fun hg => gvV_on hg) | exact (fun hg => gvV_gA hg) | exact (fun _ => rfl)) ?_)); (try simp only [Act.put, List.setIfInBounds_toArray, List.set_cons_zero, List.set_cons_succ]))))) | (refine wl_loadE rfl rfl rfl ?_; first | refine ⟨_, Loads.at [_] hst rfl, ?_⟩ | refine ⟨_, Loads.at [] hst rfl, ?_⟩) | (go_at_call 39; refine (longB_any o.name _).mono ?_; rintro _ w9 ⟨rfl, h4⟩; replace hst := St.call0 hst h4; clear h4; (try simp only [Act.put, List.setIfInBounds_toArray, List.set_cons_zero, List.set_cons_succ]); (repeat ((first | (show wpList _ _ _ (Oper.mk _ (.move _) _ _ _ none :: _) _ _; refine wl_mv rfl rfl rfl ?_) | (show wpList _ _ _ (Oper.mk _ (.pick _ _ _) _ _ _ none :: _) _ _; (first | (refine wl_pickOr rfl rfl rfl rfl rfl ?_; intro q hq) | (refine wl_pickAnd rfl rfl rfl rfl rfl ?_; intro q hq))) | (show wpList _ _ _ (Oper.mk _ (.pick _ _ _) _ _ _ (some _) :: _) _ _; (first | (refine wl_gpickOr rfl (by first | exact wanted_b rfl rfl | exact wanted_g rfl rfl) rfl rfl rfl ?_; intro q hq) | (refine wl_gpickAnd rfl (by first | exact wanted_b rfl rfl | exact wanted_g rfl rfl) rfl rfl rfl ?_; intro q hq))) | (show wpList _ _ _ (Oper.mk _ (.move _) _ _ _ (some _) :: _) _ _; refine wl_gmove rfl (by first | exact wanted_b rfl rfl | exact wanted_g rfl rfl) (by first | exact (fun hg => gvV_on hg) | exact (fun hg => gvV_gA hg) | exact (fun _ => rfl)) ?_)); (try simp only [Act.put, List.setIfInBounds_toArray, List.set_cons_zero, List.set_cons_succ])))))
  all_goals go_ret
  all_goals refine ⟨congrArg (fun z => Ending.returned (Value.int .i64 z)) (?_ : (_ : Int) = o.check), hst.nil⟩
  all_goals
    have e : OV.oddB o = ((longB o.name || longB o.dest) || o.l.any longB) := rfl
    have hA := HA.out
    have hC := HC.out
    clear HA HC HLn hst hl
    simp only [hid_iff, bNot_eq] at *
    simp only [OV.check, hA, hC, e]
    clear hA hC e
    simp_all only [Bool.false_or, Bool.true_or, if_true, if_false, Bool.false_eq_true]
end Go.Proofs.Ytalfdcfcaamnbaa
namespace Go.Proofs.Ytalfdcfcaamnbaa
set_option linter.unusedVariables false
set_option linter.unusedSimpArgs false
open Go.RowKit Hp
attribute [local irreducible] Go.Calls Go.wpList
set_option maxRecDepth 100000
set_option maxHeartbeats 4000000
/-- What an order's fields write, one behind the other. -/
def ordF (o : OV) : List (WR → WR) := [fun s => putW s (numR o.op 1), fun s => putW s (textR o.name 48), fun s => putW s (textR o.dest 48), fun s => putW s (numR o.n 4), fun s => putW s (numR o.m 4),
  fun s => putAll (putW s (numR (o.l.length : Int) 1)) (o.l.map fun t => textR t 48), fun s => putW (putW s (numR (o.b.length : Int) 3)) (0, o.b)]
def putO (o : OV) : WR := if o.check = 0 then goAll (0, []) (ordF o) else (o.check, [])
/-- An order that the walk can take. -/
structure OV.Ok (o : OV) : Prop where
  op : -9223372036854775808 ≤ o.op ∧ o.op ≤ 9223372036854775807
  n : -9223372036854775808 ≤ o.n ∧ o.n ≤ 9223372036854775807
  m : -9223372036854775808 ≤ o.m ∧ o.m ≤ 9223372036854775807
  name : o.name.length ≤ 1000000
  dest : o.dest.length ≤ 1000000
  ln : o.l.length ≤ 1000000
  lt : ∀ t ∈ o.l, t.length ≤ 1000000
  bn : o.b.length ≤ 100000
theorem ordF_len (o : OV) : ∀ f ∈ ordF o, ∀ s : WR, s.2.length ≤ 65536 → (f s).2.length ≤ 65536 := by
  intro f hf s hs
  unfold ordF at hf
  simp only [List.mem_cons, List.not_mem_nil, or_false] at hf
  rcases hf with rfl | rfl | rfl | rfl | rfl | rfl | rfl
  · exact putW_len hs
  · exact putW_len hs
  · exact putW_len hs
  · exact putW_len hs
  · exact putW_len hs
  · exact putAll_len (putW_len hs)
  · exact putW_len (putW_len hs)
theorem parts_ok {w0 w : World} {M : List Nat} {L : List HA} {o : OV} (ok : o.Ok) {al ab : Option Addr} {nl cl nb cb gp go : Nat} {n0 z0 l0 h0 n1 n2 n3 z3 l3 h3 n4 z4 l4 h4 n5 z5 m5 f5 n6 : Nat}
    (h : St w0 M w ((.blk gp 89 (partsC (partsPs n0 z0 l0 h0 n1 n2 n3 z3 l3 h3 n4 z4 l4 h4 n5 z5 m5 f5 n6)) :: partsBoxes go n0 z0 l0 h0 n1 n2 n3 z3 l3 h3 n4 z4 l4 h4 n5 z5 m5 f5 n6) ++ .blk go 25 [.int .i64 o.op, strV o.name, strV o.dest, .int .i64 o.n, .int .i64 o.m, .slice al nl cl, .slice ab nb cb] :: L))
    (hl : Rd w (.slice al nl cl) 1 nl (strsV o.l)) (hb : Rd w (.slice ab nb cb) 1 nb (bytesV o.b)) (hnl : o.l.length = nl) (hnb : o.b.length = nb) :
    ∀ (k : Nat) (p : PartV) (f : WR → WR), (partsPs n0 z0 l0 h0 n1 n2 n3 z3 l3 h3 n4 z4 l4 h4 n5 z5 m5 f5 n6)[k]? = some p → (ordF o)[k]? = some f → PutOk w p.pf p.pc f := by
  unfold partsBoxes at h
  intro k p f hp hf
  match k, hp, hf with
  | 0, hp, hf => cases hp; cases hf; exact num1_put (h.cell (off := 0) (.tail _ (.tail _ (.tail _ (.tail _ (.tail _ (.tail _ (.tail _ (.tail _ (.tail _ (.tail _ (.tail _ (.tail _ (.tail _ (.tail _ (.tail _ (.tail _ (.tail _ (.tail _ (.tail _ (.head _)))))))))))))))))))) rfl) (h.cell (off := 0) (.tail _ (.tail _ (.tail _ (.tail _ (.tail _ (.tail _ (.tail _ (.tail _ (.tail _ (.tail _ (.tail _ (.tail _ (.tail _ (.tail _ (.tail _ (.tail _ (.tail _ (.tail _ (.head _))))))))))))))))))) rfl) (h.cell (off := 0) (.tail _ (.tail _ (.tail _ (.tail _ (.tail _ (.tail _ (.tail _ (.tail _ (.tail _ (.tail _ (.tail _ (.tail _ (.tail _ (.tail _ (.tail _ (.tail _ (.tail _ (.tail _ (.tail _ (.tail _ (.head _))))))))))))))))))))) rfl) (by decide) ok.op
  | 1, hp, hf => cases hp; cases hf; exact text1_put (h.cell (off := 0) (.tail _ (.tail _ (.tail _ (.tail _ (.tail _ (.tail _ (.tail _ (.tail _ (.tail _ (.tail _ (.tail _ (.tail _ (.tail _ (.tail _ (.tail _ (.head _)))))))))))))))) rfl) (h.cell (off := 1) (.tail _ (.tail _ (.tail _ (.tail _ (.tail _ (.tail _ (.tail _ (.tail _ (.tail _ (.tail _ (.tail _ (.tail _ (.tail _ (.tail _ (.tail _ (.tail _ (.tail _ (.tail _ (.tail _ (.tail _ (.head _))))))))))))))))))))) rfl) ok.name
  | 2, hp, hf => cases hp; cases hf; exact text1_put (h.cell (off := 0) (.tail _ (.tail _ (.tail _ (.tail _ (.tail _ (.tail _ (.tail _ (.tail _ (.tail _ (.tail _ (.tail _ (.tail _ (.tail _ (.tail _ (.head _))))))))))))))) rfl) (h.cell (off := 2) (.tail _ (.tail _ (.tail _ (.tail _ (.tail _ (.tail _ (.tail _ (.tail _ (.tail _ (.tail _ (.tail _ (.tail _ (.tail _ (.tail _ (.tail _ (.tail _ (.tail _ (.tail _ (.tail _ (.tail _ (.head _))))))))))))))))))))) rfl) ok.dest
  | 3, hp, hf => cases hp; cases hf; exact num1_put (h.cell (off := 0) (.tail _ (.tail _ (.tail _ (.tail _ (.tail _ (.tail _ (.tail _ (.tail _ (.tail _ (.tail _ (.tail _ (.tail _ (.tail _ (.head _)))))))))))))) rfl) (h.cell (off := 0) (.tail _ (.tail _ (.tail _ (.tail _ (.tail _ (.tail _ (.tail _ (.tail _ (.tail _ (.tail _ (.tail _ (.tail _ (.head _))))))))))))) rfl) (h.cell (off := 3) (.tail _ (.tail _ (.tail _ (.tail _ (.tail _ (.tail _ (.tail _ (.tail _ (.tail _ (.tail _ (.tail _ (.tail _ (.tail _ (.tail _ (.tail _ (.tail _ (.tail _ (.tail _ (.tail _ (.tail _ (.head _))))))))))))))))))))) rfl) (by decide) ok.n
  | 4, hp, hf => cases hp; cases hf; exact num1_put (h.cell (off := 0) (.tail _ (.tail _ (.tail _ (.tail _ (.tail _ (.tail _ (.tail _ (.tail _ (.tail _ (.head _)))))))))) rfl) (h.cell (off := 0) (.tail _ (.tail _ (.tail _ (.tail _ (.tail _ (.tail _ (.tail _ (.tail _ (.head _))))))))) rfl) (h.cell (off := 4) (.tail _ (.tail _ (.tail _ (.tail _ (.tail _ (.tail _ (.tail _ (.tail _ (.tail _ (.tail _ (.tail _ (.tail _ (.tail _ (.tail _ (.tail _ (.tail _ (.tail _ (.tail _ (.tail _ (.tail _ (.head _))))))))))))))))))))) rfl) (by decide) ok.m
  | 5, hp, hf => cases hp; cases hf; subst hnl; exact listS_put (h.cell (off := 0) (.tail _ (.tail _ (.tail _ (.tail _ (.tail _ (.head _)))))) rfl) (h.cell (off := 0) (.tail _ (.tail _ (.tail _ (.tail _ (.head _))))) rfl) (h.cell (off := 0) (.tail _ (.tail _ (.head _))) rfl) (h.cell (off := 5) (.tail _ (.tail _ (.tail _ (.tail _ (.tail _ (.tail _ (.tail _ (.tail _ (.tail _ (.tail _ (.tail _ (.tail _ (.tail _ (.tail _ (.tail _ (.tail _ (.tail _ (.tail _ (.tail _ (.tail _ (.head _))))))))))))))))))))) rfl) hl rfl ok.ln ok.lt (by decide)
  | 6, hp, hf => cases hp; cases hf; subst hnb; exact raw1_put (h.cell (off := 0) (.tail _ (.head _)) rfl) (h.cell (off := 6) (.tail _ (.tail _ (.tail _ (.tail _ (.tail _ (.tail _ (.tail _ (.tail _ (.tail _ (.tail _ (.tail _ (.tail _ (.tail _ (.tail _ (.tail _ (.tail _ (.tail _ (.tail _ (.tail _ (.tail _ (.head _))))))))))))))))))))) rfl) hb rfl ok.bn
  | k + 7, hp, _ => simp [partsPs] at hp
theorem parts_fn {n0 z0 l0 h0 n1 n2 n3 z3 l3 h3 n4 z4 l4 h4 n5 z5 m5 f5 n6 : Nat} : ∀ p ∈ partsPs n0 z0 l0 h0 n1 n2 n3 z3 l3 h3 n4 z4 l4 h4 n5 z5 m5 f5 n6, ∀ (a : Array Value) (w : World), (callFunc p.pf a).run Try.prog w = .ok (.enter p.pf a) w := by
  intro p hp a w
  unfold partsPs at hp
  simp only [List.mem_cons, List.not_mem_nil, or_false] at hp
  rcases hp with rfl | rfl | rfl | rfl | rfl | rfl | rfl <;> rfl
theorem oput_bad (o : OV) (ok : o.Ok) (al ab : Option Addr) (nl cl nb cb : Nat) (w : World) (hl : Rd w (.slice al nl cl) 1 nl (strsV o.l)) (hb : Rd w (.slice ab nb cb) 1 nb (bytesV o.b)) (hnl : o.l.length = nl) (hnb : o.b.length = nb) (h0 : o.check ≠ 0) :
    Calls Try.prog 12 #[.agg (o.cells (.slice al nl cl) (.slice ab nb cb)).toArray] w (OutP w (putO o)) := by
  have hst0 := St.refl w
  have HL := hid hl
  have HB := hid hb
  have HNL := hid hnl
  have HNB := hid hnb
  have hln : nl ≤ 1000000 := by rw [← hnl]; exact ok.ln
  obtain ⟨R, hR⟩ : ∃ R, R = putO o := ⟨_, rfl⟩
  have HR := hid hR
  rw [← hR]
  obtain ⟨ck, hck⟩ : ∃ ck, ck = o.check := ⟨_, rfl⟩
  have HCK := hid hck
  have d0 : (ck != 0) = true := by rw [hck]; simpa using h0
  have H0 := hid h0
  clear hl hb hnl hnb hR hck h0
  show Calls Try.prog 12 #[.agg (List.toArray [.int .i64 o.op, strV o.name, strV o.dest, .int .i64 o.n, .int .i64 o.m, .slice al nl cl, .slice ab nb cb])] w _
  go_enter Try.func12, Try.ntmps12
  go_wp2_with (first | go_big_skip | go_big_guard | (refine wl_boxA hst0 rfl rfl rfl ?_; intro g1 _ hst1; clear hst0) | (refine wl_loadE rfl rfl rfl ?_; refine ⟨_, Loads.whole (T := 25) [] hst1 rfl, ?_⟩) | (go_at_call 15; refine (check_any o al ab nl cl nb cb _ (Rd.old hst1 HL.out) HNL.out HNB.out hln).mono ?_; rw [← HCK.out]; rintro _ w9 ⟨rfl, h4⟩; have hst2 := St.call0 hst1 h4; clear h4 hst1))
  go_ret2
  have e : R = (ck, []) := by rw [HR.out, HCK.out]; unfold putO; rw [if_neg H0.out]
  refine ⟨.slice none 0 0, by rw [e]; rfl, ?_⟩
  rw [e, show outW (ck, []) = [] from by unfold outW; split <;> rfl]
  exact St.nilPQ isB _ 1 hst2.nil
theorem oput_ok (o : OV) (ok : o.Ok) (al ab : Option Addr) (nl cl nb cb : Nat) (w : World) (hl : Rd w (.slice al nl cl) 1 nl (strsV o.l)) (hb : Rd w (.slice ab nb cb) 1 nb (bytesV o.b)) (hnl : o.l.length = nl) (hnb : o.b.length = nb) (h0 : o.check = 0) :
    Calls Try.prog 12 #[.agg (o.cells (.slice al nl cl) (.slice ab nb cb)).toArray] w (OutP w (putO o)) := by
  have hst0 := St.refl w
  have HL := hid hl
  have HB := hid hb
  have HNL := hid hnl
  have HNB := hid hnb
  have hln : nl ≤ 1000000 := by rw [← hnl]; exact ok.ln
  obtain ⟨R, hR⟩ : ∃ R, R = putO o := ⟨_, rfl⟩
  have HR := hid hR
  rw [← hR]
  obtain ⟨ck, hck⟩ : ∃ ck, ck = o.check := ⟨_, rfl⟩
  have HCK := hid hck
  have d0 : (ck != 0) = false := by rw [hck]; simpa using h0
  have H0 := hid h0
  clear hl hb hnl hnb hR hck h0
  show Calls Try.prog 12 #[.agg (List.toArray [.int .i64 o.op, strV o.name, strV o.dest, .int .i64 o.n, .int .i64 o.m, .slice al nl cl, .slice ab nb cb])] w _
  go_enter Try.func12, Try.ntmps12
  go_wp2_with (first | go_big_skip | go_big_guard | (refine wl_boxA hst0 rfl rfl rfl ?_; intro g1 _ hst1; clear hst0) | (refine wl_loadE rfl rfl rfl ?_; refine ⟨_, Loads.whole (T := 25) [] hst1 rfl, ?_⟩) | (go_at_call 15; refine (check_any o al ab nl cl nb cb _ (Rd.old hst1 HL.out) HNL.out HNB.out hln).mono ?_; rw [← HCK.out]; rintro _ w9 ⟨rfl, h4⟩; have hst2 := St.call0 hst1 h4; clear h4 hst1) | (go_at_call 34; refine (parts_any g1 _).mono ?_; rintro _ w10 ⟨gp, n0, z0, l0, h0, n1, n2, n3, z3, l3, h3, n4, z4, l4, h4, n5, z5, m5, f5, n6, rfl, hh⟩; have hst3 := St.call hst2 hh; clear hh hst2) | (go_at_call 33; have hP := parts_ok ok (L := []) hst3 (Rd.old hst3 HL.out) (Rd.old hst3 HB.out) HNL.out HNB.out; refine (parts_put (some ⟨gp, 0, none⟩) 7 7 (partsPs n0 z0 l0 h0 n1 n2 n3 z3 l3 h3 n4 z4 l4 h4 n5 z5 m5 f5 n6) (ordF o) _ (Rd.blk hst3 (.head _) (Nat.le_refl _) (by decide) rfl rfl) rfl rfl (by decide) parts_fn hP (ordF_len o)).mono ?_; rintro _ w11 ⟨u, rfl, hh⟩; have hst4 := St.call hst3 hh; clear hh hst3))
  go_ret2
  have e : R = goAll (0, []) (ordF o) := by rw [HR.out]; unfold putO; rw [if_pos H0.out]
  rw [e]
  exact ⟨u, rfl, St.sub hst4 (List.sublist_append_left _ _)⟩
theorem oput_any (o : OV) (ok : o.Ok) (al ab : Option Addr) (nl cl nb cb : Nat) (w : World) (hl : Rd w (.slice al nl cl) 1 nl (strsV o.l)) (hb : Rd w (.slice ab nb cb) 1 nb (bytesV o.b)) (hnl : o.l.length = nl) (hnb : o.b.length = nb) :
    Calls Try.prog 12 #[.agg (o.cells (.slice al nl cl) (.slice ab nb cb)).toArray] w (OutP w (putO o)) := by
  by_cases h0 : o.check = 0
  · exact oput_ok o ok al ab nl cl nb cb w hl hb hnl hnb h0
  · exact oput_bad o ok al ab nl cl nb cb w hl hb hnl hnb h0
end Go.Proofs.Ytalfdcfcaamnbaa
namespace Go.Proofs.Ytalfdcfcaamnbaa
set_option linter.unusedVariables false
set_option linter.unusedSimpArgs false
open Go.RowKit Hp
attribute [local irreducible] Go.Calls Go.wpList Hp.gvV Hp.gB Hp.gA Hp.bOr Hp.bAnd Hp.bNot
set_option maxRecDepth 100000
set_option maxHeartbeats 4000000
def tooLong (x : List UInt8) : Bool := decide ((100 : Int) < (x.length : Int))
/-- LongOrder. -/
def OV.long (o : OV) (nl nb : Nat) : Bool := (o.l.take 31).any tooLong || (((decide ((100 : Int) < (o.name.length : Int)) || decide ((100 : Int) < (o.dest.length : Int))) || decide ((30 : Int) < (nl : Int))) || decide ((17000 : Int) < (nb : Int)))
theorem OV.short {o : OV} {nl nb : Nat} (hl : o.l.length = nl) (h : o.long nl nb = false) : o.name.length ≤ 100 ∧ o.dest.length ≤ 100 ∧ nl ≤ 30 ∧ nb ≤ 17000 ∧ ∀ x ∈ o.l, x.length ≤ 100 := by
  unfold OV.long at h
  simp only [Bool.or_eq_false_iff, decide_eq_false_iff_not] at h
  obtain ⟨h1, ⟨⟨h2, h3⟩, h4⟩, h5⟩ := h
  have h6 : nl ≤ 30 := by omega
  refine ⟨by omega, by omega, h6, by omega, fun x hx => ?_⟩
  rw [List.take_of_length_le (by omega), List.any_eq_false] at h1
  have := h1 x hx
  unfold tooLong at this
  simp only [decide_eq_true_eq] at this
  omega
theorem longOrder_any (o : OV) (al ab : Option Addr) (nl cl nb cb : Nat) (w : World) (hl : Rd w (.slice al nl cl) 1 nl (strsV o.l)) (hnl : o.l.length = nl) :
    Calls Try.prog 9 #[.agg (o.cells (.slice al nl cl) (.slice ab nb cb)).toArray] w fun e w' => e = .returned (.bool (o.long nl nb)) ∧ St w [] w' [] := by
  have hst0 := St.refl w
  have HL := hid hl
  have HLn := hid hnl
  have hb1 := hl.bd.1
  have hb2 := hl.bd.2.1
  obtain ⟨R, hR⟩ : ∃ R, R = o.long nl nb := ⟨_, rfl⟩
  have HR := hid hR
  rw [← hR]
  have hsz : ∀ x : List UInt8, (⟨x.toArray⟩ : ByteArray).size = x.length := fun x => by simp [ByteArray.size]
  clear hl hnl hR
  show Calls Try.prog 9 #[.agg (List.toArray [.int .i64 o.op, .string ⟨o.name.toArray⟩, .string ⟨o.dest.toArray⟩, .int .i64 o.n, .int .i64 o.m, .slice al nl cl, .slice ab nb cb])] w _
  go_enter Try.func9, Try.ntmps9
  go_wp2_with (first | go_big_skip | go_big_guard | (refine wl_boxA hst0 rfl rfl rfl ?_; intro g1 _ hst; clear hst0))
  go_loopw [3] (fun i wr => ∃ j : Nat, j ≤ nl ∧ j ≤ 31 ∧ i = .int .i64 (j : Int) ∧ St w [] wr [.blk g1 25 [.int .i64 o.op, .string ⟨o.name.toArray⟩, .string ⟨o.dest.toArray⟩, .int .i64 o.n, .int .i64 o.m, .slice al nl cl, .slice ab nb cb]] ∧ Hid (∀ x ∈ o.l.take j, tooLong x = false)) (fun i _ => nl - (intOf i).toNat)
  case atStart => exact ⟨0, Nat.zero_le _, by decide, rfl, hst, hid (by simp)⟩
  case round =>
    clear hst
    obtain ⟨j, hj, hj31, rfl, hst, HP⟩ := hrel
    by_cases hgo : j < nl ∧ j < 31
    · have hlt := hgo.1
      have h31 := hgo.2
      have d1 : decide ((j : Int) < (nl : Int)) = true := decide_eq_true (by omega)
      have d3 : decide ((j : Int) < (31 : Int)) = true := decide_eq_true (by omega)
      have z1 : IntKind.i64.wrap ((j : Int) + 1) = (j : Int) + 1 := IntWalk.i64_in _ (by omega)
      have hjl : j < o.l.length := by rw [HLn.out]; exact hlt
      obtain ⟨x, hx⟩ : ∃ x, o.l[j]? = some x := ⟨_, List.getElem?_eq_getElem hjl⟩
      have HX := hid hx
      obtain ⟨b, off, rfl, hr⟩ := Rd.at HL.out hlt
      have hcell := hid (show w.cell? ⟨b, off + j, none⟩ = some (.string ⟨x.toArray⟩) from hr j _ (strsV_get hx))
      have HS := hid (hsz x)
      obtain ⟨q5, hq5⟩ : ∃ q, q = tooLong x := ⟨_, rfl⟩
      have HQ := hid hq5
      have d2 : decide ((100 : Int) < (x.length : Int)) = q5 := by rw [hq5]; unfold tooLong; rfl
      clear hx hq5 hr hjl hgo
      cases q5
      · go_wp2_with (first | go_big_skip | go_big_guard | (refine wl_loadE rfl rfl rfl ?_; first | refine ⟨_, Loads.at [] hst rfl, ?_⟩) | (refine wl_index rfl rfl rfl rfl hlt ?_) | (refine wl_loadE rfl rfl rfl ?_; refine ⟨_, Loads.old hst (by rw [Nat.mul_one]; exact hcell.out), ?_⟩))
        go_roundw
        case rel =>
          refine ⟨j + 1, by omega, by omega, rfl, hst, hid (fun y hy => ?_)⟩
          rw [List.take_add_one, HX.out] at hy
          rcases List.mem_append.1 hy with hy | hy
          · exact HP.out y hy
          · simp at hy
            rw [hy, ← HQ.out]
        case measure => simp [intOf]; omega
      · go_wp2_with (first | go_big_skip | go_big_guard | (refine wl_loadE rfl rfl rfl ?_; first | refine ⟨_, Loads.at [] hst rfl, ?_⟩) | (refine wl_index rfl rfl rfl rfl hlt ?_) | (refine wl_loadE rfl rfl rfl ?_; refine ⟨_, Loads.old hst (by rw [Nat.mul_one]; exact hcell.out), ?_⟩))
        go_ret
        refine ⟨congrArg (fun z => Ending.returned (Value.bool z)) (?_ : (_ : Bool) = R), hst.nil⟩
        have hany : (o.l.take 31).any tooLong = true := List.any_eq_true.2 ⟨x, List.mem_of_getElem? (show (o.l.take 31)[j]? = some x by rw [List.getElem?_take_of_lt (by omega)]; exact HX.out), HQ.out.symm⟩
        rw [HR.out]
        unfold OV.long
        rw [hany, Bool.true_or]
    · by_cases hlt : j < nl
      · have d1 : decide ((j : Int) < (nl : Int)) = true := decide_eq_true (by omega)
        have d3 : decide ((j : Int) < (31 : Int)) = false := decide_eq_false (by omega)
        have hany : (o.l.take 31).any tooLong = false := by
          rw [List.any_eq_false]
          intro x hx
          rw [HP.out x (by rw [show o.l.take j = o.l.take 31 from (by congr 1; omega)]; exact hx)]
          exact Bool.false_ne_true
        have HN := hid hany
        clear hany hgo hlt
        go_wp2_with (first | go_big_skip | (show wpList _ _ _ (Oper.mk _ (.fieldAddr _ _ _) _ _ _ (some _) :: _) _ _; refine wl_gfld1 rfl (by first | exact wanted_b rfl rfl | exact wanted_g rfl rfl) (by first | exact (fun hg => gvV_on hg) | exact (fun hg => gvV_gA hg) | exact (fun _ => rfl)) (by kernel_rfl) ?_; (try simp only [Act.put, List.setIfInBounds_toArray, List.set_cons_zero, List.set_cons_succ])) | (show wpList _ _ _ (Oper.mk _ (.load _ _) _ _ _ (some _) :: _) _ _; refine wl_gloadE rfl (by first | exact wanted_b rfl rfl | exact wanted_g rfl rfl) (by first | exact (fun hg => gvV_on hg) | exact (fun hg => gvV_gA hg) | exact (fun _ => rfl)) ?_; (first | refine ⟨_, Loads.at [] hst rfl, ?_⟩); (try simp only [Act.put, List.setIfInBounds_toArray, List.set_cons_zero, List.set_cons_succ]); (repeat ((first | (show wpList _ _ _ (Oper.mk _ (.move _) _ _ _ none :: _) _ _; refine wl_mv rfl rfl rfl ?_) | (show wpList _ _ _ (Oper.mk _ (.pick _ _ _) _ _ _ none :: _) _ _; (first | (refine wl_pickOr rfl rfl rfl rfl rfl ?_; intro q hq) | (refine wl_pickAnd rfl rfl rfl rfl rfl ?_; intro q hq))) | (show wpList _ _ _ (Oper.mk _ (.pick _ _ _) _ _ _ (some _) :: _) _ _; (first | (refine wl_gpickOr rfl (by first | exact wanted_b rfl rfl | exact wanted_g rfl rfl) rfl rfl rfl ?_; intro q hq) | (refine wl_gpickAnd rfl (by first | exact wanted_b rfl rfl | exact wanted_g rfl rfl) rfl rfl rfl ?_; intro q hq))) | (show wpList _ _ _ (Oper.mk _ (.move _) _ _ _ (some _) :: _) _ _; refine wl_gmove rfl (by first | exact wanted_b rfl rfl | exact wanted_g rfl rfl) (by first | exact (fun hg => gvV_on hg) | exact (fun hg => gvV_gA hg) | exact (fun _ => rfl)) ?_)); (try simp only [Act.put, List.setIfInBounds_toArray, List.set_cons_zero, List.set_cons_succ])))) | (show wpList _ _ _ (Oper.mk _ (.binOp _ 3 _ _ _) _ _ _ (some _) :: _) _ _; refine wl_gcmp rfl (by first | exact wanted_b rfl rfl | exact wanted_g rfl rfl) (by first | exact (fun hg => gvV_on hg) | exact (fun hg => gvV_gA hg) | exact (fun _ => rfl)) (by first | exact (fun hg => gvV_on hg) | exact (fun hg => gvV_gA hg) | exact (fun _ => rfl)) rfl ?_; (try simp only [Act.put, List.setIfInBounds_toArray, List.set_cons_zero, List.set_cons_succ]); (repeat ((first | (show wpList _ _ _ (Oper.mk _ (.move _) _ _ _ none :: _) _ _; refine wl_mv rfl rfl rfl ?_) | (show wpList _ _ _ (Oper.mk _ (.pick _ _ _) _ _ _ none :: _) _ _; (first | (refine wl_pickOr rfl rfl rfl rfl rfl ?_; intro q hq) | (refine wl_pickAnd rfl rfl rfl rfl rfl ?_; intro q hq))) | (show wpList _ _ _ (Oper.mk _ (.pick _ _ _) _ _ _ (some _) :: _) _ _; (first | (refine wl_gpickOr rfl (by first | exact wanted_b rfl rfl | exact wanted_g rfl rfl) rfl rfl rfl ?_; intro q hq) | (refine wl_gpickAnd rfl (by first | exact wanted_b rfl rfl | exact wanted_g rfl rfl) rfl rfl rfl ?_; intro q hq))) | (show wpList _ _ _ (Oper.mk _ (.move _) _ _ _ (some _) :: _) _ _; refine wl_gmove rfl (by first | exact wanted_b rfl rfl | exact wanted_g rfl rfl) (by first | exact (fun hg => gvV_on hg) | exact (fun hg => gvV_gA hg) | exact (fun _ => rfl)) ?_)); (try simp only [Act.put, List.setIfInBounds_toArray, List.set_cons_zero, List.set_cons_succ])))) | (show wpList _ _ _ (Oper.mk _ (.binOp .neq 9 _ _ _) _ _ _ (some _) :: _) _ _; refine wl_gneqS rfl (by first | exact wanted_b rfl rfl | exact wanted_g rfl rfl) (by first | exact (fun hg => gvV_on hg) | exact (fun hg => gvV_gA hg) | exact (fun _ => rfl)) (by first | exact (fun hg => gvV_on hg) | exact (fun hg => gvV_gA hg) | exact (fun _ => rfl)) ?_; (try simp only [Act.put, List.setIfInBounds_toArray, List.set_cons_zero, List.set_cons_succ]); (repeat ((first | (show wpList _ _ _ (Oper.mk _ (.move _) _ _ _ none :: _) _ _; refine wl_mv rfl rfl rfl ?_) | (show wpList _ _ _ (Oper.mk _ (.pick _ _ _) _ _ _ none :: _) _ _; (first | (refine wl_pickOr rfl rfl rfl rfl rfl ?_; intro q hq) | (refine wl_pickAnd rfl rfl rfl rfl rfl ?_; intro q hq))) | (show wpList _ _ _ (Oper.mk _ (.pick _ _ _) _ _ _ (some _) :: _) _ _; (first | (refine wl_gpickOr rfl (by first | exact wanted_b rfl rfl | exact wanted_g rfl rfl) rfl rfl rfl ?_; intro q hq) | (refine wl_gpickAnd rfl (by first | exact wanted_b rfl rfl | exact wanted_g rfl rfl) rfl rfl rfl ?_; intro q hq))) | (show wpList _ _ _ (Oper.mk _ (.move _) _ _ _ (some _) :: _) _ _; refine wl_gmove rfl (by first | exact wanted_b rfl rfl | exact wanted_g rfl rfl) (by first | exact (fun hg => gvV_on hg) | exact (fun hg => gvV_gA hg) | exact (fun _ => rfl)) ?_)); (try simp only [Act.put, List.setIfInBounds_toArray, List.set_cons_zero, List.set_cons_succ])))) | (show wpList _ _ _ (Oper.mk _ (.binOp .eql 9 _ _ _) _ _ _ (some _) :: _) _ _; refine wl_geqS rfl (by first | exact wanted_b rfl rfl | exact wanted_g rfl rfl) (by first | exact (fun hg => gvV_on hg) | exact (fun hg => gvV_gA hg) | exact (fun _ => rfl)) (by first | exact (fun hg => gvV_on hg) | exact (fun hg => gvV_gA hg) | exact (fun _ => rfl)) ?_; (try simp only [Act.put, List.setIfInBounds_toArray, List.set_cons_zero, List.set_cons_succ]); (repeat ((first | (show wpList _ _ _ (Oper.mk _ (.move _) _ _ _ none :: _) _ _; refine wl_mv rfl rfl rfl ?_) | (show wpList _ _ _ (Oper.mk _ (.pick _ _ _) _ _ _ none :: _) _ _; (first | (refine wl_pickOr rfl rfl rfl rfl rfl ?_; intro q hq) | (refine wl_pickAnd rfl rfl rfl rfl rfl ?_; intro q hq))) | (show wpList _ _ _ (Oper.mk _ (.pick _ _ _) _ _ _ (some _) :: _) _ _; (first | (refine wl_gpickOr rfl (by first | exact wanted_b rfl rfl | exact wanted_g rfl rfl) rfl rfl rfl ?_; intro q hq) | (refine wl_gpickAnd rfl (by first | exact wanted_b rfl rfl | exact wanted_g rfl rfl) rfl rfl rfl ?_; intro q hq))) | (show wpList _ _ _ (Oper.mk _ (.move _) _ _ _ (some _) :: _) _ _; refine wl_gmove rfl (by first | exact wanted_b rfl rfl | exact wanted_g rfl rfl) (by first | exact (fun hg => gvV_on hg) | exact (fun hg => gvV_gA hg) | exact (fun _ => rfl)) ?_)); (try simp only [Act.put, List.setIfInBounds_toArray, List.set_cons_zero, List.set_cons_succ])))) | (show wpList _ _ _ (Oper.mk _ (.binOp .neq 9 _ _ _) _ _ _ none :: _) _ _; refine wl_neqS rfl rfl rfl rfl ?_; (try simp only [Act.put, List.setIfInBounds_toArray, List.set_cons_zero, List.set_cons_succ]); (repeat ((first | (show wpList _ _ _ (Oper.mk _ (.move _) _ _ _ none :: _) _ _; refine wl_mv rfl rfl rfl ?_) | (show wpList _ _ _ (Oper.mk _ (.pick _ _ _) _ _ _ none :: _) _ _; (first | (refine wl_pickOr rfl rfl rfl rfl rfl ?_; intro q hq) | (refine wl_pickAnd rfl rfl rfl rfl rfl ?_; intro q hq))) | (show wpList _ _ _ (Oper.mk _ (.pick _ _ _) _ _ _ (some _) :: _) _ _; (first | (refine wl_gpickOr rfl (by first | exact wanted_b rfl rfl | exact wanted_g rfl rfl) rfl rfl rfl ?_; intro q hq) | (refine wl_gpickAnd rfl (by first | exact wanted_b rfl rfl | exact wanted_g rfl rfl) rfl rfl rfl ?_; intro q hq))) | (show wpList _ _ _ (Oper.mk _ (.move _) _ _ _ (some _) :: _) _ _; refine wl_gmove rfl (by first | exact wanted_b rfl rfl | exact wanted_g rfl rfl) (by first | exact (fun hg => gvV_on hg) | exact (fun hg => gvV_gA hg) | exact (fun _ => rfl)) ?_)); (try simp only [Act.put, List.setIfInBounds_toArray, List.set_cons_zero, List.set_cons_succ])))) | (show wpList _ _ _ (Oper.mk _ (.binOp .eql 9 _ _ _) _ _ _ none :: _) _ _; refine wl_eqS rfl rfl rfl rfl ?_; (try simp only [Act.put, List.setIfInBounds_toArray, List.set_cons_zero, List.set_cons_succ]); (repeat ((first | (show wpList _ _ _ (Oper.mk _ (.move _) _ _ _ none :: _) _ _; refine wl_mv rfl rfl rfl ?_) | (show wpList _ _ _ (Oper.mk _ (.pick _ _ _) _ _ _ none :: _) _ _; (first | (refine wl_pickOr rfl rfl rfl rfl rfl ?_; intro q hq) | (refine wl_pickAnd rfl rfl rfl rfl rfl ?_; intro q hq))) | (show wpList _ _ _ (Oper.mk _ (.pick _ _ _) _ _ _ (some _) :: _) _ _; (first | (refine wl_gpickOr rfl (by first | exact wanted_b rfl rfl | exact wanted_g rfl rfl) rfl rfl rfl ?_; intro q hq) | (refine wl_gpickAnd rfl (by first | exact wanted_b rfl rfl | exact wanted_g rfl rfl) rfl rfl rfl ?_; intro q hq))) | (show wpList _ _ _ (Oper.mk _ (.move _) _ _ _ (some _) :: _) _ _; refine wl_gmove rfl (by first | exact wanted_b rfl rfl | exact wanted_g rfl rfl) (by first | exact (fun hg => gvV_on hg) | exact (fun hg => gvV_gA hg) | exact (fun _ => rfl)) ?_)); (try simp only [Act.put, List.setIfInBounds_toArray, List.set_cons_zero, List.set_cons_succ])))) | (show wpList _ _ _ (Oper.mk _ (.call (Call.mk (.builtin .len) _ #[9])) _ _ _ (some _) :: _) _ _; refine wl_glenS rfl (by first | exact wanted_b rfl rfl | exact wanted_g rfl rfl) (by first | exact (fun hg => gvV_on hg) | exact (fun hg => gvV_gA hg) | exact (fun _ => rfl)) ?_; (try simp only [Act.put, List.setIfInBounds_toArray, List.set_cons_zero, List.set_cons_succ])) | (show wpList _ _ _ (Oper.mk _ (.call (Call.mk (.builtin .len) _ #[23])) _ _ _ (some _) :: _) _ _; refine wl_glen rfl (by first | exact wanted_b rfl rfl | exact wanted_g rfl rfl) (by first | exact (fun hg => gvV_on hg) | exact (fun hg => gvV_gA hg) | exact (fun _ => rfl)) ?_; (try simp only [Act.put, List.setIfInBounds_toArray, List.set_cons_zero, List.set_cons_succ])) | (show wpList _ _ _ (Oper.mk _ (.call (Call.mk (.builtin .len) _ #[22])) _ _ _ (some _) :: _) _ _; refine wl_glen rfl (by first | exact wanted_b rfl rfl | exact wanted_g rfl rfl) (by first | exact (fun hg => gvV_on hg) | exact (fun hg => gvV_gA hg) | exact (fun _ => rfl)) ?_; (try simp only [Act.put, List.setIfInBounds_toArray, List.set_cons_zero, List.set_cons_succ])) | (show wpList _ _ _ (Oper.mk _ (.unOp .not _ _) _ _ _ (some _) :: _) _ _; refine wl_gnot rfl (by first | exact wanted_b rfl rfl | exact wanted_g rfl rfl) (by first | exact (fun hg => gvV_on hg) | exact (fun hg => gvV_gA hg) | exact (fun _ => rfl)) ?_; (try simp only [Act.put, List.setIfInBounds_toArray, List.set_cons_zero, List.set_cons_succ]); (repeat ((first | (show wpList _ _ _ (Oper.mk _ (.move _) _ _ _ none :: _) _ _; refine wl_mv rfl rfl rfl ?_) | (show wpList _ _ _ (Oper.mk _ (.pick _ _ _) _ _ _ none :: _) _ _; (first | (refine wl_pickOr rfl rfl rfl rfl rfl ?_; intro q hq) | (refine wl_pickAnd rfl rfl rfl rfl rfl ?_; intro q hq))) | (show wpList _ _ _ (Oper.mk _ (.pick _ _ _) _ _ _ (some _) :: _) _ _; (first | (refine wl_gpickOr rfl (by first | exact wanted_b rfl rfl | exact wanted_g rfl rfl) rfl rfl rfl ?_; intro q hq) | (refine wl_gpickAnd rfl (by first | exact wanted_b rfl rfl | exact wanted_g rfl rfl) rfl rfl rfl ?_; intro q hq))) | (show wpList _ _ _ (Oper.mk _ (.move _) _ _ _ (some _) :: _) _ _; refine wl_gmove rfl (by first | exact wanted_b rfl rfl | exact wanted_g rfl rfl) (by first | exact (fun hg => gvV_on hg) | exact (fun hg => gvV_gA hg) | exact (fun _ => rfl)) ?_)); (try simp only [Act.put, List.setIfInBounds_toArray, List.set_cons_zero, List.set_cons_succ])))) | (refine wl_loadE rfl rfl rfl ?_; first | refine ⟨_, Loads.at [] hst rfl, ?_⟩))
        all_goals try (exfalso; clear hst HR HLn HN HP HL; simp only [hid_iff, bNot_eq] at *; simp_all only [Bool.true_and, Bool.false_and, Bool.and_true, Bool.and_false, Bool.false_eq_true, Bool.true_eq_false]; done)
        all_goals try (exfalso; have d5 := of_decide_eq_false d1; omega)
        all_goals go_ret
        all_goals refine ⟨congrArg (fun z => Ending.returned (Value.bool z)) (?_ : (_ : Bool) = R), hst.nil⟩
        all_goals
          have hR := HR.out
          have hN := HN.out
          have eC : o.long nl nb = ((o.l.take 31).any tooLong || (((decide ((100 : Int) < (o.name.length : Int)) || decide ((100 : Int) < (o.dest.length : Int))) || decide ((30 : Int) < (nl : Int))) || decide ((17000 : Int) < (nb : Int)))) := rfl
          rw [eC, hN] at hR
          clear HR HLn HN HP hst HL hN eC hsz hb1 hb2 hj hj31
          simp only [hid_iff, bNot_eq] at *
          simp_all only [Bool.false_or, Bool.true_or, if_true, if_false, Bool.false_eq_true]
      · have d1 : decide ((j : Int) < (nl : Int)) = false := decide_eq_false (by omega)
        have hany : (o.l.take 31).any tooLong = false := by
          rw [List.any_eq_false]
          intro x hx
          rw [HP.out x (by rw [show o.l.take j = o.l.take 31 from (by rw [List.take_of_length_le (by rw [HLn.out]; omega), List.take_of_length_le (by rw [HLn.out]; omega)])]; exact hx)]
          exact Bool.false_ne_true
        have HN := hid hany
        clear hany hgo hlt
        go_wp2_with (first | go_big_skip | (show wpList _ _ _ (Oper.mk _ (.fieldAddr _ _ _) _ _ _ (some _) :: _) _ _; refine wl_gfld1 rfl (by first | exact wanted_b rfl rfl | exact wanted_g rfl rfl) (by first | exact (fun hg => gvV_on hg) | exact (fun hg => gvV_gA hg) | exact (fun _ => rfl)) (by kernel_rfl) ?_; (try simp only [Act.put, List.setIfInBounds_toArray, List.set_cons_zero, List.set_cons_succ])) | (show wpList _ _ _ (Oper.mk _ (.load _ _) _ _ _ (some _) :: _) _ _; refine wl_gloadE rfl (by first | exact wanted_b rfl rfl | exact wanted_g rfl rfl) (by first | exact (fun hg => gvV_on hg) | exact (fun hg => gvV_gA hg) | exact (fun _ => rfl)) ?_; (first | refine ⟨_, Loads.at [] hst rfl, ?_⟩); (try simp only [Act.put, List.setIfInBounds_toArray, List.set_cons_zero, List.set_cons_succ]); (repeat ((first | (show wpList _ _ _ (Oper.mk _ (.move _) _ _ _ none :: _) _ _; refine wl_mv rfl rfl rfl ?_) | (show wpList _ _ _ (Oper.mk _ (.pick _ _ _) _ _ _ none :: _) _ _; (first | (refine wl_pickOr rfl rfl rfl rfl rfl ?_; intro q hq) | (refine wl_pickAnd rfl rfl rfl rfl rfl ?_; intro q hq))) | (show wpList _ _ _ (Oper.mk _ (.pick _ _ _) _ _ _ (some _) :: _) _ _; (first | (refine wl_gpickOr rfl (by first | exact wanted_b rfl rfl | exact wanted_g rfl rfl) rfl rfl rfl ?_; intro q hq) | (refine wl_gpickAnd rfl (by first | exact wanted_b rfl rfl | exact wanted_g rfl rfl) rfl rfl rfl ?_; intro q hq))) | (show wpList _ _ _ (Oper.mk _ (.move _) _ _ _ (some _) :: _) _ _; refine wl_gmove rfl (by first | exact wanted_b rfl rfl | exact wanted_g rfl rfl) (by first | exact (fun hg => gvV_on hg) | exact (fun hg => gvV_gA hg) | exact (fun _ => rfl)) ?_)); (try simp only [Act.put, List.setIfInBounds_toArray, List.set_cons_zero, List.set_cons_succ])))) | (show wpList _ _ _ (Oper.mk _ (.binOp _ 3 _ _ _) _ _ _ (some _) :: _) _ _; refine wl_gcmp rfl (by first | exact wanted_b rfl rfl | exact wanted_g rfl rfl) (by first | exact (fun hg => gvV_on hg) | exact (fun hg => gvV_gA hg) | exact (fun _ => rfl)) (by first | exact (fun hg => gvV_on hg) | exact (fun hg => gvV_gA hg) | exact (fun _ => rfl)) rfl ?_; (try simp only [Act.put, List.setIfInBounds_toArray, List.set_cons_zero, List.set_cons_succ]); (repeat ((first | (show wpList _ _ _ (Oper.mk _ (.move _) _ _ _ none :: _) _ _; refine wl_mv rfl rfl rfl ?_) | (show wpList _ _ _ (Oper.mk _ (.pick _ _ _) _ _ _ none :: _) _ _; (first | (refine wl_pickOr rfl rfl rfl rfl rfl ?_; intro q hq) | (refine wl_pickAnd rfl rfl rfl rfl rfl ?_; intro q hq))) | (show wpList _ _ _ (Oper.mk _ (.pick _ _ _) _ _ _ (some _) :: _) _ _; (first | (refine wl_gpickOr rfl (by first | exact wanted_b rfl rfl | exact wanted_g rfl rfl) rfl rfl rfl ?_; intro q hq) | (refine wl_gpickAnd rfl (by first | exact wanted_b rfl rfl | exact wanted_g rfl rfl) rfl rfl rfl ?_; intro q hq))) | (show wpList _ _ _ (Oper.mk _ (.move _) _ _ _ (some _) :: _) _ _; refine wl_gmove rfl (by first | exact wanted_b rfl rfl | exact wanted_g rfl rfl) (by first | exact (fun hg => gvV_on hg) | exact (fun hg => gvV_gA hg) | exact (fun _ => rfl)) ?_)); (try simp only [Act.put, List.setIfInBounds_toArray, List.set_cons_zero, List.set_cons_succ])))) | (show wpList _ _ _ (Oper.mk _ (.binOp .neq 9 _ _ _) _ _ _ (some _) :: _) _ _; refine wl_gneqS rfl (by first | exact wanted_b rfl rfl | exact wanted_g rfl rfl) (by first | exact (fun hg => gvV_on hg) | exact (fun hg => gvV_gA hg) | exact (fun _ => rfl)) (by first | exact (fun hg => gvV_on hg) | exact (fun hg => gvV_gA hg) | exact (fun _ => rfl)) ?_; (try simp only [Act.put, List.setIfInBounds_toArray, List.set_cons_zero, List.set_cons_succ]); (repeat ((first | (show wpList _ _ _ (Oper.mk _ (.move _) _ _ _ none :: _) _ _; refine wl_mv rfl rfl rfl ?_) | (show wpList _ _ _ (Oper.mk _ (.pick _ _ _) _ _ _ none :: _) _ _; (first | (refine wl_pickOr rfl rfl rfl rfl rfl ?_; intro q hq) | (refine wl_pickAnd rfl rfl rfl rfl rfl ?_; intro q hq))) | (show wpList _ _ _ (Oper.mk _ (.pick _ _ _) _ _ _ (some _) :: _) _ _; (first | (refine wl_gpickOr rfl (by first | exact wanted_b rfl rfl | exact wanted_g rfl rfl) rfl rfl rfl ?_; intro q hq) | (refine wl_gpickAnd rfl (by first | exact wanted_b rfl rfl | exact wanted_g rfl rfl) rfl rfl rfl ?_; intro q hq))) | (show wpList _ _ _ (Oper.mk _ (.move _) _ _ _ (some _) :: _) _ _; refine wl_gmove rfl (by first | exact wanted_b rfl rfl | exact wanted_g rfl rfl) (by first | exact (fun hg => gvV_on hg) | exact (fun hg => gvV_gA hg) | exact (fun _ => rfl)) ?_)); (try simp only [Act.put, List.setIfInBounds_toArray, List.set_cons_zero, List.set_cons_succ])))) | (show wpList _ _ _ (Oper.mk _ (.binOp .eql 9 _ _ _) _ _ _ (some _) :: _) _ _; refine wl_geqS rfl (by first | exact wanted_b rfl rfl | exact wanted_g rfl rfl) (by first | exact (fun hg => gvV_on hg) | exact (fun hg => gvV_gA hg) | exact (fun _ => rfl)) (by first | exact (fun hg => gvV_on hg) | exact (fun hg => gvV_gA hg) | exact (fun _ => rfl)) ?_; (try simp only [Act.put, List.setIfInBounds_toArray, List.set_cons_zero, List.set_cons_succ]); (repeat ((first | (show wpList _ _ _ (Oper.mk _ (.move _) _ _ _ none :: _) _ _; refine wl_mv rfl rfl rfl ?_) | (show wpList _ _ _ (Oper.mk _ (.pick _ _ _) _ _ _ none :: _) _ _; (first | (refine wl_pickOr rfl rfl rfl rfl rfl ?_; intro q hq) | (refine wl_pickAnd rfl rfl rfl rfl rfl ?_; intro q hq))) | (show wpList _ _ _ (Oper.mk _ (.pick _ _ _) _ _ _ (some _) :: _) _ _; (first | (refine wl_gpickOr rfl (by first | exact wanted_b rfl rfl | exact wanted_g rfl rfl) rfl rfl rfl ?_; intro q hq) | (refine wl_gpickAnd rfl (by first | exact wanted_b rfl rfl | exact wanted_g rfl rfl) rfl rfl rfl ?_; intro q hq))) | (show wpList _ _ _ (Oper.mk _ (.move _) _ _ _ (some _) :: _) _ _; refine wl_gmove rfl (by first | exact wanted_b rfl rfl | exact wanted_g rfl rfl) (by first | exact (fun hg => gvV_on hg) | exact (fun hg => gvV_gA hg) | exact (fun _ => rfl)) ?_)); (try simp only [Act.put, List.setIfInBounds_toArray, List.set_cons_zero, List.set_cons_succ])))) | (show wpList _ _ _ (Oper.mk _ (.binOp .neq 9 _ _ _) _ _ _ none :: _) _ _; refine wl_neqS rfl rfl rfl rfl ?_; (try simp only [Act.put, List.setIfInBounds_toArray, List.set_cons_zero, List.set_cons_succ]); (repeat ((first | (show wpList _ _ _ (Oper.mk _ (.move _) _ _ _ none :: _) _ _; refine wl_mv rfl rfl rfl ?_) | (show wpList _ _ _ (Oper.mk _ (.pick _ _ _) _ _ _ none :: _) _ _; (first | (refine wl_pickOr rfl rfl rfl rfl rfl ?_; intro q hq) | (refine wl_pickAnd rfl rfl rfl rfl rfl ?_; intro q hq))) | (show wpList _ _ _ (Oper.mk _ (.pick _ _ _) _ _ _ (some _) :: _) _ _; (first | (refine wl_gpickOr rfl (by first | exact wanted_b rfl rfl | exact wanted_g rfl rfl) rfl rfl rfl ?_; intro q hq) | (refine wl_gpickAnd rfl (by first | exact wanted_b rfl rfl | exact wanted_g rfl rfl) rfl rfl rfl ?_; intro q hq))) | (show wpList _ _ _ (Oper.mk _ (.move _) _ _ _ (some _) :: _) _ _; refine wl_gmove rfl (by first | exact wanted_b rfl rfl | exact wanted_g rfl rfl) (by first | exact (fun hg => gvV_on hg) | exact (fun hg => gvV_gA hg) | exact (fun _ => rfl)) ?_)); (try simp only [Act.put, List.setIfInBounds_toArray, List.set_cons_zero, List.set_cons_succ])))) | (show wpList _ _ _ (Oper.mk _ (.binOp .eql 9 _ _ _) _ _ _ none :: _) _ _; refine wl_eqS rfl rfl rfl rfl ?_; (try simp only [Act.put, List.setIfInBounds_toArray, List.set_cons_zero, List.set_cons_succ]); (repeat ((first | (show wpList _ _ _ (Oper.mk _ (.move _) _ _ _ none :: _) _ _; refine wl_mv rfl rfl rfl ?_) | (show wpList _ _ _ (Oper.mk _ (.pick _ _ _) _ _ _ none :: _) _ _; (first | (refine wl_pickOr rfl rfl rfl rfl rfl ?_; intro q hq) | (refine wl_pickAnd rfl rfl rfl rfl rfl ?_; intro q hq))) | (show wpList _ _ _ (Oper.mk _ (.pick _ _ _) _ _ _ (some _) :: _) _ _; (first | (refine wl_gpickOr rfl (by first | exact wanted_b rfl rfl | exact wanted_g rfl rfl) rfl rfl rfl ?_; intro q hq) | (refine wl_gpickAnd rfl (by first | exact wanted_b rfl rfl | exact wanted_g rfl rfl) rfl rfl rfl ?_; intro q hq))) | (show wpList _ _ _ (Oper.mk _ (.move _) _ _ _ (some _) :: _) _ _; refine wl_gmove rfl (by first | exact wanted_b rfl rfl | exact wanted_g rfl rfl) (by first | exact (fun hg => gvV_on hg) | exact (fun hg => gvV_gA hg) | exact (fun _ => rfl)) ?_)); (try simp only [Act.put, List.setIfInBounds_toArray, List.set_cons_zero, List.set_cons_succ])))) | (show wpList _ _ _ (Oper.mk _ (.call (Call.mk (.builtin .len) _ #[9])) _ _ _ (some _) :: _) _ _; refine wl_glenS rfl (by first | exact wanted_b rfl rfl | exact wanted_g rfl rfl) (by first | exact (fun hg => gvV_on hg) | exact (fun hg => gvV_gA hg) | exact (fun _ => rfl)) ?_; (try simp only [Act.put, List.setIfInBounds_toArray, List.set_cons_zero, List.set_cons_succ])) | (show wpList _ _ _ (Oper.mk _ (.call (Call.mk (.builtin .len) _ #[23])) _ _ _ (some _) :: _) _ _; refine wl_glen rfl (by first | exact wanted_b rfl rfl | exact wanted_g rfl rfl) (by first | exact (fun hg => gvV_on hg) | exact (fun hg => gvV_gA hg) | exact (fun _ => rfl)) ?_; (try simp only [Act.put, List.setIfInBounds_toArray, List.set_cons_zero, List.set_cons_succ])) | (show wpList _ _ _ (Oper.mk _ (.call (Call.mk (.builtin .len) _ #[22])) _ _ _ (some _) :: _) _ _; refine wl_glen rfl (by first | exact wanted_b rfl rfl | exact wanted_g rfl rfl) (by first | exact (fun hg => gvV_on hg) | exact (fun hg => gvV_gA hg) | exact (fun _ => rfl)) ?_; (try simp only [Act.put, List.setIfInBounds_toArray, List.set_cons_zero, List.set_cons_succ])) | (show wpList _ _ _ (Oper.mk _ (.unOp .not _ _) _ _ _ (some _) :: _) _ _; refine wl_gnot rfl (by first | exact wanted_b rfl rfl | exact wanted_g rfl rfl) (by first | exact (fun hg => gvV_on hg) | exact (fun hg => gvV_gA hg) | exact (fun _ => rfl)) ?_; (try simp only [Act.put, List.setIfInBounds_toArray, List.set_cons_zero, List.set_cons_succ]); (repeat ((first | (show wpList _ _ _ (Oper.mk _ (.move _) _ _ _ none :: _) _ _; refine wl_mv rfl rfl rfl ?_) | (show wpList _ _ _ (Oper.mk _ (.pick _ _ _) _ _ _ none :: _) _ _; (first | (refine wl_pickOr rfl rfl rfl rfl rfl ?_; intro q hq) | (refine wl_pickAnd rfl rfl rfl rfl rfl ?_; intro q hq))) | (show wpList _ _ _ (Oper.mk _ (.pick _ _ _) _ _ _ (some _) :: _) _ _; (first | (refine wl_gpickOr rfl (by first | exact wanted_b rfl rfl | exact wanted_g rfl rfl) rfl rfl rfl ?_; intro q hq) | (refine wl_gpickAnd rfl (by first | exact wanted_b rfl rfl | exact wanted_g rfl rfl) rfl rfl rfl ?_; intro q hq))) | (show wpList _ _ _ (Oper.mk _ (.move _) _ _ _ (some _) :: _) _ _; refine wl_gmove rfl (by first | exact wanted_b rfl rfl | exact wanted_g rfl rfl) (by first | exact (fun hg => gvV_on hg) | exact (fun hg => gvV_gA hg) | exact (fun _ => rfl)) ?_)); (try simp only [Act.put, List.setIfInBounds_toArray, List.set_cons_zero, List.set_cons_succ])))) | (refine wl_loadE rfl rfl rfl ?_; first | refine ⟨_, Loads.at [] hst rfl, ?_⟩))
        all_goals try (exfalso; clear hst HR HLn HN HP HL; simp only [hid_iff, bNot_eq] at *; simp_all only [Bool.true_and, Bool.false_and, Bool.and_true, Bool.and_false, Bool.false_eq_true, Bool.true_eq_false]; done)
        all_goals try (exfalso; have d5 := of_decide_eq_false d1; omega)
        all_goals go_ret
        all_goals refine ⟨congrArg (fun z => Ending.returned (Value.bool z)) (?_ : (_ : Bool) = R), hst.nil⟩
        all_goals
          have hR := HR.out
          have hN := HN.out
          have eC : o.long nl nb = ((o.l.take 31).any tooLong || (((decide ((100 : Int) < (o.name.length : Int)) || decide ((100 : Int) < (o.dest.length : Int))) || decide ((30 : Int) < (nl : Int))) || decide ((17000 : Int) < (nb : Int)))) := rfl
          rw [eC, hN] at hR
          clear HR HLn HN HP hst HL hN eC hsz hb1 hb2 hj hj31
          simp only [hid_iff, bNot_eq] at *
          simp_all only [Bool.false_or, Bool.true_or, if_true, if_false, Bool.false_eq_true]
theorem copyOrder_any (o : OV) (al ab : Option Addr) (nl cl nb cb : Nat) (w : World) (hl : Rd w (.slice al nl cl) 1 nl (strsV o.l)) (hb : Rd w (.slice ab nb cb) 1 nb (bytesV o.b)) (hn : nl ≤ 30) (hm : nb ≤ 17000) (hs : (strsV o.l).all isS = true) :
    Calls Try.prog 11 #[.agg (o.cells (.slice al nl cl) (.slice ab nb cb)).toArray] w fun e w' => ∃ al' cl' ab' cb', e = .returned (.agg (o.cells (.slice al' nl cl') (.slice ab' nb cb')).toArray) ∧
      St w [] w' [.rowP isB (.slice ab' nb cb') 5 1 nb (bytesV o.b), .rowP isS (.slice al' nl cl') 9 1 nl (strsV o.l)] := by
  have hst0 := St.refl w
  have HL := hid hl
  have HB := hid hb
  have HS := hid hs
  clear hl hb hs
  show Calls Try.prog 11 #[.agg (List.toArray [.int .i64 o.op, strV o.name, strV o.dest, .int .i64 o.n, .int .i64 o.m, .slice al nl cl, .slice ab nb cb])] w _
  go_enter Try.func11, Try.ntmps11
  go_wp2_with (first | go_big_skip | go_big_guard | (refine wl_boxA hst0 rfl rfl rfl ?_; intro g1 _ hst1; clear hst0) | (refine wl_alloc (T := 25) hst1 rfl rfl ?_; intro g2 _ hst2; clear hst1) | (refine wl_loadE rfl rfl rfl ?_; first | refine ⟨_, Loads.at [_, _] hst4 rfl, ?_⟩ | refine ⟨_, Loads.at [_, _, _] hst8 rfl, ?_⟩) | (apply wl_bsX [] [] hst2; rfl; rfl; exact rfl; exact rfl; infer_instance; infer_instance; rfl; rfl; rfl; intro g3 w3 hst3; clear hst2; have hst4 := St.toRowP (n := 0) (cap := 0) (sz := 1) isS hst3 rfl (Nat.le_refl _) (by decide) rfl; clear hst3) | (apply wl_appP (p := isS) [] hst4; rfl; rfl; exact rfl; exact rfl; infer_instance; infer_instance; infer_instance; infer_instance; exact Rd.old hst4 HL.out; exact ones_strsV o.l; rfl; exact HS.out; (refine ⟨by decide, by unfold maxLen; omega, by omega⟩); intro v5 w5 hst5 _; clear hst4; rw [Nat.zero_add, List.take_zero, List.nil_append] at hst5; obtain ⟨a5, c5, rfl⟩ := St.rowPSliceF [] hst5) | (refine wl_store [_, _] hst5 rfl rfl rfl (v := .slice _ _ _) rfl rfl rfl (by show (6 : Nat) ≤ 7; decide) ?_; intro w6 hst6; clear hst5; simp [putAt, Value.cells] at hst6) | (apply wl_bsX [] [] hst6; rfl; rfl; exact rfl; exact rfl; infer_instance; infer_instance; rfl; rfl; rfl; intro g5 w7 hst7; clear hst6; have hst8 := St.toRowP (n := 0) (cap := 0) (sz := 1) isB hst7 rfl (Nat.le_refl _) (by decide) rfl; clear hst7) | (apply wl_appP (p := isB) [] hst8; rfl; rfl; exact rfl; exact rfl; infer_instance; infer_instance; infer_instance; infer_instance; exact Rd.old hst8 HB.out; exact ones_bytesV o.b; rfl; exact isB_bytes o.b; (refine ⟨by decide, by unfold maxLen; omega, by omega⟩); intro v9 w9 hst9 _; clear hst8; rw [Nat.zero_add, List.take_zero, List.nil_append] at hst9; obtain ⟨a9, c9, rfl⟩ := St.rowPSliceF [] hst9) | (refine wl_store [_, _, _] hst9 rfl rfl rfl (v := .slice _ _ _) rfl rfl rfl (by show (7 : Nat) ≤ 7; decide) ?_; intro w11 hst11; clear hst9; simp [putAt, Value.cells] at hst11) | (refine wl_loadE rfl rfl rfl ?_; refine ⟨_, Loads.whole (T := 25) [_, _, _] hst11 rfl, ?_⟩) | (refine wl_storeA (T := 25) (vs := [.int .i64 o.op, strV o.name, strV o.dest, .int .i64 o.n, .int .i64 o.m, .slice a5 nl c5, .slice a9 nb c9]) [_, _] hst11 rfl rfl rfl rfl rfl rfl rfl ?_; intro w12 hst12; clear hst11))
  have hl := Loads.whole (P := Try.prog) (T := 25) [_, _] hst12 rfl
  refine bodyPost_ret (results_cellL rfl rfl hl) rfl ⟨a5, c5, a9, c9, rfl, St.sub hst12 (.cons_cons _ (.cons_cons _ (List.nil_sublist _)))⟩
end Go.Proofs.Ytalfdcfcaamnbaa
namespace Go.Proofs.Ytalfdcfcaamnbaa
set_option linter.unusedVariables false
set_option linter.unusedSimpArgs false
open Go.RowKit Hp
attribute [local irreducible] Go.Calls Go.wpList
set_option maxRecDepth 100000
set_option maxHeartbeats 4000000
instance oNfs : TyN Try.prog 91 1 := ⟨by kernel_rfl⟩
theorem Hp.St.notFeetA {w0 w : World} {M : List Nat} (C R1 : List HA) {R2 : List HA} {q : Nat} {T : TypeId} {cs : List Value} (h : St w0 M w (C ++ (R1 ++ .blk q T cs :: R2))) : q ∉ C.filterMap HA.foot := by
  rw [← List.append_assoc] at h
  exact St.notFeet h (fun x hx => .inl (List.mem_append_left _ hx))
section
attribute [local go_sem ↓] loadedPS loadedSs loadedPI loadedIs loadedStr loadedInt
theorem listS_at (g : Nat) (bv : Value) (B : List UInt8) (s : RS) (F : List Nat) (L2 : List HA) (ga off : Nat) (T : TypeId) (cs : List Value) (w : World) (hst : St w F w (rP g bv B s ++ .blk ga T cs :: L2)) (hp : s.pos ≤ B.length) (hB : B.length ≤ 100000) (ho : off < cs.length) (hcs : cs[off]? = some (.slice none 0 0))
    {gn gz gm gf : Nat} {size most : Int} (agn : w.cell? ⟨gn, 0, none⟩ = some (.pointer (some ⟨ga, off, none⟩))) (bgn : gn ∉ F) (agz : w.cell? ⟨gz, 0, none⟩ = some (.int .i64 size)) (bgz : gz ∉ F) (agm : w.cell? ⟨gm, 0, none⟩ = some (.int .i64 most)) (bgm : gm ∉ F) (agf : w.cell? ⟨gf, 0, none⟩ = some (.func (.func 57) #[] #[])) (bgf : gf ∉ F)
    (hs : -9223372036854775808 ≤ size ∧ size ≤ 9223372036854775807) (hm : 0 ≤ most ∧ most ≤ 1000000) :
    Calls Try.prog 81 #[.pointer (some ⟨g, 0, none⟩), .pointer (some ⟨gz, 0, none⟩), .pointer (some ⟨gm, 0, none⟩), .pointer (some ⟨gf, 0, none⟩), .pointer (some ⟨gn, 0, none⟩)] w fun e w' => e = .returned (.tuple #[]) ∧ ∃ lv, St w F w' (rP g bv B (listR (textF B) B size most s).1 ++ .blk ga T (putAt cs off [lv]) :: .rowP isS lv 9 1 (listR (textF B) B size most s).2.length (strsV (listR (textF B) B size most s).2) :: L2) := by
  have kagn := hid agn
  have kbgn := hid bgn
  have kagz := hid agz
  have kbgz := hid bgz
  have kagm := hid agm
  have kbgm := hid bgm
  have kagf := hid agf
  have kbgf := hid bgf
  have HCS := hid hcs
  obtain ⟨N1, hN1⟩ : ∃ N1, N1 = stepR s (numRR B s.pos size 0 most) 0 := ⟨_, rfl⟩
  have hin := num_in (B := B) (s := s) (size := size) (low := 0) (high := most) ⟨Int.le_refl _, hm.1⟩
  have hpos := num_pos (B := B) (s := s) (size := size) (low := 0) (high := most) hp
  rw [← hN1] at hin hpos
  obtain ⟨k, hk⟩ : ∃ k : Nat, N1.2 = (k : Int) := ⟨N1.2.toNat, by omega⟩
  have hkb : k ≤ 1000000 := by omega
  have hLR : listR (textF B) B size most s = manyS (textF B) N1.1 k := by
    unfold listR
    rw [← hN1, hk, Int.toNat_natCast]
  have HK := hid hk
  have HN1 := hid hN1
  obtain ⟨RR, hRR⟩ : ∃ RR, RR = listR (textF B) B size most s := ⟨_, rfl⟩
  have HRR := hid (hRR.trans hLR)
  rw [← hRR]
  have HPJ := hid (fun j : Nat => manyS_pos (f := textF B) (s := N1.1) (N := B.length) hpos (fun s hs => by unfold textF; exact text_pos hs) j)
  clear hN1 hk hLR hRR hin agn agz agm agf bgn bgz bgm bgf hcs
  go_enter Try.func81, Try.ntmps81
  go_wp2_with (first | go_big_skip | go_big_guard | (refine wl_loadE rfl rfl rfl ?_; first | refine ⟨_, Loads.oldM hst kagn.out kbgn.out, ?_⟩ | refine ⟨_, Loads.oldM hst kagz.out kbgz.out, ?_⟩ | refine ⟨_, Loads.oldM hst kagm.out kbgm.out, ?_⟩) | (go_at_call 75; have hS := (St.sub hst (List.sublist_append_left _ _)).selfF; refine (rNum_any g bv B s size 0 most _ hS hp hB hs).mono ?_; rw [← HN1.out, HK.out]; rintro _ w9 ⟨rfl, h4⟩; have hst1 := St.callF (rP g bv B s) hst h4; clear h4 hS hst))
  have hst2 : St w F w9 (rP g bv B (manyS (textF B) N1.1 0).1 ++ .blk ga T (putAt cs off [.slice none 0 0]) :: .rowP isS (.slice none 0 0) 9 1 0 (strsV (manyS (textF B) N1.1 0).2) :: L2) := by
    rw [putAt_self HCS.out]
    have h1 := St.nilPQ isS 9 1 hst1
    exact (St.front (L1 := [_, _, _]) (St.front (L1 := [_, _, _]) (St.front (L1 := [_, _, _]) h1)))
  clear hst1
  go_loopw [11] (fun i wr => ∃ (j : Nat) (lv : Value), j ≤ k ∧ i = .int .i64 (j : Int) ∧ St w F wr (rP g bv B (manyS (textF B) N1.1 j).1 ++ .blk ga T (putAt cs off [lv]) :: .rowP isS lv 9 1 j (strsV (manyS (textF B) N1.1 j).2) :: L2)) (fun i _ => k - (intOf i).toNat)
  case atStart => exact ⟨0, _, Nat.zero_le _, rfl, hst2⟩
  case round =>
    clear hst2
    obtain ⟨j, lv, hj, rfl, hst⟩ := hrel
    obtain ⟨al, cl, rfl⟩ := St.rowPSliceF [_, _, _] hst
    have hposj := HPJ.out j
    by_cases hlt : j < k
    · have d1 : decide ((j : Int) < (k : Int)) = true := decide_eq_true (by omega)
      have z1 : IntKind.i64.wrap ((j : Int) + 1) = (j : Int) + 1 := IntWalk.i64_in _ (by omega)
      have hsucc : manyS (textF B) N1.1 (j + 1) = ((textF B (manyS (textF B) N1.1 j).1).1, (manyS (textF B) N1.1 j).2 ++ [(textF B (manyS (textF B) N1.1 j).1).2]) := rfl
      obtain ⟨S1, hS1⟩ : ∃ S1, S1 = manyS (textF B) N1.1 j := ⟨_, rfl⟩
      rw [← hS1] at hst hposj hsucc
      obtain ⟨S2, hS2⟩ : ∃ S2, S2 = textF B S1.1 := ⟨_, rfl⟩
      rw [← hS2] at hsucc
      have HS2 := hid hS2
      have HSU := hid hsucc
      clear hS1 hS2 hsucc
      go_wp2_with (first | go_big_skip | go_big_guard | (refine wl_alloc hst rfl rfl ?_; intro gx w5 hst3; clear hst) | (refine wl_loadE rfl rfl rfl ?_; refine ⟨_, Loads.oldM hst3 kagf.out kbgf.out, ?_⟩) | (go_at_call 57; refine (text_any ⟨gx, 0, none⟩ _).mono ?_; rintro _ w6 ⟨gb, rfl, h4⟩; simp only [cloV, ptrV]; have hst4 := St.call hst3 h4; clear h4 hst3) | (go_at_call 78; have hP := (St.front (L1 := [_, _, _, _, _]) (St.front (L1 := [_, _, _, _, _]) (St.front (L1 := [_, _, _]) (St.front (L1 := [_, _]) (St.front (L1 := [_, _, _, _, _]) (St.front (L1 := [_, _, _, _, _]) hst4)))))); have hSF := (St.sub (L' := (rP g bv B S1.1 ++ ([] ++ .blk gx 9 [.string ⟨#[]⟩] :: []))) hP (List.sublist_append_left _ _)).selfF; refine (text2_at g bv B S1.1 _ [] [] gx 0 9 [.string ⟨#[]⟩] _ hSF hposj hB (by decide) (hst4.cell (off := 0) (.head _) rfl) (St.notFeetA ((rP g bv B S1.1 ++ ([] ++ .blk gx 9 [.string ⟨#[]⟩] :: []))) [] hP)).mono ?_; rintro _ w7 ⟨rfl, h4⟩; have hst5 := St.callF (rP g bv B S1.1 ++ ([] ++ .blk gx 9 [.string ⟨#[]⟩] :: [])) hP h4; clear h4 hSF hP hst4))
      have hst6 : St w F w7 (rP g bv B S2.1 ++ (.blk gx 9 [strV S2.2] :: .blk gb 92 [.pointer (some ⟨gx, 0, none⟩)] :: .blk ga T (putAt cs off [.slice al j cl]) :: .rowP isS (.slice al j cl) 9 1 j (strsV S1.2) :: L2)) := by
        rw [HS2.out]
        exact hst5
      clear hst5
      have hj2 : 0 < 1 ∧ j + 1 ≤ maxLen ∧ (j + 1) * 16 ≤ 140737488355328 := by unfold maxLen; omega
      have k2 := kagn.out
      have n2 := kbgn.out
      have hD := hst6.drew
      clear hst6
      refine wp_region_last (S := (fun w' => (loadVarH 94 ⟨gn, 0, none⟩).run Try.prog w' = .ok (.pointer (some ⟨ga, off, none⟩)) w' ∧ (loadVarH 22 ⟨ga, off, none⟩).run Try.prog w' = .ok (.slice al j cl) w' ∧ (loadVarH 9 ⟨gx, 0, none⟩).run Try.prog w' = .ok (strV S2.2) w')) (by kernel_rfl) rfl (by kernel_rfl) (by exact ⟨ldOMx hD kagn.out kbgn.out, ldS [_, _, _, _] hD (putAt_get ho), ldS [_, _] hD rfl⟩) (fun hHeld => ?_)
      simp only [List.pop_toArray, List.dropLast, List.size_toArray, List.length_cons, List.length_nil]
      refine wpAnyH_take (i := 0) (oi := ⟨some 18, _, _, _, _, _⟩) (v := ?_) rfl (by kernel_rfl) (by kernel_rfl) (by kernel_rfl) (fun _ _ _ h => h) (Or.inl ⟨by rfl, ?_⟩) (by assumption) ?_
      rotate_left
      · intro w hSw; (try dsimp only at hSw); go_simp; try with_reducible rfl
      (try simp only [Act.put, List.setIfInBounds_toArray, List.set_cons_zero, List.set_cons_succ])
      refine wpAnyH_take (i := 1) (oi := ⟨some 19, _, _, _, _, _⟩) (v := ?_) rfl (by kernel_rfl) (by kernel_rfl) (by kernel_rfl) (fun _ _ _ h => h) (Or.inl ⟨by rfl, ?_⟩) (by assumption) ?_
      rotate_left
      · intro w hSw; (try dsimp only at hSw); go_simp; try with_reducible rfl
      (try simp only [Act.put, List.setIfInBounds_toArray, List.set_cons_zero, List.set_cons_succ])
      refine wpAnyH_take (i := 2) (oi := ⟨some 20, _, _, _, _, _⟩) (v := ?_) rfl (by kernel_rfl) (by kernel_rfl) (by kernel_rfl) (fun _ _ _ h => h) (Or.inl ⟨by rfl, ?_⟩) (by assumption) ?_
      rotate_left
      · intro w hSw; (try dsimp only at hSw); go_simp; try with_reducible rfl
      (try simp only [Act.put, List.setIfInBounds_toArray, List.set_cons_zero, List.set_cons_succ])
      refine wpAnyH_take (i := 3) (oi := ⟨some 21, _, _, _, _, _⟩) (v := ?_) rfl (by kernel_rfl) (by kernel_rfl) (by kernel_rfl) (fun _ _ _ h => h) (Or.inl ⟨by rfl, ?_⟩) (by assumption) ?_
      rotate_left
      · intro w hSw; (try dsimp only at hSw); go_simp; try with_reducible rfl
      (try simp only [Act.put, List.setIfInBounds_toArray, List.set_cons_zero, List.set_cons_succ])
      refine wpAnyH_take (i := 4) (oi := ⟨some 22, _, _, _, _, _⟩) (v := ?_) rfl (by kernel_rfl) (by kernel_rfl) (by kernel_rfl) (fun _ _ _ h => h) (Or.inl ⟨by rfl, ?_⟩) (by assumption) ?_
      rotate_left
      · intro w hSw; (try dsimp only at hSw); go_simp; try with_reducible rfl
      (try simp only [Act.put, List.setIfInBounds_toArray, List.set_cons_zero, List.set_cons_succ])
      refine wpAnyH_ready (rs := [5]) (by kernel_rfl) (by simp) ?_
      refine (AllReadyH.cons (o := ⟨some 23, _, _, _, _, _⟩) rfl (fun K hK => ?_) AllReadyH.nil)
      rw [if_pos (by rfl)]
      refine ow_of_wl (ops := #[]) (by rfl) ?_
      apply wl_bsX [strV S2.2] [strV S2.2] hD
      rfl
      rfl
      exact rfl
      exact rfl
      infer_instance
      infer_instance
      rfl
      rfl
      rfl
      intro gs w8 hE
      refine q0_nil ?_
      refine hK.out _ _ ?_ (fun hHeld => ?_)
      · exact ⟨ldOMx hE kagn.out kbgn.out, ldS [_, _, _, _, _] hE (putAt_get ho), ldS [_, _, _] hE rfl⟩
      clear hK K
      (try simp only [Act.put, List.setIfInBounds_toArray, List.set_cons_zero, List.set_cons_succ])
      refine wpAnyH_ready (rs := [6]) (by kernel_rfl) (by simp) ?_
      refine (AllReadyH.cons (o := ⟨some 24, _, _, _, _, _⟩) rfl (fun K hK => ?_) AllReadyH.nil)
      rw [if_pos (by rfl)]
      refine ow_of_wl (ops := #[]) (by rfl) ?_
      apply wl_appP (ys := [strV S2.2]) [_, _, _, _, _, _] hE
      rfl
      rfl
      exact rfl
      exact rfl
      infer_instance
      infer_instance
      infer_instance
      infer_instance
      exact (Rd.blk0 hE rfl (by decide))
      exact rfl
      rfl
      exact isS_one (by rw [HS2.out]; exact textF_len _ _)
      exact hj2
      intro v2 w10 hG _
      obtain ⟨a2, c2, rfl⟩ := St.rowPSliceF [_, _, _, _, _, _] hG
      refine q0_nil ?_
      refine hK.out _ _ ?_ (fun hHeld => ?_)
      · exact ⟨ldOMx hG kagn.out kbgn.out, ldS [_, _, _, _, _] hG (putAt_get ho), ldS [_, _, _] hG rfl⟩
      clear hK K
      (try simp only [Act.put, List.setIfInBounds_toArray, List.set_cons_zero, List.set_cons_succ])
      refine wpAnyH_take (i := 7) (oi := ⟨some 25, _, _, _, _, _⟩) (v := ?_) rfl (by kernel_rfl) (by kernel_rfl) (by kernel_rfl) (fun _ _ _ h => h) (Or.inl ⟨by rfl, ?_⟩) (by assumption) ?_
      rotate_left
      · intro w hSw; (try dsimp only at hSw); go_simp; try with_reducible rfl
      (try simp only [Act.put, List.setIfInBounds_toArray, List.set_cons_zero, List.set_cons_succ])
      refine wpAnyH_done (by kernel_rfl) ?_ _
      clear hHeld
      refine QL_intro ?_
      go_wp2_with (first | go_big_skip | go_big_guard | (refine wl_store [_, _, _, _, _] hG rfl rfl rfl (v := .slice _ _ _) rfl rfl rfl (by rw [putAt_len ho]; show off + 1 ≤ _; omega) ?_; intro w11 hH; clear hG))
      go_roundw
      case rel =>
        refine ⟨j + 1, .slice a2 (j + 1) c2, by omega, rfl, ?_⟩
        rw [HSU.out]
        have e1 : putAt (putAt cs off [.slice al j cl]) off (Value.slice a2 (j + 1) c2).cells.toList = putAt cs off [.slice a2 (j + 1) c2] := putAt_twice ho
        rw [e1] at hH
        have e2 : strsV (S1.2 ++ [S2.2]) = strsV S1.2 ++ [strV S2.2] := by rw [strsV_append]; rfl
        show St w F _ (rP g bv B S2.1 ++ .blk ga T (putAt cs off [.slice a2 (j + 1) c2]) :: .rowP isS (.slice a2 (j + 1) c2) 9 1 (j + 1) (strsV (S1.2 ++ [S2.2])) :: L2)
        rw [e2]
        exact St.sub hH (.cons _ (.cons_cons _ (.cons_cons _ (.cons _ (.cons _ (.cons_cons _ (.cons_cons _ (List.Sublist.refl _))))))))
      case measure => simp [intOf]; omega
    · have hjk : j = k := by omega
      have d1 : decide ((j : Int) < (k : Int)) = false := decide_eq_false (by omega)
      go_wp2_with (first | go_big_skip | go_big_guard | fail)
      go_end0
      refine ⟨rfl, .slice al j cl, ?_⟩
      rw [HRR.out, manyS_len, ← hjk]
      exact hst
theorem listI_at (g : Nat) (bv : Value) (B : List UInt8) (s : RS) (F : List Nat) (L2 : List HA) (ga off : Nat) (T : TypeId) (cs : List Value) (w : World) (hst : St w F w (rP g bv B s ++ .blk ga T cs :: L2)) (hp : s.pos ≤ B.length) (hB : B.length ≤ 100000) (ho : off < cs.length) (hcs : cs[off]? = some (.slice none 0 0))
    {gn gz gm gf : Nat} {size most : Int} (agn : w.cell? ⟨gn, 0, none⟩ = some (.pointer (some ⟨ga, off, none⟩))) (bgn : gn ∉ F) (agz : w.cell? ⟨gz, 0, none⟩ = some (.int .i64 size)) (bgz : gz ∉ F) (agm : w.cell? ⟨gm, 0, none⟩ = some (.int .i64 most)) (bgm : gm ∉ F) (agf : w.cell? ⟨gf, 0, none⟩ = some (.func (.func 70) #[] #[])) (bgf : gf ∉ F)
    (hs : -9223372036854775808 ≤ size ∧ size ≤ 9223372036854775807) (hm : 0 ≤ most ∧ most ≤ 1000000) :
    Calls Try.prog 89 #[.pointer (some ⟨g, 0, none⟩), .pointer (some ⟨gz, 0, none⟩), .pointer (some ⟨gm, 0, none⟩), .pointer (some ⟨gf, 0, none⟩), .pointer (some ⟨gn, 0, none⟩)] w fun e w' => e = .returned (.tuple #[]) ∧ ∃ lv, St w F w' (rP g bv B (listR (wideF B) B size most s).1 ++ .blk ga T (putAt cs off [lv]) :: .rowP isI lv 3 1 (listR (wideF B) B size most s).2.length (intsV (listR (wideF B) B size most s).2) :: L2) := by
  have kagn := hid agn
  have kbgn := hid bgn
  have kagz := hid agz
  have kbgz := hid bgz
  have kagm := hid agm
  have kbgm := hid bgm
  have kagf := hid agf
  have kbgf := hid bgf
  have HCS := hid hcs
  obtain ⟨N1, hN1⟩ : ∃ N1, N1 = stepR s (numRR B s.pos size 0 most) 0 := ⟨_, rfl⟩
  have hin := num_in (B := B) (s := s) (size := size) (low := 0) (high := most) ⟨Int.le_refl _, hm.1⟩
  have hpos := num_pos (B := B) (s := s) (size := size) (low := 0) (high := most) hp
  rw [← hN1] at hin hpos
  obtain ⟨k, hk⟩ : ∃ k : Nat, N1.2 = (k : Int) := ⟨N1.2.toNat, by omega⟩
  have hkb : k ≤ 1000000 := by omega
  have hLR : listR (wideF B) B size most s = manyS (wideF B) N1.1 k := by
    unfold listR
    rw [← hN1, hk, Int.toNat_natCast]
  have HK := hid hk
  have HN1 := hid hN1
  obtain ⟨RR, hRR⟩ : ∃ RR, RR = listR (wideF B) B size most s := ⟨_, rfl⟩
  have HRR := hid (hRR.trans hLR)
  rw [← hRR]
  have HPJ := hid (fun j : Nat => manyS_pos (f := wideF B) (s := N1.1) (N := B.length) hpos (fun s hs => by unfold wideF; exact num_pos hs) j)
  clear hN1 hk hLR hRR hin agn agz agm agf bgn bgz bgm bgf hcs
  go_enter Try.func89, Try.ntmps89
  go_wp2_with (first | go_big_skip | go_big_guard | (refine wl_loadE rfl rfl rfl ?_; first | refine ⟨_, Loads.oldM hst kagn.out kbgn.out, ?_⟩ | refine ⟨_, Loads.oldM hst kagz.out kbgz.out, ?_⟩ | refine ⟨_, Loads.oldM hst kagm.out kbgm.out, ?_⟩) | (go_at_call 75; have hS := (St.sub hst (List.sublist_append_left _ _)).selfF; refine (rNum_any g bv B s size 0 most _ hS hp hB hs).mono ?_; rw [← HN1.out, HK.out]; rintro _ w9 ⟨rfl, h4⟩; have hst1 := St.callF (rP g bv B s) hst h4; clear h4 hS hst))
  have hst2 : St w F w9 (rP g bv B (manyS (wideF B) N1.1 0).1 ++ .blk ga T (putAt cs off [.slice none 0 0]) :: .rowP isI (.slice none 0 0) 3 1 0 (intsV (manyS (wideF B) N1.1 0).2) :: L2) := by
    rw [putAt_self HCS.out]
    have h1 := St.nilPQ isI 3 1 hst1
    exact (St.front (L1 := [_, _, _]) (St.front (L1 := [_, _, _]) (St.front (L1 := [_, _, _]) h1)))
  clear hst1
  go_loopw [11] (fun i wr => ∃ (j : Nat) (lv : Value), j ≤ k ∧ i = .int .i64 (j : Int) ∧ St w F wr (rP g bv B (manyS (wideF B) N1.1 j).1 ++ .blk ga T (putAt cs off [lv]) :: .rowP isI lv 3 1 j (intsV (manyS (wideF B) N1.1 j).2) :: L2)) (fun i _ => k - (intOf i).toNat)
  case atStart => exact ⟨0, _, Nat.zero_le _, rfl, hst2⟩
  case round =>
    clear hst2
    obtain ⟨j, lv, hj, rfl, hst⟩ := hrel
    obtain ⟨al, cl, rfl⟩ := St.rowPSliceF [_, _, _] hst
    have hposj := HPJ.out j
    by_cases hlt : j < k
    · have d1 : decide ((j : Int) < (k : Int)) = true := decide_eq_true (by omega)
      have z1 : IntKind.i64.wrap ((j : Int) + 1) = (j : Int) + 1 := IntWalk.i64_in _ (by omega)
      have hsucc : manyS (wideF B) N1.1 (j + 1) = ((wideF B (manyS (wideF B) N1.1 j).1).1, (manyS (wideF B) N1.1 j).2 ++ [(wideF B (manyS (wideF B) N1.1 j).1).2]) := rfl
      obtain ⟨S1, hS1⟩ : ∃ S1, S1 = manyS (wideF B) N1.1 j := ⟨_, rfl⟩
      rw [← hS1] at hst hposj hsucc
      obtain ⟨S2, hS2⟩ : ∃ S2, S2 = wideF B S1.1 := ⟨_, rfl⟩
      rw [← hS2] at hsucc
      have HS2 := hid hS2
      have HSU := hid hsucc
      clear hS1 hS2 hsucc
      go_wp2_with (first | go_big_skip | go_big_guard | (refine wl_alloc hst rfl rfl ?_; intro gx w5 hst3; clear hst) | (refine wl_loadE rfl rfl rfl ?_; refine ⟨_, Loads.oldM hst3 kagf.out kbgf.out, ?_⟩) | (go_at_call 70; refine (wide_any ⟨gx, 0, none⟩ _).mono ?_; rintro _ w6 ⟨gb, gz2, gl2, gh2, rfl, h4⟩; simp only [cloV, ptrV]; have hst4 := St.call hst3 h4; clear h4 hst3) | (go_at_call 74; have hP := (St.front (L1 := [_, _, _, _, _, _, _, _]) (St.front (L1 := [_, _, _, _, _, _, _, _]) (St.front (L1 := [_, _, _, _, _, _]) (St.front (L1 := [_, _, _, _, _]) (St.front (L1 := [_, _, _, _, _]) (St.front (L1 := [_, _, _, _, _]) (St.front (L1 := [_, _, _, _, _]) (St.front (L1 := [_, _, _, _, _, _, _, _]) (St.front (L1 := [_, _, _, _, _, _, _, _]) hst4))))))))); have hSF := (St.sub (L' := (rP g bv B S1.1 ++ ([] ++ .blk gx 3 [.int .i64 0] :: []))) hP (List.sublist_append_left _ _)).selfF; refine (num2_at g bv B S1.1 _ [] [] gx 0 3 [.int .i64 0] _ hSF hposj hB (by decide) (hst4.cell (off := 0) (.tail _ (.tail _ (.tail _ (.head _)))) rfl) (St.notFeetA ((rP g bv B S1.1 ++ ([] ++ .blk gx 3 [.int .i64 0] :: []))) [_, _, _] hP) (hst4.cell (off := 0) (.tail _ (.tail _ (.head _))) rfl) (St.notFeetA ((rP g bv B S1.1 ++ ([] ++ .blk gx 3 [.int .i64 0] :: []))) [_, _] hP) (hst4.cell (off := 0) (.tail _ (.head _)) rfl) (St.notFeetA ((rP g bv B S1.1 ++ ([] ++ .blk gx 3 [.int .i64 0] :: []))) [_] hP) (hst4.cell (off := 0) (.head _) rfl) (St.notFeetA ((rP g bv B S1.1 ++ ([] ++ .blk gx 3 [.int .i64 0] :: []))) [] hP) (by decide)).mono ?_; rintro _ w7 ⟨rfl, h4⟩; have hst5 := St.callF (rP g bv B S1.1 ++ ([] ++ .blk gx 3 [.int .i64 0] :: [])) hP h4; clear h4 hSF hP hst4))
      have hst6 : St w F w7 (rP g bv B S2.1 ++ (.blk gx 3 [.int .i64 S2.2] :: .blk gh2 3 [.int .i64 1099511627775] :: .blk gl2 3 [.int .i64 0] :: .blk gz2 3 [.int .i64 5] :: .blk gb 83 [.pointer (some ⟨gx, 0, none⟩)] :: .blk ga T (putAt cs off [.slice al j cl]) :: .rowP isI (.slice al j cl) 3 1 j (intsV S1.2) :: L2)) := by
        rw [HS2.out]
        exact hst5
      clear hst5
      have hj2 : 0 < 1 ∧ j + 1 ≤ maxLen ∧ (j + 1) * 8 ≤ 140737488355328 := by unfold maxLen; omega
      have k2 := kagn.out
      have n2 := kbgn.out
      have hD := hst6.drew
      clear hst6
      refine wp_region_last (S := (fun w' => (loadVarH 106 ⟨gn, 0, none⟩).run Try.prog w' = .ok (.pointer (some ⟨ga, off, none⟩)) w' ∧ (loadVarH 47 ⟨ga, off, none⟩).run Try.prog w' = .ok (.slice al j cl) w' ∧ (loadVarH 3 ⟨gx, 0, none⟩).run Try.prog w' = .ok (.int .i64 S2.2) w')) (by kernel_rfl) rfl (by kernel_rfl) (by exact ⟨ldOMx hD kagn.out kbgn.out, ldS [_, _, _, _, _, _, _] hD (putAt_get ho), ldS [_, _] hD rfl⟩) (fun hHeld => ?_)
      simp only [List.pop_toArray, List.dropLast, List.size_toArray, List.length_cons, List.length_nil]
      refine wpAnyH_take (i := 0) (oi := ⟨some 18, _, _, _, _, _⟩) (v := ?_) rfl (by kernel_rfl) (by kernel_rfl) (by kernel_rfl) (fun _ _ _ h => h) (Or.inl ⟨by rfl, ?_⟩) (by assumption) ?_
      rotate_left
      · intro w hSw; (try dsimp only at hSw); go_simp; try with_reducible rfl
      (try simp only [Act.put, List.setIfInBounds_toArray, List.set_cons_zero, List.set_cons_succ])
      refine wpAnyH_take (i := 1) (oi := ⟨some 19, _, _, _, _, _⟩) (v := ?_) rfl (by kernel_rfl) (by kernel_rfl) (by kernel_rfl) (fun _ _ _ h => h) (Or.inl ⟨by rfl, ?_⟩) (by assumption) ?_
      rotate_left
      · intro w hSw; (try dsimp only at hSw); go_simp; try with_reducible rfl
      (try simp only [Act.put, List.setIfInBounds_toArray, List.set_cons_zero, List.set_cons_succ])
      refine wpAnyH_take (i := 2) (oi := ⟨some 20, _, _, _, _, _⟩) (v := ?_) rfl (by kernel_rfl) (by kernel_rfl) (by kernel_rfl) (fun _ _ _ h => h) (Or.inl ⟨by rfl, ?_⟩) (by assumption) ?_
      rotate_left
      · intro w hSw; (try dsimp only at hSw); go_simp; try with_reducible rfl
      (try simp only [Act.put, List.setIfInBounds_toArray, List.set_cons_zero, List.set_cons_succ])
      refine wpAnyH_take (i := 3) (oi := ⟨some 21, _, _, _, _, _⟩) (v := ?_) rfl (by kernel_rfl) (by kernel_rfl) (by kernel_rfl) (fun _ _ _ h => h) (Or.inl ⟨by rfl, ?_⟩) (by assumption) ?_
      rotate_left
      · intro w hSw; (try dsimp only at hSw); go_simp; try with_reducible rfl
      (try simp only [Act.put, List.setIfInBounds_toArray, List.set_cons_zero, List.set_cons_succ])
      refine wpAnyH_take (i := 4) (oi := ⟨some 22, _, _, _, _, _⟩) (v := ?_) rfl (by kernel_rfl) (by kernel_rfl) (by kernel_rfl) (fun _ _ _ h => h) (Or.inl ⟨by rfl, ?_⟩) (by assumption) ?_
      rotate_left
      · intro w hSw; (try dsimp only at hSw); go_simp; try with_reducible rfl
      (try simp only [Act.put, List.setIfInBounds_toArray, List.set_cons_zero, List.set_cons_succ])
      refine wpAnyH_ready (rs := [5]) (by kernel_rfl) (by simp) ?_
      refine (AllReadyH.cons (o := ⟨some 23, _, _, _, _, _⟩) rfl (fun K hK => ?_) AllReadyH.nil)
      rw [if_pos (by rfl)]
      refine ow_of_wl (ops := #[]) (by rfl) ?_
      apply wl_bsX [.int .i64 S2.2] [.int .i64 S2.2] hD
      rfl
      rfl
      exact rfl
      exact rfl
      infer_instance
      infer_instance
      rfl
      rfl
      rfl
      intro gs w8 hE
      refine q0_nil ?_
      refine hK.out _ _ ?_ (fun hHeld => ?_)
      · exact ⟨ldOMx hE kagn.out kbgn.out, ldS [_, _, _, _, _, _, _, _] hE (putAt_get ho), ldS [_, _, _] hE rfl⟩
      clear hK K
      (try simp only [Act.put, List.setIfInBounds_toArray, List.set_cons_zero, List.set_cons_succ])
      refine wpAnyH_ready (rs := [6]) (by kernel_rfl) (by simp) ?_
      refine (AllReadyH.cons (o := ⟨some 24, _, _, _, _, _⟩) rfl (fun K hK => ?_) AllReadyH.nil)
      rw [if_pos (by rfl)]
      refine ow_of_wl (ops := #[]) (by rfl) ?_
      apply wl_appP (ys := [.int .i64 S2.2]) [_, _, _, _, _, _, _, _, _] hE
      rfl
      rfl
      exact rfl
      exact rfl
      infer_instance
      infer_instance
      infer_instance
      infer_instance
      exact (Rd.blk0 hE rfl (by decide))
      exact rfl
      rfl
      rfl
      exact hj2
      intro v2 w10 hG _
      obtain ⟨a2, c2, rfl⟩ := St.rowPSliceF [_, _, _, _, _, _, _, _, _] hG
      refine q0_nil ?_
      refine hK.out _ _ ?_ (fun hHeld => ?_)
      · exact ⟨ldOMx hG kagn.out kbgn.out, ldS [_, _, _, _, _, _, _, _] hG (putAt_get ho), ldS [_, _, _] hG rfl⟩
      clear hK K
      (try simp only [Act.put, List.setIfInBounds_toArray, List.set_cons_zero, List.set_cons_succ])
      refine wpAnyH_take (i := 7) (oi := ⟨some 25, _, _, _, _, _⟩) (v := ?_) rfl (by kernel_rfl) (by kernel_rfl) (by kernel_rfl) (fun _ _ _ h => h) (Or.inl ⟨by rfl, ?_⟩) (by assumption) ?_
      rotate_left
      · intro w hSw; (try dsimp only at hSw); go_simp; try with_reducible rfl
      (try simp only [Act.put, List.setIfInBounds_toArray, List.set_cons_zero, List.set_cons_succ])
      refine wpAnyH_done (by kernel_rfl) ?_ _
      clear hHeld
      refine QL_intro ?_
      go_wp2_with (first | go_big_skip | go_big_guard | (refine wl_store [_, _, _, _, _, _, _, _] hG rfl rfl rfl (v := .slice _ _ _) rfl rfl rfl (by rw [putAt_len ho]; show off + 1 ≤ _; omega) ?_; intro w11 hH; clear hG))
      go_roundw
      case rel =>
        refine ⟨j + 1, .slice a2 (j + 1) c2, by omega, rfl, ?_⟩
        rw [HSU.out]
        have e1 : putAt (putAt cs off [.slice al j cl]) off (Value.slice a2 (j + 1) c2).cells.toList = putAt cs off [.slice a2 (j + 1) c2] := putAt_twice ho
        rw [e1] at hH
        have e2 : intsV (S1.2 ++ [S2.2]) = intsV S1.2 ++ [.int .i64 S2.2] := by rw [intsV_append]; rfl
        show St w F _ (rP g bv B S2.1 ++ .blk ga T (putAt cs off [.slice a2 (j + 1) c2]) :: .rowP isI (.slice a2 (j + 1) c2) 3 1 (j + 1) (intsV (S1.2 ++ [S2.2])) :: L2)
        rw [e2]
        exact St.sub hH (.cons _ (.cons_cons _ (.cons_cons _ (.cons _ (.cons _ (.cons _ (.cons _ (.cons _ (.cons_cons _ (.cons_cons _ (List.Sublist.refl _)))))))))))
      case measure => simp [intOf]; omega
    · have hjk : j = k := by omega
      have d1 : decide ((j : Int) < (k : Int)) = false := decide_eq_false (by omega)
      go_wp2_with (first | go_big_skip | go_big_guard | fail)
      go_end0
      refine ⟨rfl, .slice al j cl, ?_⟩
      rw [HRR.out, manyS_len, ← hjk]
      exact hst
end
end Go.Proofs.Ytalfdcfcaamnbaa
namespace Go.Proofs.Ytalfdcfcaamnbaa
set_option linter.unusedVariables false
set_option linter.unusedSimpArgs false
open Go.RowKit Hp
attribute [local irreducible] Go.Calls Go.wpList
set_option maxRecDepth 100000
set_option maxHeartbeats 4000000
theorem Hp.Loads.oldMA {P : Program} {w0 w : World} {M : List Nat} {L : List HA} {T : TypeId} {b off n : Nat} {cs : List Value} (hst : St w0 M w L) [ht : TyA P T n] (hn : cs.length = n) (h : w0.rangeAt b off cs) (hM : b ∉ M) : Loads P w T ⟨b, off, none⟩ (.agg cs.toArray) :=
  .range (by rw [hn]; exact ht.out) fun j v hv => hst.old_cell (h j v hv) hM
/-- A closure that reads: at any world that came of w0 (where the pieces of M alone may have turned). -/
def GetOk {σ τ : Type} (w0 : World) (M : List Nat) (m m' : σ → τ → List HA) (fn : Nat) (cap : List Value) (B : List UInt8) (step : RS × σ → RS × σ) : Prop :=
  ∀ (g : Nat) (bv : Value) (s : RS) (x : σ) (a : τ) (w : World), St w0 M w (rP g bv B s ++ m x a) → s.pos ≤ B.length → Calls Try.prog fn (ptrV g :: cap).toArray w fun e w' => e = .returned (.tuple #[]) ∧
    ∃ a', St w ((rP g bv B s ++ m x a).filterMap HA.foot) w' (rP g bv B (step (s, x)).1 ++ m' (step (s, x)).2 a')
theorem parts_get {σ τ : Type} (aB : Option Addr) (nB cB : Nat) (B : List UInt8) (ao : Option Addr) (n c : Nat) (l : List PartV) (fs : List (RS × σ → RS × σ)) (m : Nat → σ → τ → List HA) (M : List Nat) (x0 : σ) (a0 : τ) (w : World)
    (h0 : St w M w (m 0 x0 a0)) (hbs : Rd w (.slice aB nB cB) 1 nB (bytesV B)) (hBn : B.length = nB) (hB : nB ≤ 100000) (hr : Rd w (.slice ao n c) 2 n (partsC l)) (hro : ∀ b off, ao = some ⟨b, off, none⟩ → b ∉ M) (hbo : Off (.slice aB nB cB) M) (hn : l.length = n) (hf : fs.length = n) (hb : n ≤ 1000)
    (hfn : ∀ p ∈ l, ∀ (a : Array Value) (w : World), (callFunc p.gf a).run Try.prog w = .ok (.enter p.gf a) w)
    (hok : ∀ (k : Nat) (p : PartV) (f : RS × σ → RS × σ), l[k]? = some p → fs[k]? = some f → GetOk w M (m k) (m (k + 1)) p.gf p.gc B f) (hpos : ∀ f ∈ fs, ∀ y : RS × σ, y.1.pos ≤ B.length → (f y).1.pos ≤ B.length) :
    Calls Try.prog 44 #[.slice aB nB cB, .slice ao n c] w fun e w' => ∃ a', e = .returned (.agg #[.int .i64 (endR B (goAll (⟨0, 0, 0⟩, x0) fs).1).1, .int .i64 (endR B (goAll (⟨0, 0, 0⟩, x0) fs).1).2]) ∧ St w M w' (m n (goAll (⟨0, 0, 0⟩, x0) fs).2 a') := by
  have hst := h0
  have HN := hid hn
  have HF := hid hf
  have HOK := hid hok
  have HFN := hid hfn
  have HPO := hid hpos
  have HBN := hid hBn
  have HRO := hid hro
  have HBO := hid hbo
  obtain ⟨R, hR⟩ : ∃ R, R = goAll ((⟨0, 0, 0⟩, x0) : RS × σ) fs := ⟨_, rfl⟩
  have HR := hid hR
  obtain ⟨M0, hM0⟩ : ∃ M0, M0 = m 0 x0 a0 := ⟨_, rfl⟩
  rw [← hM0] at hst
  have HM0 := hid hM0
  rw [← hR]
  clear hn hf hok hfn hpos hR hM0 h0 hBn hro hbo
  go_enter Try.func44, Try.ntmps44
  go_wp2_with (first | go_big_skip | go_big_guard | (refine wl_alloc hst rfl rfl ?_; intro gr w1 hst1; clear hst) | (go_at_call 63; refine (open_any aB nB cB B _ (Rd.oldM hst1 hbs HBO.out) HBN.out hB).mono ?_; rintro _ w2 ⟨g, bv, rfl, h4⟩; have hst2 := St.call hst1 h4; clear h4 hst1))
  have hst3 : St w M w2 (rP g bv B ⟨0, 0, 0⟩ ++ (m 0 x0 a0 ++ [.blk gr 42 [.int .i64 0, .int .i64 0]])) := by
    rw [← HM0.out]
    exact St.perm hst2 (List.Perm.append_left (rP g bv B ⟨0, 0, 0⟩) (List.perm_append_comm (l₁ := [_])))
  clear hst2
  go_loopw [12] (fun i wr => ∃ (j : Nat) (a : τ), j ≤ n ∧ i = .int .i64 (j : Int) ∧ St w M wr (rP g bv B (goAll ((⟨0, 0, 0⟩, x0) : RS × σ) (fs.take j)).1 ++ (m j (goAll ((⟨0, 0, 0⟩, x0) : RS × σ) (fs.take j)).2 a ++ [.blk gr 42 [.int .i64 0, .int .i64 0]]))) (fun i _ => n - (intOf i).toNat)
  case atStart => exact ⟨0, a0, Nat.zero_le _, rfl, hst3⟩
  case round =>
    clear hst3
    obtain ⟨j, a, hj, rfl, hst⟩ := hrel
    have HP := hid (goAll_inv (P := fun y : RS × σ => y.1.pos ≤ B.length) (s := (⟨0, 0, 0⟩, x0)) (fs := fs.take j) (Nat.zero_le _) (fun f hf => HPO.out f (List.mem_of_mem_take hf)))
    by_cases hlt : j < n
    · have d1 : decide ((j : Int) < (n : Int)) = true := decide_eq_true (by omega)
      have z1 : IntKind.i64.wrap ((j : Int) + 1) = (j : Int) + 1 := IntWalk.i64_in _ (by omega)
      have hjl : j < l.length := by rw [HN.out]; exact hlt
      have hjf : j < fs.length := by rw [HF.out]; exact hlt
      obtain ⟨p, hp⟩ : ∃ p, l[j]? = some p := ⟨_, List.getElem?_eq_getElem hjl⟩
      obtain ⟨f, hf⟩ : ∃ f, fs[j]? = some f := ⟨_, List.getElem?_eq_getElem hjf⟩
      have hfn := HFN.out p (List.mem_of_getElem? hp)
      have HO := hid (HOK.out j p f hp hf)
      have HS := hid (goAll_succ (s := ((⟨0, 0, 0⟩, x0) : RS × σ)) hf)
      obtain ⟨b, off, rfl, _⟩ := Rd.at hr hlt
      have hcell := hid (range_part hr hp)
      have hbM := hid (HRO.out b off rfl)
      obtain ⟨pf, pc, gf, gc⟩ := p
      dsimp only at hfn HO hcell
      replace hcell := hid (show w.rangeAt b (off + j * 2) [Value.func (.func pf) #[] pc.toArray, Value.func (.func gf) #[] gc.toArray] from hcell.out)
      obtain ⟨y, hy⟩ : ∃ y, y = goAll ((⟨0, 0, 0⟩, x0) : RS × σ) (fs.take j) := ⟨_, rfl⟩
      have HY := hid hy
      rw [← hy] at hst
      obtain ⟨W2, hW2⟩ : ∃ W2, W2 = rP g bv B y.1 ++ (m j y.2 a ++ [.blk gr 42 [.int .i64 0, .int .i64 0]]) := ⟨_, rfl⟩
      have HW2 := hid hW2
      rw [← hW2] at hst
      clear hp hf hjl hjf hy hW2
      go_wp2_with (first | go_big_skip | go_big_guard | (refine wl_index rfl rfl rfl rfl hlt ?_) | (refine wl_loadE rfl rfl rfl ?_; refine ⟨_, Loads.oldMA (cs := [Value.func (.func pf) #[] pc.toArray, Value.func (.func gf) #[] gc.toArray]) (n := 2) hst rfl hcell.out hbM.out, ?_⟩) | (refine wl_alloc hst rfl rfl ?_; intro g3 _ hst3; clear hst) | (refine wl_storeA [] hst3 rfl rfl rfl rfl rfl rfl rfl ?_; intro w6 hst4; clear hst3) | (refine wl_loadE rfl rfl rfl ?_; first | refine ⟨_, Loads.at [] hst4 rfl, ?_⟩) | (have hQ := St.sub hst4 (.cons _ (List.Sublist.refl _)); rw [HW2.out, ← List.append_assoc] at hQ; have hC := St.sub hQ (List.sublist_append_left _ _); refine (HO.out g bv y.1 y.2 a _ hC (by rw [HY.out]; exact HP.out)).mono ?_; rintro _ w10 ⟨rfl, a2, h4⟩; have hG := St.callF _ hQ h4; clear h4 hQ hC hst4))
      go_roundw
      case rel =>
        refine ⟨j + 1, a2, by omega, rfl, ?_⟩
        rw [HS.out, ← HY.out, ← List.append_assoc]
        exact hG
      case measure => simp [intOf]; omega
    · have hjn : j = n := by omega
      have d1 : decide ((j : Int) < (n : Int)) = false := decide_eq_false (by omega)
      have eR : goAll ((⟨0, 0, 0⟩, x0) : RS × σ) (fs.take j) = R := by rw [HR.out, List.take_of_length_le (by rw [HF.out]; omega)]
      have HE := hid eR
      have hp2 := HP.out
      rw [eR] at hst
      have hp3 : R.1.pos ≤ B.length := by rw [← eR]; exact hp2
      have hB3 : B.length ≤ 1000000 := by rw [HBN.out]; omega
      have hst0 : St w M wr (.blk gr 42 [.int .i64 0, .int .i64 0] :: (rP g bv B R.1 ++ m j R.2 a)) := by
        rw [← List.append_assoc] at hst
        exact St.perm hst (List.perm_append_comm (l₂ := [_]))
      have hRP := St.sub hst0 (.cons _ (List.sublist_append_left _ _))
      rw [hjn] at hst0
      obtain ⟨e1, he1⟩ : ∃ e1, e1 = endR B R.1 := ⟨_, rfl⟩
      have HE1 := hid he1
      obtain ⟨W2, hW2⟩ : ∃ W2, W2 = rP g bv B R.1 ++ m n R.2 a := ⟨_, rfl⟩
      have HW2 := hid hW2
      rw [← hW2] at hst0
      clear hjn eR hst hp2 he1 hW2
      go_wp2_with (first | go_big_skip | go_big_guard | (go_at_call 64; refine (end_any g bv B R.1 _ hRP hp3 hB3).mono ?_; rw [← HE1.out]; rintro _ w9 ⟨rfl, h4⟩; have hst5 := St.call0 hst0 h4; clear h4 hst0) | (refine wl_storeA [] hst5 rfl rfl rfl rfl rfl rfl rfl ?_; intro w10 hst6; clear hst5))
      refine bodyPost_ret (results_cellL rfl rfl (Loads.whole (T := 42) [] hst6 rfl)) rfl ⟨a, by rw [← HE1.out], ?_⟩
      rw [HW2.out] at hst6
      exact St.sub hst6 (.cons _ (List.sublist_append_right _ _))
end Go.Proofs.Ytalfdcfcaamnbaa
namespace Go.Proofs.Ytalfdcfcaamnbaa
set_option linter.unusedVariables false
set_option linter.unusedSimpArgs false
open Go.RowKit Hp
attribute [local irreducible] Go.Calls Go.wpList
set_option maxRecDepth 100000
set_option maxHeartbeats 4000000
/-- How an order's fields are read, one behind the other. -/
def getF (B : List UInt8) : List (RS × OV → RS × OV) := [
  fun y => ((stepR y.1 (numRR B y.1.pos 1 1 24) 0).1, { y.2 with op := (stepR y.1 (numRR B y.1.pos 1 1 24) 0).2 }),
  fun y => ((textF B y.1).1, { y.2 with name := (textF B y.1).2 }),
  fun y => ((textF B y.1).1, { y.2 with dest := (textF B y.1).2 }),
  fun y => ((stepR y.1 (numRR B y.1.pos 4 0 2147483647) 0).1, { y.2 with n := (stepR y.1 (numRR B y.1.pos 4 0 2147483647) 0).2 }),
  fun y => ((stepR y.1 (numRR B y.1.pos 4 0 2147483647) 0).1, { y.2 with m := (stepR y.1 (numRR B y.1.pos 4 0 2147483647) 0).2 }),
  fun y => ((listR (textF B) B 1 16 y.1).1, { y.2 with l := (listR (textF B) B 1 16 y.1).2 }),
  fun y => ((rawS B y.1).1, { y.2 with b := (rawS B y.1).2 })]
theorem rawS_pos {B : List UInt8} {s : RS} (hp : s.pos ≤ B.length) : (rawS B s).1.pos ≤ B.length := raw_pos (num_pos hp)
theorem listR_pos {α : Type} {f : RS → RS × α} {B : List UInt8} {size most : Int} {s : RS} (hf : ∀ s : RS, s.pos ≤ B.length → (f s).1.pos ≤ B.length) (hp : s.pos ≤ B.length) : (listR f B size most s).1.pos ≤ B.length := manyS_pos (num_pos hp) hf _
theorem textF_pos {B : List UInt8} (s : RS) (hp : s.pos ≤ B.length) : (textF B s).1.pos ≤ B.length := text_pos hp
theorem wideF_pos {B : List UInt8} (s : RS) (hp : s.pos ≤ B.length) : (wideF B s).1.pos ≤ B.length := num_pos hp
theorem getF_pos (B : List UInt8) : ∀ f ∈ getF B, ∀ y : RS × OV, y.1.pos ≤ B.length → (f y).1.pos ≤ B.length := by
  intro f hf y hy
  unfold getF at hf
  simp only [List.mem_cons, List.not_mem_nil, or_false] at hf
  rcases hf with rfl | rfl | rfl | rfl | rfl | rfl | rfl
  · exact num_pos hy
  · exact text_pos hy
  · exact text_pos hy
  · exact num_pos hy
  · exact num_pos hy
  · exact listR_pos textF_pos hy
  · exact rawS_pos hy
def OV.none : OV := ⟨0, 0, 0, [], [], [], []⟩
/-- The order that bytes are, its fault. -/
def getO (B : List UInt8) : OV × Int × Int :=
  let S := goAll ((⟨0, 0, 0⟩, OV.none) : RS × OV) (getF B)
  let e := if (endR B S.1).1 = 0 then S.2.check else (endR B S.1).1
  if e = 0 then (S.2, e, (endR B S.1).2) else (OV.none, e, (endR B S.1).2)
/-- An order under way. -/
def ordM (go k : Nat) (x : OV) (a : Value × Value) : List HA := match k with
  | 6 => [.blk go 25 (x.cells a.1 (.slice none 0 0)), .rowP isS a.1 9 1 x.l.length (strsV x.l)]
  | 7 => [.rowP isB a.2 5 1 x.b.length (bytesV x.b), .blk go 25 (x.cells a.1 a.2), .rowP isS a.1 9 1 x.l.length (strsV x.l)]
  | _ => [.blk go 25 (x.cells (.slice none 0 0) (.slice none 0 0))]
theorem parts_gok {w0 w : World} {M0 : List Nat} {L : List HA} {B : List UInt8} (hB : B.length ≤ 100000) {gp go : Nat} {n0 z0 l0 h0 n1 n2 n3 z3 l3 h3 n4 z4 l4 h4 n5 z5 m5 f5 n6 : Nat}
    (h : St w0 M0 w ((.blk gp 89 (partsC (partsPs n0 z0 l0 h0 n1 n2 n3 z3 l3 h3 n4 z4 l4 h4 n5 z5 m5 f5 n6)) :: partsBoxes go n0 z0 l0 h0 n1 n2 n3 z3 l3 h3 n4 z4 l4 h4 n5 z5 m5 f5 n6) ++ .blk go 25 (OV.none.cells (.slice none 0 0) (.slice none 0 0)) :: L)) :
    ∀ (k : Nat) (p : PartV) (f : RS × OV → RS × OV), (partsPs n0 z0 l0 h0 n1 n2 n3 z3 l3 h3 n4 z4 l4 h4 n5 z5 m5 f5 n6)[k]? = some p → (getF B)[k]? = some f → GetOk w [go] (ordM go k) (ordM go (k + 1)) p.gf p.gc B f := by
  have hh := h
  unfold partsBoxes at hh
  have hd : ∀ (i : Nat) (q : Nat) (T : TypeId) (cs : List Value), i < 20 → (HA.blk gp 89 (partsC (partsPs n0 z0 l0 h0 n1 n2 n3 z3 l3 h3 n4 z4 l4 h4 n5 z5 m5 f5 n6)) :: partsBoxes go n0 z0 l0 h0 n1 n2 n3 z3 l3 h3 n4 z4 l4 h4 n5 z5 m5 f5 n6)[i]? = some (.blk q T cs) → q ∉ [go] := by
    intro i q T cs hi hx hq
    have hap := h.apart
    unfold Apart at hap
    rw [List.pairwise_append] at hap
    have h1 := hap.2.2 _ (List.mem_of_getElem? hx) _ List.mem_cons_self q rfl
    simp only [List.mem_singleton] at hq
    exact h1 (by rw [hq]; rfl)
  have hne_n0 : n0 ∉ [go] := hd 19 _ _ _ (by decide) rfl
  have hne_z0 : z0 ∉ [go] := hd 18 _ _ _ (by decide) rfl
  have hne_l0 : l0 ∉ [go] := hd 17 _ _ _ (by decide) rfl
  have hne_h0 : h0 ∉ [go] := hd 16 _ _ _ (by decide) rfl
  have hne_n1 : n1 ∉ [go] := hd 15 _ _ _ (by decide) rfl
  have hne_n2 : n2 ∉ [go] := hd 14 _ _ _ (by decide) rfl
  have hne_n3 : n3 ∉ [go] := hd 13 _ _ _ (by decide) rfl
  have hne_z3 : z3 ∉ [go] := hd 12 _ _ _ (by decide) rfl
  have hne_l3 : l3 ∉ [go] := hd 11 _ _ _ (by decide) rfl
  have hne_h3 : h3 ∉ [go] := hd 10 _ _ _ (by decide) rfl
  have hne_n4 : n4 ∉ [go] := hd 9 _ _ _ (by decide) rfl
  have hne_z4 : z4 ∉ [go] := hd 8 _ _ _ (by decide) rfl
  have hne_l4 : l4 ∉ [go] := hd 7 _ _ _ (by decide) rfl
  have hne_h4 : h4 ∉ [go] := hd 6 _ _ _ (by decide) rfl
  have hne_n5 : n5 ∉ [go] := hd 5 _ _ _ (by decide) rfl
  have hne_z5 : z5 ∉ [go] := hd 4 _ _ _ (by decide) rfl
  have hne_m5 : m5 ∉ [go] := hd 3 _ _ _ (by decide) rfl
  have hne_f5 : f5 ∉ [go] := hd 2 _ _ _ (by decide) rfl
  have hne_n6 : n6 ∉ [go] := hd 1 _ _ _ (by decide) rfl
  clear hd
  intro k p f hp hf
  match k, hp, hf with
  | 0, hp, hf => cases hp; cases hf; exact fun g bv s x a w9 hw hs => (num2_at g bv B s _ [] [] go 0 _ (x.cells (.slice none 0 0) (.slice none 0 0)) w9 hw.selfF hs hB (by show (0 : Nat) < 7; decide) (hw.old_cell (hh.cell (off := 0) (.tail _ (.tail _ (.tail _ (.tail _ (.tail _ (.tail _ (.tail _ (.tail _ (.tail _ (.tail _ (.tail _ (.tail _ (.tail _ (.tail _ (.tail _ (.tail _ (.tail _ (.tail _ (.tail _ (.head _)))))))))))))))))))) rfl) (hne_n0)) (elem_off hw (World.block_lt_of_cell? w _ (hh.cell (off := 0) (.tail _ (.tail _ (.tail _ (.tail _ (.tail _ (.tail _ (.tail _ (.tail _ (.tail _ (.tail _ (.tail _ (.tail _ (.tail _ (.tail _ (.tail _ (.tail _ (.tail _ (.tail _ (.tail _ (.head _)))))))))))))))))))) rfl)) (hne_n0)) (hw.old_cell (hh.cell (off := 0) (.tail _ (.tail _ (.tail _ (.tail _ (.tail _ (.tail _ (.tail _ (.tail _ (.tail _ (.tail _ (.tail _ (.tail _ (.tail _ (.tail _ (.tail _ (.tail _ (.tail _ (.tail _ (.head _))))))))))))))))))) rfl) (hne_z0)) (elem_off hw (World.block_lt_of_cell? w _ (hh.cell (off := 0) (.tail _ (.tail _ (.tail _ (.tail _ (.tail _ (.tail _ (.tail _ (.tail _ (.tail _ (.tail _ (.tail _ (.tail _ (.tail _ (.tail _ (.tail _ (.tail _ (.tail _ (.tail _ (.head _))))))))))))))))))) rfl)) (hne_z0)) (hw.old_cell (hh.cell (off := 0) (.tail _ (.tail _ (.tail _ (.tail _ (.tail _ (.tail _ (.tail _ (.tail _ (.tail _ (.tail _ (.tail _ (.tail _ (.tail _ (.tail _ (.tail _ (.tail _ (.tail _ (.head _)))))))))))))))))) rfl) (hne_l0)) (elem_off hw (World.block_lt_of_cell? w _ (hh.cell (off := 0) (.tail _ (.tail _ (.tail _ (.tail _ (.tail _ (.tail _ (.tail _ (.tail _ (.tail _ (.tail _ (.tail _ (.tail _ (.tail _ (.tail _ (.tail _ (.tail _ (.tail _ (.head _)))))))))))))))))) rfl)) (hne_l0)) (hw.old_cell (hh.cell (off := 0) (.tail _ (.tail _ (.tail _ (.tail _ (.tail _ (.tail _ (.tail _ (.tail _ (.tail _ (.tail _ (.tail _ (.tail _ (.tail _ (.tail _ (.tail _ (.tail _ (.head _))))))))))))))))) rfl) (hne_h0)) (elem_off hw (World.block_lt_of_cell? w _ (hh.cell (off := 0) (.tail _ (.tail _ (.tail _ (.tail _ (.tail _ (.tail _ (.tail _ (.tail _ (.tail _ (.tail _ (.tail _ (.tail _ (.tail _ (.tail _ (.tail _ (.tail _ (.head _))))))))))))))))) rfl)) (hne_h0)) (by decide)).mono fun e w8 ⟨he, h8⟩ => ⟨he, a, h8⟩
  | 1, hp, hf => cases hp; cases hf; exact fun g bv s x a w9 hw hs => (text2_at g bv B s _ [] [] go 1 _ (x.cells (.slice none 0 0) (.slice none 0 0)) w9 hw.selfF hs hB (by show (1 : Nat) < 7; decide) (hw.old_cell (hh.cell (off := 0) (.tail _ (.tail _ (.tail _ (.tail _ (.tail _ (.tail _ (.tail _ (.tail _ (.tail _ (.tail _ (.tail _ (.tail _ (.tail _ (.tail _ (.tail _ (.head _)))))))))))))))) rfl) (hne_n1)) (elem_off hw (World.block_lt_of_cell? w _ (hh.cell (off := 0) (.tail _ (.tail _ (.tail _ (.tail _ (.tail _ (.tail _ (.tail _ (.tail _ (.tail _ (.tail _ (.tail _ (.tail _ (.tail _ (.tail _ (.tail _ (.head _)))))))))))))))) rfl)) (hne_n1))).mono fun e w8 ⟨he, h8⟩ => ⟨he, a, h8⟩
  | 2, hp, hf => cases hp; cases hf; exact fun g bv s x a w9 hw hs => (text2_at g bv B s _ [] [] go 2 _ (x.cells (.slice none 0 0) (.slice none 0 0)) w9 hw.selfF hs hB (by show (2 : Nat) < 7; decide) (hw.old_cell (hh.cell (off := 0) (.tail _ (.tail _ (.tail _ (.tail _ (.tail _ (.tail _ (.tail _ (.tail _ (.tail _ (.tail _ (.tail _ (.tail _ (.tail _ (.tail _ (.head _))))))))))))))) rfl) (hne_n2)) (elem_off hw (World.block_lt_of_cell? w _ (hh.cell (off := 0) (.tail _ (.tail _ (.tail _ (.tail _ (.tail _ (.tail _ (.tail _ (.tail _ (.tail _ (.tail _ (.tail _ (.tail _ (.tail _ (.tail _ (.head _))))))))))))))) rfl)) (hne_n2))).mono fun e w8 ⟨he, h8⟩ => ⟨he, a, h8⟩
  | 3, hp, hf => cases hp; cases hf; exact fun g bv s x a w9 hw hs => (num2_at g bv B s _ [] [] go 3 _ (x.cells (.slice none 0 0) (.slice none 0 0)) w9 hw.selfF hs hB (by show (3 : Nat) < 7; decide) (hw.old_cell (hh.cell (off := 0) (.tail _ (.tail _ (.tail _ (.tail _ (.tail _ (.tail _ (.tail _ (.tail _ (.tail _ (.tail _ (.tail _ (.tail _ (.tail _ (.head _)))))))))))))) rfl) (hne_n3)) (elem_off hw (World.block_lt_of_cell? w _ (hh.cell (off := 0) (.tail _ (.tail _ (.tail _ (.tail _ (.tail _ (.tail _ (.tail _ (.tail _ (.tail _ (.tail _ (.tail _ (.tail _ (.tail _ (.head _)))))))))))))) rfl)) (hne_n3)) (hw.old_cell (hh.cell (off := 0) (.tail _ (.tail _ (.tail _ (.tail _ (.tail _ (.tail _ (.tail _ (.tail _ (.tail _ (.tail _ (.tail _ (.tail _ (.head _))))))))))))) rfl) (hne_z3)) (elem_off hw (World.block_lt_of_cell? w _ (hh.cell (off := 0) (.tail _ (.tail _ (.tail _ (.tail _ (.tail _ (.tail _ (.tail _ (.tail _ (.tail _ (.tail _ (.tail _ (.tail _ (.head _))))))))))))) rfl)) (hne_z3)) (hw.old_cell (hh.cell (off := 0) (.tail _ (.tail _ (.tail _ (.tail _ (.tail _ (.tail _ (.tail _ (.tail _ (.tail _ (.tail _ (.tail _ (.head _)))))))))))) rfl) (hne_l3)) (elem_off hw (World.block_lt_of_cell? w _ (hh.cell (off := 0) (.tail _ (.tail _ (.tail _ (.tail _ (.tail _ (.tail _ (.tail _ (.tail _ (.tail _ (.tail _ (.tail _ (.head _)))))))))))) rfl)) (hne_l3)) (hw.old_cell (hh.cell (off := 0) (.tail _ (.tail _ (.tail _ (.tail _ (.tail _ (.tail _ (.tail _ (.tail _ (.tail _ (.tail _ (.head _))))))))))) rfl) (hne_h3)) (elem_off hw (World.block_lt_of_cell? w _ (hh.cell (off := 0) (.tail _ (.tail _ (.tail _ (.tail _ (.tail _ (.tail _ (.tail _ (.tail _ (.tail _ (.tail _ (.head _))))))))))) rfl)) (hne_h3)) (by decide)).mono fun e w8 ⟨he, h8⟩ => ⟨he, a, h8⟩
  | 4, hp, hf => cases hp; cases hf; exact fun g bv s x a w9 hw hs => (num2_at g bv B s _ [] [] go 4 _ (x.cells (.slice none 0 0) (.slice none 0 0)) w9 hw.selfF hs hB (by show (4 : Nat) < 7; decide) (hw.old_cell (hh.cell (off := 0) (.tail _ (.tail _ (.tail _ (.tail _ (.tail _ (.tail _ (.tail _ (.tail _ (.tail _ (.head _)))))))))) rfl) (hne_n4)) (elem_off hw (World.block_lt_of_cell? w _ (hh.cell (off := 0) (.tail _ (.tail _ (.tail _ (.tail _ (.tail _ (.tail _ (.tail _ (.tail _ (.tail _ (.head _)))))))))) rfl)) (hne_n4)) (hw.old_cell (hh.cell (off := 0) (.tail _ (.tail _ (.tail _ (.tail _ (.tail _ (.tail _ (.tail _ (.tail _ (.head _))))))))) rfl) (hne_z4)) (elem_off hw (World.block_lt_of_cell? w _ (hh.cell (off := 0) (.tail _ (.tail _ (.tail _ (.tail _ (.tail _ (.tail _ (.tail _ (.tail _ (.head _))))))))) rfl)) (hne_z4)) (hw.old_cell (hh.cell (off := 0) (.tail _ (.tail _ (.tail _ (.tail _ (.tail _ (.tail _ (.tail _ (.head _)))))))) rfl) (hne_l4)) (elem_off hw (World.block_lt_of_cell? w _ (hh.cell (off := 0) (.tail _ (.tail _ (.tail _ (.tail _ (.tail _ (.tail _ (.tail _ (.head _)))))))) rfl)) (hne_l4)) (hw.old_cell (hh.cell (off := 0) (.tail _ (.tail _ (.tail _ (.tail _ (.tail _ (.tail _ (.head _))))))) rfl) (hne_h4)) (elem_off hw (World.block_lt_of_cell? w _ (hh.cell (off := 0) (.tail _ (.tail _ (.tail _ (.tail _ (.tail _ (.tail _ (.head _))))))) rfl)) (hne_h4)) (by decide)).mono fun e w8 ⟨he, h8⟩ => ⟨he, a, h8⟩
  | 5, hp, hf => cases hp; cases hf; exact fun g bv s x a w9 hw hs => (listS_at g bv B s _ [] go 5 _ (x.cells (.slice none 0 0) (.slice none 0 0)) w9 hw.selfF hs hB (by show (5 : Nat) < 7; decide) rfl (hw.old_cell (hh.cell (off := 0) (.tail _ (.tail _ (.tail _ (.tail _ (.tail _ (.head _)))))) rfl) (hne_n5)) (elem_off hw (World.block_lt_of_cell? w _ (hh.cell (off := 0) (.tail _ (.tail _ (.tail _ (.tail _ (.tail _ (.head _)))))) rfl)) (hne_n5)) (hw.old_cell (hh.cell (off := 0) (.tail _ (.tail _ (.tail _ (.tail _ (.head _))))) rfl) (hne_z5)) (elem_off hw (World.block_lt_of_cell? w _ (hh.cell (off := 0) (.tail _ (.tail _ (.tail _ (.tail _ (.head _))))) rfl)) (hne_z5)) (hw.old_cell (hh.cell (off := 0) (.tail _ (.tail _ (.tail _ (.head _)))) rfl) (hne_m5)) (elem_off hw (World.block_lt_of_cell? w _ (hh.cell (off := 0) (.tail _ (.tail _ (.tail _ (.head _)))) rfl)) (hne_m5)) (hw.old_cell (hh.cell (off := 0) (.tail _ (.tail _ (.head _))) rfl) (hne_f5)) (elem_off hw (World.block_lt_of_cell? w _ (hh.cell (off := 0) (.tail _ (.tail _ (.head _))) rfl)) (hne_f5)) (by decide) (by decide)).mono fun e w8 ⟨he, lv, h8⟩ => ⟨he, (lv, a.2), h8⟩
  | 6, hp, hf => cases hp; cases hf; exact fun g bv s x a w9 hw hs => (raw2_at g bv B s _ [] [.rowP isS a.1 9 1 x.l.length (strsV x.l)] go 6 _ (x.cells a.1 (.slice none 0 0)) w9 hw.selfF hs hB (by show (6 : Nat) < 7; decide) (hw.old_cell (hh.cell (off := 0) (.tail _ (.head _)) rfl) (hne_n6)) (elem_off hw (World.block_lt_of_cell? w _ (hh.cell (off := 0) (.tail _ (.head _)) rfl)) (hne_n6)) (num_pos hs) (by have := num_in (B := B) (s := s) (size := 3) (low := 0) (high := 16384) ⟨by decide, by decide⟩; omega)).mono fun e w8 ⟨he, u, h8⟩ => ⟨he, (a.1, u), h8⟩
  | k + 7, hp, _ => simp [partsPs] at hp
theorem parts_gfn {n0 z0 l0 h0 n1 n2 n3 z3 l3 h3 n4 z4 l4 h4 n5 z5 m5 f5 n6 : Nat} : ∀ p ∈ partsPs n0 z0 l0 h0 n1 n2 n3 z3 l3 h3 n4 z4 l4 h4 n5 z5 m5 f5 n6, ∀ (a : Array Value) (w : World), (callFunc p.gf a).run Try.prog w = .ok (.enter p.gf a) w := by
  intro p hp a w
  unfold partsPs at hp
  simp only [List.mem_cons, List.not_mem_nil, or_false] at hp
  rcases hp with rfl | rfl | rfl | rfl | rfl | rfl | rfl <;> rfl
end Go.Proofs.Ytalfdcfcaamnbaa
namespace Go.Proofs.Ytalfdcfcaamnbaa
set_option linter.unusedVariables false
set_option linter.unusedSimpArgs false
open Go.RowKit Hp
attribute [local irreducible] Go.Calls Go.wpList
set_option maxRecDepth 100000
set_option maxHeartbeats 4000000
theorem loadedOr (A : Addr) : loadVar 25 A = loadVarH 25 A := rfl
theorem Hp.St.apartH {w0 w : World} {M : List Nat} {L1 L2 : List HA} {g q : Nat} {T T' : TypeId} {cs cs' : List Value} (h : St w0 M w (.blk g T cs :: (L1 ++ .blk q T' cs' :: L2))) : g ∉ [q] := by
  intro hq
  have hap := h.apart
  unfold Apart at hap
  rw [List.pairwise_cons] at hap
  exact hap.1 (.blk q T' cs') (List.mem_append_right _ List.mem_cons_self) g rfl (by
    simp only [List.mem_singleton] at hq
    rw [hq]; rfl)
theorem Hp.St.newOff {w0 w : World} {L1 L2 : List HA} {q : Nat} {T : TypeId} {cs : List Value} (h : St w0 [] w (L1 ++ .blk q T cs :: L2)) {v : Value} {sz n : Nat} {xs : List Value} (hr : Rd w0 v sz n xs) (hs : 0 < sz) : Off v [q] := by
  refine Off.old hr hs fun k hk => ?_
  simp only [List.mem_singleton] at hk
  subst hk
  rcases h.own (.blk k T cs) (by simp) k rfl with h1 | h1
  · exact h1
  · cases h1
theorem get_len (B : List UInt8) : (goAll ((⟨0, 0, 0⟩, OV.none) : RS × OV) (getF B)).2.l.length ≤ 16 := by
  show (listR (textF B) B 1 16 _).2.length ≤ 16
  unfold listR
  rw [manyS_len]
  have := num_in (B := B) (s := ((textF B ((textF B (stepR ⟨0, 0, 0⟩ (numRR B 0 1 1 24) 0).1).1)).1)) (size := 1) (low := 0) (high := 16) ⟨by decide, by decide⟩
  refine Int.toNat_le.2 ?_
  exact (num_in ⟨by decide, by decide⟩).2
/-- What Get tells. -/
def GetP (w : World) (r : OV × Int × Int) (e : Ending) (w' : World) : Prop := ∃ lv bv, e = .returned (.tuple #[.agg (r.1.cells lv bv).toArray, .agg #[.int .i64 r.2.1, .int .i64 r.2.2]]) ∧
  St w [] w' [.rowP isS lv 9 1 r.1.l.length (strsV r.1.l), .rowP isB bv 5 1 r.1.b.length (bytesV r.1.b)]
section
attribute [local go_sem ↓] loadedOr loadedFt
theorem oget_bad (ao : Option Addr) (n c : Nat) (B : List UInt8) (w : World) (hr : Rd w (.slice ao n c) 1 n (bytesV B)) (hn : B.length = n) (hb : n ≤ 100000) (h0 : (endR B (goAll ((⟨0, 0, 0⟩, OV.none) : RS × OV) (getF B)).1).1 ≠ 0) :
    Calls Try.prog 22 #[.slice ao n c] w (GetP w (getO B)) := by
  have hst0 := St.refl w
  have HR := hid hr
  have HN := hid hn
  have hBl : B.length ≤ 100000 := by rw [hn]; exact hb
  obtain ⟨S, hS⟩ : ∃ S, S = goAll ((⟨0, 0, 0⟩, OV.none) : RS × OV) (getF B) := ⟨_, rfl⟩
  have HS := hid hS
  obtain ⟨f, hf⟩ : ∃ f, f = endR B S.1 := ⟨_, rfl⟩
  have HF := hid hf
  obtain ⟨ck, hck⟩ : ∃ ck, ck = S.2.check := ⟨_, rfl⟩
  have HCK := hid hck
  rw [← hS] at h0
  rw [← hf] at h0
  obtain ⟨R, hR⟩ : ∃ R, R = getO B := ⟨_, rfl⟩
  rw [← hR]
  have e : R = (OV.none, f.1, f.2) := by
    rw [hR]; unfold getO; simp only [← hS, ← hf]
    rw [if_neg h0, if_neg h0]
  have d0 : (f.1 == 0) = false := by simpa using h0
  have d1 : (f.1 != 0) = true := by simpa using h0
  have HE := hid e
  clear hS hf hck hR e h0 hr hn
  go_enter Try.func22, Try.ntmps22
  go_wp2_with (first | go_big_skip | go_big_guard | (refine wl_alloc (T := 25) hst0 rfl rfl ?_; intro g2 _ hst1; clear hst0) | (refine wl_alloc hst1 rfl rfl ?_; intro g3 _ hst2; clear hst1) | (refine wl_alloc (T := 25) hst2 rfl rfl ?_; intro go _ hst3; clear hst2) | (go_at_call 34; refine (parts_any go _).mono ?_; rintro _ w10 ⟨gp, n0, z0, l0, h0, n1, n2, n3, z3, l3, h3, n4, z4, l4, h4, n5, z5, m5, f5, n6, rfl, hh⟩; have hst4 := St.call hst3 hh; clear hh hst3) | (go_at_call 44; have hSel := (St.sub hst4 ((List.Sublist.trans (List.Sublist.cons_cons _ (List.nil_sublist _)) (List.sublist_append_right _ _)) : List.Sublist [_] _)).selfF; refine (parts_get (σ := OV) (τ := Value × Value) ao n c B (some ⟨gp, 0, none⟩) 7 7 (partsPs n0 z0 l0 h0 n1 n2 n3 z3 l3 h3 n4 z4 l4 h4 n5 z5 m5 f5 n6) (getF B) (ordM go) [go] OV.none (.slice none 0 0, .slice none 0 0) w10 hSel (Rd.old hst4 HR.out) HN.out hb (Rd.blk hst4 (.head _) (Nat.le_refl _) (by decide) rfl rfl) (fun b off hbo => by cases hbo; exact St.apartH hst4) (St.newOff hst4 HR.out (by decide)) rfl rfl (by decide) parts_gfn (parts_gok hBl hst4) (getF_pos B)).mono ?_; rw [← HS.out, ← HF.out]; rintro _ w11 ⟨a1, rfl, hh⟩; have hst5 := St.sub (St.callF [_] (St.front (.blk gp 89 (partsC (partsPs n0 z0 l0 h0 n1 n2 n3 z3 l3 h3 n4 z4 l4 h4 n5 z5 m5 f5 n6)) :: partsBoxes go n0 z0 l0 h0 n1 n2 n3 z3 l3 h3 n4 z4 l4 h4 n5 z5 m5 f5 n6) hst4) hh) (List.Sublist.append (List.Sublist.refl _) (List.sublist_append_right (HA.blk gp 89 (partsC (partsPs n0 z0 l0 h0 n1 n2 n3 z3 l3 h3 n4 z4 l4 h4 n5 z5 m5 f5 n6)) :: partsBoxes go n0 z0 l0 h0 n1 n2 n3 z3 l3 h3 n4 z4 l4 h4 n5 z5 m5 f5 n6) _)); clear hh hst4 hSel) | (refine wl_alloc hst5 rfl rfl ?_; intro g5 w12 hst6; clear hst5) | (refine wl_storeA [] hst6 rfl rfl rfl rfl rfl rfl rfl ?_; intro w13 hst7; clear hst6; obtain ⟨lv, bv⟩ := a1; unfold ordM at hst7; obtain ⟨ab, cb, rfl⟩ := St.rowPSliceF [_] hst7; obtain ⟨al, cl, rfl⟩ := St.rowPSliceF [_, _, _] hst7) | (refine wl_loadE rfl rfl rfl ?_; first | refine ⟨_, Loads.at [] hst7 rfl, ?_⟩))
  have hX := hst7.drew
  clear hst7
  refine wp_region_held_drew (S := (fun w' => (loadVarH 42 ⟨g5, 0, none⟩).run Try.prog w' = .ok (.agg (List.toArray ([.int .i64 f.1, .int .i64 f.2]))) w')) (by kernel_rfl) (by exact ldA ([.int .i64 f.1, .int .i64 f.2]) [] hX (rfl) (rfl)) (fun hHeld => ?_)
  refine wpAnyH_take (i := 0) (oi := ⟨some 18, _, _, _, _, _⟩) (v := ?_) rfl (by kernel_rfl) (by kernel_rfl) (by kernel_rfl) (fun _ _ _ h => h) (Or.inl ⟨by rfl, ?_⟩) (by assumption) ?_
  rotate_left
  · intro w hSw; (try dsimp only at hSw); go_simp; try with_reducible rfl
  (try simp only [Act.put, List.setIfInBounds_toArray, List.set_cons_zero, List.set_cons_succ])
  refine wpAnyH_take (i := 1) (oi := ⟨some 19, _, _, _, _, _⟩) (v := ?_) rfl (by kernel_rfl) (by kernel_rfl) (by kernel_rfl) (fun _ _ _ h => h) (Or.inl ⟨by rfl, ?_⟩) (by assumption) ?_
  rotate_left
  · intro w hSw; (try dsimp only at hSw); go_simp; try with_reducible rfl
  (try simp only [Act.put, List.setIfInBounds_toArray, List.set_cons_zero, List.set_cons_succ])
  refine wpAnyH_ready (rs := [2]) (by kernel_rfl) (by simp) ?_
  refine (AllReadyH.cons (o := ⟨none, _, _, _, _, _⟩) rfl (fun K hK => ?_) AllReadyH.nil)
  rw [if_pos (by rfl)]
  refine ow_of_wl (ops := #[]) (by rfl) ?_
  refine wl_storeA [_, _, _, _, _] hX rfl rfl rfl rfl rfl rfl rfl ?_
  intro w25 hZ5
  refine q0_nil ?_
  refine hK.out _ _ ?_ (fun hHeld => ?_)
  · exact ldA ([.int .i64 f.1, .int .i64 f.2]) [] hZ5 (rfl) (rfl)
  clear hK K
  (try simp only [Act.put, List.setIfInBounds_toArray, List.set_cons_zero, List.set_cons_succ])
  refine wpAnyH_ready (rs := [3]) (by kernel_rfl) (by simp) ?_
  refine (AllReadyH.cons (o := ⟨none, _, _, _, _, _⟩) rfl (fun K hK => ?_) AllReadyH.nil)
  rw [if_pos (by rfl)]
  refine ow_of_wl (ops := #[]) (by rfl) ?_
  refine wl_storeA [_, _, _, _] hZ5 rfl rfl rfl rfl rfl rfl rfl ?_
  intro w24 hZ4
  refine q0_nil ?_
  refine hK.out _ _ ?_ (fun hHeld => ?_)
  · exact ldA ([.int .i64 f.1, .int .i64 f.2]) [] hZ4 (rfl) (rfl)
  clear hK K
  (try simp only [Act.put, List.setIfInBounds_toArray, List.set_cons_zero, List.set_cons_succ])
  refine wpAnyH_done (by kernel_rfl) ?_ _
  clear hHeld
  go_wp2_with (first | go_big_skip | go_big_guard | fail)
  refine bodyPost_ret (results_cell2L rfl rfl rfl (Loads.whole (T := 25) [_, _, _, _, _] hZ4 rfl) (Loads.whole (T := 42) [_, _, _, _] hZ4 rfl)) rfl ?_
  rw [HE.out]
  exact ⟨.slice none 0 0, .slice none 0 0, rfl, St.nilPQ isS _ 1 (St.nilPQ isB _ 1 hZ4.nil)⟩
theorem oget_odd (ao : Option Addr) (n c : Nat) (B : List UInt8) (w : World) (hr : Rd w (.slice ao n c) 1 n (bytesV B)) (hn : B.length = n) (hb : n ≤ 100000) (h0 : (endR B (goAll ((⟨0, 0, 0⟩, OV.none) : RS × OV) (getF B)).1).1 = 0) (h1 : (goAll ((⟨0, 0, 0⟩, OV.none) : RS × OV) (getF B)).2.check ≠ 0) :
    Calls Try.prog 22 #[.slice ao n c] w (GetP w (getO B)) := by
  have hst0 := St.refl w
  have HR := hid hr
  have HN := hid hn
  have hBl : B.length ≤ 100000 := by rw [hn]; exact hb
  obtain ⟨S, hS⟩ : ∃ S, S = goAll ((⟨0, 0, 0⟩, OV.none) : RS × OV) (getF B) := ⟨_, rfl⟩
  have HS := hid hS
  obtain ⟨f, hf⟩ : ∃ f, f = endR B S.1 := ⟨_, rfl⟩
  have HF := hid hf
  obtain ⟨ck, hck⟩ : ∃ ck, ck = S.2.check := ⟨_, rfl⟩
  have HCK := hid hck
  rw [← hS] at h0 h1
  rw [← hf] at h0
  rw [← hck] at h1
  obtain ⟨R, hR⟩ : ∃ R, R = getO B := ⟨_, rfl⟩
  rw [← hR]
  have e : R = (OV.none, ck, f.2) := by
    rw [hR]; unfold getO; simp only [← hS, ← hf, ← hck]
    rw [if_pos h0, if_neg h1]
  have d0 : (f.1 == 0) = true := by simpa using h0
  have d1 : (ck != 0) = true := by simpa using h1
  have HE := hid e
  clear hS hf hck hR e h0 h1 hr hn
  go_enter Try.func22, Try.ntmps22
  go_wp2_with (first | go_big_skip | go_big_guard | (refine wl_alloc (T := 25) hst0 rfl rfl ?_; intro g2 _ hst1; clear hst0) | (refine wl_alloc hst1 rfl rfl ?_; intro g3 _ hst2; clear hst1) | (refine wl_alloc (T := 25) hst2 rfl rfl ?_; intro go _ hst3; clear hst2) | (go_at_call 34; refine (parts_any go _).mono ?_; rintro _ w10 ⟨gp, n0, z0, l0, h0, n1, n2, n3, z3, l3, h3, n4, z4, l4, h4, n5, z5, m5, f5, n6, rfl, hh⟩; have hst4 := St.call hst3 hh; clear hh hst3) | (go_at_call 44; have hSel := (St.sub hst4 ((List.Sublist.trans (List.Sublist.cons_cons _ (List.nil_sublist _)) (List.sublist_append_right _ _)) : List.Sublist [_] _)).selfF; refine (parts_get (σ := OV) (τ := Value × Value) ao n c B (some ⟨gp, 0, none⟩) 7 7 (partsPs n0 z0 l0 h0 n1 n2 n3 z3 l3 h3 n4 z4 l4 h4 n5 z5 m5 f5 n6) (getF B) (ordM go) [go] OV.none (.slice none 0 0, .slice none 0 0) w10 hSel (Rd.old hst4 HR.out) HN.out hb (Rd.blk hst4 (.head _) (Nat.le_refl _) (by decide) rfl rfl) (fun b off hbo => by cases hbo; exact St.apartH hst4) (St.newOff hst4 HR.out (by decide)) rfl rfl (by decide) parts_gfn (parts_gok hBl hst4) (getF_pos B)).mono ?_; rw [← HS.out, ← HF.out]; rintro _ w11 ⟨a1, rfl, hh⟩; have hst5 := St.sub (St.callF [_] (St.front (.blk gp 89 (partsC (partsPs n0 z0 l0 h0 n1 n2 n3 z3 l3 h3 n4 z4 l4 h4 n5 z5 m5 f5 n6)) :: partsBoxes go n0 z0 l0 h0 n1 n2 n3 z3 l3 h3 n4 z4 l4 h4 n5 z5 m5 f5 n6) hst4) hh) (List.Sublist.append (List.Sublist.refl _) (List.sublist_append_right (HA.blk gp 89 (partsC (partsPs n0 z0 l0 h0 n1 n2 n3 z3 l3 h3 n4 z4 l4 h4 n5 z5 m5 f5 n6)) :: partsBoxes go n0 z0 l0 h0 n1 n2 n3 z3 l3 h3 n4 z4 l4 h4 n5 z5 m5 f5 n6) _)); clear hh hst4 hSel) | (refine wl_alloc hst5 rfl rfl ?_; intro g5 w12 hst6; clear hst5) | (refine wl_storeA [] hst6 rfl rfl rfl rfl rfl rfl rfl ?_; intro w13 hst7; clear hst6; obtain ⟨lv, bv⟩ := a1; unfold ordM at hst7; obtain ⟨ab, cb, rfl⟩ := St.rowPSliceF [_] hst7; obtain ⟨al, cl, rfl⟩ := St.rowPSliceF [_, _, _] hst7) | (refine wl_loadE rfl rfl rfl ?_; first | refine ⟨_, Loads.at [] hst7 rfl, ?_⟩) | (refine wl_loadE rfl rfl rfl ?_; refine ⟨_, Loads.whole (T := 25) [_, _] hst7 rfl, ?_⟩) | (go_at_call 15; refine (check_any S.2 al ab S.2.l.length cl S.2.b.length cb _ (Rd.rowP hst7 (.tail _ (.tail _ (.tail _ (.head _))))) rfl rfl (by rw [HS.out]; exact Nat.le_trans (get_len B) (by decide))).mono ?_; rw [← HCK.out]; rintro _ w14 ⟨rfl, h4⟩; have hst8 := St.call0 hst7 h4; clear h4 hst7) | (refine wl_store [] hst8 rfl rfl rfl (v := .int _ _) rfl rfl rfl (by show (1 : Nat) ≤ 2; decide) ?_; intro w15 hst9; clear hst8) | (refine wl_loadE rfl rfl rfl ?_; first | refine ⟨_, Loads.at [] hst9 rfl, ?_⟩))
  have hst10 : St w [] w15 (.blk g5 42 [.int .i64 ck, .int .i64 f.2] :: _) := hst9
  clear hst9
  have hX := hst10.drew
  clear hst10
  refine wp_region_held_drew (S := (fun w' => (loadVarH 42 ⟨g5, 0, none⟩).run Try.prog w' = .ok (.agg (List.toArray ([.int .i64 ck, .int .i64 f.2]))) w')) (by kernel_rfl) (by exact ldA ([.int .i64 ck, .int .i64 f.2]) [] hX (rfl) (rfl)) (fun hHeld => ?_)
  refine wpAnyH_take (i := 0) (oi := ⟨some 18, _, _, _, _, _⟩) (v := ?_) rfl (by kernel_rfl) (by kernel_rfl) (by kernel_rfl) (fun _ _ _ h => h) (Or.inl ⟨by rfl, ?_⟩) (by assumption) ?_
  rotate_left
  · intro w hSw; (try dsimp only at hSw); go_simp; try with_reducible rfl
  (try simp only [Act.put, List.setIfInBounds_toArray, List.set_cons_zero, List.set_cons_succ])
  refine wpAnyH_take (i := 1) (oi := ⟨some 19, _, _, _, _, _⟩) (v := ?_) rfl (by kernel_rfl) (by kernel_rfl) (by kernel_rfl) (fun _ _ _ h => h) (Or.inl ⟨by rfl, ?_⟩) (by assumption) ?_
  rotate_left
  · intro w hSw; (try dsimp only at hSw); go_simp; try with_reducible rfl
  (try simp only [Act.put, List.setIfInBounds_toArray, List.set_cons_zero, List.set_cons_succ])
  refine wpAnyH_ready (rs := [2]) (by kernel_rfl) (by simp) ?_
  refine (AllReadyH.cons (o := ⟨none, _, _, _, _, _⟩) rfl (fun K hK => ?_) AllReadyH.nil)
  rw [if_pos (by rfl)]
  refine ow_of_wl (ops := #[]) (by rfl) ?_
  refine wl_storeA [_, _, _, _, _] hX rfl rfl rfl rfl rfl rfl rfl ?_
  intro w25 hZ5
  refine q0_nil ?_
  refine hK.out _ _ ?_ (fun hHeld => ?_)
  · exact ldA ([.int .i64 ck, .int .i64 f.2]) [] hZ5 (rfl) (rfl)
  clear hK K
  (try simp only [Act.put, List.setIfInBounds_toArray, List.set_cons_zero, List.set_cons_succ])
  refine wpAnyH_ready (rs := [3]) (by kernel_rfl) (by simp) ?_
  refine (AllReadyH.cons (o := ⟨none, _, _, _, _, _⟩) rfl (fun K hK => ?_) AllReadyH.nil)
  rw [if_pos (by rfl)]
  refine ow_of_wl (ops := #[]) (by rfl) ?_
  refine wl_storeA [_, _, _, _] hZ5 rfl rfl rfl rfl rfl rfl rfl ?_
  intro w24 hZ4
  refine q0_nil ?_
  refine hK.out _ _ ?_ (fun hHeld => ?_)
  · exact ldA ([.int .i64 ck, .int .i64 f.2]) [] hZ4 (rfl) (rfl)
  clear hK K
  (try simp only [Act.put, List.setIfInBounds_toArray, List.set_cons_zero, List.set_cons_succ])
  refine wpAnyH_done (by kernel_rfl) ?_ _
  clear hHeld
  go_wp2_with (first | go_big_skip | go_big_guard | fail)
  refine bodyPost_ret (results_cell2L rfl rfl rfl (Loads.whole (T := 25) [_, _, _, _, _] hZ4 rfl) (Loads.whole (T := 42) [_, _, _, _] hZ4 rfl)) rfl ?_
  rw [HE.out]
  exact ⟨.slice none 0 0, .slice none 0 0, rfl, St.nilPQ isS _ 1 (St.nilPQ isB _ 1 hZ4.nil)⟩
theorem oget_ok (ao : Option Addr) (n c : Nat) (B : List UInt8) (w : World) (hr : Rd w (.slice ao n c) 1 n (bytesV B)) (hn : B.length = n) (hb : n ≤ 100000) (h0 : (endR B (goAll ((⟨0, 0, 0⟩, OV.none) : RS × OV) (getF B)).1).1 = 0) (h1 : (goAll ((⟨0, 0, 0⟩, OV.none) : RS × OV) (getF B)).2.check = 0) :
    Calls Try.prog 22 #[.slice ao n c] w (GetP w (getO B)) := by
  have hst0 := St.refl w
  have HR := hid hr
  have HN := hid hn
  have hBl : B.length ≤ 100000 := by rw [hn]; exact hb
  obtain ⟨S, hS⟩ : ∃ S, S = goAll ((⟨0, 0, 0⟩, OV.none) : RS × OV) (getF B) := ⟨_, rfl⟩
  have HS := hid hS
  obtain ⟨f, hf⟩ : ∃ f, f = endR B S.1 := ⟨_, rfl⟩
  have HF := hid hf
  obtain ⟨ck, hck⟩ : ∃ ck, ck = S.2.check := ⟨_, rfl⟩
  have HCK := hid hck
  rw [← hS] at h0 h1
  rw [← hf] at h0
  rw [← hck] at h1
  obtain ⟨R, hR⟩ : ∃ R, R = getO B := ⟨_, rfl⟩
  rw [← hR]
  have e : R = (S.2, ck, f.2) := by
    rw [hR]; unfold getO; simp only [← hS, ← hf, ← hck]
    rw [if_pos h0, if_pos h1]
  have d0 : (f.1 == 0) = true := by simpa using h0
  have d1 : (ck != 0) = false := by simpa using h1
  have HE := hid e
  clear hS hf hck hR e h0 h1 hr hn
  go_enter Try.func22, Try.ntmps22
  go_wp2_with (first | go_big_skip | go_big_guard | (refine wl_alloc (T := 25) hst0 rfl rfl ?_; intro g2 _ hst1; clear hst0) | (refine wl_alloc hst1 rfl rfl ?_; intro g3 _ hst2; clear hst1) | (refine wl_alloc (T := 25) hst2 rfl rfl ?_; intro go _ hst3; clear hst2) | (go_at_call 34; refine (parts_any go _).mono ?_; rintro _ w10 ⟨gp, n0, z0, l0, h0, n1, n2, n3, z3, l3, h3, n4, z4, l4, h4, n5, z5, m5, f5, n6, rfl, hh⟩; have hst4 := St.call hst3 hh; clear hh hst3) | (go_at_call 44; have hSel := (St.sub hst4 ((List.Sublist.trans (List.Sublist.cons_cons _ (List.nil_sublist _)) (List.sublist_append_right _ _)) : List.Sublist [_] _)).selfF; refine (parts_get (σ := OV) (τ := Value × Value) ao n c B (some ⟨gp, 0, none⟩) 7 7 (partsPs n0 z0 l0 h0 n1 n2 n3 z3 l3 h3 n4 z4 l4 h4 n5 z5 m5 f5 n6) (getF B) (ordM go) [go] OV.none (.slice none 0 0, .slice none 0 0) w10 hSel (Rd.old hst4 HR.out) HN.out hb (Rd.blk hst4 (.head _) (Nat.le_refl _) (by decide) rfl rfl) (fun b off hbo => by cases hbo; exact St.apartH hst4) (St.newOff hst4 HR.out (by decide)) rfl rfl (by decide) parts_gfn (parts_gok hBl hst4) (getF_pos B)).mono ?_; rw [← HS.out, ← HF.out]; rintro _ w11 ⟨a1, rfl, hh⟩; have hst5 := St.sub (St.callF [_] (St.front (.blk gp 89 (partsC (partsPs n0 z0 l0 h0 n1 n2 n3 z3 l3 h3 n4 z4 l4 h4 n5 z5 m5 f5 n6)) :: partsBoxes go n0 z0 l0 h0 n1 n2 n3 z3 l3 h3 n4 z4 l4 h4 n5 z5 m5 f5 n6) hst4) hh) (List.Sublist.append (List.Sublist.refl _) (List.sublist_append_right (HA.blk gp 89 (partsC (partsPs n0 z0 l0 h0 n1 n2 n3 z3 l3 h3 n4 z4 l4 h4 n5 z5 m5 f5 n6)) :: partsBoxes go n0 z0 l0 h0 n1 n2 n3 z3 l3 h3 n4 z4 l4 h4 n5 z5 m5 f5 n6) _)); clear hh hst4 hSel) | (refine wl_alloc hst5 rfl rfl ?_; intro g5 w12 hst6; clear hst5) | (refine wl_storeA [] hst6 rfl rfl rfl rfl rfl rfl rfl ?_; intro w13 hst7; clear hst6; obtain ⟨lv, bv⟩ := a1; unfold ordM at hst7; obtain ⟨ab, cb, rfl⟩ := St.rowPSliceF [_] hst7; obtain ⟨al, cl, rfl⟩ := St.rowPSliceF [_, _, _] hst7) | (refine wl_loadE rfl rfl rfl ?_; first | refine ⟨_, Loads.at [] hst7 rfl, ?_⟩) | (refine wl_loadE rfl rfl rfl ?_; refine ⟨_, Loads.whole (T := 25) [_, _] hst7 rfl, ?_⟩) | (go_at_call 15; refine (check_any S.2 al ab S.2.l.length cl S.2.b.length cb _ (Rd.rowP hst7 (.tail _ (.tail _ (.tail _ (.head _))))) rfl rfl (by rw [HS.out]; exact Nat.le_trans (get_len B) (by decide))).mono ?_; rw [← HCK.out]; rintro _ w14 ⟨rfl, h4⟩; have hst8 := St.call0 hst7 h4; clear h4 hst7) | (refine wl_store [] hst8 rfl rfl rfl (v := .int _ _) rfl rfl rfl (by show (1 : Nat) ≤ 2; decide) ?_; intro w15 hst9; clear hst8) | (refine wl_loadE rfl rfl rfl ?_; first | refine ⟨_, Loads.at [] hst9 rfl, ?_⟩))
  have hst10 : St w [] w15 (.blk g5 42 [.int .i64 ck, .int .i64 f.2] :: _) := hst9
  clear hst9
  have hX := hst10.drew
  clear hst10
  refine wp_region_held_drew (S := (fun w' => (loadVarH 42 ⟨g5, 0, none⟩).run Try.prog w' = .ok (.agg (List.toArray ([.int .i64 ck, .int .i64 f.2]))) w' ∧ (loadVarH 25 ⟨go, 0, none⟩).run Try.prog w' = .ok (.agg (List.toArray (S.2.cells (.slice al S.2.l.length cl) (.slice ab S.2.b.length cb)))) w')) (by kernel_rfl) (by exact ⟨ldA ([.int .i64 ck, .int .i64 f.2]) [] hX (rfl) (rfl), ldA (S.2.cells (.slice al S.2.l.length cl) (.slice ab S.2.b.length cb)) [_, _] hX (rfl) (rfl)⟩) (fun hHeld => ?_)
  refine wpAnyH_take (i := 0) (oi := ⟨some 20, _, _, _, _, _⟩) (v := ?_) rfl (by kernel_rfl) (by kernel_rfl) (by kernel_rfl) (fun _ _ _ h => h) (Or.inl ⟨by rfl, ?_⟩) (by assumption) ?_
  rotate_left
  · intro w hSw; (try dsimp only at hSw); go_simp; try with_reducible rfl
  (try simp only [Act.put, List.setIfInBounds_toArray, List.set_cons_zero, List.set_cons_succ])
  refine wpAnyH_take (i := 1) (oi := ⟨some 21, _, _, _, _, _⟩) (v := ?_) rfl (by kernel_rfl) (by kernel_rfl) (by kernel_rfl) (fun _ _ _ h => h) (Or.inl ⟨by rfl, ?_⟩) (by assumption) ?_
  rotate_left
  · intro w hSw; (try dsimp only at hSw); go_simp; try with_reducible rfl
  (try simp only [Act.put, List.setIfInBounds_toArray, List.set_cons_zero, List.set_cons_succ])
  refine wpAnyH_ready (rs := [2]) (by kernel_rfl) (by simp) ?_
  refine (AllReadyH.cons (o := ⟨none, _, _, _, _, _⟩) rfl (fun K hK => ?_) AllReadyH.nil)
  rw [if_pos (by rfl)]
  refine ow_of_wl (ops := #[]) (by rfl) ?_
  refine wl_storeA [_, _, _, _, _] hX rfl rfl rfl rfl rfl rfl rfl ?_
  intro w25 hZ5
  refine q0_nil ?_
  refine hK.out _ _ ?_ (fun hHeld => ?_)
  · exact ⟨ldA ([.int .i64 ck, .int .i64 f.2]) [] hZ5 (rfl) (rfl), ldA (S.2.cells (.slice al S.2.l.length cl) (.slice ab S.2.b.length cb)) [_, _] hZ5 (rfl) (rfl)⟩
  clear hK K
  (try simp only [Act.put, List.setIfInBounds_toArray, List.set_cons_zero, List.set_cons_succ])
  refine wpAnyH_ready (rs := [3]) (by kernel_rfl) (by simp) ?_
  refine (AllReadyH.cons (o := ⟨none, _, _, _, _, _⟩) rfl (fun K hK => ?_) AllReadyH.nil)
  rw [if_pos (by rfl)]
  refine ow_of_wl (ops := #[]) (by rfl) ?_
  refine wl_storeA [_, _, _, _] hZ5 rfl rfl rfl rfl rfl rfl rfl ?_
  intro w24 hZ4
  refine q0_nil ?_
  refine hK.out _ _ ?_ (fun hHeld => ?_)
  · exact ⟨ldA ([.int .i64 ck, .int .i64 f.2]) [] hZ4 (rfl) (rfl), ldA (S.2.cells (.slice al S.2.l.length cl) (.slice ab S.2.b.length cb)) [_, _] hZ4 (rfl) (rfl)⟩
  clear hK K
  (try simp only [Act.put, List.setIfInBounds_toArray, List.set_cons_zero, List.set_cons_succ])
  refine wpAnyH_done (by kernel_rfl) ?_ _
  clear hHeld
  go_wp2_with (first | go_big_skip | go_big_guard | fail)
  refine bodyPost_ret (results_cell2L rfl rfl rfl (Loads.whole (T := 25) [_, _, _, _, _] hZ4 rfl) (Loads.whole (T := 42) [_, _, _, _] hZ4 rfl)) rfl ?_
  rw [HE.out]
  refine ⟨_, _, rfl, ?_⟩
  exact St.sub (St.front (L1 := [_, _, _, _, _]) (St.front (L1 := [_, _, _, _]) (St.front (L1 := [_, _, _]) (St.front (L1 := [_, _, _, _]) (St.front (L1 := [_, _, _, _, _]) (St.front (L1 := [_, _, _, _, _]) hZ4)))))) (.cons_cons _ (.cons_cons _ (List.nil_sublist _)))
theorem oget_any (ao : Option Addr) (n c : Nat) (B : List UInt8) (w : World) (hr : Rd w (.slice ao n c) 1 n (bytesV B)) (hn : B.length = n) (hb : n ≤ 100000) :
    Calls Try.prog 22 #[.slice ao n c] w (GetP w (getO B)) := by
  by_cases h0 : (endR B (goAll ((⟨0, 0, 0⟩, OV.none) : RS × OV) (getF B)).1).1 = 0
  · by_cases h1 : (goAll ((⟨0, 0, 0⟩, OV.none) : RS × OV) (getF B)).2.check = 0
    · exact oget_ok ao n c B w hr hn hb h0 h1
    · exact oget_odd ao n c B w hr hn hb h0 h1
  · exact oget_bad ao n c B w hr hn hb h0
end
end Go.Proofs.Ytalfdcfcaamnbaa
namespace Go.Proofs.Ytalfdcfcaamnbaa
set_option linter.unusedVariables false
set_option linter.unusedSimpArgs false
open Go.RowKit Hp
attribute [local irreducible] Go.Calls Go.wpList
set_option maxRecDepth 100000
set_option maxHeartbeats 4000000
/-- The chapter's order. -/
def mkO : OV := ⟨1, 4, 0, [97], [], [], []⟩
theorem mkO_ok : mkO.Ok := ⟨by decide, by decide, by decide, by decide, by decide, by decide, by decide, by decide⟩
def mkB : List UInt8 := [1, 1, 97] ++ (List.replicate 97 0 ++ [0, 0, 4, 0, 0, 0, 0, 0, 0, 0, 0])
theorem mkO_put : putO mkO = (0, mkB) := by decide +kernel
theorem mkB_get : getO mkB = (mkO, 0, 0) := by kernel_rfl
theorem usesC_freed : usesC 11 = [.bool false, .bool false, .bool false, .bool false, .bool true, .bool false] := by kernel_rfl
end Go.Proofs.Ytalfdcfcaamnbaa
