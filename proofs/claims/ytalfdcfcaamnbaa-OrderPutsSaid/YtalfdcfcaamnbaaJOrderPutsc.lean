/- PROVED: the law OrderPuts returns true at any input, and nothing that was there has turned. No condition. -/
import Derived.Test.YtalfdcfcaamnbaaJOrderPutsa
import Derived.Test.YtalfdcfcaamnbaaKB
import Derived.Test.YtalfdcfcaamnbaaJOrderPutsb
import Derived.Test.YtalfdcfcaamnbaaSepX
import Derived.Test.YtalfdcfcaamnbaaPost
import Derived.Lib.SmallJoins
import Derived.Deep.SlicePairs
import Derived.Deep.Slices
namespace Go.Proofs.Ytalfdcfcaamnbaa
set_option linter.unusedVariables false
set_option linter.unusedSimpArgs false
open Go.RowKit Hp
attribute [local irreducible] Go.Calls Go.wpList
set_option maxRecDepth 100000
set_option maxHeartbeats 4000000
theorem isS_spec {v : Value} (h : isS v = true) : ∃ l : List UInt8, v = .string ⟨l.toArray⟩ ∧ l.length ≤ 1000 := by
  unfold isS at h
  split at h
  · rename_i s
    exact ⟨s.data.toList, rfl, by rw [Array.length_toList]; exact of_decide_eq_true h⟩
  · cases h
theorem overT_none (w : World) : Calls Try.prog 24 #[.slice none 0 0] w fun e w' => e = .returned (.tuple #[]) ∧ St w [] w' [] := by
  have hst := St.refl w
  go_enter Try.func24, Try.ntmps24
  go_wp2_with (first | go_big_skip | go_big_guard | fail)
  go_loopw [3] (fun i wr => i = .int .i64 0 ∧ St w [] wr []) (fun i _ => 0)
  case atStart => exact ⟨rfl, hst⟩
  case round =>
    clear hst
    obtain ⟨rfl, hst⟩ := hrel
    go_wp2_with (first | go_big_skip | go_big_guard | fail)
    go_end0
    exact ⟨rfl, hst⟩
theorem overT_blk (g n c : Nat) (cs : List Value) (w : World) (hg : w.heap[g]? = some (.cells cs.toArray 9 (0, 0))) (hc : cs.length = c) (hn : n ≤ c) (hb : c ≤ 9223372036854775807) (hp : cs.all isS = true) :
    Calls Try.prog 24 #[.slice (some ⟨g, 0, none⟩) n c] w fun e w' => e = .returned (.tuple #[]) ∧ ∃ cs', St w [g] w' [.blk g 9 cs'] := by
  have hst := St.one w g _ _ hg
  have HC := hid hc
  have HP := hid hp
  clear hc hp hg
  go_enter Try.func24, Try.ntmps24
  go_wp2_with (first | go_big_skip | go_big_guard | fail)
  go_loopw [3] (fun i wr => ∃ (k : Nat) (ds : List Value), k ≤ c ∧ i = .int .i64 k ∧ St w [g] wr [.blk g 9 ds] ∧ Hid (ds.length = c) ∧ Hid ((ds.drop k).all isS = true)) (fun i _ => c - (intOf i).toNat)
  case atStart => exact ⟨0, cs, by omega, rfl, hst, HC, by rw [List.drop_zero]; exact HP⟩
  case round =>
    clear hst HC HP
    obtain ⟨k, ds, hk, rfl, hst, HC, HP⟩ := hrel
    by_cases hlt : k < c
    · have hkl : k < ds.length := by rw [HC.out]; exact hlt
      obtain ⟨x, hx⟩ : ∃ x, ds[k]? = some x := ⟨_, List.getElem?_eq_getElem hkl⟩
      obtain ⟨l, rfl, hll⟩ := isS_spec (List.all_eq_true.1 HP.out x (by rw [List.drop_eq_getElem_cons hkl]; rw [List.getElem?_eq_getElem hkl] at hx; cases hx; exact List.mem_cons_self))
      have hl9 : ¬ 9223372036854775807 < l.length + 1 := by omega
      have HX := hid hx
      have HK := hid hkl
      have z1 : IntKind.i64.wrap ((k : Int) + 1) = (k : Int) + 1 := IntWalk.i64_in _ (by omega)
      clear hx hkl
      go_wp2_with (first | go_big_skip | go_big_guard | (refine wl_index rfl rfl rfl rfl hlt ?_) | (refine wl_loadE rfl rfl rfl ?_; refine ⟨_, Loads.at [] hst (by simpa using HX.out), ?_⟩) | (refine wl_store [] hst rfl rfl rfl (v := .string _) rfl rfl rfl (by simp [Value.cells]; exact HK.out) ?_; intro w5 hst4; clear hst))
      go_roundw
      case rel =>
        refine ⟨k + 1, _, by omega, by go_num, hst4, hid ?_, hid ?_⟩
        · rw [Nat.zero_add, Nat.mul_one]
          exact (putAt_len HK.out).trans HC.out
        · rw [Nat.zero_add, Nat.mul_one]
          have hp := HP.out
          show ((putAt ds k [_]).drop (k + 1)).all isS = true
          rw [putAt_one HK.out, List.drop_set_of_lt (by omega)]
          rw [List.drop_eq_getElem_cons HK.out, List.all_cons, Bool.and_eq_true] at hp
          exact hp.2
      case measure => simp [intOf]; omega
    · have e : k = c := by omega
      subst e
      go_wp2_with (first | go_big_skip | go_big_guard | fail)
      go_end0
      exact ⟨rfl, ds, hst⟩
theorem overT_rowP (v : Value) (n : Nat) (xs : List Value) (w : World) (hv : w.ownsRow 0 9 1 v n xs) (hp : AllP isS w v 9) :
    Calls Try.prog 24 #[v] w fun e w' => e = .returned (.tuple #[]) ∧ St w v.ownBlock.toList w' [] := by
  have hst := St.ofRowP (p := isS) w hv hp
  rcases St.openP (L1 := []) hst with ⟨rfl, rfl, rfl, _⟩ | ⟨g, cap, cs, rfl, h1, h2, h3, _, h5, h6⟩
  · exact overT_none w
  · rw [Nat.mul_one] at h3
    refine (overT_blk g n cap cs w (h6.all _ (.head _)) h3 h1 h2 h5).mono ?_
    rintro e w' ⟨he, cs', hh⟩
    exact ⟨he, hh.nil⟩
end Go.Proofs.Ytalfdcfcaamnbaa
namespace Go.Proofs.Ytalfdcfcaamnbaa
set_option linter.unusedVariables false
set_option linter.unusedSimpArgs false
open Go.RowKit Hp
attribute [local irreducible] Go.Calls Go.wpList Hp.gvV Hp.gB Hp.gA Hp.bOr Hp.bAnd Hp.bNot
set_option maxRecDepth 100000
set_option maxHeartbeats 4000000
def tooLong (x : List UInt8) : Bool := decide ((100 : Int) < (x.length : Int))
/-- LongOrder. -/
def OV.long (o : OV) (nl nb : Nat) : Bool := (o.l.take 31).any tooLong || (((decide ((100 : Int) < (o.name.length : Int)) || decide ((100 : Int) < (o.dest.length : Int))) || decide ((30 : Int) < (nl : Int))) || decide ((17000 : Int) < (nb : Int)))
theorem OV.short {o : OV} {nl nb : Nat} (hl : o.l.length = nl) (h : o.long nl nb = false) : o.name.length ≤ 100 ∧ o.dest.length ≤ 100 ∧ nl ≤ 30 ∧ nb ≤ 17000 ∧ ∀ x ∈ o.l, x.length ≤ 100 := by
  unfold OV.long at h
  simp only [Bool.or_eq_false_iff, decide_eq_false_iff_not] at h
  obtain ⟨h1, ⟨⟨h2, h3⟩, h4⟩, h5⟩ := h
  have h6 : nl ≤ 30 := by omega
  refine ⟨by omega, by omega, h6, by omega, fun x hx => ?_⟩
  rw [List.take_of_length_le (by omega), List.any_eq_false] at h1
  have := h1 x hx
  unfold tooLong at this
  simp only [decide_eq_true_eq] at this
  omega
theorem longOrder_any (o : OV) (al ab : Option Addr) (nl cl nb cb : Nat) (w : World) (hl : Rd w (.slice al nl cl) 1 nl (strsV o.l)) (hnl : o.l.length = nl) :
    Calls Try.prog 9 #[.agg (o.cells (.slice al nl cl) (.slice ab nb cb)).toArray] w fun e w' => e = .returned (.bool (o.long nl nb)) ∧ St w [] w' [] := by
  have hst0 := St.refl w
  have HL := hid hl
  have HLn := hid hnl
  have hb1 := hl.bd.1
  have hb2 := hl.bd.2.1
  obtain ⟨R, hR⟩ : ∃ R, R = o.long nl nb := ⟨_, rfl⟩
  have HR := hid hR
  rw [← hR]
  have hsz : ∀ x : List UInt8, (⟨x.toArray⟩ : ByteArray).size = x.length := fun x => by simp [ByteArray.size]
  clear hl hnl hR
  show Calls Try.prog 9 #[.agg (List.toArray [.int .i64 o.op, .string ⟨o.name.toArray⟩, .string ⟨o.dest.toArray⟩, .int .i64 o.n, .int .i64 o.m, .slice al nl cl, .slice ab nb cb])] w _
  go_enter Try.func9, Try.ntmps9
  go_wp2_with (first | go_big_skip | go_big_guard | (refine wl_boxA hst0 rfl rfl rfl ?_; intro g1 _ hst; clear hst0))
  go_loopw [3] (fun i wr => ∃ j : Nat, j ≤ nl ∧ j ≤ 31 ∧ i = .int .i64 (j : Int) ∧ St w [] wr [.blk g1 25 [.int .i64 o.op, .string ⟨o.name.toArray⟩, .string ⟨o.dest.toArray⟩, .int .i64 o.n, .int .i64 o.m, .slice al nl cl, .slice ab nb cb]] ∧ Hid (∀ x ∈ o.l.take j, tooLong x = false)) (fun i _ => nl - (intOf i).toNat)
  case atStart => exact ⟨0, Nat.zero_le _, by decide, rfl, hst, hid (by simp)⟩
  case round =>
    clear hst
    obtain ⟨j, hj, hj31, rfl, hst, HP⟩ := hrel
    by_cases hgo : j < nl ∧ j < 31
    · have hlt := hgo.1
      have h31 := hgo.2
      have d1 : decide ((j : Int) < (nl : Int)) = true := decide_eq_true (by omega)
      have d3 : decide ((j : Int) < (31 : Int)) = true := decide_eq_true (by omega)
      have z1 : IntKind.i64.wrap ((j : Int) + 1) = (j : Int) + 1 := IntWalk.i64_in _ (by omega)
      have hjl : j < o.l.length := by rw [HLn.out]; exact hlt
      obtain ⟨x, hx⟩ : ∃ x, o.l[j]? = some x := ⟨_, List.getElem?_eq_getElem hjl⟩
      have HX := hid hx
      obtain ⟨b, off, rfl, hr⟩ := Rd.at HL.out hlt
      have hcell := hid (show w.cell? ⟨b, off + j, none⟩ = some (.string ⟨x.toArray⟩) from hr j _ (strsV_get hx))
      have HS := hid (hsz x)
      obtain ⟨q5, hq5⟩ : ∃ q, q = tooLong x := ⟨_, rfl⟩
      have HQ := hid hq5
      have d2 : decide ((100 : Int) < (x.length : Int)) = q5 := by rw [hq5]; unfold tooLong; rfl
      clear hx hq5 hr hjl hgo
      cases q5
      · go_wp2_with (first | go_big_skip | go_big_guard | (refine wl_loadE rfl rfl rfl ?_; first | refine ⟨_, Loads.at [] hst rfl, ?_⟩) | (refine wl_index rfl rfl rfl rfl hlt ?_) | (refine wl_loadE rfl rfl rfl ?_; refine ⟨_, Loads.old hst (by rw [Nat.mul_one]; exact hcell.out), ?_⟩))
        go_roundw
        case rel =>
          refine ⟨j + 1, by omega, by omega, rfl, hst, hid (fun y hy => ?_)⟩
          rw [List.take_add_one, HX.out] at hy
          rcases List.mem_append.1 hy with hy | hy
          · exact HP.out y hy
          · simp at hy
            rw [hy, ← HQ.out]
        case measure => simp [intOf]; omega
      · go_wp2_with (first | go_big_skip | go_big_guard | (refine wl_loadE rfl rfl rfl ?_; first | refine ⟨_, Loads.at [] hst rfl, ?_⟩) | (refine wl_index rfl rfl rfl rfl hlt ?_) | (refine wl_loadE rfl rfl rfl ?_; refine ⟨_, Loads.old hst (by rw [Nat.mul_one]; exact hcell.out), ?_⟩))
        go_ret
        refine ⟨congrArg (fun z => Ending.returned (Value.bool z)) (?_ : (_ : Bool) = R), hst.nil⟩
        have hany : (o.l.take 31).any tooLong = true := List.any_eq_true.2 ⟨x, List.mem_of_getElem? (show (o.l.take 31)[j]? = some x by rw [List.getElem?_take_of_lt (by omega)]; exact HX.out), HQ.out.symm⟩
        rw [HR.out]
        unfold OV.long
        rw [hany, Bool.true_or]
    · by_cases hlt : j < nl
      · have d1 : decide ((j : Int) < (nl : Int)) = true := decide_eq_true (by omega)
        have d3 : decide ((j : Int) < (31 : Int)) = false := decide_eq_false (by omega)
        have hany : (o.l.take 31).any tooLong = false := by
          rw [List.any_eq_false]
          intro x hx
          rw [HP.out x (by rw [show o.l.take j = o.l.take 31 from (by congr 1; omega)]; exact hx)]
          exact Bool.false_ne_true
        have HN := hid hany
        clear hany hgo hlt
        go_wp2_with (first | go_big_skip | (show wpList _ _ _ (Oper.mk _ (.fieldAddr _ _ _) _ _ _ (some _) :: _) _ _; refine wl_gfld1 rfl (by first | exact wanted_b rfl rfl | exact wanted_g rfl rfl) (by first | exact (fun hg => gvV_on hg) | exact (fun hg => gvV_gA hg) | exact (fun _ => rfl)) (by kernel_rfl) ?_; (try simp only [Act.put, List.setIfInBounds_toArray, List.set_cons_zero, List.set_cons_succ])) | (show wpList _ _ _ (Oper.mk _ (.load _ _) _ _ _ (some _) :: _) _ _; refine wl_gloadE rfl (by first | exact wanted_b rfl rfl | exact wanted_g rfl rfl) (by first | exact (fun hg => gvV_on hg) | exact (fun hg => gvV_gA hg) | exact (fun _ => rfl)) ?_; (first | refine ⟨_, Loads.at [] hst rfl, ?_⟩); (try simp only [Act.put, List.setIfInBounds_toArray, List.set_cons_zero, List.set_cons_succ]); (repeat ((first | (show wpList _ _ _ (Oper.mk _ (.move _) _ _ _ none :: _) _ _; refine wl_mv rfl rfl rfl ?_) | (show wpList _ _ _ (Oper.mk _ (.pick _ _ _) _ _ _ none :: _) _ _; (first | (refine wl_pickOr rfl rfl rfl rfl rfl ?_; intro q hq) | (refine wl_pickAnd rfl rfl rfl rfl rfl ?_; intro q hq))) | (show wpList _ _ _ (Oper.mk _ (.pick _ _ _) _ _ _ (some _) :: _) _ _; (first | (refine wl_gpickOr rfl (by first | exact wanted_b rfl rfl | exact wanted_g rfl rfl) rfl rfl rfl ?_; intro q hq) | (refine wl_gpickAnd rfl (by first | exact wanted_b rfl rfl | exact wanted_g rfl rfl) rfl rfl rfl ?_; intro q hq))) | (show wpList _ _ _ (Oper.mk _ (.move _) _ _ _ (some _) :: _) _ _; refine wl_gmove rfl (by first | exact wanted_b rfl rfl | exact wanted_g rfl rfl) (by first | exact (fun hg => gvV_on hg) | exact (fun hg => gvV_gA hg) | exact (fun _ => rfl)) ?_)); (try simp only [Act.put, List.setIfInBounds_toArray, List.set_cons_zero, List.set_cons_succ])))) | (show wpList _ _ _ (Oper.mk _ (.binOp _ 3 _ _ _) _ _ _ (some _) :: _) _ _; refine wl_gcmp rfl (by first | exact wanted_b rfl rfl | exact wanted_g rfl rfl) (by first | exact (fun hg => gvV_on hg) | exact (fun hg => gvV_gA hg) | exact (fun _ => rfl)) (by first | exact (fun hg => gvV_on hg) | exact (fun hg => gvV_gA hg) | exact (fun _ => rfl)) rfl ?_; (try simp only [Act.put, List.setIfInBounds_toArray, List.set_cons_zero, List.set_cons_succ]); (repeat ((first | (show wpList _ _ _ (Oper.mk _ (.move _) _ _ _ none :: _) _ _; refine wl_mv rfl rfl rfl ?_) | (show wpList _ _ _ (Oper.mk _ (.pick _ _ _) _ _ _ none :: _) _ _; (first | (refine wl_pickOr rfl rfl rfl rfl rfl ?_; intro q hq) | (refine wl_pickAnd rfl rfl rfl rfl rfl ?_; intro q hq))) | (show wpList _ _ _ (Oper.mk _ (.pick _ _ _) _ _ _ (some _) :: _) _ _; (first | (refine wl_gpickOr rfl (by first | exact wanted_b rfl rfl | exact wanted_g rfl rfl) rfl rfl rfl ?_; intro q hq) | (refine wl_gpickAnd rfl (by first | exact wanted_b rfl rfl | exact wanted_g rfl rfl) rfl rfl rfl ?_; intro q hq))) | (show wpList _ _ _ (Oper.mk _ (.move _) _ _ _ (some _) :: _) _ _; refine wl_gmove rfl (by first | exact wanted_b rfl rfl | exact wanted_g rfl rfl) (by first | exact (fun hg => gvV_on hg) | exact (fun hg => gvV_gA hg) | exact (fun _ => rfl)) ?_)); (try simp only [Act.put, List.setIfInBounds_toArray, List.set_cons_zero, List.set_cons_succ])))) | (show wpList _ _ _ (Oper.mk _ (.binOp .neq 9 _ _ _) _ _ _ (some _) :: _) _ _; refine wl_gneqS rfl (by first | exact wanted_b rfl rfl | exact wanted_g rfl rfl) (by first | exact (fun hg => gvV_on hg) | exact (fun hg => gvV_gA hg) | exact (fun _ => rfl)) (by first | exact (fun hg => gvV_on hg) | exact (fun hg => gvV_gA hg) | exact (fun _ => rfl)) ?_; (try simp only [Act.put, List.setIfInBounds_toArray, List.set_cons_zero, List.set_cons_succ]); (repeat ((first | (show wpList _ _ _ (Oper.mk _ (.move _) _ _ _ none :: _) _ _; refine wl_mv rfl rfl rfl ?_) | (show wpList _ _ _ (Oper.mk _ (.pick _ _ _) _ _ _ none :: _) _ _; (first | (refine wl_pickOr rfl rfl rfl rfl rfl ?_; intro q hq) | (refine wl_pickAnd rfl rfl rfl rfl rfl ?_; intro q hq))) | (show wpList _ _ _ (Oper.mk _ (.pick _ _ _) _ _ _ (some _) :: _) _ _; (first | (refine wl_gpickOr rfl (by first | exact wanted_b rfl rfl | exact wanted_g rfl rfl) rfl rfl rfl ?_; intro q hq) | (refine wl_gpickAnd rfl (by first | exact wanted_b rfl rfl | exact wanted_g rfl rfl) rfl rfl rfl ?_; intro q hq))) | (show wpList _ _ _ (Oper.mk _ (.move _) _ _ _ (some _) :: _) _ _; refine wl_gmove rfl (by first | exact wanted_b rfl rfl | exact wanted_g rfl rfl) (by first | exact (fun hg => gvV_on hg) | exact (fun hg => gvV_gA hg) | exact (fun _ => rfl)) ?_)); (try simp only [Act.put, List.setIfInBounds_toArray, List.set_cons_zero, List.set_cons_succ])))) | (show wpList _ _ _ (Oper.mk _ (.binOp .eql 9 _ _ _) _ _ _ (some _) :: _) _ _; refine wl_geqS rfl (by first | exact wanted_b rfl rfl | exact wanted_g rfl rfl) (by first | exact (fun hg => gvV_on hg) | exact (fun hg => gvV_gA hg) | exact (fun _ => rfl)) (by first | exact (fun hg => gvV_on hg) | exact (fun hg => gvV_gA hg) | exact (fun _ => rfl)) ?_; (try simp only [Act.put, List.setIfInBounds_toArray, List.set_cons_zero, List.set_cons_succ]); (repeat ((first | (show wpList _ _ _ (Oper.mk _ (.move _) _ _ _ none :: _) _ _; refine wl_mv rfl rfl rfl ?_) | (show wpList _ _ _ (Oper.mk _ (.pick _ _ _) _ _ _ none :: _) _ _; (first | (refine wl_pickOr rfl rfl rfl rfl rfl ?_; intro q hq) | (refine wl_pickAnd rfl rfl rfl rfl rfl ?_; intro q hq))) | (show wpList _ _ _ (Oper.mk _ (.pick _ _ _) _ _ _ (some _) :: _) _ _; (first | (refine wl_gpickOr rfl (by first | exact wanted_b rfl rfl | exact wanted_g rfl rfl) rfl rfl rfl ?_; intro q hq) | (refine wl_gpickAnd rfl (by first | exact wanted_b rfl rfl | exact wanted_g rfl rfl) rfl rfl rfl ?_; intro q hq))) | (show wpList _ _ _ (Oper.mk _ (.move _) _ _ _ (some _) :: _) _ _; refine wl_gmove rfl (by first | exact wanted_b rfl rfl | exact wanted_g rfl rfl) (by first | exact (fun hg => gvV_on hg) | exact (fun hg => gvV_gA hg) | exact (fun _ => rfl)) ?_)); (try simp only [Act.put, List.setIfInBounds_toArray, List.set_cons_zero, List.set_cons_succ])))) | (show wpList _ _ _ (Oper.mk _ (.binOp .neq 9 _ _ _) _ _ _ none :: _) _ _; refine wl_neqS rfl rfl rfl rfl ?_; (try simp only [Act.put, List.setIfInBounds_toArray, List.set_cons_zero, List.set_cons_succ]); (repeat ((first | (show wpList _ _ _ (Oper.mk _ (.move _) _ _ _ none :: _) _ _; refine wl_mv rfl rfl rfl ?_) | (show wpList _ _ _ (Oper.mk _ (.pick _ _ _) _ _ _ none :: _) _ _; (first | (refine wl_pickOr rfl rfl rfl rfl rfl ?_; intro q hq) | (refine wl_pickAnd rfl rfl rfl rfl rfl ?_; intro q hq))) | (show wpList _ _ _ (Oper.mk _ (.pick _ _ _) _ _ _ (some _) :: _) _ _; (first | (refine wl_gpickOr rfl (by first | exact wanted_b rfl rfl | exact wanted_g rfl rfl) rfl rfl rfl ?_; intro q hq) | (refine wl_gpickAnd rfl (by first | exact wanted_b rfl rfl | exact wanted_g rfl rfl) rfl rfl rfl ?_; intro q hq))) | (show wpList _ _ _ (Oper.mk _ (.move _) _ _ _ (some _) :: _) _ _; refine wl_gmove rfl (by first | exact wanted_b rfl rfl | exact wanted_g rfl rfl) (by first | exact (fun hg => gvV_on hg) | exact (fun hg => gvV_gA hg) | exact (fun _ => rfl)) ?_)); (try simp only [Act.put, List.setIfInBounds_toArray, List.set_cons_zero, List.set_cons_succ])))) | (show wpList _ _ _ (Oper.mk _ (.binOp .eql 9 _ _ _) _ _ _ none :: _) _ _; refine wl_eqS rfl rfl rfl rfl ?_; (try simp only [Act.put, List.setIfInBounds_toArray, List.set_cons_zero, List.set_cons_succ]); (repeat ((first | (show wpList _ _ _ (Oper.mk _ (.move _) _ _ _ none :: _) _ _; refine wl_mv rfl rfl rfl ?_) | (show wpList _ _ _ (Oper.mk _ (.pick _ _ _) _ _ _ none :: _) _ _; (first | (refine wl_pickOr rfl rfl rfl rfl rfl ?_; intro q hq) | (refine wl_pickAnd rfl rfl rfl rfl rfl ?_; intro q hq))) | (show wpList _ _ _ (Oper.mk _ (.pick _ _ _) _ _ _ (some _) :: _) _ _; (first | (refine wl_gpickOr rfl (by first | exact wanted_b rfl rfl | exact wanted_g rfl rfl) rfl rfl rfl ?_; intro q hq) | (refine wl_gpickAnd rfl (by first | exact wanted_b rfl rfl | exact wanted_g rfl rfl) rfl rfl rfl ?_; intro q hq))) | (show wpList _ _ _ (Oper.mk _ (.move _) _ _ _ (some _) :: _) _ _; refine wl_gmove rfl (by first | exact wanted_b rfl rfl | exact wanted_g rfl rfl) (by first | exact (fun hg => gvV_on hg) | exact (fun hg => gvV_gA hg) | exact (fun _ => rfl)) ?_)); (try simp only [Act.put, List.setIfInBounds_toArray, List.set_cons_zero, List.set_cons_succ])))) | (show wpList _ _ _ (Oper.mk _ (.call (Call.mk (.builtin .len) _ #[9])) _ _ _ (some _) :: _) _ _; refine wl_glenS rfl (by first | exact wanted_b rfl rfl | exact wanted_g rfl rfl) (by first | exact (fun hg => gvV_on hg) | exact (fun hg => gvV_gA hg) | exact (fun _ => rfl)) ?_; (try simp only [Act.put, List.setIfInBounds_toArray, List.set_cons_zero, List.set_cons_succ])) | (show wpList _ _ _ (Oper.mk _ (.call (Call.mk (.builtin .len) _ #[23])) _ _ _ (some _) :: _) _ _; refine wl_glen rfl (by first | exact wanted_b rfl rfl | exact wanted_g rfl rfl) (by first | exact (fun hg => gvV_on hg) | exact (fun hg => gvV_gA hg) | exact (fun _ => rfl)) ?_; (try simp only [Act.put, List.setIfInBounds_toArray, List.set_cons_zero, List.set_cons_succ])) | (show wpList _ _ _ (Oper.mk _ (.call (Call.mk (.builtin .len) _ #[22])) _ _ _ (some _) :: _) _ _; refine wl_glen rfl (by first | exact wanted_b rfl rfl | exact wanted_g rfl rfl) (by first | exact (fun hg => gvV_on hg) | exact (fun hg => gvV_gA hg) | exact (fun _ => rfl)) ?_; (try simp only [Act.put, List.setIfInBounds_toArray, List.set_cons_zero, List.set_cons_succ])) | (show wpList _ _ _ (Oper.mk _ (.unOp .not _ _) _ _ _ (some _) :: _) _ _; refine wl_gnot rfl (by first | exact wanted_b rfl rfl | exact wanted_g rfl rfl) (by first | exact (fun hg => gvV_on hg) | exact (fun hg => gvV_gA hg) | exact (fun _ => rfl)) ?_; (try simp only [Act.put, List.setIfInBounds_toArray, List.set_cons_zero, List.set_cons_succ]); (repeat ((first | (show wpList _ _ _ (Oper.mk _ (.move _) _ _ _ none :: _) _ _; refine wl_mv rfl rfl rfl ?_) | (show wpList _ _ _ (Oper.mk _ (.pick _ _ _) _ _ _ none :: _) _ _; (first | (refine wl_pickOr rfl rfl rfl rfl rfl ?_; intro q hq) | (refine wl_pickAnd rfl rfl rfl rfl rfl ?_; intro q hq))) | (show wpList _ _ _ (Oper.mk _ (.pick _ _ _) _ _ _ (some _) :: _) _ _; (first | (refine wl_gpickOr rfl (by first | exact wanted_b rfl rfl | exact wanted_g rfl rfl) rfl rfl rfl ?_; intro q hq) | (refine wl_gpickAnd rfl (by first | exact wanted_b rfl rfl | exact wanted_g rfl rfl) rfl rfl rfl ?_; intro q hq))) | (show wpList _ _ _ (Oper.mk _ (.move _) _ _ _ (some _) :: _) _ _; refine wl_gmove rfl (by first | exact wanted_b rfl rfl | exact wanted_g rfl rfl) (by first | exact (fun hg => gvV_on hg) | exact (fun hg => gvV_gA hg) | exact (fun _ => rfl)) ?_)); (try simp only [Act.put, List.setIfInBounds_toArray, List.set_cons_zero, List.set_cons_succ])))) | (refine wl_loadE rfl rfl rfl ?_; first | refine ⟨_, Loads.at [] hst rfl, ?_⟩))
        all_goals try (exfalso; clear hst HR HLn HN HP HL; simp only [hid_iff, bNot_eq] at *; simp_all only [Bool.true_and, Bool.false_and, Bool.and_true, Bool.and_false, Bool.false_eq_true, Bool.true_eq_false]; done)
        all_goals try (exfalso; have d5 := of_decide_eq_false d1; omega)
        all_goals go_ret
        all_goals refine ⟨congrArg (fun z => Ending.returned (Value.bool z)) (?_ : (_ : Bool) = R), hst.nil⟩
        all_goals
          have hR := HR.out
          have hN := HN.out
          have eC : o.long nl nb = ((o.l.take 31).any tooLong || (((decide ((100 : Int) < (o.name.length : Int)) || decide ((100 : Int) < (o.dest.length : Int))) || decide ((30 : Int) < (nl : Int))) || decide ((17000 : Int) < (nb : Int)))) := rfl
          rw [eC, hN] at hR
          clear HR HLn HN HP hst HL hN eC hsz hb1 hb2 hj hj31
          simp only [hid_iff, bNot_eq] at *
          simp_all only [Bool.false_or, Bool.true_or, if_true, if_false, Bool.false_eq_true]
      · have d1 : decide ((j : Int) < (nl : Int)) = false := decide_eq_false (by omega)
        have hany : (o.l.take 31).any tooLong = false := by
          rw [List.any_eq_false]
          intro x hx
          rw [HP.out x (by rw [show o.l.take j = o.l.take 31 from (by rw [List.take_of_length_le (by rw [HLn.out]; omega), List.take_of_length_le (by rw [HLn.out]; omega)])]; exact hx)]
          exact Bool.false_ne_true
        have HN := hid hany
        clear hany hgo hlt
        go_wp2_with (first | go_big_skip | (show wpList _ _ _ (Oper.mk _ (.fieldAddr _ _ _) _ _ _ (some _) :: _) _ _; refine wl_gfld1 rfl (by first | exact wanted_b rfl rfl | exact wanted_g rfl rfl) (by first | exact (fun hg => gvV_on hg) | exact (fun hg => gvV_gA hg) | exact (fun _ => rfl)) (by kernel_rfl) ?_; (try simp only [Act.put, List.setIfInBounds_toArray, List.set_cons_zero, List.set_cons_succ])) | (show wpList _ _ _ (Oper.mk _ (.load _ _) _ _ _ (some _) :: _) _ _; refine wl_gloadE rfl (by first | exact wanted_b rfl rfl | exact wanted_g rfl rfl) (by first | exact (fun hg => gvV_on hg) | exact (fun hg => gvV_gA hg) | exact (fun _ => rfl)) ?_; (first | refine ⟨_, Loads.at [] hst rfl, ?_⟩); (try simp only [Act.put, List.setIfInBounds_toArray, List.set_cons_zero, List.set_cons_succ]); (repeat ((first | (show wpList _ _ _ (Oper.mk _ (.move _) _ _ _ none :: _) _ _; refine wl_mv rfl rfl rfl ?_) | (show wpList _ _ _ (Oper.mk _ (.pick _ _ _) _ _ _ none :: _) _ _; (first | (refine wl_pickOr rfl rfl rfl rfl rfl ?_; intro q hq) | (refine wl_pickAnd rfl rfl rfl rfl rfl ?_; intro q hq))) | (show wpList _ _ _ (Oper.mk _ (.pick _ _ _) _ _ _ (some _) :: _) _ _; (first | (refine wl_gpickOr rfl (by first | exact wanted_b rfl rfl | exact wanted_g rfl rfl) rfl rfl rfl ?_; intro q hq) | (refine wl_gpickAnd rfl (by first | exact wanted_b rfl rfl | exact wanted_g rfl rfl) rfl rfl rfl ?_; intro q hq))) | (show wpList _ _ _ (Oper.mk _ (.move _) _ _ _ (some _) :: _) _ _; refine wl_gmove rfl (by first | exact wanted_b rfl rfl | exact wanted_g rfl rfl) (by first | exact (fun hg => gvV_on hg) | exact (fun hg => gvV_gA hg) | exact (fun _ => rfl)) ?_)); (try simp only [Act.put, List.setIfInBounds_toArray, List.set_cons_zero, List.set_cons_succ])))) | (show wpList _ _ _ (Oper.mk _ (.binOp _ 3 _ _ _) _ _ _ (some _) :: _) _ _; refine wl_gcmp rfl (by first | exact wanted_b rfl rfl | exact wanted_g rfl rfl) (by first | exact (fun hg => gvV_on hg) | exact (fun hg => gvV_gA hg) | exact (fun _ => rfl)) (by first | exact (fun hg => gvV_on hg) | exact (fun hg => gvV_gA hg) | exact (fun _ => rfl)) rfl ?_; (try simp only [Act.put, List.setIfInBounds_toArray, List.set_cons_zero, List.set_cons_succ]); (repeat ((first | (show wpList _ _ _ (Oper.mk _ (.move _) _ _ _ none :: _) _ _; refine wl_mv rfl rfl rfl ?_) | (show wpList _ _ _ (Oper.mk _ (.pick _ _ _) _ _ _ none :: _) _ _; (first | (refine wl_pickOr rfl rfl rfl rfl rfl ?_; intro q hq) | (refine wl_pickAnd rfl rfl rfl rfl rfl ?_; intro q hq))) | (show wpList _ _ _ (Oper.mk _ (.pick _ _ _) _ _ _ (some _) :: _) _ _; (first | (refine wl_gpickOr rfl (by first | exact wanted_b rfl rfl | exact wanted_g rfl rfl) rfl rfl rfl ?_; intro q hq) | (refine wl_gpickAnd rfl (by first | exact wanted_b rfl rfl | exact wanted_g rfl rfl) rfl rfl rfl ?_; intro q hq))) | (show wpList _ _ _ (Oper.mk _ (.move _) _ _ _ (some _) :: _) _ _; refine wl_gmove rfl (by first | exact wanted_b rfl rfl | exact wanted_g rfl rfl) (by first | exact (fun hg => gvV_on hg) | exact (fun hg => gvV_gA hg) | exact (fun _ => rfl)) ?_)); (try simp only [Act.put, List.setIfInBounds_toArray, List.set_cons_zero, List.set_cons_succ])))) | (show wpList _ _ _ (Oper.mk _ (.binOp .neq 9 _ _ _) _ _ _ (some _) :: _) _ _; refine wl_gneqS rfl (by first | exact wanted_b rfl rfl | exact wanted_g rfl rfl) (by first | exact (fun hg => gvV_on hg) | exact (fun hg => gvV_gA hg) | exact (fun _ => rfl)) (by first | exact (fun hg => gvV_on hg) | exact (fun hg => gvV_gA hg) | exact (fun _ => rfl)) ?_; (try simp only [Act.put, List.setIfInBounds_toArray, List.set_cons_zero, List.set_cons_succ]); (repeat ((first | (show wpList _ _ _ (Oper.mk _ (.move _) _ _ _ none :: _) _ _; refine wl_mv rfl rfl rfl ?_) | (show wpList _ _ _ (Oper.mk _ (.pick _ _ _) _ _ _ none :: _) _ _; (first | (refine wl_pickOr rfl rfl rfl rfl rfl ?_; intro q hq) | (refine wl_pickAnd rfl rfl rfl rfl rfl ?_; intro q hq))) | (show wpList _ _ _ (Oper.mk _ (.pick _ _ _) _ _ _ (some _) :: _) _ _; (first | (refine wl_gpickOr rfl (by first | exact wanted_b rfl rfl | exact wanted_g rfl rfl) rfl rfl rfl ?_; intro q hq) | (refine wl_gpickAnd rfl (by first | exact wanted_b rfl rfl | exact wanted_g rfl rfl) rfl rfl rfl ?_; intro q hq))) | (show wpList _ _ _ (Oper.mk _ (.move _) _ _ _ (some _) :: _) _ _; refine wl_gmove rfl (by first | exact wanted_b rfl rfl | exact wanted_g rfl rfl) (by first | exact (fun hg => gvV_on hg) | exact (fun hg => gvV_gA hg) | exact (fun _ => rfl)) ?_)); (try simp only [Act.put, List.setIfInBounds_toArray, List.set_cons_zero, List.set_cons_succ])))) | (show wpList _ _ _ (Oper.mk _ (.binOp .eql 9 _ _ _) _ _ _ (some _) :: _) _ _; refine wl_geqS rfl (by first | exact wanted_b rfl rfl | exact wanted_g rfl rfl) (by first | exact (fun hg => gvV_on hg) | exact (fun hg => gvV_gA hg) | exact (fun _ => rfl)) (by first | exact (fun hg => gvV_on hg) | exact (fun hg => gvV_gA hg) | exact (fun _ => rfl)) ?_; (try simp only [Act.put, List.setIfInBounds_toArray, List.set_cons_zero, List.set_cons_succ]); (repeat ((first | (show wpList _ _ _ (Oper.mk _ (.move _) _ _ _ none :: _) _ _; refine wl_mv rfl rfl rfl ?_) | (show wpList _ _ _ (Oper.mk _ (.pick _ _ _) _ _ _ none :: _) _ _; (first | (refine wl_pickOr rfl rfl rfl rfl rfl ?_; intro q hq) | (refine wl_pickAnd rfl rfl rfl rfl rfl ?_; intro q hq))) | (show wpList _ _ _ (Oper.mk _ (.pick _ _ _) _ _ _ (some _) :: _) _ _; (first | (refine wl_gpickOr rfl (by first | exact wanted_b rfl rfl | exact wanted_g rfl rfl) rfl rfl rfl ?_; intro q hq) | (refine wl_gpickAnd rfl (by first | exact wanted_b rfl rfl | exact wanted_g rfl rfl) rfl rfl rfl ?_; intro q hq))) | (show wpList _ _ _ (Oper.mk _ (.move _) _ _ _ (some _) :: _) _ _; refine wl_gmove rfl (by first | exact wanted_b rfl rfl | exact wanted_g rfl rfl) (by first | exact (fun hg => gvV_on hg) | exact (fun hg => gvV_gA hg) | exact (fun _ => rfl)) ?_)); (try simp only [Act.put, List.setIfInBounds_toArray, List.set_cons_zero, List.set_cons_succ])))) | (show wpList _ _ _ (Oper.mk _ (.binOp .neq 9 _ _ _) _ _ _ none :: _) _ _; refine wl_neqS rfl rfl rfl rfl ?_; (try simp only [Act.put, List.setIfInBounds_toArray, List.set_cons_zero, List.set_cons_succ]); (repeat ((first | (show wpList _ _ _ (Oper.mk _ (.move _) _ _ _ none :: _) _ _; refine wl_mv rfl rfl rfl ?_) | (show wpList _ _ _ (Oper.mk _ (.pick _ _ _) _ _ _ none :: _) _ _; (first | (refine wl_pickOr rfl rfl rfl rfl rfl ?_; intro q hq) | (refine wl_pickAnd rfl rfl rfl rfl rfl ?_; intro q hq))) | (show wpList _ _ _ (Oper.mk _ (.pick _ _ _) _ _ _ (some _) :: _) _ _; (first | (refine wl_gpickOr rfl (by first | exact wanted_b rfl rfl | exact wanted_g rfl rfl) rfl rfl rfl ?_; intro q hq) | (refine wl_gpickAnd rfl (by first | exact wanted_b rfl rfl | exact wanted_g rfl rfl) rfl rfl rfl ?_; intro q hq))) | (show wpList _ _ _ (Oper.mk _ (.move _) _ _ _ (some _) :: _) _ _; refine wl_gmove rfl (by first | exact wanted_b rfl rfl | exact wanted_g rfl rfl) (by first | exact (fun hg => gvV_on hg) | exact (fun hg => gvV_gA hg) | exact (fun _ => rfl)) ?_)); (try simp only [Act.put, List.setIfInBounds_toArray, List.set_cons_zero, List.set_cons_succ])))) | (show wpList _ _ _ (Oper.mk _ (.binOp .eql 9 _ _ _) _ _ _ none :: _) _ _; refine wl_eqS rfl rfl rfl rfl ?_; (try simp only [Act.put, List.setIfInBounds_toArray, List.set_cons_zero, List.set_cons_succ]); (repeat ((first | (show wpList _ _ _ (Oper.mk _ (.move _) _ _ _ none :: _) _ _; refine wl_mv rfl rfl rfl ?_) | (show wpList _ _ _ (Oper.mk _ (.pick _ _ _) _ _ _ none :: _) _ _; (first | (refine wl_pickOr rfl rfl rfl rfl rfl ?_; intro q hq) | (refine wl_pickAnd rfl rfl rfl rfl rfl ?_; intro q hq))) | (show wpList _ _ _ (Oper.mk _ (.pick _ _ _) _ _ _ (some _) :: _) _ _; (first | (refine wl_gpickOr rfl (by first | exact wanted_b rfl rfl | exact wanted_g rfl rfl) rfl rfl rfl ?_; intro q hq) | (refine wl_gpickAnd rfl (by first | exact wanted_b rfl rfl | exact wanted_g rfl rfl) rfl rfl rfl ?_; intro q hq))) | (show wpList _ _ _ (Oper.mk _ (.move _) _ _ _ (some _) :: _) _ _; refine wl_gmove rfl (by first | exact wanted_b rfl rfl | exact wanted_g rfl rfl) (by first | exact (fun hg => gvV_on hg) | exact (fun hg => gvV_gA hg) | exact (fun _ => rfl)) ?_)); (try simp only [Act.put, List.setIfInBounds_toArray, List.set_cons_zero, List.set_cons_succ])))) | (show wpList _ _ _ (Oper.mk _ (.call (Call.mk (.builtin .len) _ #[9])) _ _ _ (some _) :: _) _ _; refine wl_glenS rfl (by first | exact wanted_b rfl rfl | exact wanted_g rfl rfl) (by first | exact (fun hg => gvV_on hg) | exact (fun hg => gvV_gA hg) | exact (fun _ => rfl)) ?_; (try simp only [Act.put, List.setIfInBounds_toArray, List.set_cons_zero, List.set_cons_succ])) | (show wpList _ _ _ (Oper.mk _ (.call (Call.mk (.builtin .len) _ #[23])) _ _ _ (some _) :: _) _ _; refine wl_glen rfl (by first | exact wanted_b rfl rfl | exact wanted_g rfl rfl) (by first | exact (fun hg => gvV_on hg) | exact (fun hg => gvV_gA hg) | exact (fun _ => rfl)) ?_; (try simp only [Act.put, List.setIfInBounds_toArray, List.set_cons_zero, List.set_cons_succ])) | (show wpList _ _ _ (Oper.mk _ (.call (Call.mk (.builtin .len) _ #[22])) _ _ _ (some _) :: _) _ _; refine wl_glen rfl (by first | exact wanted_b rfl rfl | exact wanted_g rfl rfl) (by first | exact (fun hg => gvV_on hg) | exact (fun hg => gvV_gA hg) | exact (fun _ => rfl)) ?_; (try simp only [Act.put, List.setIfInBounds_toArray, List.set_cons_zero, List.set_cons_succ])) | (show wpList _ _ _ (Oper.mk _ (.unOp .not _ _) _ _ _ (some _) :: _) _ _; refine wl_gnot rfl (by first | exact wanted_b rfl rfl | exact wanted_g rfl rfl) (by first | exact (fun hg => gvV_on hg) | exact (fun hg => gvV_gA hg) | exact (fun _ => rfl)) ?_; (try simp only [Act.put, List.setIfInBounds_toArray, List.set_cons_zero, List.set_cons_succ]); (repeat ((first | (show wpList _ _ _ (Oper.mk _ (.move _) _ _ _ none :: _) _ _; refine wl_mv rfl rfl rfl ?_) | (show wpList _ _ _ (Oper.mk _ (.pick _ _ _) _ _ _ none :: _) _ _; (first | (refine wl_pickOr rfl rfl rfl rfl rfl ?_; intro q hq) | (refine wl_pickAnd rfl rfl rfl rfl rfl ?_; intro q hq))) | (show wpList _ _ _ (Oper.mk _ (.pick _ _ _) _ _ _ (some _) :: _) _ _; (first | (refine wl_gpickOr rfl (by first | exact wanted_b rfl rfl | exact wanted_g rfl rfl) rfl rfl rfl ?_; intro q hq) | (refine wl_gpickAnd rfl (by first | exact wanted_b rfl rfl | exact wanted_g rfl rfl) rfl rfl rfl ?_; intro q hq))) | (show wpList _ _ _ (Oper.mk _ (.move _) _ _ _ (some _) :: _) _ _; refine wl_gmove rfl (by first | exact wanted_b rfl rfl | exact wanted_g rfl rfl) (by first | exact (fun hg => gvV_on hg) | exact (fun hg => gvV_gA hg) | exact (fun _ => rfl)) ?_)); (try simp only [Act.put, List.setIfInBounds_toArray, List.set_cons_zero, List.set_cons_succ])))) | (refine wl_loadE rfl rfl rfl ?_; first | refine ⟨_, Loads.at [] hst rfl, ?_⟩))
        all_goals try (exfalso; clear hst HR HLn HN HP HL; simp only [hid_iff, bNot_eq] at *; simp_all only [Bool.true_and, Bool.false_and, Bool.and_true, Bool.and_false, Bool.false_eq_true, Bool.true_eq_false]; done)
        all_goals try (exfalso; have d5 := of_decide_eq_false d1; omega)
        all_goals go_ret
        all_goals refine ⟨congrArg (fun z => Ending.returned (Value.bool z)) (?_ : (_ : Bool) = R), hst.nil⟩
        all_goals
          have hR := HR.out
          have hN := HN.out
          have eC : o.long nl nb = ((o.l.take 31).any tooLong || (((decide ((100 : Int) < (o.name.length : Int)) || decide ((100 : Int) < (o.dest.length : Int))) || decide ((30 : Int) < (nl : Int))) || decide ((17000 : Int) < (nb : Int)))) := rfl
          rw [eC, hN] at hR
          clear HR HLn HN HP hst HL hN eC hsz hb1 hb2 hj hj31
          simp only [hid_iff, bNot_eq] at *
          simp_all only [Bool.false_or, Bool.true_or, if_true, if_false, Bool.false_eq_true]
theorem copyOrder_any (o : OV) (al ab : Option Addr) (nl cl nb cb : Nat) (w : World) (hl : Rd w (.slice al nl cl) 1 nl (strsV o.l)) (hb : Rd w (.slice ab nb cb) 1 nb (bytesV o.b)) (hn : nl ≤ 30) (hm : nb ≤ 17000) (hs : (strsV o.l).all isS = true) :
    Calls Try.prog 11 #[.agg (o.cells (.slice al nl cl) (.slice ab nb cb)).toArray] w fun e w' => ∃ al' cl' ab' cb', e = .returned (.agg (o.cells (.slice al' nl cl') (.slice ab' nb cb')).toArray) ∧
      St w [] w' [.rowP isB (.slice ab' nb cb') 5 1 nb (bytesV o.b), .rowP isS (.slice al' nl cl') 9 1 nl (strsV o.l)] := by
  have hst0 := St.refl w
  have HL := hid hl
  have HB := hid hb
  have HS := hid hs
  clear hl hb hs
  show Calls Try.prog 11 #[.agg (List.toArray [.int .i64 o.op, strV o.name, strV o.dest, .int .i64 o.n, .int .i64 o.m, .slice al nl cl, .slice ab nb cb])] w _
  go_enter Try.func11, Try.ntmps11
  go_wp2_with (first | go_big_skip | go_big_guard | (refine wl_boxA hst0 rfl rfl rfl ?_; intro g1 _ hst1; clear hst0) | (refine wl_alloc (T := 25) hst1 rfl rfl ?_; intro g2 _ hst2; clear hst1) | (refine wl_loadE rfl rfl rfl ?_; first | refine ⟨_, Loads.at [_, _] hst4 rfl, ?_⟩ | refine ⟨_, Loads.at [_, _, _] hst8 rfl, ?_⟩) | (apply wl_bsX [] [] hst2; rfl; rfl; exact rfl; exact rfl; infer_instance; infer_instance; rfl; rfl; rfl; intro g3 w3 hst3; clear hst2; have hst4 := St.toRowP (n := 0) (cap := 0) (sz := 1) isS hst3 rfl (Nat.le_refl _) (by decide) rfl; clear hst3) | (apply wl_appP (p := isS) [] hst4; rfl; rfl; exact rfl; exact rfl; infer_instance; infer_instance; infer_instance; infer_instance; exact Rd.old hst4 HL.out; exact ones_strsV o.l; rfl; exact HS.out; (refine ⟨by decide, by unfold maxLen; omega, by omega⟩); intro v5 w5 hst5 _; clear hst4; rw [Nat.zero_add, List.take_zero, List.nil_append] at hst5; obtain ⟨a5, c5, rfl⟩ := St.rowPSliceF [] hst5) | (refine wl_store [_, _] hst5 rfl rfl rfl (v := .slice _ _ _) rfl rfl rfl (by show (6 : Nat) ≤ 7; decide) ?_; intro w6 hst6; clear hst5; simp [putAt, Value.cells] at hst6) | (apply wl_bsX [] [] hst6; rfl; rfl; exact rfl; exact rfl; infer_instance; infer_instance; rfl; rfl; rfl; intro g5 w7 hst7; clear hst6; have hst8 := St.toRowP (n := 0) (cap := 0) (sz := 1) isB hst7 rfl (Nat.le_refl _) (by decide) rfl; clear hst7) | (apply wl_appP (p := isB) [] hst8; rfl; rfl; exact rfl; exact rfl; infer_instance; infer_instance; infer_instance; infer_instance; exact Rd.old hst8 HB.out; exact ones_bytesV o.b; rfl; exact isB_bytes o.b; (refine ⟨by decide, by unfold maxLen; omega, by omega⟩); intro v9 w9 hst9 _; clear hst8; rw [Nat.zero_add, List.take_zero, List.nil_append] at hst9; obtain ⟨a9, c9, rfl⟩ := St.rowPSliceF [] hst9) | (refine wl_store [_, _, _] hst9 rfl rfl rfl (v := .slice _ _ _) rfl rfl rfl (by show (7 : Nat) ≤ 7; decide) ?_; intro w11 hst11; clear hst9; simp [putAt, Value.cells] at hst11) | (refine wl_loadE rfl rfl rfl ?_; refine ⟨_, Loads.whole (T := 25) [_, _, _] hst11 rfl, ?_⟩) | (refine wl_storeA (T := 25) (vs := [.int .i64 o.op, strV o.name, strV o.dest, .int .i64 o.n, .int .i64 o.m, .slice a5 nl c5, .slice a9 nb c9]) [_, _] hst11 rfl rfl rfl rfl rfl rfl rfl ?_; intro w12 hst12; clear hst11))
  have hl := Loads.whole (P := Try.prog) (T := 25) [_, _] hst12 rfl
  refine bodyPost_ret (results_cellL rfl rfl hl) rfl ⟨a5, c5, a9, c9, rfl, St.sub hst12 (.cons_cons _ (.cons_cons _ (List.nil_sublist _)))⟩
end Go.Proofs.Ytalfdcfcaamnbaa
namespace Go.Proofs.Ytalfdcfcaamnbaa
set_option linter.unusedVariables false
set_option linter.unusedSimpArgs false
open Go.RowKit Hp
attribute [local irreducible] Go.Calls Go.wpList
set_option maxRecDepth 100000
set_option maxHeartbeats 4000000
section
theorem loadedOq (A : Addr) : loadVar 25 A = loadVarH 25 A := rfl
theorem loadedOi (A : Addr) : loadVar 3 A = loadVarH 3 A := rfl
theorem neqUsesC (op : Int) (w : World) : (binOp .neq 35 (.agg (usesC op).toArray) (.agg (usesC op).toArray)).run Try.prog w = .ok (.bool false) w := neqUses (us op 0) (us op 1) (us op 2) (us op 3) (us op 4) (us op 5) w
theorem strs_isS {l : List (List UInt8)} (h : ∀ x ∈ l, x.length ≤ 100) : (strsV l).all isS = true := by
  rw [List.all_eq_true]
  intro v hv
  simp only [strsV, List.mem_map] at hv
  obtain ⟨x, hx, rfl⟩ := hv
  have := isS_one (t := x) (by have := h x hx; omega)
  simpa using this
attribute [local irreducible] usesC
attribute [local go_sem ↓] loadedOq loadedOi neqUsesC guardUses
theorem puts_far (o : OV) (op : Int) (al ab : Option Addr) (nl cl nb cb : Nat) (w : World) (hl : Rd w (.slice al nl cl) 1 nl (strsV o.l)) (hb : Rd w (.slice ab nb cb) 1 nb (bytesV o.b)) (hnl : o.l.length = nl) (hnb : o.b.length = nb) (hop : -9223372036854775808 ≤ o.op ∧ o.op ≤ 9223372036854775807) (hn : -9223372036854775808 ≤ o.n ∧ o.n ≤ 9223372036854775807) (hm : -9223372036854775808 ≤ o.m ∧ o.m ≤ 9223372036854775807) (hq : o.long nl nb = true) :
    Calls Try.prog 3 #[.agg (o.cells (.slice al nl cl) (.slice ab nb cb)).toArray, .int .i64 op] w fun e w' => e = .returned (.bool true) ∧ St w [] w' [] := by
  have hst0 := St.refl w
  have HL := hid hl
  have HB := hid hb
  have HNL := hid hnl
  have HNB := hid hnb
  have HQ := hid hq
  clear hl hb hnl hnb hq hop hn hm
  show Calls Try.prog 3 #[.agg (List.toArray [.int .i64 o.op, strV o.name, strV o.dest, .int .i64 o.n, .int .i64 o.m, .slice al nl cl, .slice ab nb cb]), .int .i64 op] w _
  go_enter Try.func3, Try.ntmps3
  go_wp2_with (first | go_big_skip | go_big_guard | (refine wl_boxA hst0 rfl rfl rfl ?_; intro g1 _ hst1; clear hst0) | (refine wl_loadE rfl rfl rfl ?_; first | refine ⟨_, Loads.whole (T := 25) [] hst1 rfl, ?_⟩ | refine ⟨_, Loads.whole (T := 25) [] hst2 rfl, ?_⟩) | (go_at_call 9; refine (longOrder_any o al ab nl cl nb cb _ (Rd.old hst1 HL.out) HNL.out).mono ?_; rw [HQ.out]; rintro _ w2 ⟨rfl, h4⟩; have hst2 := St.call0 hst1 h4; clear h4 hst1) | (go_at_call 10; refine (awake_any _).mono ?_; rintro _ w3 ⟨rfl, h4⟩; have hst3 := St.call0 hst2 h4; clear h4 hst2))
  go_ret
  exact ⟨rfl, hst3.nil⟩
theorem puts_near (o : OV) (op : Int) (al ab : Option Addr) (nl cl nb cb : Nat) (w : World) (hl : Rd w (.slice al nl cl) 1 nl (strsV o.l)) (hb : Rd w (.slice ab nb cb) 1 nb (bytesV o.b)) (hnl : o.l.length = nl) (hnb : o.b.length = nb) (hop : -9223372036854775808 ≤ o.op ∧ o.op ≤ 9223372036854775807) (hn : -9223372036854775808 ≤ o.n ∧ o.n ≤ 9223372036854775807) (hm : -9223372036854775808 ≤ o.m ∧ o.m ≤ 9223372036854775807) (hq : o.long nl nb = false) :
    Calls Try.prog 3 #[.agg (o.cells (.slice al nl cl) (.slice ab nb cb)).toArray, .int .i64 op] w fun e w' => e = .returned (.bool true) ∧ St w [] w' [] := by
  have hst0 := St.refl w
  have HL := hid hl
  have HB := hid hb
  have HNL := hid hnl
  have HNB := hid hnb
  have HQ := hid hq
  obtain ⟨q1, q2, q3, q4, q5⟩ := OV.short hnl hq
  have OK := hid (show o.Ok from ⟨hop, hn, hm, by omega, by omega, by omega, fun t ht => Nat.le_trans (q5 t ht) (by decide), by omega⟩)
  have HIS := hid (strs_isS q5)
  obtain ⟨R, hR⟩ : ∃ R, R = putO o := ⟨_, rfl⟩
  have HR := hid hR
  obtain ⟨ck, hck⟩ : ∃ ck, ck = o.check := ⟨_, rfl⟩
  have HCK := hid hck
  have HLl := hid (show nl ≤ 1000000 by omega)
  clear hR hck q1 q2 q5
  clear hl hb hnl hnb hq hop hn hm
  show Calls Try.prog 3 #[.agg (List.toArray [.int .i64 o.op, strV o.name, strV o.dest, .int .i64 o.n, .int .i64 o.m, .slice al nl cl, .slice ab nb cb]), .int .i64 op] w _
  go_enter Try.func3, Try.ntmps3
  go_wp2_with (first | go_big_skip | go_big_guard | (refine wl_boxA hst0 rfl rfl rfl ?_; intro g1 _ hst1; clear hst0) | (refine wl_loadE rfl rfl rfl ?_; first | refine ⟨_, Loads.whole (T := 25) [] hst1 rfl, ?_⟩ | refine ⟨_, Loads.whole (T := 25) [] hst2 rfl, ?_⟩ | refine ⟨_, Loads.whole (T := 25) [] hst5 rfl, ?_⟩ | refine ⟨_, Loads.whole (T := 25) [_, _, _, _] hst6 rfl, ?_⟩) | (go_at_call 9; refine (longOrder_any o al ab nl cl nb cb _ (Rd.old hst1 HL.out) HNL.out).mono ?_; rw [HQ.out]; rintro _ w2 ⟨rfl, h4⟩; have hst2 := St.call0 hst1 h4; clear h4 hst1) | (go_at_call 11; refine (copyOrder_any o al ab nl cl nb cb _ (Rd.old hst2 HL.out) (Rd.old hst2 HB.out) q3 q4 HIS.out).mono ?_; rintro _ w3 ⟨al2, cl2, ab2, cb2, rfl, h4⟩; have hst3 := St.call hst2 h4; clear h4 hst2) | (refine wl_alloc (T := 25) hst3 rfl rfl ?_; intro g5 _ hst4; clear hst3) | (refine wl_storeA (T := 25) (vs := [.int .i64 o.op, strV o.name, strV o.dest, .int .i64 o.n, .int .i64 o.m, .slice al2 nl cl2, .slice ab2 nb cb2]) [] hst4 rfl rfl rfl rfl rfl rfl rfl ?_; intro w5 hst5; clear hst4) | (go_at_call 12; refine (oput_any o OK.out al2 ab2 nl cl2 nb cb2 _ (Rd.rowP hst5 (.tail _ (.tail _ (.head _)))) (Rd.rowP hst5 (.tail _ (.head _))) HNL.out HNB.out).mono ?_; rw [← HR.out]; rintro _ w6 ⟨u, rfl, h4⟩; have hst6 := St.call hst5 h4; clear h4 hst5) | (go_at_call 13; refine (qput_any o OK.out al ab nl cl nb cb _ (Rd.old hst6 HL.out) (Rd.old hst6 HB.out) HNL.out HNB.out).mono ?_; rw [← HR.out]; rintro _ w7 ⟨u2, rfl, h4⟩; have hst7 := St.call hst6 h4; clear h4 hst6))
  have q9 : (R.1 != R.1) = false := bne_self_eq_false _
  have q8 : (ck != ck) = false := bne_self_eq_false _
  have hst100 := hst7.drew; clear hst7
  go_region_held3 (fun w' => (loadVarH 25 ⟨g5, 0, none⟩).run Try.prog w' = .ok (.agg (List.toArray ([.int .i64 o.op, strV o.name, strV o.dest, .int .i64 o.n, .int .i64 o.m, .slice al2 nl cl2, .slice ab2 nb cb2]))) w' ∧ (loadVarH 25 ⟨g1, 0, none⟩).run Try.prog w' = .ok (.agg (List.toArray ([.int .i64 o.op, strV o.name, strV o.dest, .int .i64 o.n, .int .i64 o.m, .slice al nl cl, .slice ab nb cb]))) w' ∧ (loadVarH 3 ⟨g1, 0, none⟩).run Try.prog w' = .ok (.int .i64 o.op) w')
    (first | exact ⟨ldA ([.int .i64 o.op, strV o.name, strV o.dest, .int .i64 o.n, .int .i64 o.m, .slice al2 nl cl2, .slice ab2 nb cb2]) [_, _] hst107 (rfl) (rfl), ldA ([.int .i64 o.op, strV o.name, strV o.dest, .int .i64 o.n, .int .i64 o.m, .slice al nl cl, .slice ab nb cb]) [_, _, _, _, _] hst107 (rfl) (rfl), ldS [_, _, _, _, _] hst107 rfl⟩ | exact ⟨ldA ([.int .i64 o.op, strV o.name, strV o.dest, .int .i64 o.n, .int .i64 o.m, .slice al2 nl cl2, .slice ab2 nb cb2]) [_, _] hst106 (rfl) (rfl), ldA ([.int .i64 o.op, strV o.name, strV o.dest, .int .i64 o.n, .int .i64 o.m, .slice al nl cl, .slice ab nb cb]) [_, _, _, _, _] hst106 (rfl) (rfl), ldS [_, _, _, _, _] hst106 rfl⟩ | exact ⟨ldA ([.int .i64 o.op, strV o.name, strV o.dest, .int .i64 o.n, .int .i64 o.m, .slice al2 nl cl2, .slice ab2 nb cb2]) [_, _] hst105 (rfl) (rfl), ldA ([.int .i64 o.op, strV o.name, strV o.dest, .int .i64 o.n, .int .i64 o.m, .slice al nl cl, .slice ab nb cb]) [_, _, _, _, _] hst105 (rfl) (rfl), ldS [_, _, _, _, _] hst105 rfl⟩ | exact ⟨ldA ([.int .i64 o.op, strV o.name, strV o.dest, .int .i64 o.n, .int .i64 o.m, .slice al2 nl cl2, .slice ab2 nb cb2]) [_, _] hst104 (rfl) (rfl), ldA ([.int .i64 o.op, strV o.name, strV o.dest, .int .i64 o.n, .int .i64 o.m, .slice al nl cl, .slice ab nb cb]) [_, _, _, _, _] hst104 (rfl) (rfl), ldS [_, _, _, _, _] hst104 rfl⟩ | exact ⟨ldA ([.int .i64 o.op, strV o.name, strV o.dest, .int .i64 o.n, .int .i64 o.m, .slice al2 nl cl2, .slice ab2 nb cb2]) [_, _] hst103 (rfl) (rfl), ldA ([.int .i64 o.op, strV o.name, strV o.dest, .int .i64 o.n, .int .i64 o.m, .slice al nl cl, .slice ab nb cb]) [_, _, _, _, _] hst103 (rfl) (rfl), ldS [_, _, _, _, _] hst103 rfl⟩ | exact ⟨ldA ([.int .i64 o.op, strV o.name, strV o.dest, .int .i64 o.n, .int .i64 o.m, .slice al2 nl cl2, .slice ab2 nb cb2]) [_, _] hst102 (rfl) (rfl), ldA ([.int .i64 o.op, strV o.name, strV o.dest, .int .i64 o.n, .int .i64 o.m, .slice al nl cl, .slice ab nb cb]) [_, _, _, _, _] hst102 (rfl) (rfl), ldS [_, _, _, _, _] hst102 rfl⟩ | exact ⟨ldA ([.int .i64 o.op, strV o.name, strV o.dest, .int .i64 o.n, .int .i64 o.m, .slice al2 nl cl2, .slice ab2 nb cb2]) [_, _] hst101 (rfl) (rfl), ldA ([.int .i64 o.op, strV o.name, strV o.dest, .int .i64 o.n, .int .i64 o.m, .slice al nl cl, .slice ab nb cb]) [_, _, _, _, _] hst101 (rfl) (rfl), ldS [_, _, _, _, _] hst101 rfl⟩ | exact ⟨ldA ([.int .i64 o.op, strV o.name, strV o.dest, .int .i64 o.n, .int .i64 o.m, .slice al2 nl cl2, .slice ab2 nb cb2]) [_, _] hst100 (rfl) (rfl), ldA ([.int .i64 o.op, strV o.name, strV o.dest, .int .i64 o.n, .int .i64 o.m, .slice al nl cl, .slice ab nb cb]) [_, _, _, _, _] hst100 (rfl) (rfl), ldS [_, _, _, _, _] hst100 rfl⟩)
    (first | (go_at_call 14; refine (sameBytes_any u u2 (outW R).length (outW R).length (outW R) (outW R) _ (Rd.rowP hst100 (.tail _ (.head _))) (Rd.rowP hst100 (.head _))).mono ?_; rw [beq_self_eq_true]; rintro _ _ ⟨rfl, h4⟩; have hst101 := St.call0 hst100 h4; clear h4 hst100) | (go_at_call 15; refine (check_any o al2 ab2 nl cl2 nb cb2 _ (Rd.rowP hst101 (.tail _ (.tail _ (.tail _ (.tail _ (.head _)))))) HNL.out HNB.out HLl.out).mono ?_; rw [← HCK.out]; rintro _ _ ⟨rfl, h4⟩; have hst102 := St.call0 hst101 h4; clear h4 hst101) | (go_at_call 16; refine (qcheck_any o al ab nl cl nb cb _ (Rd.old hst102 HL.out) HNL.out HNB.out HLl.out).mono ?_; rw [← HCK.out]; rintro _ _ ⟨rfl, h4⟩; have hst103 := St.call0 hst102 h4; clear h4 hst102) | (go_at_call 17; refine (uses_any op _).mono ?_; rintro _ _ ⟨rfl, h4⟩; have hst104 := St.call0 hst103 h4; clear h4 hst103) | (go_at_call 18; refine (quses_any op _).mono ?_; rintro _ _ ⟨rfl, h4⟩; have hst105 := St.call0 hst104 h4; clear h4 hst104) | (go_at_call 17; refine (uses_any o.op _).mono ?_; rintro _ _ ⟨rfl, h4⟩; have hst106 := St.call0 hst105 h4; clear h4 hst105) | (go_at_call 18; refine (quses_any o.op _).mono ?_; rintro _ _ ⟨rfl, h4⟩; have hst107 := St.call0 hst106 h4; clear h4 hst106))
  go_wp2_with (first | go_big_skip | go_big_guard | (go_at_call 19; refine (over_rowP u _ _ _ (hst107.ownsP (.tail _ (.head _))).1 (hst107.ownsP (.tail _ (.head _))).2).mono ?_; rintro _ w8 ⟨rfl, h4⟩; have hst20 := St.callRowP (St.front [_] hst107) h4; clear h4 hst107) | (refine wl_loadE rfl rfl rfl ?_; first | refine ⟨_, Loads.whole (T := 25) [_] hst20 rfl, ?_⟩ | refine ⟨_, Loads.whole (T := 25) [_, _, _, _] hst20 rfl, ?_⟩) | (go_at_call 20; obtain rfl := HNL.out; obtain rfl := HNB.out; refine (sameOrder_eq o al2 al ab2 ab cl2 cl cb2 cb _ (Rd.rowP hst20 (.tail _ (.tail _ (.tail _ (.head _))))) (Rd.old hst20 HL.out) (Rd.rowP hst20 (.tail _ (.tail _ (.head _)))) (Rd.old hst20 HB.out)).mono ?_; rintro _ w9 ⟨rfl, h4⟩; have hst21 := St.call0 hst20 h4; clear h4 hst20) | (go_at_call 10; refine (awake_any _).mono ?_; rintro _ w10 ⟨rfl, h4⟩; have hst22 := St.call0 hst21 h4; clear h4 hst21))
  go_ret
  exact ⟨rfl, hst22.nil⟩
theorem puts_law (o : OV) (op : Int) (al ab : Option Addr) (nl cl nb cb : Nat) (w : World) (hl : Rd w (.slice al nl cl) 1 nl (strsV o.l)) (hb : Rd w (.slice ab nb cb) 1 nb (bytesV o.b)) (hnl : o.l.length = nl) (hnb : o.b.length = nb) (hop : -9223372036854775808 ≤ o.op ∧ o.op ≤ 9223372036854775807) (hn : -9223372036854775808 ≤ o.n ∧ o.n ≤ 9223372036854775807) (hm : -9223372036854775808 ≤ o.m ∧ o.m ≤ 9223372036854775807) :
    Calls Try.prog 3 #[.agg (o.cells (.slice al nl cl) (.slice ab nb cb)).toArray, .int .i64 op] w fun e w' => e = .returned (.bool true) ∧ St w [] w' [] := by
  cases hq : o.long nl nb
  · exact puts_near o op al ab nl cl nb cb w hl hb hnl hnb hop hn hm hq
  · exact puts_far o op al ab nl cl nb cb w hl hb hnl hnb hop hn hm hq
end
end Go.Proofs.Ytalfdcfcaamnbaa
namespace Go.Proofs.Ytalfdcfcaamnbaa
set_option linter.unusedVariables false
set_option linter.unusedSimpArgs false
open Hp
structure Ptr where
  addrs : List (Int × Int)
  birth : Int
  level : Int
  sum : List UInt8
deriving DecidableEq
def nones : List UInt8 := List.replicate 32 0
def ptrCells (sv : Value) (b l : Int) (S : List UInt8) : List Value := sv :: .int .i64 b :: .int .i64 l :: bytesV S
def nothingB (b l : Int) (S : List UInt8) : Bool := decide (b = 0) && (decide (l = 0) && (S == nones))
/-- 32 bytes: hidden from the walk's rewriting. -/
def L32 (S : List UInt8) : Prop := S.length = 32
theorem L32.out {S : List UInt8} (h : L32 S) : S.length = 32 := h
theorem L32.v {S : List UInt8} (h : L32 S) : (bytesV S).length = 32 := by simp [h.out]
theorem L32.nones : L32 nones := rfl
theorem L32.two {S R : List UInt8} (h : L32 S) (h' : L32 R) : S.length = 32 ∧ R.length = 32 := ⟨h, h'⟩
theorem ptr_sum (sv : Value) (b l : Int) (S : List UInt8) : ((ptrCells sv b l S).drop 3).take (bytesV S).length = bytesV S := by
  show (bytesV S).take (bytesV S).length = bytesV S
  exact List.take_length
theorem ptr_all (sv : Value) (b l : Int) (S : List UInt8) : ((ptrCells sv b l S).drop 0).take (ptrCells sv b l S).length = ptrCells sv b l S := by
  simp
theorem ptr_len {S : List UInt8} (h : L32 S) (sv : Value) (b l : Int) : (ptrCells sv b l S).length = 35 := by simp [ptrCells, h.out]
theorem ret_bool {a b : Bool} (h : a = b) : Ending.returned (.bool a) = .returned (.bool b) := by rw [h]
theorem ret_int {k : IntKind} {a b : Int} (h : a = b) : Ending.returned (.int k a) = .returned (.int k b) := by rw [h]
def addrsV : List (Int × Int) → List Value
  | [] => []
  | x :: l => .int .i64 x.1 :: .int .i64 x.2 :: addrsV l
theorem length_addrsV (l : List (Int × Int)) : (addrsV l).length = l.length * 2 := by
  induction l with
  | nil => rfl
  | cons x l ih => simp [addrsV, ih]; omega
theorem addrsV_get (l : List (Int × Int)) (k : Nat) (hk : k < l.length) : (addrsV l)[k * 2]? = some (.int .i64 (l.getD k (0, 0)).1) ∧ (addrsV l)[k * 2 + 1]? = some (.int .i64 (l.getD k (0, 0)).2) := by
  induction l generalizing k with
  | nil => simp at hk
  | cons x l ih =>
    cases k with
    | zero => simp [addrsV]
    | succ k =>
      have := ih k (by simpa using hk)
      simp only [addrsV, show (k + 1) * 2 = k * 2 + 1 + 1 by omega, show k * 2 + 1 + 1 + 1 = (k * 2 + 1) + 1 + 1 by omega, List.getElem?_cons_succ, List.getD_cons_succ]
      exact this
section
open Go.RowKit
variable {w : World} {b off : Nat} {l : List (Int × Int)}
theorem addr_dev (h : w.rangeAt b off (addrsV l)) {k : Nat} (hk : k < l.length) : w.cell? ⟨b, off + k * 2, none⟩ = some (.int .i64 (l.getD k (0, 0)).1) := h _ _ (addrsV_get l k hk).1
theorem addr_at (h : w.rangeAt b off (addrsV l)) {k : Nat} (hk : k < l.length) : w.cell? ⟨b, off + k * 2 + 1, none⟩ = some (.int .i64 (l.getD k (0, 0)).2) := h _ _ (addrsV_get l k hk).2
theorem addr_both (h : w.rangeAt b off (addrsV l)) {k : Nat} (hk : k < l.length) : w.rangeAt b (off + k * 2) [.int .i64 (l.getD k (0, 0)).1, .int .i64 (l.getD k (0, 0)).2] := by
  intro j v hv
  match j, hv with
  | 0, hv => simp at hv; subst hv; exact addr_dev h hk
  | 1, hv => simp at hv; subst hv; exact addr_at h hk
end
def holeB (n : Nat) (b l : Int) (S : List UInt8) : Bool := decide (n = 0) && nothingB b l S
def likeB (n m : Nat) (b l b' l' : Int) (S S' : List UInt8) : Bool := decide (b = b') && (decide (l = l') && ((S == S') && (decide (0 < n) == decide (0 < m))))
def seenB (l : List (Int × Int)) (d : Nat) : Bool := decide ((d : Int) ∈ l.map (·.1))
def seenV (l : List (Int × Int)) : List Value := (List.range 8).map fun d => .bool (seenB l d)
def validA (a : Int × Int) : Bool := decide (0 ≤ a.1 ∧ a.1 < 8 ∧ 5 ≤ a.2 ∧ a.2 < 4096)
/-- Each address may be, and no two are of one device. -/
def okA : List (Int × Int) → Bool
  | [] => true
  | x :: l => okA l && validA x && !(l.any fun y => y.1 == x.1)
def mayB (l : List (Int × Int)) : Bool := okA l.reverse && decide (1 ≤ l.length ∧ l.length ≤ 3)
def checkB (l : List (Int × Int)) (b v : Int) (S : List UInt8) : Bool := holeB l.length b v S || (mayB l && decide (1 ≤ b ∧ b ≤ 2147483648 ∧ 0 ≤ v ∧ v ≤ 3))
def checkE (l : List (Int × Int)) (b v : Int) (S : List UInt8) : Int := if checkB l b v S then 0 else 2
/-- Of the first k addresses. -/
def okP (l : List (Int × Int)) (k : Nat) : Bool := okA (l.take k).reverse
theorem take_rev_succ (l : List (Int × Int)) (k : Nat) (hk : k < l.length) : (l.take (k + 1)).reverse = l.getD k (0, 0) :: (l.take k).reverse := by
  rw [List.take_succ_eq_append_getElem hk, List.reverse_append]
  simp [List.getD, hk]
theorem okP_succ (l : List (Int × Int)) (k : Nat) (hk : k < l.length) : okP l (k + 1) = (okP l k && validA (l.getD k (0, 0)) && !((l.take k).any fun y => y.1 == (l.getD k (0, 0)).1)) := by
  unfold okP
  rw [take_rev_succ l k hk, okA, List.any_reverse]
theorem okA_append : ∀ (a b : List (Int × Int)), okA (a ++ b) = true → okA b = true
  | [], _, h => h
  | x :: a, b, h => okA_append a b (by simp only [List.cons_append, okA, Bool.and_eq_true] at h; exact h.1.1)
theorem okP_false (l : List (Int × Int)) (k : Nat) (h : okP l k = false) : okA l.reverse = false := by
  rw [← Bool.not_eq_true]
  intro ht
  rw [← List.take_append_drop k l, List.reverse_append] at ht
  have := okA_append _ _ ht
  unfold okP at h
  simp [h] at this
theorem okP_all (l : List (Int × Int)) (k : Nat) (hk : l.length ≤ k) : okP l k = okA l.reverse := by unfold okP; rw [List.take_of_length_le hk]
theorem okP_zero (l : List (Int × Int)) : okP l 0 = true := by simp [okP, okA]
theorem seenV_get (l : List (Int × Int)) {d : Nat} (hd : d < 8) : (seenV l)[d]? = some (.bool (seenB l d)) := by
  unfold seenV
  simp [hd]
theorem length_seenV (l : List (Int × Int)) : (seenV l).length = 8 := by simp [seenV]
theorem seenB_any (l : List (Int × Int)) (x : Int) (hx : 0 ≤ x) : seenB l x.toNat = l.any fun y => y.1 == x := by
  unfold seenB
  rw [Bool.eq_iff_iff]
  simp only [decide_eq_true_eq, List.mem_map, List.any_eq_true, beq_iff_eq]
  constructor
  · rintro ⟨a, ha, h⟩; exact ⟨a, ha, by omega⟩
  · rintro ⟨a, ha, h⟩; exact ⟨a, ha, by omega⟩
theorem seenV_put (l : List (Int × Int)) (x : Int × Int) (h0 : 0 ≤ x.1) (h8 : x.1 < 8) : putAt (seenV l) x.1.toNat [.bool true] = seenV (l ++ [x]) := by
  apply List.ext_getElem?
  intro j
  unfold putAt
  have hl := length_seenV l
  by_cases hj : j < 8
  · rw [seenV_get _ hj]
    rcases Nat.lt_trichotomy j x.1.toNat with h | h | h
    · rw [List.getElem?_append_left (by simp; omega), List.getElem?_take, if_pos h, seenV_get _ hj]
      have : seenB (l ++ [x]) j = seenB l j := by
        unfold seenB
        simp only [List.map_append, List.map_cons, List.map_nil, List.mem_append, List.mem_singleton]
        congr 1
        simp only [eq_iff_iff, or_iff_left_iff_imp]
        intro e; omega
      rw [this]
    · rw [List.getElem?_append_right (by simp; omega)]
      have h1 : j - (List.take x.1.toNat (seenV l)).length = 0 := by simp; omega
      rw [h1]
      have : seenB (l ++ [x]) j = true := by
        unfold seenB
        simp only [decide_eq_true_eq, List.map_append, List.map_cons, List.map_nil, List.mem_append, List.mem_singleton]
        right; omega
      simp [this]
    · rw [List.getElem?_append_right (by simp; omega)]
      have h1 : j - (List.take x.1.toNat (seenV l)).length = (j - x.1.toNat - 1) + 1 := by simp; omega
      rw [h1]
      simp only [List.cons_append, List.nil_append, List.getElem?_cons_succ, List.getElem?_drop, List.length_singleton]
      rw [show x.1.toNat + 1 + (j - x.1.toNat - 1) = j by omega, seenV_get _ hj]
      have : seenB (l ++ [x]) j = seenB l j := by
        unfold seenB
        simp only [List.map_append, List.map_cons, List.map_nil, List.mem_append, List.mem_singleton]
        congr 1
        simp only [eq_iff_iff, or_iff_left_iff_imp]
        intro e; omega
      rw [this]
  · rw [List.getElem?_eq_none (by simp [hl]; omega), List.getElem?_eq_none (by rw [length_seenV]; omega)]
theorem take_snoc' (l : List (Int × Int)) (k : Nat) (hk : k < l.length) : l.take k ++ [l.getD k (0, 0)] = l.take (k + 1) := by
  rw [List.take_succ_eq_append_getElem hk]
  simp [List.getD, hk]
section
variable {l : List (Int × Int)} {k : Nat} {x : Int × Int}
theorem may_stop1 (hk : k < l.length) (hx : x = l.getD k (0, 0)) (h : ¬ (0 ≤ x.1 ∧ x.1 < 8 ∧ 5 ≤ x.2 ∧ x.2 < 4096)) : mayB l = false := by
  have h1 := okP_succ l k hk
  rw [← hx] at h1
  have : validA x = false := by simpa [validA] using h
  simp only [this, Bool.and_false, Bool.false_and] at h1
  simp [mayB, okP_false l _ h1]
theorem may_stop2 (hk : k < l.length) (hx : x = l.getD k (0, 0)) (h0 : 0 ≤ x.1) (h : seenB (l.take k) x.1.toNat = true) : mayB l = false := by
  have h1 := okP_succ l k hk
  rw [← hx] at h1
  rw [seenB_any _ _ h0] at h
  simp only [h, Bool.not_true, Bool.and_false] at h1
  simp [mayB, okP_false l _ h1]
theorem may_go (hk : k < l.length) (hx : x = l.getD k (0, 0)) (hok : okP l k = true) (h0 : 0 ≤ x.1) (h8 : x.1 < 8) (h5 : 5 ≤ x.2) (h4 : x.2 < 4096) (h : seenB (l.take k) x.1.toNat = false) :
    okP l (k + 1) = true ∧ putAt (seenV (l.take k)) x.1.toNat [.bool true] = seenV (l.take (k + 1)) := by
  rw [seenB_any _ _ h0] at h
  refine ⟨?_, ?_⟩
  · rw [okP_succ l k hk, ← hx, hok, h]
    simp [validA, h0, h8, h5, h4]
  · rw [seenV_put _ _ h0 h8, hx, take_snoc' l k hk]
theorem may_end (hk : l.length ≤ k) (hok : okP l k = true) : mayB l = decide (1 ≤ l.length ∧ l.length ≤ 3) := by
  rw [okP_all l k hk] at hok
  simp [mayB, hok]
end
section
variable {l : List (Int × Int)} {k : Nat} {x : Int × Int}
theorem addrs_stop (hk : k < l.length) (hx : x = l.getD k (0, 0)) {j : Nat} (hj : j < k) (h : (l.getD j (0, 0)).1 = x.1) : mayB l = false := by
  have h1 := okP_succ l k hk
  rw [← hx] at h1
  have : ((l.take k).any fun y => y.1 == x.1) = true := by
    rw [List.any_eq_true]
    refine ⟨l.getD j (0, 0), ?_, by simpa using h⟩
    rw [List.mem_iff_getElem?]
    refine ⟨j, ?_⟩
    rw [List.getElem?_take, if_pos hj]
    simp [List.getD, show j < l.length by omega]
  simp only [this, Bool.not_true, Bool.and_false] at h1
  simp [mayB, okP_false l _ h1]
theorem addrs_go (hk : k < l.length) (hx : x = l.getD k (0, 0)) (hok : okP l k = true) (h0 : 0 ≤ x.1) (h8 : x.1 < 8) (h5 : 5 ≤ x.2) (h4 : x.2 < 4096) (h : ∀ t, t < k → (l.getD t (0, 0)).1 ≠ x.1) : okP l (k + 1) = true := by
  rw [okP_succ l k hk, ← hx, hok]
  have : ((l.take k).any fun y => y.1 == x.1) = false := by
    rw [List.any_eq_false]
    intro y hy
    obtain ⟨t, ht⟩ := List.mem_iff_getElem?.1 hy
    rw [List.getElem?_take] at ht
    split at ht
    · rename_i htk
      have := h t htk
      simp only [List.getD, ht, Option.getD_some] at this
      simpa using this
    · simp at ht
  simp [this, validA, h0, h8, h5, h4]
end
theorem addrs_ext {l k : List (Int × Int)} (h : l.length = k.length) (hq : ∀ q, q < l.length → l.getD q (0, 0) = k.getD q (0, 0)) : l = k := by
  apply List.ext_getElem h
  intro i h1 h2
  have := hq i h1
  simpa [List.getD, h1, h2] using this
theorem addrs_len_ne {l k : List (Int × Int)} (h : l.length ≠ k.length) : (l == k) = false := by
  rw [beq_eq_false_iff_ne]; intro e; exact h (by rw [e])
theorem addrs_ne {l k : List (Int × Int)} {q : Nat} (h : l.getD q (0, 0) ≠ k.getD q (0, 0)) : (l == k) = false := by
  rw [beq_eq_false_iff_ne]; intro e; exact h (by rw [e])
section
open Go.RowKit
theorem byte_cell {w : World} {b off : Nat} {l : List UInt8} (h : w.rangeAt b off (bytesV l)) {k : Nat} (hk : k < l.length) : w.cell? ⟨b, off + k, none⟩ = some (.int .u8 (l.getD k 0).toNat) := by
  refine h _ _ ?_
  simp [bytesV, List.getD, hk]
theorem bytes_ext {l k : List UInt8} (h : l.length = k.length) (hq : ∀ q, q < l.length → l.getD q 0 = k.getD q 0) : l = k := by
  apply List.ext_getElem h
  intro i h1 h2
  have := hq i h1
  simpa [List.getD, h1, h2] using this
theorem bytes_len_ne {l k : List UInt8} (h : l.length ≠ k.length) : (l == k) = false := by
  rw [beq_eq_false_iff_ne]; intro e; exact h (by rw [e])
theorem bytes_ne {l k : List UInt8} {q : Nat} (h : l.getD q 0 ≠ k.getD q 0) : (l == k) = false := by
  rw [beq_eq_false_iff_ne]; intro e; exact h (by rw [e])
theorem pair_ext {x y : Int × Int} (h : (!x.1 == y.1) = false ∧ (!x.2 == y.2) = false) : x = y := by
  simp only [Bool.not_eq_false', beq_iff_eq] at h
  exact Prod.ext h.1 h.2
theorem pair_ne {x y : Int × Int} (h : (!x.1 == y.1) = true ∨ (!x.2 == y.2) = true) : x ≠ y := by
  rintro rfl
  simp at h
end
def sameB (l r : List (Int × Int)) (b v b' v' : Int) (S S' : List UInt8) : Bool := (l == r) && (decide (b = b') && (decide (v = v') && (S == S')))
theorem sameB_eq (l r : List (Int × Int)) (b v b' v' : Int) (S S' : List UInt8) : (likeB l.length r.length b v b' v' S S' && (l == r)) = sameB l r b v b' v' S S' := by
  unfold likeB sameB
  by_cases h : l = r
  · subst h
    cases (S == S') <;> simp
  · have : (l == r) = false := by rw [beq_eq_false_iff_ne]; exact h
    simp [this]
end Go.Proofs.Ytalfdcfcaamnbaa
namespace Go.Proofs.Ytalfdcfcaamnbaa
set_option linter.unusedVariables false
set_option linter.unusedSimpArgs false
open Go.ChangeShapes Go.WideShapes Go.ChangeAt Go.RowKit Hp
theorem bytes_of_cells : ∀ (L : List Value), (∀ v ∈ L, ∃ k : Int, v = .int .u8 k ∧ 0 ≤ k ∧ k < 256) → ∃ S : List UInt8, L = bytesV S ∧ S.length = L.length
  | [], _ => ⟨[], rfl, rfl⟩
  | v :: L, h => by
    obtain ⟨S, hS, hl⟩ := bytes_of_cells L fun x hx => h x (List.mem_cons_of_mem _ hx)
    obtain ⟨k, rfl, h0, h1⟩ := h v (List.mem_cons_self)
    refine ⟨UInt8.ofNat k.toNat :: S, ?_, by simp [hl]⟩
    have : ((UInt8.ofNat k.toNat).toNat : Int) = k := by rw [UInt8.toNat_ofNat']; omega
    simp only [bytesV, List.map_cons] at hS ⊢
    rw [hS, this]
theorem addrsV_at : ∀ (l : List (Int × Int)) (k : Nat) (v : Value), (addrsV l)[k]? = some v → ∃ i x, l[i]? = some x ∧ ((k = i * 2 ∧ v = .int .i64 x.1) ∨ (k = i * 2 + 1 ∧ v = .int .i64 x.2))
  | [], k, v, h => by simp [addrsV] at h
  | x :: l, 0, v, h => by simp [addrsV] at h; exact ⟨0, x, rfl, .inl ⟨rfl, h.symm⟩⟩
  | x :: l, 1, v, h => by simp [addrsV] at h; exact ⟨0, x, rfl, .inr ⟨rfl, h.symm⟩⟩
  | x :: l, k + 2, v, h => by
    obtain ⟨i, y, hi, hk⟩ := addrsV_at l k v (by simpa [addrsV] using h)
    rcases hk with ⟨rfl, rfl⟩ | ⟨rfl, rfl⟩
    · exact ⟨i + 1, y, hi, .inl ⟨by omega, rfl⟩⟩
    · exact ⟨i + 1, y, hi, .inr ⟨by omega, rfl⟩⟩
theorem rd_pairs {w : World} {b off len cap : Nat} (f : Nat → Int × Int) (hl : len ≤ cap) (hc : cap ≤ maxLen) (h : ∀ i, i < len → w.cell? ⟨b, off + i * 2, none⟩ = some (.int .i64 (f i).1) ∧ w.cell? ⟨b, off + i * 2 + 1, none⟩ = some (.int .i64 (f i).2)) :
    Rd w (.slice (some ⟨b, off, none⟩) len cap) 2 len (addrsV ((List.range len).map f)) := by
  refine Rd.mk hl hc (by simp [length_addrsV]) ?_
  intro k v hk
  obtain ⟨i, x, hi, hx⟩ := addrsV_at _ k v hk
  have hi' : i < len := by
    have := (List.getElem?_eq_some_iff.1 hi).1
    simpa using this
  have hxi : x = f i := by
    rw [List.getElem?_map, List.getElem?_range hi'] at hi
    simpa using hi.symm
  subst hxi
  rcases hx with ⟨rfl, rfl⟩ | ⟨rfl, rfl⟩
  · exact (h i hi').1
  · exact (h i hi').2
end Go.Proofs.Ytalfdcfcaamnbaa
namespace Go.Proofs.Ytalfdcfcaamnbaa
set_option linter.unusedVariables false
set_option linter.unusedSimpArgs false
open Go.ChangeShapes Go.WideShapes Go.ChangeAt Go.RowKit Go.Deep Go.Lib Go.Joins Hp
set_option maxRecDepth 100000
theorem slice_spotV {P : Program} {W : World} {base n c : Nat} {t e : TypeId} {a : Addr} (ht : P.underlying t = some (.slice e)) (h : Value.okWide P W .any base t (.slice (some a) n c)) : a.spot = none := by
  unfold Value.okWide at h
  rw [ht] at h
  simp only [Cell.okWide, ht] at h
  simp [Cell.ok, ht, World.has] at h
  exact h.2.2.2.1
theorem rd_ints {w : World} {b off len cap : Nat} (f : Nat → UInt8) (hl : len ≤ cap) (hc : cap ≤ maxLen) (h : ∀ i, i < len → w.cell? ⟨b, off + i, none⟩ = some (.int .u8 (f i).toNat)) :
    Rd w (.slice (some ⟨b, off, none⟩) len cap) 1 len (bytesV ((List.range len).map f)) := by
  refine Rd.mk hl hc (by simp) ?_
  intro k v hk
  rw [bytesV, List.getElem?_map, List.getElem?_map] at hk
  by_cases hi : k < len
  · rw [List.getElem?_range hi] at hk
    simp at hk
    subst hk
    exact h k hi
  · rw [List.getElem?_eq_none (by simpa using hi)] at hk
    simp at hk
theorem open_bytes {H : Type} {enc : TypeId × Value → H} {W : World} {base fuel : Nat} {v : Value} {x : DataW H × List MemPlace} (hv : Value.okWide Try.prog W .any base 23 v)
    (h : DataW.trod enc Try.prog W 0 (fun _ => true) true fuel 23 v.cells.toList = some x) : ∃ ao n c bs, v = .slice ao n c ∧ Rd W (.slice ao n c) 1 n (bytesV bs) ∧ bs.length = n := by
  obtain ⟨a, len, cap, rfl⟩ := okWide_slice Try.underlying23 hv
  rcases open_ints Try.underlying23 Try.underlying5 (by kernel_rfl) h with ⟨hc, _⟩ | ⟨a', len', cap', zs, hc, _, hl, hm, hz, _, hcell, hw⟩
  · simp [Value.cells] at hc
    obtain ⟨rfl, rfl, rfl⟩ := hc
    exact ⟨none, 0, 0, [], rfl, Rd.nil _ _, rfl⟩
  · simp [Value.cells] at hc
    obtain ⟨rfl, rfl, rfl⟩ := hc
    have hs := slice_spotV Try.underlying23 hv
    obtain ⟨b, off, rfl⟩ : ∃ b off, a' = ⟨b, off, none⟩ := ⟨a'.block, a'.off, by cases a'; simp_all⟩
    simp only [if_true] at hz
    refine ⟨_, len, cap, (List.range len).map fun i => UInt8.ofNat (zs.getD i 0).toNat, rfl, rd_ints _ hl hm fun i hi => ?_, by simp⟩
    have h1 := hcell i (by omega)
    rw [Addr.add_mid] at h1
    rw [h1]
    have h2 := hw (zs.getD i 0) (by rw [List.getD_eq_getElem?_getD, List.getElem?_eq_getElem (by omega)]; exact List.getElem_mem _)
    simp only [Lit.wf, Bool.and_eq_true, decide_eq_true_eq] at h2
    have h3 : IntKind.u8.min = 0 := rfl
    have h4 : IntKind.u8.max = 255 := rfl
    have h5 : ((UInt8.ofNat (zs.getD i 0).toNat).toNat : Int) = zs.getD i 0 := by rw [UInt8.toNat_ofNat']; omega
    rw [h5]
theorem open_int {H : Type} {enc : TypeId × Value → H} {W : World} {base fuel : Nat} {v : Value} {x : DataW H × List MemPlace} (hv : Value.okWide Try.prog W .any base 3 v)
    (h : DataW.trod enc Try.prog W 0 (fun _ => true) true fuel 3 v.cells.toList = some x) : ∃ z : Int, v = .int .i64 z ∧ -9223372036854775808 ≤ z ∧ z ≤ 9223372036854775807 := by
  obtain ⟨z, e, _, hw⟩ := DataW.trod_int Try.underlying3 h
  have hv' : ∃ z', v = .int .i64 z' := by
    unfold Value.okWide at hv
    rw [Try.underlying3] at hv
    simp only [Cell.okWide, Try.underlying3] at hv
    cases v <;> simp_all [Cell.ok]
  obtain ⟨z', rfl⟩ := hv'
  simp [Value.cells] at e
  subst e
  simp only [Lit.wf, Bool.and_eq_true, decide_eq_true_eq] at hw
  have h3 : IntKind.i64.min = -9223372036854775808 := rfl
  have h4 : IntKind.i64.max = 9223372036854775807 := rfl
  exact ⟨_, rfl, by omega, by omega⟩
end Go.Proofs.Ytalfdcfcaamnbaa
namespace Go.Proofs.Ytalfdcfcaamnbaa
set_option linter.unusedVariables false
set_option linter.unusedSimpArgs false
open Go.ChangeShapes Go.WideShapes Go.ChangeAt Go.RowKit Go.Deep Go.Lib Go.Joins Hp
set_option maxRecDepth 100000
theorem cellsOo : Try.prog.cellsOf 25 = 7 := by kernel_rfl
theorem cellsOi : Try.prog.cellsOf 3 = 1 := by kernel_rfl
theorem cellsOs : Try.prog.cellsOf 9 = 1 := by kernel_rfl
theorem cellsOb : Try.prog.cellsOf 23 = 1 := by kernel_rfl
theorem cellsOl : Try.prog.cellsOf 22 = 1 := by kernel_rfl
theorem i64_wfO {z : Int} (hw : (Lit.int .i64 z).wf = true) : -9223372036854775808 ≤ z ∧ z ≤ 9223372036854775807 := by
  simp only [Lit.wf, Bool.and_eq_true, decide_eq_true_eq] at hw
  have h3 : IntKind.i64.min = -9223372036854775808 := rfl
  have h4 : IntKind.i64.max = 9223372036854775807 := rfl
  omega
theorem spot_add {a : Addr} (h : (a.add 0).spot = none) : a.spot = none := by
  simpa [Addr.add] using h
theorem spot_cell {W : World} {a : Addr} {v : Value} (h1 : W.cell? a = some v) : a.spot = none := by
  unfold World.cell? at h1
  split at h1
  · by_cases hs : a.spot = none
    · exact hs
    · have : (a.spot).isSome = true := by
        cases hq : a.spot with
        | none => exact absurd hq hs
        | some q => rfl
      rw [if_pos this] at h1
      cases h1
  · cases h1
theorem open_bytesO {H : Type} {enc : TypeId × Value → H} {W : World} {fuel : Nat} {cs : List Value} {x : DataW H × List MemPlace}
    (h : DataW.trod enc Try.prog W 0 (fun _ => true) true fuel 23 cs = some x) : ∃ ao n c bs, cs = [.slice ao n c] ∧ Rd W (.slice ao n c) 1 n (bytesV bs) ∧ bs.length = n := by
  rcases open_ints Try.underlying23 Try.underlying5 (by kernel_rfl) h with ⟨hc, _⟩ | ⟨a', len', cap', zs, hc, _, hl, hm, hz, _, hcell, hw⟩
  · exact ⟨none, 0, 0, [], hc, Rd.nil _ _, rfl⟩
  · by_cases h0 : cap' = 0
    · subst h0
      obtain rfl : len' = 0 := by omega
      exact ⟨some a', 0, 0, [], hc, Rd.empty _ _ _, rfl⟩
    · simp only [if_true] at hz
      have hspot : a'.spot = none := spot_add (spot_cell (hcell 0 (by omega)))
      obtain ⟨b, off, rfl⟩ : ∃ b off, a' = ⟨b, off, none⟩ := ⟨a'.block, a'.off, by cases a'; simp_all⟩
      refine ⟨_, len', cap', (List.range len').map fun i => UInt8.ofNat (zs.getD i 0).toNat, hc, rd_ints _ hl hm fun i hi => ?_, by simp⟩
      have h1 := hcell i (by omega)
      rw [Addr.add_mid] at h1
      rw [h1]
      have h2 := hw (zs.getD i 0) (by rw [List.getD_eq_getElem?_getD, List.getElem?_eq_getElem (by omega)]; exact List.getElem_mem _)
      simp only [Lit.wf, Bool.and_eq_true, decide_eq_true_eq] at h2
      have h3 : IntKind.u8.min = 0 := rfl
      have h4 : IntKind.u8.max = 255 := rfl
      have h5 : ((UInt8.ofNat (zs.getD i 0).toNat).toNat : Int) = zs.getD i 0 := by rw [UInt8.toNat_ofNat']; omega
      rw [h5]
theorem open_strsO {H : Type} {enc : TypeId × Value → H} {W : World} {fuel : Nat} {cs : List Value} {x : DataW H × List MemPlace}
    (h : DataW.trod enc Try.prog W 0 (fun _ => true) true fuel 22 cs = some x) : ∃ ao n c l, cs = [.slice ao n c] ∧ Rd W (.slice ao n c) 1 n (strsV l) ∧ l.length = n := by
  rcases open_slice Try.underlying22 h with ⟨hc, _⟩ | ⟨a', len, cap, m, n, D, Pl, hc, _, hl, hm, hmm, _, hx⟩
  · exact ⟨none, 0, 0, [], hc, Rd.nil _ _, rfl⟩
  · by_cases h0 : cap = 0
    · subst h0
      obtain rfl : len = 0 := by omega
      exact ⟨some a', 0, 0, [], hc, Rd.empty _ _ _, rfl⟩
    · simp only [if_true] at hmm
      rw [cellsOs] at hx
      have one : ∀ i, i < m → ∃ t : List UInt8, W.cell? ((a'.add (i * 1)).add 0) = some (strV t) := by
        intro i hi
        obtain ⟨cs', h1, h2⟩ := hx i hi
        obtain ⟨_, hlen, hcell⟩ := World.cells?_some h1
        obtain ⟨s, e, _⟩ := DataW.trod_string Try.underlying9 h2
        subst e
        exact ⟨s.data.toList, hcell 0 (by decide)⟩
      obtain ⟨t0, ht0⟩ := one 0 (by omega)
      have hspot : a'.spot = none := spot_add (spot_add (spot_cell ht0))
      obtain ⟨b, off, rfl⟩ : ∃ b off, a' = ⟨b, off, none⟩ := ⟨a'.block, a'.off, by cases a'; simp_all⟩
      obtain ⟨K, hK⟩ := choose_lt (α := List UInt8) (p := fun i t => W.cell? ⟨b, off + i, none⟩ = some (strV t)) (fun i hi => by
        obtain ⟨t, ht⟩ := one i hi
        rw [Addr.add_mid, Addr.add_mid, Nat.mul_one, Nat.add_zero] at ht
        exact ⟨t, ht⟩)
      refine ⟨_, len, cap, (List.range len).map K, hc, Rd.mk hl hm (by simp [strsV]) (fun k v hk => ?_), by simp⟩
      rw [strsV, List.getElem?_map, List.getElem?_map] at hk
      by_cases hi : k < len
      · rw [List.getElem?_range hi] at hk
        simp at hk
        subst hk
        exact hK k (by omega)
      · rw [List.getElem?_eq_none (by simpa using hi)] at hk
        simp at hk
/-- What is known of an order that was handed in. -/
def OV.In (o : OV) (W : World) (al ab : Option Addr) (nl cl nb cb : Nat) : Prop := Rd W (.slice al nl cl) 1 nl (strsV o.l) ∧ Rd W (.slice ab nb cb) 1 nb (bytesV o.b) ∧ o.l.length = nl ∧ o.b.length = nb ∧
  (-9223372036854775808 ≤ o.op ∧ o.op ≤ 9223372036854775807) ∧ (-9223372036854775808 ≤ o.n ∧ o.n ≤ 9223372036854775807) ∧ (-9223372036854775808 ≤ o.m ∧ o.m ≤ 9223372036854775807)
theorem open_order {H : Type} {enc : TypeId × Value → H} {W : World} {base fuel : Nat} {v : Value} {x : DataW H × List MemPlace} (hv : Value.okWide Try.prog W .any base 25 v)
    (h : DataW.trod enc Try.prog W 0 (fun _ => true) true fuel 25 v.cells.toList = some x) : ∃ (o : OV) (al ab : Option Addr) (nl cl nb cb : Nat), v = .agg (o.cells (.slice al nl cl) (.slice ab nb cb)).toArray ∧ o.In W al ab nl cl nb cb := by
  unfold Value.okWide at hv
  rw [Try.underlying25] at hv
  obtain ⟨cs, rfl, hsz, _⟩ := hv
  rw [cellsOo] at hsz
  obtain ⟨L, rfl⟩ : ∃ L : List Value, cs = L.toArray := ⟨cs.toList, rfl⟩
  have hL : L.length = 7 := by simpa using hsz
  match L, hL with
  | [a, b, c, d, e, f, g], _ =>
    obtain ⟨xs, n, _, _, _, hlen, hf⟩ := DataW.trod_struct Try.underlying25 h
    match xs, hlen with
    | [y0, y1, y2, y3, y4, y5, y6], _ =>
      have h0 := hf 0 _ rfl
      have h1 := hf 1 _ rfl
      have h2 := hf 2 _ rfl
      have h3 := hf 3 _ rfl
      have h4 := hf 4 _ rfl
      have h5 := hf 5 _ rfl
      have h6 := hf 6 _ rfl
      simp only [Value.cells, cellsOi, cellsOs, cellsOb, cellsOl, List.drop_zero, List.drop_succ_cons, List.take_succ_cons, List.take_zero] at h0 h1 h2 h3 h4 h5 h6
      obtain ⟨z0, e0, _, w0⟩ := DataW.trod_int Try.underlying3 h0
      obtain ⟨s1, e1, _⟩ := DataW.trod_string Try.underlying9 h1
      obtain ⟨s2, e2, _⟩ := DataW.trod_string Try.underlying9 h2
      obtain ⟨z3, e3, _, w3⟩ := DataW.trod_int Try.underlying3 h3
      obtain ⟨z4, e4, _, w4⟩ := DataW.trod_int Try.underlying3 h4
      obtain ⟨al, nl, cl, l, e5, hl, hnl⟩ := open_strsO h5
      obtain ⟨ab, nb, cb, bs, e6, hb, hnb⟩ := open_bytesO h6
      cases e0; cases e1; cases e2; cases e3; cases e4; cases e5; cases e6
      exact ⟨⟨z0, z3, z4, s1.data.toList, s2.data.toList, l, bs⟩, al, ab, nl, cl, nb, cb, rfl, hl, hb, hnl, hnb, i64_wfO w0, i64_wfO w3, i64_wfO w4⟩
end Go.Proofs.Ytalfdcfcaamnbaa
namespace Go.Proofs.Ytalfdcfcaamnbaa
set_option linter.unusedVariables false
set_option linter.unusedSimpArgs false
open Go.ChangeShapes Go.WideShapes Go.ChangeAt Go.RowKit Hp
set_option maxRecDepth 100000 in
theorem orderPuts_lifted (os : Os) (started : os.Started) (H : Type) (enc : TypeId × Value → H) :
    ReturnsInHanded {} Try.checked os 3 .any (Rows.orderPutsSpec.pre6 enc Try.prog Try.f3 Rows.orderPutsRow.domain false) (Rows.orderPutsSpec.post enc Try.prog Try.f3 false true false false) := by
  refine returnsInHanded_of_change (C := Try.checked) own started (by kernel_rfl) Try.func3
    (ChangeSpec.witness6 (enc := enc) (C := Try.checked) false ⟨#[], #[.agg #[.int .i64 0, .string ⟨#[]⟩, .string ⟨#[]⟩, .int .i64 0, .int .i64 0, .slice none 0 0, .slice none 0 0], .int .i64 0], []⟩ 8 (by kernel_rfl) (by kernel_rfl) (by kernel_rfl) (by kernel_rfl)) ?_
  intro W base args ds gs before hval0 hW hcnd _
  have hval : ∀ (j : Nat) t v, Try.f3.params[j]? = some t → args[j]? = some v → Value.okWide Try.prog W .any base t v := hval0
  have hW' := hW
  obtain ⟨p, q, hAA0, hV, rfl, hfz, hnd⟩ := hW
  have hA : DataW.TrodAll enc Try.prog W 0 (fun _ => true) true Try.f3.params.toList args.toList ds p := hAA0
  rw [Try.params3] at hA hval
  have hk := hA
  obtain ⟨v0, v1, d0, d1, p0, p1, rfl, rfl, rfl, h0, h1⟩ := trodAll_two hA
  obtain ⟨rfl, rfl⟩ := trodVars_none hV
  obtain ⟨n0, h0⟩ := h0
  obtain ⟨o0, al0, ab0, nl0, cl0, nb0, cb0, rfl, hA0⟩ := open_order (hval 0 _ v0 rfl rfl) h0
  obtain ⟨n1, h1⟩ := h1
  obtain ⟨z1, rfl, hl1, hu1⟩ := open_int (hval 1 _ v1 rfl rfl) h1
  clear hAA0 hval0
  simp only [List.append_nil] at hW'
  refine (puts_law o0 z1 al0 ab0 nl0 cl0 nb0 cb0 W hA0.1 hA0.2.1 hA0.2.2.1 hA0.2.2.2.1 hA0.2.2.2.2.1 hA0.2.2.2.2.2.1 hA0.2.2.2.2.2.2).mono fun e W' ⟨he, hg⟩ => ?_
  subst he
  exact ⟨_, rfl, post_of_kept (pv := []) hW' (fun _ _ _ => (trodAll_cons_mk (shut_bool Try.underlying4 _) trodAll_mk0)) (fun sp hsp => by
      rw [Try.params3]
      exact args_kept (by decide) hk hg.below (fun p hp => hW'.lt p hp) sp hsp) (fun _ _ => rfl) (by simp)
    (hg.below.frame _)⟩
theorem orderPuts_over : Rows.orderPutsRow.holds Try.pinned (OpenSpec.ofChange Rows.orderPutsSpec) :=
  OpenClaim.holds_of_wide 3 Try.f3 rfl rfl rfl rfl rfl rfl rfl ⟨rfl, rfl, rfl, rfl, rfl⟩ rfl rfl rfl rfl rfl (by kernel_rfl) Try.func3 (by kernel_rfl)
    (of_decide_eq_true (by kernel_rfl)) (by unfold Func.isWrapper; first | (rw [if_pos (by decide +kernel)]; kernel_rfl) | (rw [if_neg (by decide +kernel)]; exact ⟨rfl, rfl⟩))
    (fun os started H enc _ => orderPuts_lifted os started H enc)

theorem orderPuts_proved : Rows.OrderPutsSaid :=
  orderPuts_over
end Go.Proofs.Ytalfdcfcaamnbaa
