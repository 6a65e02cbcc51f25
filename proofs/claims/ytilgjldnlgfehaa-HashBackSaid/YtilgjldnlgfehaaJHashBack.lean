/- PROVED: the law HashBack returns true at any input, and nothing that was there has turned. No condition. -/
import Derived.Test.YtilgjldnlgfehaaOpenW
import Derived.Test.YtilgjldnlgfehaaHTy
import Derived.Test.YtilgjldnlgfehaaPost
import Derived.Test.YtilgjldnlgfehaaH29
import Derived.Test.YtilgjldnlgfehaaH30
import Derived.Test.YtilgjldnlgfehaaSepE
namespace Go.Proofs.Ytilgjldnlgfehaa
set_option linter.unusedVariables false
set_option linter.unusedSimpArgs false
open Go.ChangeShapes Go.WideShapes Go.ChangeAt Go.RowKit Go.Deep Go.Lib Go.Joins Hp
theorem word_of {z : Int} (h : IntKind.u32.min ≤ z ∧ z ≤ IntKind.u32.max) : ∃ x : Wd, wI x = z := by
  have h3 : IntKind.u32.min = 0 := rfl
  have h4 : IntKind.u32.max = 4294967295 := rfl
  refine ⟨BitVec.ofNat 32 z.toNat, ?_⟩
  unfold wI
  rw [BitVec.toNat_ofNat]
  omega
theorem open_state {H : Type} {enc : TypeId × Value → H} {W : World} {base fuel : Nat} {v : Value} {x : DataW H × List MemPlace} (hv : Value.okWide Try.prog W .any base 36 v)
    (h : DataW.trod enc Try.prog W 0 (fun _ => true) true fuel 36 v.cells.toList = some x) : ∃ s : S8, v = .agg (wordsV s.list).toArray := by
  obtain ⟨zs, rfl, hl, hz⟩ := open_arr Try.underlying36 Try.underlying35 (by kernel_rfl) (by kernel_rfl) hv h
  match zs, hl with
  | [a, b, c, d, e, f, g, k], _ =>
    obtain ⟨a, rfl⟩ := word_of (hz a (by simp))
    obtain ⟨b, rfl⟩ := word_of (hz b (by simp))
    obtain ⟨c, rfl⟩ := word_of (hz c (by simp))
    obtain ⟨d, rfl⟩ := word_of (hz d (by simp))
    obtain ⟨e, rfl⟩ := word_of (hz e (by simp))
    obtain ⟨f, rfl⟩ := word_of (hz f (by simp))
    obtain ⟨g, rfl⟩ := word_of (hz g (by simp))
    obtain ⟨k, rfl⟩ := word_of (hz k (by simp))
    exact ⟨⟨a, b, c, d, e, f, g, k⟩, rfl⟩
theorem byte_ofI {z : Int} (h : IntKind.u8.min ≤ z ∧ z ≤ IntKind.u8.max) : ∃ x : UInt8, (x.toNat : Int) = z := by
  have h3 : IntKind.u8.min = 0 := rfl
  have h4 : IntKind.u8.max = 255 := rfl
  refine ⟨UInt8.ofNat z.toNat, ?_⟩
  rw [UInt8.toNat_ofNat']
  omega
theorem intsV_bytes : ∀ (zs : List Int), (∀ z ∈ zs, IntKind.u8.min ≤ z ∧ z ≤ IntKind.u8.max) → ∃ S : List UInt8, intsV .u8 zs = bytesV S ∧ S.length = zs.length
  | [], _ => ⟨[], rfl, rfl⟩
  | z :: zs, h => by
    obtain ⟨S, hS, hl⟩ := intsV_bytes zs fun x hx => h x (List.mem_cons_of_mem _ hx)
    obtain ⟨x, hx⟩ := byte_ofI (h z List.mem_cons_self)
    refine ⟨x :: S, ?_, by simp [hl]⟩
    show Value.int .u8 z :: intsV .u8 zs = Value.int .u8 x.toNat :: bytesV S
    rw [hS, hx]
theorem open_idH {H : Type} {enc : TypeId × Value → H} {W : World} {base fuel : Nat} {v : Value} {x : DataW H × List MemPlace} (hv : Value.okWide Try.prog W .any base 29 v)
    (h : DataW.trod enc Try.prog W 0 (fun _ => true) true fuel 29 v.cells.toList = some x) : ∃ S : List UInt8, v = .agg (bytesV S).toArray ∧ S.length = 32 := by
  obtain ⟨zs, rfl, hl, hz⟩ := open_arr Try.underlying29 Try.underlying5 (by kernel_rfl) (by kernel_rfl) hv h
  obtain ⟨S, hS, hl2⟩ := intsV_bytes zs hz
  exact ⟨S, by rw [hS], by omega⟩
end Go.Proofs.Ytilgjldnlgfehaa
namespace Go.Proofs.Ytilgjldnlgfehaa
set_option linter.unusedVariables false
set_option linter.unusedSimpArgs false
open Go.ChangeShapes Go.WideShapes Go.ChangeAt Go.RowKit
theorem open_str {W : World} {base : Nat} {v : Value} (hv : Value.okWide Try.prog W .any base 9 v) : ∃ l : List UInt8, v = .string ⟨l.toArray⟩ ∧ l.length ≤ 9223372036854775807 := by
  obtain ⟨s, rfl⟩ := okWide_string Try.underlying9 hv
  refine ⟨s.data.toList, rfl, ?_⟩
  unfold Value.okWide at hv
  rw [Try.underlying9] at hv
  simp only [Cell.okWide, Try.underlying9, Cell.ok] at hv
  have h4 : IntKind.i64.max = 9223372036854775807 := rfl
  rw [h4] at hv
  have h5 : s.data.toList.length = s.size := by rw [Array.length_toList]; rfl
  omega
end Go.Proofs.Ytilgjldnlgfehaa
namespace Go.Proofs.Ytilgjldnlgfehaa
set_option linter.unusedVariables false
set_option linter.unusedSimpArgs false
open Go.RowKit Hp
theorem hexA_half {n : Nat} (h : n < 16) : halfI (hexA n) = n := by
  have key : ∀ n : Fin 16, halfI (hexA n.1) = n.1 := by decide +kernel
  exact key ⟨n, h⟩
theorem hexA_mono {n m : Nat} (hn : n < 16) (hm : m < 16) : hexA n < hexA m ↔ n < m := by
  have key : ∀ n m : Fin 16, hexA n.1 < hexA m.1 ↔ n.1 < m.1 := by decide +kernel
  exact key ⟨n, hn⟩ ⟨m, hm⟩
theorem textB_even : ∀ (l : List UInt8) (j : Nat) (c : UInt8), l[j]? = some c → (textB l)[2 * j]? = some (hexA (c.toNat / 16)) ∧ (textB l)[2 * j + 1]? = some (hexA (c.toNat % 16))
  | x :: l, 0, c, h => by
    simp at h
    subst h
    exact ⟨rfl, rfl⟩
  | x :: l, j + 1, c, h => by
    have ih := textB_even l j c (by simpa using h)
    have e : textB (x :: l) = hexA (x.toNat / 16) :: hexA (x.toNat % 16) :: textB l := rfl
    rw [e, show 2 * (j + 1) = 2 * j + 1 + 1 by omega, List.getElem?_cons_succ, List.getElem?_cons_succ, List.getElem?_cons_succ, List.getElem?_cons_succ]
    exact ih
  | [], _, _, h => by simp at h
theorem getD_of {l : List UInt8} {j : Nat} {c : UInt8} (h : l[j]? = some c) : l.getD j 0 = c := by simp [List.getD, h]
theorem text_get {a : List UInt8} {j : Nat} {c : UInt8} (h : a[j]? = some c) : halfI ((textB a).getD (2 * j) 0) = ((c.toNat / 16 : Nat) : Int) ∧ halfI ((textB a).getD (2 * j + 1) 0) = ((c.toNat % 16 : Nat) : Int) := by
  obtain ⟨h1, h2⟩ := textB_even a j c h
  have := c.toNat_lt
  rw [getD_of h1, getD_of h2]
  exact ⟨hexA_half (by omega), hexA_half (by omega)⟩
/-- An ID's text is read as it. -/
theorem parse_text {a : List UInt8} (ha : a.length = 32) : parseR (textB a) = (a, 0, 0) := by
  have hl : (textB a).length = 64 := by rw [length_textB, ha]
  have hex : ∀ j, j < 32 → ∃ c, a[j]? = some c := fun j hj => ⟨_, List.getElem?_eq_getElem (by omega)⟩
  rw [parse_ok hl (fun j hj => by
    obtain ⟨c, hc⟩ := hex (j / 2) (by omega)
    obtain ⟨h1, h2⟩ := text_get hc
    rcases Nat.mod_two_eq_zero_or_one j with h | h
    · rw [show j = 2 * (j / 2) by omega, h1]; omega
    · rw [show j = 2 * (j / 2) + 1 by omega, h2]; omega)]
  have : idP (textB a) 64 = a := by
    apply List.ext_getElem?
    intro j
    by_cases hj : j < 32
    · obtain ⟨c, hc⟩ := hex j hj
      obtain ⟨h1, h2⟩ := text_get hc
      rw [idP_get _ _ hj, hc]
      unfold nibB
      rw [if_pos (by omega), h1, h2]
      congr 1
      apply UInt8.toNat_inj.1
      rw [UInt8.toNat_ofNat', Int.toNat_natCast, Int.toNat_natCast]
      have := c.toNat_lt
      omega
    · rw [List.getElem?_eq_none (by rw [length_idP]; omega), List.getElem?_eq_none (by omega)]
  rw [this]
theorem hexA_half' {c : UInt8} {k : Nat} (h : halfI c = k) : k < 16 ∧ hexA k = c := by
  rcases half_in c with h1 | ⟨m, hm, h1, h2, _⟩
  · rw [h1] at h; omega
  · have : m = k := by rw [h1] at h; omega
    subst this
    exact ⟨hm, h2⟩
theorem textB_map : ∀ (l : List Nat) (f : Nat → UInt8), textB (l.map f) = l.flatMap fun j => hex2 (f j)
  | [], _ => rfl
  | x :: l, f => by
    have : textB ((x :: l).map f) = hex2 (f x) ++ textB (l.map f) := rfl
    rw [this, textB_map l f]
    rfl
/-- What is read of a text is told as that text. -/
theorem text_parse {s I : List UInt8} {A : Int} (h : parseR s = (I, 0, A)) : textB I = s := by
  unfold parseR at h
  split at h
  · simp at h
  · rename_i hl
    split at h
    · simp at h
    · rename_i hb
      have hI : idP s 64 = I := by simpa using congrArg Prod.fst h
      have hl64 : s.length = 64 := by simpa using hl
      have hgood : ∀ j, j < 64 → ∃ k : Nat, k < 16 ∧ halfI (s.getD j 0) = k ∧ hexA k = s.getD j 0 := by
        intro j hj
        have h1 := List.find?_eq_none.1 hb j (List.mem_range.2 hj)
        rcases half_in (s.getD j 0) with h2 | ⟨m, hm, h2, h3, _⟩
        · rw [h2] at h1; simp at h1
        · exact ⟨m, hm, h2, h3⟩
      rw [← hI]
      apply List.ext_getElem?
      intro i
      by_cases hi : i < 64
      · have hj : i / 2 < 32 := by omega
        have hg := idP_get s 64 hj
        obtain ⟨k1, hk1, e1, x1⟩ := hgood (2 * (i / 2)) (by omega)
        obtain ⟨k2, hk2, e2, x2⟩ := hgood (2 * (i / 2) + 1) (by omega)
        have hn : nibB s 64 (i / 2) = UInt8.ofNat (k1 * 16 + k2) := by
          unfold nibB
          rw [if_pos (by omega), e1, e2, Int.toNat_natCast, Int.toNat_natCast]
        obtain ⟨t1, t2⟩ := textB_even _ _ _ hg
        rw [hn, UInt8.toNat_ofNat', show (k1 * 16 + k2) % 2 ^ 8 = k1 * 16 + k2 by omega] at t1 t2
        rw [show (k1 * 16 + k2) / 16 = k1 by omega, x1] at t1
        rw [show (k1 * 16 + k2) % 16 = k2 by omega, x2] at t2
        have hs : s[i]? = some (s.getD i 0) := by
          rw [List.getElem?_eq_getElem (by omega)]
          simp [List.getD, show i < s.length by omega]
        rw [hs]
        rcases Nat.mod_two_eq_zero_or_one i with h2 | h2
        · rw [show 2 * (i / 2) = i by omega] at t1
          exact t1
        · rw [show 2 * (i / 2) + 1 = i by omega] at t2
          exact t2
      · rw [List.getElem?_eq_none (by rw [length_textB, length_idP]; omega), List.getElem?_eq_none (by omega)]
theorem parse_fault {s I : List UInt8} {E A : Int} (h : parseR s = (I, E, A)) (hE : E ≠ 0) : I = List.replicate 32 0 ∧ 0 ≤ A ∧ A ≤ s.length ∧ A ≤ 64 := by
  unfold parseR at h
  split at h
  · simp only [Prod.mk.injEq] at h
    obtain ⟨rfl, rfl, rfl⟩ := h
    exact ⟨rfl, by omega, by omega, by omega⟩
  · rename_i hl
    split at h
    · rename_i i hb
      simp only [Prod.mk.injEq] at h
      obtain ⟨rfl, rfl, rfl⟩ := h
      have hi := List.mem_range.1 (List.mem_of_find?_eq_some hb)
      have hl64 : s.length = 64 := by simpa using hl
      exact ⟨rfl, by omega, by omega, by omega⟩
    · simp only [Prod.mk.injEq] at h
      exact absurd h.2.1.symm hE
/-! ### Orders -/
theorem less_eq : ∀ l k : List UInt8, Op.bytesLess l k = decide (Lib.compareBytes l k < 0)
  | [], [] => rfl
  | [], _ :: _ => rfl
  | _ :: _, [] => rfl
  | x :: l, y :: k => by
    have ih := less_eq l k
    unfold Op.bytesLess Lib.compareBytes
    by_cases h1 : x < y
    · simp [h1]
    · by_cases h2 : y < x
      · have : ¬ x = y := fun e => by subst e; exact h1 h2
        simp [h1, h2, this]
      · have : x = y := UInt8.le_antisymm (UInt8.not_lt.1 h2) (UInt8.not_lt.1 h1)
        simp [h1, h2, this, ih]
theorem cmp_hex : ∀ a b : List UInt8, Lib.compareBytes (textB a) (textB b) = Lib.compareBytes a b
  | [], [] => rfl
  | [], _ :: _ => rfl
  | _ :: _, [] => rfl
  | x :: a, y :: b => by
    have ih := cmp_hex a b
    have e1 : textB (x :: a) = hexA (x.toNat / 16) :: hexA (x.toNat % 16) :: textB a := rfl
    have e2 : textB (y :: b) = hexA (y.toNat / 16) :: hexA (y.toNat % 16) :: textB b := rfl
    have hx := x.toNat_lt
    have hy := y.toNat_lt
    rw [e1, e2]
    simp only [Lib.compareBytes]
    have m1 := hexA_mono (n := x.toNat / 16) (m := y.toNat / 16) (by omega) (by omega)
    have m2 := hexA_mono (n := y.toNat / 16) (m := x.toNat / 16) (by omega) (by omega)
    have m3 := hexA_mono (n := x.toNat % 16) (m := y.toNat % 16) (by omega) (by omega)
    have m4 := hexA_mono (n := y.toNat % 16) (m := x.toNat % 16) (by omega) (by omega)
    have l1 : x < y ↔ x.toNat < y.toNat := UInt8.lt_iff_toNat_lt
    have l2 : y < x ↔ y.toNat < x.toNat := UInt8.lt_iff_toNat_lt
    simp only [m1, m2, m3, m4, l1, l2, ih]
    (repeat' split) <;> first | rfl | omega
theorem cmp_swap : ∀ a b : List UInt8, a.length = b.length → a ≠ b → (Lib.compareBytes a b < 0 ↔ ¬ Lib.compareBytes b a < 0)
  | [], [], _, h => absurd rfl h
  | x :: a, y :: b, hl, h => by
    have ih := cmp_swap a b (by simpa using hl)
    simp only [Lib.compareBytes]
    by_cases h1 : x < y
    · have h2 : ¬ y < x := fun e => by have := UInt8.lt_iff_toNat_lt.1 h1; have := UInt8.lt_iff_toNat_lt.1 e; omega
      simp [h1, h2]
    · by_cases h2 : y < x
      · simp [h1, h2]
      · have e : x = y := UInt8.le_antisymm (UInt8.not_lt.1 h2) (UInt8.not_lt.1 h1)
        subst e
        have h3 : ¬ x < x := UInt8.lt_irrefl x
        simp only [h3, if_false]
        exact ih (fun e => h (by rw [e]))
  | [], _ :: _, hl, _ => by simp at hl
  | _ :: _, [], hl, _ => by simp at hl
theorem less_swap {a b : List UInt8} (ha : a.length = 32) (hb : b.length = 32) (h : a ≠ b) : lessB b a = !lessB a b := by
  have := cmp_swap a b (by omega) h
  unfold lessB
  by_cases h1 : Lib.compareBytes a b < 0
  · have h2 := this.1 h1
    simp [h1, h2]
  · have h2 : Lib.compareBytes b a < 0 := by
      by_cases h3 : Lib.compareBytes b a < 0
      · exact h3
      · exact absurd (this.2 h3) h1
    simp [h1, h2]
theorem text_inj {a b : List UInt8} (ha : a.length = 32) (hb : b.length = 32) : (textB a == textB b) = (a == b) := by
  by_cases h : a = b
  · subst h; simp
  · have : textB a ≠ textB b := fun e => by
      have h1 := parse_text ha
      rw [e, parse_text hb] at h1
      exact h (by simpa using congrArg Prod.fst h1.symm)
    rw [beq_eq_false_iff_ne.2 h, beq_eq_false_iff_ne.2 this]
end Go.Proofs.Ytilgjldnlgfehaa
namespace Go.Proofs.Ytilgjldnlgfehaa
set_option linter.unusedVariables false
set_option linter.unusedSimpArgs false
open Go.RowKit Hp
attribute [local irreducible] Go.Calls
set_option maxRecDepth 100000
set_option maxHeartbeats 0
theorem loadedErH (A : Addr) : loadVar 37 A = loadVarH 37 A := rfl
instance hSEr : TyS Try.prog 37 := ⟨by kernel_rfl⟩
section
attribute [local go_sem ↓] loadedID loadedFtH loadedErH
theorem hback_long (a b s : List UInt8) (w : World) (ha : a.length = 32) (hb : b.length = 32) (hs : s.length ≤ 9223372036854775807) (h2 : 200 < s.length) :
    Calls Try.prog 8 #[.agg (bytesV a).toArray, .agg (bytesV b).toArray, .string ⟨s.toArray⟩] w fun e w' => e = .returned (.bool true) ∧ St w [] w' [] := by
  have hst := St.refl w
  obtain ⟨N, hN⟩ : ∃ N, N = s.length := ⟨_, rfl⟩
  have hsz : (⟨s.toArray⟩ : ByteArray).size = N := by rw [size_l, hN]
  have HNS := hid hN
  have HSS := hid hs
  have HA := hid ha
  have HB := hid hb
  have HVA := hid (show (bytesV a).length = 32 by rw [length_bytesV, ha])
  have HVB := hid (show (bytesV b).length = 32 by rw [length_bytesV, hb])
  have HOA := hid (ones_bytesV a)
  have d0 : decide (200 < (N : Int)) = true := decide_eq_true (by omega)
  clear hN hs ha hb h2
  go_enter Try.func8, Try.ntmps8
  go_wp2_with (first | go_big_skip | go_big_guard | (refine wl_boxA hst rfl rfl rfl ?_; intro g3 _ hst1; clear hst) | (refine wl_boxA hst1 rfl rfl rfl ?_; intro g4 _ hst2; clear hst1) | (go_at_call 6; refine (hknown_any _).mono ?_; rintro _ _ ⟨rfl, h4⟩; have hst3 := St.call0 hst2 h4; clear h4 hst2))
  go_ret
  exact ⟨rfl, hst3.nil⟩
theorem hback_same_good (a b s : List UInt8) (w : World) (ha : a.length = 32) (hb : b.length = 32) (hs : s.length ≤ 9223372036854775807) (h2 : ¬ 200 < s.length) (hab : a = b) (hE : (parseR s).2.1 = 0) :
    Calls Try.prog 8 #[.agg (bytesV a).toArray, .agg (bytesV b).toArray, .string ⟨s.toArray⟩] w fun e w' => e = .returned (.bool true) ∧ St w [] w' [] := by
  have hst := St.refl w
  obtain ⟨N, hN⟩ : ∃ N, N = s.length := ⟨_, rfl⟩
  have hsz : (⟨s.toArray⟩ : ByteArray).size = N := by rw [size_l, hN]
  have HNS := hid hN
  have HSS := hid hs
  have HA := hid ha
  have HB := hid hb
  have HVA := hid (show (bytesV a).length = 32 by rw [length_bytesV, ha])
  have HVB := hid (show (bytesV b).length = 32 by rw [length_bytesV, hb])
  have HOA := hid (ones_bytesV a)
  have d0 : decide (200 < (N : Int)) = false := decide_eq_false (by omega)
  obtain ⟨I, E, A, hP, hI⟩ : ∃ I E A, parseR s = (I, E, A) ∧ I.length = 32 := ⟨_, _, _, rfl, parse_len32 s⟩
  rw [hP] at hE
  dsimp only at hE
  have HP := hid hP
  have HI := hid hI
  have HVI := hid (show (bytesV I).length = 32 by rw [length_bytesV, hI])
  have HON := hid (ones_bytesV I)
  have HPT := hid (parse_text ha)
  obtain ⟨TA, hTA⟩ : ∃ T, T = textB a := ⟨_, rfl⟩
  obtain ⟨TB, hTB⟩ : ∃ T, T = textB b := ⟨_, rfl⟩
  have htl : TA.length = 64 := by rw [hTA, length_textB, ha]
  have hta : (⟨TA.toArray⟩ : ByteArray).size = 64 := by rw [size_l, htl]
  have HTL := hid htl
  obtain ⟨L, hL⟩ : ∃ L, L = lessB a b := ⟨_, rfl⟩
  have HL := hid hL
  have hless : Op.bytesLess TA TB = L := by rw [less_eq, hTA, hTB, cmp_hex, hL]; rfl
  have HTA := hid hTA
  have HTB := hid hTB
  have heq : (TA == TB) = true := by rw [hTA, hTB, text_inj ha hb, hab]; exact beq_self_eq_true _
  have HEQ := hid (show (a == b) = true by rw [hab]; exact beq_self_eq_true _)
  have HNE := hid (show (!(a == b)) = false by rw [hab, beq_self_eq_true]; rfl)
  have HAA := hid (show (!(a == a)) = false by rw [beq_self_eq_true]; rfl)
  subst hE
  have HTI := hid (text_parse hP)
  clear hN hs ha hb hP hI hL hTA hTB htl hab h2
  go_enter Try.func8, Try.ntmps8
  go_wp2_with (first | go_big_skip | go_big_guard | (refine wl_boxA hst rfl rfl rfl ?_; intro g3 _ hst1; clear hst) | (refine wl_boxA hst1 rfl rfl rfl ?_; intro g4 _ hst2; clear hst1) | (go_at_call 6; refine (hknown_any _).mono ?_; rintro _ _ ⟨rfl, h4⟩; have hst3 := St.call0 hst2 h4; clear h4 hst2))
  have hD := hst3.drew
  clear hst3
  refine wp_region_held_drew (S := (fun w' => (loadVarH 29 ⟨g3, 0, none⟩).run Try.prog w' = .ok (.agg (List.toArray (bytesV a))) w' ∧ (loadVarH 29 ⟨g4, 0, none⟩).run Try.prog w' = .ok (.agg (List.toArray (bytesV b))) w')) (by kernel_rfl) (by exact ⟨ldA (bytesV a) [_] hD (HVA.out) (List.take_length), ldA (bytesV b) [] hD (HVB.out) (List.take_length)⟩) (fun hHeld => ?_)
  refine wpAnyH_take (i := 0) (oi := ⟨some 19, _, _, _, _, _⟩) (v := ?_) rfl (by kernel_rfl) (by kernel_rfl) (by kernel_rfl) (fun _ _ _ h => h) (Or.inl ⟨by rfl, ?_⟩) (by assumption) ?_
  rotate_left
  · intro w hSw; (try dsimp only at hSw); go_simp; try with_reducible rfl
  (try simp only [Act.put, List.setIfInBounds_toArray, List.set_cons_zero, List.set_cons_succ])
  refine wpAnyH_take (i := 2) (oi := ⟨some 21, _, _, _, _, _⟩) (v := ?_) rfl (by kernel_rfl) (by kernel_rfl) (by kernel_rfl) (fun _ _ _ h => h) (Or.inl ⟨by rfl, ?_⟩) (by assumption) ?_
  rotate_left
  · intro w hSw; (try dsimp only at hSw); go_simp; try with_reducible rfl
  (try simp only [Act.put, List.setIfInBounds_toArray, List.set_cons_zero, List.set_cons_succ])
  refine wpAnyH_ready (rs := [1]) (by kernel_rfl) (by simp) ?_
  refine (AllReadyH.cons (o := ⟨some 20, _, _, _, _, _⟩) rfl (fun K hK => ?_) AllReadyH.nil)
  go_simp
  go_at_call 32
  refine (text_any a HA.out _).mono ?_
  rw [← HTA.out]
  rintro _ _ ⟨rfl, h4⟩
  have hM1 := St.call0 hD h4
  clear h4
  refine hK.out _ _ ?_ (fun hHeld => ?_)
  · exact ⟨ldA (bytesV a) [_] hM1 (HVA.out) (List.take_length), ldA (bytesV b) [] hM1 (HVB.out) (List.take_length)⟩
  clear hK K
  (try simp only [Act.put, List.setIfInBounds_toArray, List.set_cons_zero, List.set_cons_succ])
  refine wpAnyH_ready (rs := [3]) (by kernel_rfl) (by simp) ?_
  refine (AllReadyH.cons (o := ⟨some 22, _, _, _, _, _⟩) rfl (fun K hK => ?_) AllReadyH.nil)
  go_simp
  go_at_call 32
  refine (text_any b HB.out _).mono ?_
  rw [← HTB.out]
  rintro _ _ ⟨rfl, h4⟩
  have hM2 := St.call0 hM1 h4
  clear h4
  refine hK.out _ _ ?_ (fun hHeld => ?_)
  · exact ⟨ldA (bytesV a) [_] hM2 (HVA.out) (List.take_length), ldA (bytesV b) [] hM2 (HVB.out) (List.take_length)⟩
  clear hK K
  (try simp only [Act.put, List.setIfInBounds_toArray, List.set_cons_zero, List.set_cons_succ])
  refine wpAnyH_take (i := 4) (oi := ⟨some 8, _, _, _, _, _⟩) (v := ?_) rfl (by kernel_rfl) (by kernel_rfl) (by kernel_rfl) (fun _ _ _ h => h) (Or.inl ⟨by rfl, ?_⟩) (by assumption) ?_
  rotate_left
  · intro w hSw; (try dsimp only at hSw); go_simp; try with_reducible rfl
  (try simp only [Act.put, List.setIfInBounds_toArray, List.set_cons_zero, List.set_cons_succ])
  refine wpAnyH_take (i := 5) (oi := ⟨some 9, _, _, _, _, _⟩) (v := ?_) rfl (by kernel_rfl) (by kernel_rfl) (by kernel_rfl) (fun _ _ _ h => h) (Or.inl ⟨by rfl, ?_⟩) (by assumption) ?_
  rotate_left
  · intro w hSw; (try dsimp only at hSw); go_simp; try with_reducible rfl
  (try simp only [Act.put, List.setIfInBounds_toArray, List.set_cons_zero, List.set_cons_succ])
  refine wpAnyH_done (by kernel_rfl) ?_ _
  clear hHeld
  go_wp2_with (first | go_big_skip | go_big_guard | (go_at_call 27; refine (parse_any TA (by rw [HTL.out]; decide) _).mono ?_; rw [HTA.out, HPT.out]; (try dsimp only); rw [← HTA.out]; rintro _ _ ⟨rfl, h4⟩; have hst5 := St.call0 hM2 h4; clear h4 hM2) | (refine wl_alloc (T := 29) hst5 rfl rfl ?_; intro g10 _ hst6; clear hst5) | (refine wl_alloc (T := 47) hst6 rfl rfl ?_; intro g11 _ hst7; clear hst6) | (refine wl_storeA [_] hst7 rfl rfl rfl rfl HVA.out HOA.out rfl ?_; intro _ hst8; clear hst7) | (refine wl_storeA [] hst8 rfl rfl rfl rfl rfl rfl rfl ?_; intro _ hst9; clear hst8))
  have hD6 := hst9.drew
  clear hst9
  refine wp_region_held_drew (S := (fun w' => (loadVarH 29 ⟨g3, 0, none⟩).run Try.prog w' = .ok (.agg (List.toArray (bytesV a))) w' ∧ (loadVarH 29 ⟨g4, 0, none⟩).run Try.prog w' = .ok (.agg (List.toArray (bytesV b))) w' ∧ (loadVarH 29 ⟨g10, 0, none⟩).run Try.prog w' = .ok (.agg (List.toArray (bytesV a))) w' ∧ (loadVarH 37 ⟨g11, 0, none⟩).run Try.prog w' = .ok (.int .i64 0) w')) (by kernel_rfl) (by exact ⟨ldA (bytesV a) [_, _, _] hD6 (HVA.out) (List.take_length), ldA (bytesV b) [_, _] hD6 (HVB.out) (List.take_length), ldA (bytesV a) [_] hD6 (HVA.out) (List.take_length), ldS [] hD6 rfl⟩) (fun hHeld => ?_)
  refine wpAnyH_take (i := 0) (oi := ⟨some 28, _, _, _, _, _⟩) (v := ?_) rfl (by kernel_rfl) (by kernel_rfl) (by kernel_rfl) (fun _ _ _ h => h) (Or.inl ⟨by rfl, ?_⟩) (by assumption) ?_
  rotate_left
  · intro w hSw; (try dsimp only at hSw); go_simp; try with_reducible rfl
  (try simp only [Act.put, List.setIfInBounds_toArray, List.set_cons_zero, List.set_cons_succ])
  refine wpAnyH_take (i := 1) (oi := ⟨some 29, _, _, _, _, _⟩) (v := ?_) rfl (by kernel_rfl) (by kernel_rfl) (by kernel_rfl) (fun _ _ _ h => h) (Or.inl ⟨by rfl, ?_⟩) (by assumption) ?_
  rotate_left
  · intro w hSw; (try dsimp only at hSw); go_simp; try with_reducible rfl
  (try simp only [Act.put, List.setIfInBounds_toArray, List.set_cons_zero, List.set_cons_succ])
  refine wpAnyH_take (i := 2) (oi := ⟨some 30, _, _, _, _, _⟩) (v := ?_) rfl (by kernel_rfl) (by kernel_rfl) (by kernel_rfl) (fun _ _ _ h => h) (Or.inl ⟨by rfl, ?_⟩) (by assumption) ?_
  rotate_left
  · intro w hSw; (try dsimp only at hSw); go_simp; try with_reducible rfl
  (try simp only [Act.put, List.setIfInBounds_toArray, List.set_cons_zero, List.set_cons_succ])
  refine wpAnyH_take (i := 3) (oi := ⟨some 31, _, _, _, _, _⟩) (v := ?_) rfl (by kernel_rfl) (by kernel_rfl) (by kernel_rfl) (fun _ _ _ h => h) (Or.inl ⟨by rfl, ?_⟩) (by assumption) ?_
  rotate_left
  · intro w hSw; (try dsimp only at hSw); go_simp; try with_reducible rfl
  (try simp only [Act.put, List.setIfInBounds_toArray, List.set_cons_zero, List.set_cons_succ])
  refine wpAnyH_take (i := 4) (oi := ⟨some 32, _, _, _, _, _⟩) (v := ?_) rfl (by kernel_rfl) (by kernel_rfl) (by kernel_rfl) (fun _ _ _ h => h) (Or.inl ⟨by rfl, ?_⟩) (by assumption) ?_
  rotate_left
  · intro w hSw; (try dsimp only at hSw); go_simp; try with_reducible rfl
  (try simp only [Act.put, List.setIfInBounds_toArray, List.set_cons_zero, List.set_cons_succ])
  refine wpAnyH_take (i := 5) (oi := ⟨some 33, _, _, _, _, _⟩) (v := ?_) rfl (by kernel_rfl) (by kernel_rfl) (by kernel_rfl) (fun _ _ _ h => h) (Or.inl ⟨by rfl, ?_⟩) (by assumption) ?_
  rotate_left
  · intro w hSw; (try dsimp only at hSw); go_simp; try with_reducible rfl
  (try simp only [Act.put, List.setIfInBounds_toArray, List.set_cons_zero, List.set_cons_succ])
  refine wpAnyH_ready (rs := [6]) (by kernel_rfl) (by simp) ?_
  refine (AllReadyH.cons (o := ⟨some 34, _, _, _, _, _⟩) rfl (fun K hK => ?_) AllReadyH.nil)
  rw [if_pos (by rfl)]
  refine ow_bare ?_
  refine ow_of_wl (ops := #[]) (by rfl) ?_
  refine wl_neq_bytes rfl rfl rfl rfl ⟨HA.out, HA.out⟩ ?_
  rw [HAA.out]
  refine q0_nil ?_
  refine hK.out _ _ ?_ (fun hHeld => ?_)
  · exact ⟨ldA (bytesV a) [_, _, _] hD6 (HVA.out) (List.take_length), ldA (bytesV b) [_, _] hD6 (HVB.out) (List.take_length), ldA (bytesV a) [_] hD6 (HVA.out) (List.take_length), ldS [] hD6 rfl⟩
  clear hK K
  (try simp only [Act.put, List.setIfInBounds_toArray, List.set_cons_zero, List.set_cons_succ])
  refine wpAnyH_take (i := 7) (oi := ⟨some 35, _, _, _, _, _⟩) (v := ?_) rfl (by kernel_rfl) (by kernel_rfl) (by kernel_rfl) (fun _ _ _ h => h) (Or.inl ⟨by rfl, ?_⟩) (by assumption) ?_
  rotate_left
  · intro w hSw; (try dsimp only at hSw); go_simp; try with_reducible rfl
  (try simp only [Act.put, List.setIfInBounds_toArray, List.set_cons_zero, List.set_cons_succ])
  refine wpAnyH_take (i := 8) (oi := ⟨some 36, _, _, _, _, _⟩) (v := ?_) rfl (by kernel_rfl) (by kernel_rfl) (by kernel_rfl) (fun _ _ _ h => h) (Or.inl ⟨by rfl, ?_⟩) (by assumption) ?_
  rotate_left
  · intro w hSw; (try dsimp only at hSw); go_simp; try with_reducible rfl
  (try simp only [Act.put, List.setIfInBounds_toArray, List.set_cons_zero, List.set_cons_succ])
  refine wpAnyH_take (i := 9) (oi := ⟨some 37, _, _, _, _, _⟩) (v := ?_) rfl (by kernel_rfl) (by kernel_rfl) (by kernel_rfl) (fun _ _ _ h => h) (Or.inl ⟨by rfl, ?_⟩) (by assumption) ?_
  rotate_left
  · intro w hSw; (try dsimp only at hSw); go_simp; try with_reducible rfl
  (try simp only [Act.put, List.setIfInBounds_toArray, List.set_cons_zero, List.set_cons_succ])
  refine wpAnyH_take (i := 10) (oi := ⟨some 38, _, _, _, _, _⟩) (v := ?_) rfl (by kernel_rfl) (by kernel_rfl) (by kernel_rfl) (fun _ _ _ h => h) (Or.inl ⟨by rfl, ?_⟩) (by assumption) ?_
  rotate_left
  · intro w hSw; (try dsimp only at hSw); go_simp; try with_reducible rfl
  (try simp only [Act.put, List.setIfInBounds_toArray, List.set_cons_zero, List.set_cons_succ])
  refine wpAnyH_take (i := 11) (oi := ⟨some 39, _, _, _, _, _⟩) (v := ?_) rfl (by kernel_rfl) (by kernel_rfl) (by kernel_rfl) (fun _ _ _ h => h) (Or.inl ⟨by rfl, ?_⟩) (by assumption) ?_
  rotate_left
  · intro w hSw; (try dsimp only at hSw); go_simp; try with_reducible rfl
  (try simp only [Act.put, List.setIfInBounds_toArray, List.set_cons_zero, List.set_cons_succ])
  refine wpAnyH_take (i := 12) (oi := ⟨some 40, _, _, _, _, _⟩) (v := ?_) rfl (by kernel_rfl) (by kernel_rfl) (by kernel_rfl) (fun _ _ _ h => h) (Or.inl ⟨by rfl, ?_⟩) (by assumption) ?_
  rotate_left
  · intro w hSw; (try dsimp only at hSw); go_simp; try with_reducible rfl
  (try simp only [Act.put, List.setIfInBounds_toArray, List.set_cons_zero, List.set_cons_succ])
  refine wpAnyH_take (i := 13) (oi := ⟨some 41, _, _, _, _, _⟩) (v := ?_) rfl (by kernel_rfl) (by kernel_rfl) (by kernel_rfl) (fun _ _ _ h => h) (Or.inl ⟨by rfl, ?_⟩) (by assumption) ?_
  rotate_left
  · intro w hSw; (try dsimp only at hSw); go_simp; try with_reducible rfl
  (try simp only [Act.put, List.setIfInBounds_toArray, List.set_cons_zero, List.set_cons_succ])
  refine wpAnyH_take (i := 14) (oi := ⟨some 42, _, _, _, _, _⟩) (v := ?_) rfl (by kernel_rfl) (by kernel_rfl) (by kernel_rfl) (fun _ _ _ h => h) (Or.inl ⟨by rfl, ?_⟩) (by assumption) ?_
  rotate_left
  · intro w hSw; (try dsimp only at hSw); go_simp; try with_reducible rfl
  (try simp only [Act.put, List.setIfInBounds_toArray, List.set_cons_zero, List.set_cons_succ])
  refine wpAnyH_take (i := 15) (oi := ⟨some 43, _, _, _, _, _⟩) (v := ?_) rfl (by kernel_rfl) (by kernel_rfl) (by kernel_rfl) (fun _ _ _ h => h) (Or.inl ⟨by rfl, ?_⟩) (by assumption) ?_
  rotate_left
  · intro w hSw; (try dsimp only at hSw); go_simp; try with_reducible rfl
  (try simp only [Act.put, List.setIfInBounds_toArray, List.set_cons_zero, List.set_cons_succ])
  refine wpAnyH_take (i := 17) (oi := ⟨some 45, _, _, _, _, _⟩) (v := ?_) rfl (by kernel_rfl) (by kernel_rfl) (by kernel_rfl) (fun _ _ _ h => h) (Or.inl ⟨by rfl, ?_⟩) (by assumption) ?_
  rotate_left
  · intro w hSw; (try dsimp only at hSw); go_simp; try with_reducible rfl
  (try simp only [Act.put, List.setIfInBounds_toArray, List.set_cons_zero, List.set_cons_succ])
  refine wpAnyH_take (i := 18) (oi := ⟨some 46, _, _, _, _, _⟩) (v := ?_) rfl (by kernel_rfl) (by kernel_rfl) (by kernel_rfl) (fun _ _ _ h => h) (Or.inl ⟨by rfl, ?_⟩) (by assumption) ?_
  rotate_left
  · intro w hSw; (try dsimp only at hSw); go_simp; try with_reducible rfl
  (try simp only [Act.put, List.setIfInBounds_toArray, List.set_cons_zero, List.set_cons_succ])
  refine wpAnyH_take (i := 19) (oi := ⟨some 47, _, _, _, _, _⟩) (v := ?_) rfl (by kernel_rfl) (by kernel_rfl) (by kernel_rfl) (fun _ _ _ h => h) (Or.inl ⟨by rfl, ?_⟩) (by assumption) ?_
  rotate_left
  · intro w hSw; (try dsimp only at hSw); go_simp; try with_reducible rfl
  (try simp only [Act.put, List.setIfInBounds_toArray, List.set_cons_zero, List.set_cons_succ])
  refine wpAnyH_ready (rs := [16]) (by kernel_rfl) (by simp) ?_
  refine (AllReadyH.cons (o := ⟨some 44, _, _, _, _, _⟩) rfl (fun K hK => ?_) AllReadyH.nil)
  go_simp
  go_at_call 29
  refine (less_any a b HA.out HB.out _).mono ?_
  rw [← HL.out]
  rintro _ _ ⟨rfl, h4⟩
  have hM3 := St.call0 hD6 h4
  clear h4
  refine hK.out _ _ ?_ (fun hHeld => ?_)
  · exact ⟨ldA (bytesV a) [_, _, _] hM3 (HVA.out) (List.take_length), ldA (bytesV b) [_, _] hM3 (HVB.out) (List.take_length), ldA (bytesV a) [_] hM3 (HVA.out) (List.take_length), ldS [] hM3 rfl⟩
  clear hK K
  (try simp only [Act.put, List.setIfInBounds_toArray, List.set_cons_zero, List.set_cons_succ])
  refine wpAnyH_take (i := 20) (oi := ⟨some 48, _, _, _, _, _⟩) (v := ?_) rfl (by kernel_rfl) (by kernel_rfl) (by kernel_rfl) (fun _ _ _ h => h) (Or.inl ⟨by rfl, ?_⟩) (by assumption) ?_
  rotate_left
  · intro w hSw; (try dsimp only at hSw); go_simp; try with_reducible rfl
  (try simp only [Act.put, List.setIfInBounds_toArray, List.set_cons_zero, List.set_cons_succ])
  refine wpAnyH_take (i := 21) (oi := ⟨some 49, _, _, _, _, _⟩) (v := ?_) rfl (by kernel_rfl) (by kernel_rfl) (by kernel_rfl) (fun _ _ _ h => h) (Or.inl ⟨by rfl, ?_⟩) (by assumption) ?_
  rotate_left
  · intro w hSw; (try dsimp only at hSw); go_simp; try with_reducible rfl
  (try simp only [Act.put, List.setIfInBounds_toArray, List.set_cons_zero, List.set_cons_succ])
  refine wpAnyH_take (i := 22) (oi := ⟨some 50, _, _, _, _, _⟩) (v := ?_) rfl (by kernel_rfl) (by kernel_rfl) (by kernel_rfl) (fun _ _ _ h => h) (Or.inl ⟨by rfl, ?_⟩) (by assumption) ?_
  rotate_left
  · intro w hSw; (try dsimp only at hSw); go_simp; try with_reducible rfl
  (try simp only [Act.put, List.setIfInBounds_toArray, List.set_cons_zero, List.set_cons_succ])
  refine wpAnyH_take (i := 23) (oi := ⟨some 51, _, _, _, _, _⟩) (v := ?_) rfl (by kernel_rfl) (by kernel_rfl) (by kernel_rfl) (fun _ _ _ h => h) (Or.inl ⟨by rfl, ?_⟩) (by assumption) ?_
  rotate_left
  · intro w hSw; (try dsimp only at hSw); go_simp; try with_reducible rfl
  (try simp only [Act.put, List.setIfInBounds_toArray, List.set_cons_zero, List.set_cons_succ])
  refine wpAnyH_take (i := 24) (oi := ⟨some 52, _, _, _, _, _⟩) (v := ?_) rfl (by kernel_rfl) (by kernel_rfl) (by kernel_rfl) (fun _ _ _ h => h) (Or.inl ⟨by rfl, ?_⟩) (by assumption) ?_
  rotate_left
  · intro w hSw; (try dsimp only at hSw); go_simp; try with_reducible rfl
  (try simp only [Act.put, List.setIfInBounds_toArray, List.set_cons_zero, List.set_cons_succ])
  refine wpAnyH_take (i := 26) (oi := ⟨some 54, _, _, _, _, _⟩) (v := ?_) rfl (by kernel_rfl) (by kernel_rfl) (by kernel_rfl) (fun _ _ _ h => h) (Or.inl ⟨by rfl, ?_⟩) (by assumption) ?_
  rotate_left
  · intro w hSw; (try dsimp only at hSw); go_simp; try with_reducible rfl
  (try simp only [Act.put, List.setIfInBounds_toArray, List.set_cons_zero, List.set_cons_succ])
  refine wpAnyH_take (i := 27) (oi := ⟨some 55, _, _, _, _, _⟩) (v := ?_) rfl (by kernel_rfl) (by kernel_rfl) (by kernel_rfl) (fun _ _ _ h => h) (Or.inl ⟨by rfl, ?_⟩) (by assumption) ?_
  rotate_left
  · intro w hSw; (try dsimp only at hSw); go_simp; try with_reducible rfl
  (try simp only [Act.put, List.setIfInBounds_toArray, List.set_cons_zero, List.set_cons_succ])
  refine wpAnyH_take (i := 28) (oi := ⟨some 56, _, _, _, _, _⟩) (v := ?_) rfl (by kernel_rfl) (by kernel_rfl) (by kernel_rfl) (fun _ _ _ h => h) (Or.inl ⟨by rfl, ?_⟩) (by assumption) ?_
  rotate_left
  · intro w hSw; (try dsimp only at hSw); go_simp; try with_reducible rfl
  (try simp only [Act.put, List.setIfInBounds_toArray, List.set_cons_zero, List.set_cons_succ])
  refine wpAnyH_ready (rs := [25]) (by kernel_rfl) (by simp) ?_
  refine (AllReadyH.cons (o := ⟨some 53, _, _, _, _, _⟩) rfl (fun K hK => ?_) AllReadyH.nil)
  rw [if_pos (by rfl)]
  refine ow_bare ?_
  refine ow_of_wl (ops := #[]) (by rfl) ?_
  refine wl_eql_bytes rfl rfl rfl rfl ⟨HA.out, HB.out⟩ ?_
  rw [HEQ.out]
  refine q0_nil ?_
  refine hK.out _ _ ?_ (fun hHeld => ?_)
  · exact ⟨ldA (bytesV a) [_, _, _] hM3 (HVA.out) (List.take_length), ldA (bytesV b) [_, _] hM3 (HVB.out) (List.take_length), ldA (bytesV a) [_] hM3 (HVA.out) (List.take_length), ldS [] hM3 rfl⟩
  clear hK K
  (try simp only [Act.put, List.setIfInBounds_toArray, List.set_cons_zero, List.set_cons_succ])
  refine wpAnyH_take (i := 29) (oi := ⟨some 57, _, _, _, _, _⟩) (v := ?_) rfl (by kernel_rfl) (by kernel_rfl) (by kernel_rfl) (fun _ _ _ h => h) (Or.inl ⟨by rfl, ?_⟩) (by assumption) ?_
  rotate_left
  · intro w hSw; (try dsimp only at hSw); go_simp; try with_reducible rfl
  (try simp only [Act.put, List.setIfInBounds_toArray, List.set_cons_zero, List.set_cons_succ])
  refine wpAnyH_take (i := 30) (oi := ⟨some 58, _, _, _, _, _⟩) (v := ?_) rfl (by kernel_rfl) (by kernel_rfl) (by kernel_rfl) (fun _ _ _ h => h) (Or.inl ⟨by rfl, ?_⟩) (by assumption) ?_
  rotate_left
  · intro w hSw; (try dsimp only at hSw); go_simp; try with_reducible rfl
  (try simp only [Act.put, List.setIfInBounds_toArray, List.set_cons_zero, List.set_cons_succ])
  refine wpAnyH_take (i := 31) (oi := ⟨some 59, _, _, _, _, _⟩) (v := ?_) rfl (by kernel_rfl) (by kernel_rfl) (by kernel_rfl) (fun _ _ _ h => h) (Or.inl ⟨by rfl, ?_⟩) (by assumption) ?_
  rotate_left
  · intro w hSw; (try dsimp only at hSw); go_simp; try with_reducible rfl
  (try simp only [Act.put, List.setIfInBounds_toArray, List.set_cons_zero, List.set_cons_succ])
  refine wpAnyH_take (i := 32) (oi := ⟨some 60, _, _, _, _, _⟩) (v := ?_) rfl (by kernel_rfl) (by kernel_rfl) (by kernel_rfl) (fun _ _ _ h => h) (Or.inl ⟨by rfl, ?_⟩) (by assumption) ?_
  rotate_left
  · intro w hSw; (try dsimp only at hSw); go_simp; try with_reducible rfl
  (try simp only [Act.put, List.setIfInBounds_toArray, List.set_cons_zero, List.set_cons_succ])
  refine wpAnyH_take (i := 33) (oi := ⟨some 61, _, _, _, _, _⟩) (v := ?_) rfl (by kernel_rfl) (by kernel_rfl) (by kernel_rfl) (fun _ _ _ h => h) (Or.inl ⟨by rfl, ?_⟩) (by assumption) ?_
  rotate_left
  · intro w hSw; (try dsimp only at hSw); go_simp; try with_reducible rfl
  (try simp only [Act.put, List.setIfInBounds_toArray, List.set_cons_zero, List.set_cons_succ])
  refine wpAnyH_ready (rs := [34]) (by kernel_rfl) (by simp) ?_
  refine (AllReadyH.cons (o := ⟨some 62, _, _, _, _, _⟩) rfl (fun K hK => ?_) AllReadyH.nil)
  rw [if_pos (by rfl)]
  refine ow_bare ?_
  refine ow_of_wl (ops := #[]) (by rfl) ?_
  refine wl_neq_bytes rfl rfl rfl rfl ⟨HA.out, HB.out⟩ ?_
  rw [HNE.out]
  refine q0_nil ?_
  refine hK.out _ _ ?_ (fun hHeld => ?_)
  · exact ⟨ldA (bytesV a) [_, _, _] hM3 (HVA.out) (List.take_length), ldA (bytesV b) [_, _] hM3 (HVB.out) (List.take_length), ldA (bytesV a) [_] hM3 (HVA.out) (List.take_length), ldS [] hM3 rfl⟩
  clear hK K
  (try simp only [Act.put, List.setIfInBounds_toArray, List.set_cons_zero, List.set_cons_succ])
  refine wpAnyH_take (i := 35) (oi := ⟨some 63, _, _, _, _, _⟩) (v := ?_) rfl (by kernel_rfl) (by kernel_rfl) (by kernel_rfl) (fun _ _ _ h => h) (Or.inl ⟨by rfl, ?_⟩) (by assumption) ?_
  rotate_left
  · intro w hSw; (try dsimp only at hSw); go_simp; try with_reducible rfl
  (try simp only [Act.put, List.setIfInBounds_toArray, List.set_cons_zero, List.set_cons_succ])
  refine wpAnyH_take (i := 36) (oi := ⟨some 64, _, _, _, _, _⟩) (v := undef) rfl (by kernel_rfl) (by kernel_rfl) (by kernel_rfl) (fun _ _ _ h => h) (Or.inr ⟨by rfl, rfl⟩) (by assumption) ?_
  (try simp only [Act.put, List.setIfInBounds_toArray, List.set_cons_zero, List.set_cons_succ])
  refine wpAnyH_take (i := 37) (oi := ⟨some 65, _, _, _, _, _⟩) (v := undef) rfl (by kernel_rfl) (by kernel_rfl) (by kernel_rfl) (fun _ _ _ h => h) (Or.inr ⟨by rfl, rfl⟩) (by assumption) ?_
  (try simp only [Act.put, List.setIfInBounds_toArray, List.set_cons_zero, List.set_cons_succ])
  refine wpAnyH_take (i := 39) (oi := ⟨some 67, _, _, _, _, _⟩) (v := undef) rfl (by kernel_rfl) (by kernel_rfl) (by kernel_rfl) (fun _ _ _ h => h) (Or.inr ⟨by rfl, rfl⟩) (by assumption) ?_
  (try simp only [Act.put, List.setIfInBounds_toArray, List.set_cons_zero, List.set_cons_succ])
  refine wpAnyH_take (i := 40) (oi := ⟨some 68, _, _, _, _, _⟩) (v := undef) rfl (by kernel_rfl) (by kernel_rfl) (by kernel_rfl) (fun _ _ _ h => h) (Or.inr ⟨by rfl, rfl⟩) (by assumption) ?_
  (try simp only [Act.put, List.setIfInBounds_toArray, List.set_cons_zero, List.set_cons_succ])
  refine wpAnyH_ready (rs := [38]) (by kernel_rfl) (by simp) ?_
  refine (AllReadyH.cons (o := ⟨some 66, _, _, _, _, _⟩) rfl (fun K hK => ?_) AllReadyH.nil)
  rw [if_neg (by rw [show Region.wanted _ _ = false from rfl]; exact Bool.false_ne_true)]
  refine hK.out _ _ ?_ (fun hHeld => ?_)
  · exact ⟨ldA (bytesV a) [_, _, _] hM3 (HVA.out) (List.take_length), ldA (bytesV b) [_, _] hM3 (HVB.out) (List.take_length), ldA (bytesV a) [_] hM3 (HVA.out) (List.take_length), ldS [] hM3 rfl⟩
  clear hK K
  (try simp only [Act.put, List.setIfInBounds_toArray, List.set_cons_zero, List.set_cons_succ])
  refine wpAnyH_ready (rs := [41]) (by kernel_rfl) (by simp) ?_
  refine (AllReadyH.cons (o := ⟨some 69, _, _, _, _, _⟩) rfl (fun K hK => ?_) AllReadyH.nil)
  rw [if_neg (by rw [show Region.wanted _ _ = false from rfl]; exact Bool.false_ne_true)]
  refine hK.out _ _ ?_ (fun hHeld => ?_)
  · exact ⟨ldA (bytesV a) [_, _, _] hM3 (HVA.out) (List.take_length), ldA (bytesV b) [_, _] hM3 (HVB.out) (List.take_length), ldA (bytesV a) [_] hM3 (HVA.out) (List.take_length), ldS [] hM3 rfl⟩
  clear hK K
  (try simp only [Act.put, List.setIfInBounds_toArray, List.set_cons_zero, List.set_cons_succ])
  refine wpAnyH_take (i := 42) (oi := ⟨some 70, _, _, _, _, _⟩) (v := undef) rfl (by kernel_rfl) (by kernel_rfl) (by kernel_rfl) (fun _ _ _ h => h) (Or.inr ⟨by rfl, rfl⟩) (by assumption) ?_
  (try simp only [Act.put, List.setIfInBounds_toArray, List.set_cons_zero, List.set_cons_succ])
  refine wpAnyH_take (i := 43) (oi := ⟨some 71, _, _, _, _, _⟩) (v := ?_) rfl (by kernel_rfl) (by kernel_rfl) (by kernel_rfl) (fun _ _ _ h => h) (Or.inl ⟨by rfl, ?_⟩) (by assumption) ?_
  rotate_left
  · intro w hSw; (try dsimp only at hSw); go_simp; try with_reducible rfl
  (try simp only [Act.put, List.setIfInBounds_toArray, List.set_cons_zero, List.set_cons_succ])
  refine wpAnyH_take (i := 44) (oi := ⟨some 72, _, _, _, _, _⟩) (v := ?_) rfl (by kernel_rfl) (by kernel_rfl) (by kernel_rfl) (fun _ _ _ h => h) (Or.inl ⟨by rfl, ?_⟩) (by assumption) ?_
  rotate_left
  · intro w hSw; (try dsimp only at hSw); go_simp; try with_reducible rfl
  (try simp only [Act.put, List.setIfInBounds_toArray, List.set_cons_zero, List.set_cons_succ])
  refine wpAnyH_done (by kernel_rfl) ?_ _
  clear hHeld
  go_wp2_with (first | go_big_skip | go_big_guard | (go_at_call 27; refine (parse_any s HSS.out _).mono ?_; rw [HP.out]; (try dsimp only); rintro _ _ ⟨rfl, h4⟩; have hq1 := St.call0 hM3 h4; clear h4 hM3) | (refine wl_alloc (T := 29) hq1 rfl rfl ?_; intro g12 _ hq2; clear hq1) | (refine wl_alloc (T := 47) hq2 rfl rfl ?_; intro g13 _ hq3; clear hq2) | (refine wl_storeA [_] hq3 rfl rfl rfl rfl HVI.out HON.out rfl ?_; intro _ hq4; clear hq3) | (refine wl_storeA [] hq4 rfl rfl rfl rfl rfl rfl rfl ?_; intro _ hq5; clear hq4) | (refine wl_loadE rfl rfl rfl ?_; first | refine ⟨_, Loads.at [] hq5 rfl, ?_⟩ | refine ⟨_, Loads.atA (bytesV I) [_] hq5 (HVI.out) (List.take_length), ?_⟩) | (go_at_call 32; refine (text_any I HI.out _).mono ?_; rw [HTI.out]; rintro _ _ ⟨rfl, h4⟩; have hq6 := St.call0 hq5 h4; clear h4 hq5))
  go_ret
  exact ⟨by simp, hq6.nil⟩
theorem hback_same_bad (a b s : List UInt8) (w : World) (ha : a.length = 32) (hb : b.length = 32) (hs : s.length ≤ 9223372036854775807) (h2 : ¬ 200 < s.length) (hab : a = b) (hE : (parseR s).2.1 ≠ 0) :
    Calls Try.prog 8 #[.agg (bytesV a).toArray, .agg (bytesV b).toArray, .string ⟨s.toArray⟩] w fun e w' => e = .returned (.bool true) ∧ St w [] w' [] := by
  have hst := St.refl w
  obtain ⟨N, hN⟩ : ∃ N, N = s.length := ⟨_, rfl⟩
  have hsz : (⟨s.toArray⟩ : ByteArray).size = N := by rw [size_l, hN]
  have HNS := hid hN
  have HSS := hid hs
  have HA := hid ha
  have HB := hid hb
  have HVA := hid (show (bytesV a).length = 32 by rw [length_bytesV, ha])
  have HVB := hid (show (bytesV b).length = 32 by rw [length_bytesV, hb])
  have HOA := hid (ones_bytesV a)
  have d0 : decide (200 < (N : Int)) = false := decide_eq_false (by omega)
  obtain ⟨I, E, A, hP, hI⟩ : ∃ I E A, parseR s = (I, E, A) ∧ I.length = 32 := ⟨_, _, _, rfl, parse_len32 s⟩
  rw [hP] at hE
  dsimp only at hE
  have HP := hid hP
  have HI := hid hI
  have HVI := hid (show (bytesV I).length = 32 by rw [length_bytesV, hI])
  have HON := hid (ones_bytesV I)
  have HPT := hid (parse_text ha)
  obtain ⟨TA, hTA⟩ : ∃ T, T = textB a := ⟨_, rfl⟩
  obtain ⟨TB, hTB⟩ : ∃ T, T = textB b := ⟨_, rfl⟩
  have htl : TA.length = 64 := by rw [hTA, length_textB, ha]
  have hta : (⟨TA.toArray⟩ : ByteArray).size = 64 := by rw [size_l, htl]
  have HTL := hid htl
  obtain ⟨L, hL⟩ : ∃ L, L = lessB a b := ⟨_, rfl⟩
  have HL := hid hL
  have hless : Op.bytesLess TA TB = L := by rw [less_eq, hTA, hTB, cmp_hex, hL]; rfl
  have HTA := hid hTA
  have HTB := hid hTB
  have heq : (TA == TB) = true := by rw [hTA, hTB, text_inj ha hb, hab]; exact beq_self_eq_true _
  have HEQ := hid (show (a == b) = true by rw [hab]; exact beq_self_eq_true _)
  have HNE := hid (show (!(a == b)) = false by rw [hab, beq_self_eq_true]; rfl)
  have HAA := hid (show (!(a == a)) = false by rw [beq_self_eq_true]; rfl)
  have hf := parse_fault hP hE
  have e0 : (E != 0) = true := by simpa using hE
  have f1 : decide (0 ≤ A) = true := decide_eq_true hf.2.1
  have f2 : decide (A ≤ (N : Int)) = true := decide_eq_true (by have := hf.2.2.1; omega)
  have f3 : decide (A ≤ 64) = true := decide_eq_true hf.2.2.2
  have HIZ := hid hf.1
  clear hN hs ha hb hP hI hL hTA hTB htl hab h2 hf hE
  go_enter Try.func8, Try.ntmps8
  go_wp2_with (first | go_big_skip | go_big_guard | (refine wl_boxA hst rfl rfl rfl ?_; intro g3 _ hst1; clear hst) | (refine wl_boxA hst1 rfl rfl rfl ?_; intro g4 _ hst2; clear hst1) | (go_at_call 6; refine (hknown_any _).mono ?_; rintro _ _ ⟨rfl, h4⟩; have hst3 := St.call0 hst2 h4; clear h4 hst2))
  have hD := hst3.drew
  clear hst3
  refine wp_region_held_drew (S := (fun w' => (loadVarH 29 ⟨g3, 0, none⟩).run Try.prog w' = .ok (.agg (List.toArray (bytesV a))) w' ∧ (loadVarH 29 ⟨g4, 0, none⟩).run Try.prog w' = .ok (.agg (List.toArray (bytesV b))) w')) (by kernel_rfl) (by exact ⟨ldA (bytesV a) [_] hD (HVA.out) (List.take_length), ldA (bytesV b) [] hD (HVB.out) (List.take_length)⟩) (fun hHeld => ?_)
  refine wpAnyH_take (i := 0) (oi := ⟨some 19, _, _, _, _, _⟩) (v := ?_) rfl (by kernel_rfl) (by kernel_rfl) (by kernel_rfl) (fun _ _ _ h => h) (Or.inl ⟨by rfl, ?_⟩) (by assumption) ?_
  rotate_left
  · intro w hSw; (try dsimp only at hSw); go_simp; try with_reducible rfl
  (try simp only [Act.put, List.setIfInBounds_toArray, List.set_cons_zero, List.set_cons_succ])
  refine wpAnyH_take (i := 2) (oi := ⟨some 21, _, _, _, _, _⟩) (v := ?_) rfl (by kernel_rfl) (by kernel_rfl) (by kernel_rfl) (fun _ _ _ h => h) (Or.inl ⟨by rfl, ?_⟩) (by assumption) ?_
  rotate_left
  · intro w hSw; (try dsimp only at hSw); go_simp; try with_reducible rfl
  (try simp only [Act.put, List.setIfInBounds_toArray, List.set_cons_zero, List.set_cons_succ])
  refine wpAnyH_ready (rs := [1]) (by kernel_rfl) (by simp) ?_
  refine (AllReadyH.cons (o := ⟨some 20, _, _, _, _, _⟩) rfl (fun K hK => ?_) AllReadyH.nil)
  go_simp
  go_at_call 32
  refine (text_any a HA.out _).mono ?_
  rw [← HTA.out]
  rintro _ _ ⟨rfl, h4⟩
  have hM4 := St.call0 hD h4
  clear h4
  refine hK.out _ _ ?_ (fun hHeld => ?_)
  · exact ⟨ldA (bytesV a) [_] hM4 (HVA.out) (List.take_length), ldA (bytesV b) [] hM4 (HVB.out) (List.take_length)⟩
  clear hK K
  (try simp only [Act.put, List.setIfInBounds_toArray, List.set_cons_zero, List.set_cons_succ])
  refine wpAnyH_ready (rs := [3]) (by kernel_rfl) (by simp) ?_
  refine (AllReadyH.cons (o := ⟨some 22, _, _, _, _, _⟩) rfl (fun K hK => ?_) AllReadyH.nil)
  go_simp
  go_at_call 32
  refine (text_any b HB.out _).mono ?_
  rw [← HTB.out]
  rintro _ _ ⟨rfl, h4⟩
  have hM5 := St.call0 hM4 h4
  clear h4
  refine hK.out _ _ ?_ (fun hHeld => ?_)
  · exact ⟨ldA (bytesV a) [_] hM5 (HVA.out) (List.take_length), ldA (bytesV b) [] hM5 (HVB.out) (List.take_length)⟩
  clear hK K
  (try simp only [Act.put, List.setIfInBounds_toArray, List.set_cons_zero, List.set_cons_succ])
  refine wpAnyH_take (i := 4) (oi := ⟨some 8, _, _, _, _, _⟩) (v := ?_) rfl (by kernel_rfl) (by kernel_rfl) (by kernel_rfl) (fun _ _ _ h => h) (Or.inl ⟨by rfl, ?_⟩) (by assumption) ?_
  rotate_left
  · intro w hSw; (try dsimp only at hSw); go_simp; try with_reducible rfl
  (try simp only [Act.put, List.setIfInBounds_toArray, List.set_cons_zero, List.set_cons_succ])
  refine wpAnyH_take (i := 5) (oi := ⟨some 9, _, _, _, _, _⟩) (v := ?_) rfl (by kernel_rfl) (by kernel_rfl) (by kernel_rfl) (fun _ _ _ h => h) (Or.inl ⟨by rfl, ?_⟩) (by assumption) ?_
  rotate_left
  · intro w hSw; (try dsimp only at hSw); go_simp; try with_reducible rfl
  (try simp only [Act.put, List.setIfInBounds_toArray, List.set_cons_zero, List.set_cons_succ])
  refine wpAnyH_done (by kernel_rfl) ?_ _
  clear hHeld
  go_wp2_with (first | go_big_skip | go_big_guard | (go_at_call 27; refine (parse_any TA (by rw [HTL.out]; decide) _).mono ?_; rw [HTA.out, HPT.out]; (try dsimp only); rw [← HTA.out]; rintro _ _ ⟨rfl, h4⟩; have hst5 := St.call0 hM5 h4; clear h4 hM5) | (refine wl_alloc (T := 29) hst5 rfl rfl ?_; intro g10 _ hst6; clear hst5) | (refine wl_alloc (T := 47) hst6 rfl rfl ?_; intro g11 _ hst7; clear hst6) | (refine wl_storeA [_] hst7 rfl rfl rfl rfl HVA.out HOA.out rfl ?_; intro _ hst8; clear hst7) | (refine wl_storeA [] hst8 rfl rfl rfl rfl rfl rfl rfl ?_; intro _ hst9; clear hst8))
  have hD6 := hst9.drew
  clear hst9
  refine wp_region_held_drew (S := (fun w' => (loadVarH 29 ⟨g3, 0, none⟩).run Try.prog w' = .ok (.agg (List.toArray (bytesV a))) w' ∧ (loadVarH 29 ⟨g4, 0, none⟩).run Try.prog w' = .ok (.agg (List.toArray (bytesV b))) w' ∧ (loadVarH 29 ⟨g10, 0, none⟩).run Try.prog w' = .ok (.agg (List.toArray (bytesV a))) w' ∧ (loadVarH 37 ⟨g11, 0, none⟩).run Try.prog w' = .ok (.int .i64 0) w')) (by kernel_rfl) (by exact ⟨ldA (bytesV a) [_, _, _] hD6 (HVA.out) (List.take_length), ldA (bytesV b) [_, _] hD6 (HVB.out) (List.take_length), ldA (bytesV a) [_] hD6 (HVA.out) (List.take_length), ldS [] hD6 rfl⟩) (fun hHeld => ?_)
  refine wpAnyH_take (i := 0) (oi := ⟨some 28, _, _, _, _, _⟩) (v := ?_) rfl (by kernel_rfl) (by kernel_rfl) (by kernel_rfl) (fun _ _ _ h => h) (Or.inl ⟨by rfl, ?_⟩) (by assumption) ?_
  rotate_left
  · intro w hSw; (try dsimp only at hSw); go_simp; try with_reducible rfl
  (try simp only [Act.put, List.setIfInBounds_toArray, List.set_cons_zero, List.set_cons_succ])
  refine wpAnyH_take (i := 1) (oi := ⟨some 29, _, _, _, _, _⟩) (v := ?_) rfl (by kernel_rfl) (by kernel_rfl) (by kernel_rfl) (fun _ _ _ h => h) (Or.inl ⟨by rfl, ?_⟩) (by assumption) ?_
  rotate_left
  · intro w hSw; (try dsimp only at hSw); go_simp; try with_reducible rfl
  (try simp only [Act.put, List.setIfInBounds_toArray, List.set_cons_zero, List.set_cons_succ])
  refine wpAnyH_take (i := 2) (oi := ⟨some 30, _, _, _, _, _⟩) (v := ?_) rfl (by kernel_rfl) (by kernel_rfl) (by kernel_rfl) (fun _ _ _ h => h) (Or.inl ⟨by rfl, ?_⟩) (by assumption) ?_
  rotate_left
  · intro w hSw; (try dsimp only at hSw); go_simp; try with_reducible rfl
  (try simp only [Act.put, List.setIfInBounds_toArray, List.set_cons_zero, List.set_cons_succ])
  refine wpAnyH_take (i := 3) (oi := ⟨some 31, _, _, _, _, _⟩) (v := ?_) rfl (by kernel_rfl) (by kernel_rfl) (by kernel_rfl) (fun _ _ _ h => h) (Or.inl ⟨by rfl, ?_⟩) (by assumption) ?_
  rotate_left
  · intro w hSw; (try dsimp only at hSw); go_simp; try with_reducible rfl
  (try simp only [Act.put, List.setIfInBounds_toArray, List.set_cons_zero, List.set_cons_succ])
  refine wpAnyH_take (i := 4) (oi := ⟨some 32, _, _, _, _, _⟩) (v := ?_) rfl (by kernel_rfl) (by kernel_rfl) (by kernel_rfl) (fun _ _ _ h => h) (Or.inl ⟨by rfl, ?_⟩) (by assumption) ?_
  rotate_left
  · intro w hSw; (try dsimp only at hSw); go_simp; try with_reducible rfl
  (try simp only [Act.put, List.setIfInBounds_toArray, List.set_cons_zero, List.set_cons_succ])
  refine wpAnyH_take (i := 5) (oi := ⟨some 33, _, _, _, _, _⟩) (v := ?_) rfl (by kernel_rfl) (by kernel_rfl) (by kernel_rfl) (fun _ _ _ h => h) (Or.inl ⟨by rfl, ?_⟩) (by assumption) ?_
  rotate_left
  · intro w hSw; (try dsimp only at hSw); go_simp; try with_reducible rfl
  (try simp only [Act.put, List.setIfInBounds_toArray, List.set_cons_zero, List.set_cons_succ])
  refine wpAnyH_ready (rs := [6]) (by kernel_rfl) (by simp) ?_
  refine (AllReadyH.cons (o := ⟨some 34, _, _, _, _, _⟩) rfl (fun K hK => ?_) AllReadyH.nil)
  rw [if_pos (by rfl)]
  refine ow_bare ?_
  refine ow_of_wl (ops := #[]) (by rfl) ?_
  refine wl_neq_bytes rfl rfl rfl rfl ⟨HA.out, HA.out⟩ ?_
  rw [HAA.out]
  refine q0_nil ?_
  refine hK.out _ _ ?_ (fun hHeld => ?_)
  · exact ⟨ldA (bytesV a) [_, _, _] hD6 (HVA.out) (List.take_length), ldA (bytesV b) [_, _] hD6 (HVB.out) (List.take_length), ldA (bytesV a) [_] hD6 (HVA.out) (List.take_length), ldS [] hD6 rfl⟩
  clear hK K
  (try simp only [Act.put, List.setIfInBounds_toArray, List.set_cons_zero, List.set_cons_succ])
  refine wpAnyH_take (i := 7) (oi := ⟨some 35, _, _, _, _, _⟩) (v := ?_) rfl (by kernel_rfl) (by kernel_rfl) (by kernel_rfl) (fun _ _ _ h => h) (Or.inl ⟨by rfl, ?_⟩) (by assumption) ?_
  rotate_left
  · intro w hSw; (try dsimp only at hSw); go_simp; try with_reducible rfl
  (try simp only [Act.put, List.setIfInBounds_toArray, List.set_cons_zero, List.set_cons_succ])
  refine wpAnyH_take (i := 8) (oi := ⟨some 36, _, _, _, _, _⟩) (v := ?_) rfl (by kernel_rfl) (by kernel_rfl) (by kernel_rfl) (fun _ _ _ h => h) (Or.inl ⟨by rfl, ?_⟩) (by assumption) ?_
  rotate_left
  · intro w hSw; (try dsimp only at hSw); go_simp; try with_reducible rfl
  (try simp only [Act.put, List.setIfInBounds_toArray, List.set_cons_zero, List.set_cons_succ])
  refine wpAnyH_take (i := 9) (oi := ⟨some 37, _, _, _, _, _⟩) (v := ?_) rfl (by kernel_rfl) (by kernel_rfl) (by kernel_rfl) (fun _ _ _ h => h) (Or.inl ⟨by rfl, ?_⟩) (by assumption) ?_
  rotate_left
  · intro w hSw; (try dsimp only at hSw); go_simp; try with_reducible rfl
  (try simp only [Act.put, List.setIfInBounds_toArray, List.set_cons_zero, List.set_cons_succ])
  refine wpAnyH_take (i := 10) (oi := ⟨some 38, _, _, _, _, _⟩) (v := ?_) rfl (by kernel_rfl) (by kernel_rfl) (by kernel_rfl) (fun _ _ _ h => h) (Or.inl ⟨by rfl, ?_⟩) (by assumption) ?_
  rotate_left
  · intro w hSw; (try dsimp only at hSw); go_simp; try with_reducible rfl
  (try simp only [Act.put, List.setIfInBounds_toArray, List.set_cons_zero, List.set_cons_succ])
  refine wpAnyH_take (i := 11) (oi := ⟨some 39, _, _, _, _, _⟩) (v := ?_) rfl (by kernel_rfl) (by kernel_rfl) (by kernel_rfl) (fun _ _ _ h => h) (Or.inl ⟨by rfl, ?_⟩) (by assumption) ?_
  rotate_left
  · intro w hSw; (try dsimp only at hSw); go_simp; try with_reducible rfl
  (try simp only [Act.put, List.setIfInBounds_toArray, List.set_cons_zero, List.set_cons_succ])
  refine wpAnyH_take (i := 12) (oi := ⟨some 40, _, _, _, _, _⟩) (v := ?_) rfl (by kernel_rfl) (by kernel_rfl) (by kernel_rfl) (fun _ _ _ h => h) (Or.inl ⟨by rfl, ?_⟩) (by assumption) ?_
  rotate_left
  · intro w hSw; (try dsimp only at hSw); go_simp; try with_reducible rfl
  (try simp only [Act.put, List.setIfInBounds_toArray, List.set_cons_zero, List.set_cons_succ])
  refine wpAnyH_take (i := 13) (oi := ⟨some 41, _, _, _, _, _⟩) (v := ?_) rfl (by kernel_rfl) (by kernel_rfl) (by kernel_rfl) (fun _ _ _ h => h) (Or.inl ⟨by rfl, ?_⟩) (by assumption) ?_
  rotate_left
  · intro w hSw; (try dsimp only at hSw); go_simp; try with_reducible rfl
  (try simp only [Act.put, List.setIfInBounds_toArray, List.set_cons_zero, List.set_cons_succ])
  refine wpAnyH_take (i := 14) (oi := ⟨some 42, _, _, _, _, _⟩) (v := ?_) rfl (by kernel_rfl) (by kernel_rfl) (by kernel_rfl) (fun _ _ _ h => h) (Or.inl ⟨by rfl, ?_⟩) (by assumption) ?_
  rotate_left
  · intro w hSw; (try dsimp only at hSw); go_simp; try with_reducible rfl
  (try simp only [Act.put, List.setIfInBounds_toArray, List.set_cons_zero, List.set_cons_succ])
  refine wpAnyH_take (i := 15) (oi := ⟨some 43, _, _, _, _, _⟩) (v := ?_) rfl (by kernel_rfl) (by kernel_rfl) (by kernel_rfl) (fun _ _ _ h => h) (Or.inl ⟨by rfl, ?_⟩) (by assumption) ?_
  rotate_left
  · intro w hSw; (try dsimp only at hSw); go_simp; try with_reducible rfl
  (try simp only [Act.put, List.setIfInBounds_toArray, List.set_cons_zero, List.set_cons_succ])
  refine wpAnyH_take (i := 17) (oi := ⟨some 45, _, _, _, _, _⟩) (v := ?_) rfl (by kernel_rfl) (by kernel_rfl) (by kernel_rfl) (fun _ _ _ h => h) (Or.inl ⟨by rfl, ?_⟩) (by assumption) ?_
  rotate_left
  · intro w hSw; (try dsimp only at hSw); go_simp; try with_reducible rfl
  (try simp only [Act.put, List.setIfInBounds_toArray, List.set_cons_zero, List.set_cons_succ])
  refine wpAnyH_take (i := 18) (oi := ⟨some 46, _, _, _, _, _⟩) (v := ?_) rfl (by kernel_rfl) (by kernel_rfl) (by kernel_rfl) (fun _ _ _ h => h) (Or.inl ⟨by rfl, ?_⟩) (by assumption) ?_
  rotate_left
  · intro w hSw; (try dsimp only at hSw); go_simp; try with_reducible rfl
  (try simp only [Act.put, List.setIfInBounds_toArray, List.set_cons_zero, List.set_cons_succ])
  refine wpAnyH_take (i := 19) (oi := ⟨some 47, _, _, _, _, _⟩) (v := ?_) rfl (by kernel_rfl) (by kernel_rfl) (by kernel_rfl) (fun _ _ _ h => h) (Or.inl ⟨by rfl, ?_⟩) (by assumption) ?_
  rotate_left
  · intro w hSw; (try dsimp only at hSw); go_simp; try with_reducible rfl
  (try simp only [Act.put, List.setIfInBounds_toArray, List.set_cons_zero, List.set_cons_succ])
  refine wpAnyH_ready (rs := [16]) (by kernel_rfl) (by simp) ?_
  refine (AllReadyH.cons (o := ⟨some 44, _, _, _, _, _⟩) rfl (fun K hK => ?_) AllReadyH.nil)
  go_simp
  go_at_call 29
  refine (less_any a b HA.out HB.out _).mono ?_
  rw [← HL.out]
  rintro _ _ ⟨rfl, h4⟩
  have hM6 := St.call0 hD6 h4
  clear h4
  refine hK.out _ _ ?_ (fun hHeld => ?_)
  · exact ⟨ldA (bytesV a) [_, _, _] hM6 (HVA.out) (List.take_length), ldA (bytesV b) [_, _] hM6 (HVB.out) (List.take_length), ldA (bytesV a) [_] hM6 (HVA.out) (List.take_length), ldS [] hM6 rfl⟩
  clear hK K
  (try simp only [Act.put, List.setIfInBounds_toArray, List.set_cons_zero, List.set_cons_succ])
  refine wpAnyH_take (i := 20) (oi := ⟨some 48, _, _, _, _, _⟩) (v := ?_) rfl (by kernel_rfl) (by kernel_rfl) (by kernel_rfl) (fun _ _ _ h => h) (Or.inl ⟨by rfl, ?_⟩) (by assumption) ?_
  rotate_left
  · intro w hSw; (try dsimp only at hSw); go_simp; try with_reducible rfl
  (try simp only [Act.put, List.setIfInBounds_toArray, List.set_cons_zero, List.set_cons_succ])
  refine wpAnyH_take (i := 21) (oi := ⟨some 49, _, _, _, _, _⟩) (v := ?_) rfl (by kernel_rfl) (by kernel_rfl) (by kernel_rfl) (fun _ _ _ h => h) (Or.inl ⟨by rfl, ?_⟩) (by assumption) ?_
  rotate_left
  · intro w hSw; (try dsimp only at hSw); go_simp; try with_reducible rfl
  (try simp only [Act.put, List.setIfInBounds_toArray, List.set_cons_zero, List.set_cons_succ])
  refine wpAnyH_take (i := 22) (oi := ⟨some 50, _, _, _, _, _⟩) (v := ?_) rfl (by kernel_rfl) (by kernel_rfl) (by kernel_rfl) (fun _ _ _ h => h) (Or.inl ⟨by rfl, ?_⟩) (by assumption) ?_
  rotate_left
  · intro w hSw; (try dsimp only at hSw); go_simp; try with_reducible rfl
  (try simp only [Act.put, List.setIfInBounds_toArray, List.set_cons_zero, List.set_cons_succ])
  refine wpAnyH_take (i := 23) (oi := ⟨some 51, _, _, _, _, _⟩) (v := ?_) rfl (by kernel_rfl) (by kernel_rfl) (by kernel_rfl) (fun _ _ _ h => h) (Or.inl ⟨by rfl, ?_⟩) (by assumption) ?_
  rotate_left
  · intro w hSw; (try dsimp only at hSw); go_simp; try with_reducible rfl
  (try simp only [Act.put, List.setIfInBounds_toArray, List.set_cons_zero, List.set_cons_succ])
  refine wpAnyH_take (i := 24) (oi := ⟨some 52, _, _, _, _, _⟩) (v := ?_) rfl (by kernel_rfl) (by kernel_rfl) (by kernel_rfl) (fun _ _ _ h => h) (Or.inl ⟨by rfl, ?_⟩) (by assumption) ?_
  rotate_left
  · intro w hSw; (try dsimp only at hSw); go_simp; try with_reducible rfl
  (try simp only [Act.put, List.setIfInBounds_toArray, List.set_cons_zero, List.set_cons_succ])
  refine wpAnyH_take (i := 26) (oi := ⟨some 54, _, _, _, _, _⟩) (v := ?_) rfl (by kernel_rfl) (by kernel_rfl) (by kernel_rfl) (fun _ _ _ h => h) (Or.inl ⟨by rfl, ?_⟩) (by assumption) ?_
  rotate_left
  · intro w hSw; (try dsimp only at hSw); go_simp; try with_reducible rfl
  (try simp only [Act.put, List.setIfInBounds_toArray, List.set_cons_zero, List.set_cons_succ])
  refine wpAnyH_take (i := 27) (oi := ⟨some 55, _, _, _, _, _⟩) (v := ?_) rfl (by kernel_rfl) (by kernel_rfl) (by kernel_rfl) (fun _ _ _ h => h) (Or.inl ⟨by rfl, ?_⟩) (by assumption) ?_
  rotate_left
  · intro w hSw; (try dsimp only at hSw); go_simp; try with_reducible rfl
  (try simp only [Act.put, List.setIfInBounds_toArray, List.set_cons_zero, List.set_cons_succ])
  refine wpAnyH_take (i := 28) (oi := ⟨some 56, _, _, _, _, _⟩) (v := ?_) rfl (by kernel_rfl) (by kernel_rfl) (by kernel_rfl) (fun _ _ _ h => h) (Or.inl ⟨by rfl, ?_⟩) (by assumption) ?_
  rotate_left
  · intro w hSw; (try dsimp only at hSw); go_simp; try with_reducible rfl
  (try simp only [Act.put, List.setIfInBounds_toArray, List.set_cons_zero, List.set_cons_succ])
  refine wpAnyH_ready (rs := [25]) (by kernel_rfl) (by simp) ?_
  refine (AllReadyH.cons (o := ⟨some 53, _, _, _, _, _⟩) rfl (fun K hK => ?_) AllReadyH.nil)
  rw [if_pos (by rfl)]
  refine ow_bare ?_
  refine ow_of_wl (ops := #[]) (by rfl) ?_
  refine wl_eql_bytes rfl rfl rfl rfl ⟨HA.out, HB.out⟩ ?_
  rw [HEQ.out]
  refine q0_nil ?_
  refine hK.out _ _ ?_ (fun hHeld => ?_)
  · exact ⟨ldA (bytesV a) [_, _, _] hM6 (HVA.out) (List.take_length), ldA (bytesV b) [_, _] hM6 (HVB.out) (List.take_length), ldA (bytesV a) [_] hM6 (HVA.out) (List.take_length), ldS [] hM6 rfl⟩
  clear hK K
  (try simp only [Act.put, List.setIfInBounds_toArray, List.set_cons_zero, List.set_cons_succ])
  refine wpAnyH_take (i := 29) (oi := ⟨some 57, _, _, _, _, _⟩) (v := ?_) rfl (by kernel_rfl) (by kernel_rfl) (by kernel_rfl) (fun _ _ _ h => h) (Or.inl ⟨by rfl, ?_⟩) (by assumption) ?_
  rotate_left
  · intro w hSw; (try dsimp only at hSw); go_simp; try with_reducible rfl
  (try simp only [Act.put, List.setIfInBounds_toArray, List.set_cons_zero, List.set_cons_succ])
  refine wpAnyH_take (i := 30) (oi := ⟨some 58, _, _, _, _, _⟩) (v := ?_) rfl (by kernel_rfl) (by kernel_rfl) (by kernel_rfl) (fun _ _ _ h => h) (Or.inl ⟨by rfl, ?_⟩) (by assumption) ?_
  rotate_left
  · intro w hSw; (try dsimp only at hSw); go_simp; try with_reducible rfl
  (try simp only [Act.put, List.setIfInBounds_toArray, List.set_cons_zero, List.set_cons_succ])
  refine wpAnyH_take (i := 31) (oi := ⟨some 59, _, _, _, _, _⟩) (v := ?_) rfl (by kernel_rfl) (by kernel_rfl) (by kernel_rfl) (fun _ _ _ h => h) (Or.inl ⟨by rfl, ?_⟩) (by assumption) ?_
  rotate_left
  · intro w hSw; (try dsimp only at hSw); go_simp; try with_reducible rfl
  (try simp only [Act.put, List.setIfInBounds_toArray, List.set_cons_zero, List.set_cons_succ])
  refine wpAnyH_take (i := 32) (oi := ⟨some 60, _, _, _, _, _⟩) (v := ?_) rfl (by kernel_rfl) (by kernel_rfl) (by kernel_rfl) (fun _ _ _ h => h) (Or.inl ⟨by rfl, ?_⟩) (by assumption) ?_
  rotate_left
  · intro w hSw; (try dsimp only at hSw); go_simp; try with_reducible rfl
  (try simp only [Act.put, List.setIfInBounds_toArray, List.set_cons_zero, List.set_cons_succ])
  refine wpAnyH_take (i := 33) (oi := ⟨some 61, _, _, _, _, _⟩) (v := ?_) rfl (by kernel_rfl) (by kernel_rfl) (by kernel_rfl) (fun _ _ _ h => h) (Or.inl ⟨by rfl, ?_⟩) (by assumption) ?_
  rotate_left
  · intro w hSw; (try dsimp only at hSw); go_simp; try with_reducible rfl
  (try simp only [Act.put, List.setIfInBounds_toArray, List.set_cons_zero, List.set_cons_succ])
  refine wpAnyH_ready (rs := [34]) (by kernel_rfl) (by simp) ?_
  refine (AllReadyH.cons (o := ⟨some 62, _, _, _, _, _⟩) rfl (fun K hK => ?_) AllReadyH.nil)
  rw [if_pos (by rfl)]
  refine ow_bare ?_
  refine ow_of_wl (ops := #[]) (by rfl) ?_
  refine wl_neq_bytes rfl rfl rfl rfl ⟨HA.out, HB.out⟩ ?_
  rw [HNE.out]
  refine q0_nil ?_
  refine hK.out _ _ ?_ (fun hHeld => ?_)
  · exact ⟨ldA (bytesV a) [_, _, _] hM6 (HVA.out) (List.take_length), ldA (bytesV b) [_, _] hM6 (HVB.out) (List.take_length), ldA (bytesV a) [_] hM6 (HVA.out) (List.take_length), ldS [] hM6 rfl⟩
  clear hK K
  (try simp only [Act.put, List.setIfInBounds_toArray, List.set_cons_zero, List.set_cons_succ])
  refine wpAnyH_take (i := 35) (oi := ⟨some 63, _, _, _, _, _⟩) (v := ?_) rfl (by kernel_rfl) (by kernel_rfl) (by kernel_rfl) (fun _ _ _ h => h) (Or.inl ⟨by rfl, ?_⟩) (by assumption) ?_
  rotate_left
  · intro w hSw; (try dsimp only at hSw); go_simp; try with_reducible rfl
  (try simp only [Act.put, List.setIfInBounds_toArray, List.set_cons_zero, List.set_cons_succ])
  refine wpAnyH_take (i := 36) (oi := ⟨some 64, _, _, _, _, _⟩) (v := undef) rfl (by kernel_rfl) (by kernel_rfl) (by kernel_rfl) (fun _ _ _ h => h) (Or.inr ⟨by rfl, rfl⟩) (by assumption) ?_
  (try simp only [Act.put, List.setIfInBounds_toArray, List.set_cons_zero, List.set_cons_succ])
  refine wpAnyH_take (i := 37) (oi := ⟨some 65, _, _, _, _, _⟩) (v := undef) rfl (by kernel_rfl) (by kernel_rfl) (by kernel_rfl) (fun _ _ _ h => h) (Or.inr ⟨by rfl, rfl⟩) (by assumption) ?_
  (try simp only [Act.put, List.setIfInBounds_toArray, List.set_cons_zero, List.set_cons_succ])
  refine wpAnyH_take (i := 39) (oi := ⟨some 67, _, _, _, _, _⟩) (v := undef) rfl (by kernel_rfl) (by kernel_rfl) (by kernel_rfl) (fun _ _ _ h => h) (Or.inr ⟨by rfl, rfl⟩) (by assumption) ?_
  (try simp only [Act.put, List.setIfInBounds_toArray, List.set_cons_zero, List.set_cons_succ])
  refine wpAnyH_take (i := 40) (oi := ⟨some 68, _, _, _, _, _⟩) (v := undef) rfl (by kernel_rfl) (by kernel_rfl) (by kernel_rfl) (fun _ _ _ h => h) (Or.inr ⟨by rfl, rfl⟩) (by assumption) ?_
  (try simp only [Act.put, List.setIfInBounds_toArray, List.set_cons_zero, List.set_cons_succ])
  refine wpAnyH_ready (rs := [38]) (by kernel_rfl) (by simp) ?_
  refine (AllReadyH.cons (o := ⟨some 66, _, _, _, _, _⟩) rfl (fun K hK => ?_) AllReadyH.nil)
  rw [if_neg (by rw [show Region.wanted _ _ = false from rfl]; exact Bool.false_ne_true)]
  refine hK.out _ _ ?_ (fun hHeld => ?_)
  · exact ⟨ldA (bytesV a) [_, _, _] hM6 (HVA.out) (List.take_length), ldA (bytesV b) [_, _] hM6 (HVB.out) (List.take_length), ldA (bytesV a) [_] hM6 (HVA.out) (List.take_length), ldS [] hM6 rfl⟩
  clear hK K
  (try simp only [Act.put, List.setIfInBounds_toArray, List.set_cons_zero, List.set_cons_succ])
  refine wpAnyH_ready (rs := [41]) (by kernel_rfl) (by simp) ?_
  refine (AllReadyH.cons (o := ⟨some 69, _, _, _, _, _⟩) rfl (fun K hK => ?_) AllReadyH.nil)
  rw [if_neg (by rw [show Region.wanted _ _ = false from rfl]; exact Bool.false_ne_true)]
  refine hK.out _ _ ?_ (fun hHeld => ?_)
  · exact ⟨ldA (bytesV a) [_, _, _] hM6 (HVA.out) (List.take_length), ldA (bytesV b) [_, _] hM6 (HVB.out) (List.take_length), ldA (bytesV a) [_] hM6 (HVA.out) (List.take_length), ldS [] hM6 rfl⟩
  clear hK K
  (try simp only [Act.put, List.setIfInBounds_toArray, List.set_cons_zero, List.set_cons_succ])
  refine wpAnyH_take (i := 42) (oi := ⟨some 70, _, _, _, _, _⟩) (v := undef) rfl (by kernel_rfl) (by kernel_rfl) (by kernel_rfl) (fun _ _ _ h => h) (Or.inr ⟨by rfl, rfl⟩) (by assumption) ?_
  (try simp only [Act.put, List.setIfInBounds_toArray, List.set_cons_zero, List.set_cons_succ])
  refine wpAnyH_take (i := 43) (oi := ⟨some 71, _, _, _, _, _⟩) (v := ?_) rfl (by kernel_rfl) (by kernel_rfl) (by kernel_rfl) (fun _ _ _ h => h) (Or.inl ⟨by rfl, ?_⟩) (by assumption) ?_
  rotate_left
  · intro w hSw; (try dsimp only at hSw); go_simp; try with_reducible rfl
  (try simp only [Act.put, List.setIfInBounds_toArray, List.set_cons_zero, List.set_cons_succ])
  refine wpAnyH_take (i := 44) (oi := ⟨some 72, _, _, _, _, _⟩) (v := ?_) rfl (by kernel_rfl) (by kernel_rfl) (by kernel_rfl) (fun _ _ _ h => h) (Or.inl ⟨by rfl, ?_⟩) (by assumption) ?_
  rotate_left
  · intro w hSw; (try dsimp only at hSw); go_simp; try with_reducible rfl
  (try simp only [Act.put, List.setIfInBounds_toArray, List.set_cons_zero, List.set_cons_succ])
  refine wpAnyH_done (by kernel_rfl) ?_ _
  clear hHeld
  go_wp2_with (first | go_big_skip | go_big_guard | (go_at_call 27; refine (parse_any s HSS.out _).mono ?_; rw [HP.out]; (try dsimp only); rintro _ _ ⟨rfl, h4⟩; have hq1 := St.call0 hM6 h4; clear h4 hM6) | (refine wl_alloc (T := 29) hq1 rfl rfl ?_; intro g12 _ hq2; clear hq1) | (refine wl_alloc (T := 47) hq2 rfl rfl ?_; intro g13 _ hq3; clear hq2) | (refine wl_storeA [_] hq3 rfl rfl rfl rfl HVI.out HON.out rfl ?_; intro _ hq4; clear hq3) | (refine wl_storeA [] hq4 rfl rfl rfl rfl rfl rfl rfl ?_; intro _ hq5; clear hq4) | (refine wl_loadE rfl rfl rfl ?_; first | refine ⟨_, Loads.at [] hq5 rfl, ?_⟩ | refine ⟨_, Loads.atA (bytesV I) [_] hq5 (HVI.out) (List.take_length), ?_⟩) | (refine wl_build0 rfl rfl ?_) | (refine wl_eql_bytes (l := I) (k := List.replicate 32 0) rfl rfl rfl rfl ⟨HI.out, by simp⟩ ?_; rw [show (I == List.replicate 32 0) = true by rw [HIZ.out]; exact beq_self_eq_true _]))
  go_ret
  exact ⟨by simp, hq5.nil⟩
theorem hback_other_good (a b s : List UInt8) (w : World) (ha : a.length = 32) (hb : b.length = 32) (hs : s.length ≤ 9223372036854775807) (h2 : ¬ 200 < s.length) (hab : a ≠ b) (hE : (parseR s).2.1 = 0) :
    Calls Try.prog 8 #[.agg (bytesV a).toArray, .agg (bytesV b).toArray, .string ⟨s.toArray⟩] w fun e w' => e = .returned (.bool true) ∧ St w [] w' [] := by
  have hst := St.refl w
  obtain ⟨N, hN⟩ : ∃ N, N = s.length := ⟨_, rfl⟩
  have hsz : (⟨s.toArray⟩ : ByteArray).size = N := by rw [size_l, hN]
  have HNS := hid hN
  have HSS := hid hs
  have HA := hid ha
  have HB := hid hb
  have HVA := hid (show (bytesV a).length = 32 by rw [length_bytesV, ha])
  have HVB := hid (show (bytesV b).length = 32 by rw [length_bytesV, hb])
  have HOA := hid (ones_bytesV a)
  have d0 : decide (200 < (N : Int)) = false := decide_eq_false (by omega)
  obtain ⟨I, E, A, hP, hI⟩ : ∃ I E A, parseR s = (I, E, A) ∧ I.length = 32 := ⟨_, _, _, rfl, parse_len32 s⟩
  rw [hP] at hE
  dsimp only at hE
  have HP := hid hP
  have HI := hid hI
  have HVI := hid (show (bytesV I).length = 32 by rw [length_bytesV, hI])
  have HON := hid (ones_bytesV I)
  have HPT := hid (parse_text ha)
  obtain ⟨TA, hTA⟩ : ∃ T, T = textB a := ⟨_, rfl⟩
  obtain ⟨TB, hTB⟩ : ∃ T, T = textB b := ⟨_, rfl⟩
  have htl : TA.length = 64 := by rw [hTA, length_textB, ha]
  have hta : (⟨TA.toArray⟩ : ByteArray).size = 64 := by rw [size_l, htl]
  have HTL := hid htl
  obtain ⟨L, hL⟩ : ∃ L, L = lessB a b := ⟨_, rfl⟩
  have HL := hid hL
  have hless : Op.bytesLess TA TB = L := by rw [less_eq, hTA, hTB, cmp_hex, hL]; rfl
  have HTA := hid hTA
  have HTB := hid hTB
  have heq : (TA == TB) = false := by rw [hTA, hTB, text_inj ha hb]; exact beq_eq_false_iff_ne.2 hab
  have HEQ := hid (show (a == b) = false from beq_eq_false_iff_ne.2 hab)
  have HNE := hid (show (!(a == b)) = true by rw [beq_eq_false_iff_ne.2 hab]; rfl)
  have HLS := hid (show lessB b a = !L by rw [hL]; exact less_swap ha hb hab)
  have hll : (L == !L) = false := by cases L <;> rfl
  have HAA := hid (show (!(a == a)) = false by rw [beq_self_eq_true]; rfl)
  subst hE
  have HTI := hid (text_parse hP)
  clear hN hs ha hb hP hI hL hTA hTB htl hab h2
  go_enter Try.func8, Try.ntmps8
  go_wp2_with (first | go_big_skip | go_big_guard | (refine wl_boxA hst rfl rfl rfl ?_; intro g3 _ hst1; clear hst) | (refine wl_boxA hst1 rfl rfl rfl ?_; intro g4 _ hst2; clear hst1) | (go_at_call 6; refine (hknown_any _).mono ?_; rintro _ _ ⟨rfl, h4⟩; have hst3 := St.call0 hst2 h4; clear h4 hst2))
  have hD := hst3.drew
  clear hst3
  refine wp_region_held_drew (S := (fun w' => (loadVarH 29 ⟨g3, 0, none⟩).run Try.prog w' = .ok (.agg (List.toArray (bytesV a))) w' ∧ (loadVarH 29 ⟨g4, 0, none⟩).run Try.prog w' = .ok (.agg (List.toArray (bytesV b))) w')) (by kernel_rfl) (by exact ⟨ldA (bytesV a) [_] hD (HVA.out) (List.take_length), ldA (bytesV b) [] hD (HVB.out) (List.take_length)⟩) (fun hHeld => ?_)
  refine wpAnyH_take (i := 0) (oi := ⟨some 19, _, _, _, _, _⟩) (v := ?_) rfl (by kernel_rfl) (by kernel_rfl) (by kernel_rfl) (fun _ _ _ h => h) (Or.inl ⟨by rfl, ?_⟩) (by assumption) ?_
  rotate_left
  · intro w hSw; (try dsimp only at hSw); go_simp; try with_reducible rfl
  (try simp only [Act.put, List.setIfInBounds_toArray, List.set_cons_zero, List.set_cons_succ])
  refine wpAnyH_take (i := 2) (oi := ⟨some 21, _, _, _, _, _⟩) (v := ?_) rfl (by kernel_rfl) (by kernel_rfl) (by kernel_rfl) (fun _ _ _ h => h) (Or.inl ⟨by rfl, ?_⟩) (by assumption) ?_
  rotate_left
  · intro w hSw; (try dsimp only at hSw); go_simp; try with_reducible rfl
  (try simp only [Act.put, List.setIfInBounds_toArray, List.set_cons_zero, List.set_cons_succ])
  refine wpAnyH_ready (rs := [1]) (by kernel_rfl) (by simp) ?_
  refine (AllReadyH.cons (o := ⟨some 20, _, _, _, _, _⟩) rfl (fun K hK => ?_) AllReadyH.nil)
  go_simp
  go_at_call 32
  refine (text_any a HA.out _).mono ?_
  rw [← HTA.out]
  rintro _ _ ⟨rfl, h4⟩
  have hM7 := St.call0 hD h4
  clear h4
  refine hK.out _ _ ?_ (fun hHeld => ?_)
  · exact ⟨ldA (bytesV a) [_] hM7 (HVA.out) (List.take_length), ldA (bytesV b) [] hM7 (HVB.out) (List.take_length)⟩
  clear hK K
  (try simp only [Act.put, List.setIfInBounds_toArray, List.set_cons_zero, List.set_cons_succ])
  refine wpAnyH_ready (rs := [3]) (by kernel_rfl) (by simp) ?_
  refine (AllReadyH.cons (o := ⟨some 22, _, _, _, _, _⟩) rfl (fun K hK => ?_) AllReadyH.nil)
  go_simp
  go_at_call 32
  refine (text_any b HB.out _).mono ?_
  rw [← HTB.out]
  rintro _ _ ⟨rfl, h4⟩
  have hM8 := St.call0 hM7 h4
  clear h4
  refine hK.out _ _ ?_ (fun hHeld => ?_)
  · exact ⟨ldA (bytesV a) [_] hM8 (HVA.out) (List.take_length), ldA (bytesV b) [] hM8 (HVB.out) (List.take_length)⟩
  clear hK K
  (try simp only [Act.put, List.setIfInBounds_toArray, List.set_cons_zero, List.set_cons_succ])
  refine wpAnyH_take (i := 4) (oi := ⟨some 8, _, _, _, _, _⟩) (v := ?_) rfl (by kernel_rfl) (by kernel_rfl) (by kernel_rfl) (fun _ _ _ h => h) (Or.inl ⟨by rfl, ?_⟩) (by assumption) ?_
  rotate_left
  · intro w hSw; (try dsimp only at hSw); go_simp; try with_reducible rfl
  (try simp only [Act.put, List.setIfInBounds_toArray, List.set_cons_zero, List.set_cons_succ])
  refine wpAnyH_take (i := 5) (oi := ⟨some 9, _, _, _, _, _⟩) (v := ?_) rfl (by kernel_rfl) (by kernel_rfl) (by kernel_rfl) (fun _ _ _ h => h) (Or.inl ⟨by rfl, ?_⟩) (by assumption) ?_
  rotate_left
  · intro w hSw; (try dsimp only at hSw); go_simp; try with_reducible rfl
  (try simp only [Act.put, List.setIfInBounds_toArray, List.set_cons_zero, List.set_cons_succ])
  refine wpAnyH_done (by kernel_rfl) ?_ _
  clear hHeld
  go_wp2_with (first | go_big_skip | go_big_guard | (go_at_call 27; refine (parse_any TA (by rw [HTL.out]; decide) _).mono ?_; rw [HTA.out, HPT.out]; (try dsimp only); rw [← HTA.out]; rintro _ _ ⟨rfl, h4⟩; have hst5 := St.call0 hM8 h4; clear h4 hM8) | (refine wl_alloc (T := 29) hst5 rfl rfl ?_; intro g10 _ hst6; clear hst5) | (refine wl_alloc (T := 47) hst6 rfl rfl ?_; intro g11 _ hst7; clear hst6) | (refine wl_storeA [_] hst7 rfl rfl rfl rfl HVA.out HOA.out rfl ?_; intro _ hst8; clear hst7) | (refine wl_storeA [] hst8 rfl rfl rfl rfl rfl rfl rfl ?_; intro _ hst9; clear hst8))
  have hD6 := hst9.drew
  clear hst9
  refine wp_region_held_drew (S := (fun w' => (loadVarH 29 ⟨g3, 0, none⟩).run Try.prog w' = .ok (.agg (List.toArray (bytesV a))) w' ∧ (loadVarH 29 ⟨g4, 0, none⟩).run Try.prog w' = .ok (.agg (List.toArray (bytesV b))) w' ∧ (loadVarH 29 ⟨g10, 0, none⟩).run Try.prog w' = .ok (.agg (List.toArray (bytesV a))) w' ∧ (loadVarH 37 ⟨g11, 0, none⟩).run Try.prog w' = .ok (.int .i64 0) w')) (by kernel_rfl) (by exact ⟨ldA (bytesV a) [_, _, _] hD6 (HVA.out) (List.take_length), ldA (bytesV b) [_, _] hD6 (HVB.out) (List.take_length), ldA (bytesV a) [_] hD6 (HVA.out) (List.take_length), ldS [] hD6 rfl⟩) (fun hHeld => ?_)
  refine wpAnyH_take (i := 0) (oi := ⟨some 28, _, _, _, _, _⟩) (v := ?_) rfl (by kernel_rfl) (by kernel_rfl) (by kernel_rfl) (fun _ _ _ h => h) (Or.inl ⟨by rfl, ?_⟩) (by assumption) ?_
  rotate_left
  · intro w hSw; (try dsimp only at hSw); go_simp; try with_reducible rfl
  (try simp only [Act.put, List.setIfInBounds_toArray, List.set_cons_zero, List.set_cons_succ])
  refine wpAnyH_take (i := 1) (oi := ⟨some 29, _, _, _, _, _⟩) (v := ?_) rfl (by kernel_rfl) (by kernel_rfl) (by kernel_rfl) (fun _ _ _ h => h) (Or.inl ⟨by rfl, ?_⟩) (by assumption) ?_
  rotate_left
  · intro w hSw; (try dsimp only at hSw); go_simp; try with_reducible rfl
  (try simp only [Act.put, List.setIfInBounds_toArray, List.set_cons_zero, List.set_cons_succ])
  refine wpAnyH_take (i := 2) (oi := ⟨some 30, _, _, _, _, _⟩) (v := ?_) rfl (by kernel_rfl) (by kernel_rfl) (by kernel_rfl) (fun _ _ _ h => h) (Or.inl ⟨by rfl, ?_⟩) (by assumption) ?_
  rotate_left
  · intro w hSw; (try dsimp only at hSw); go_simp; try with_reducible rfl
  (try simp only [Act.put, List.setIfInBounds_toArray, List.set_cons_zero, List.set_cons_succ])
  refine wpAnyH_take (i := 3) (oi := ⟨some 31, _, _, _, _, _⟩) (v := ?_) rfl (by kernel_rfl) (by kernel_rfl) (by kernel_rfl) (fun _ _ _ h => h) (Or.inl ⟨by rfl, ?_⟩) (by assumption) ?_
  rotate_left
  · intro w hSw; (try dsimp only at hSw); go_simp; try with_reducible rfl
  (try simp only [Act.put, List.setIfInBounds_toArray, List.set_cons_zero, List.set_cons_succ])
  refine wpAnyH_take (i := 4) (oi := ⟨some 32, _, _, _, _, _⟩) (v := ?_) rfl (by kernel_rfl) (by kernel_rfl) (by kernel_rfl) (fun _ _ _ h => h) (Or.inl ⟨by rfl, ?_⟩) (by assumption) ?_
  rotate_left
  · intro w hSw; (try dsimp only at hSw); go_simp; try with_reducible rfl
  (try simp only [Act.put, List.setIfInBounds_toArray, List.set_cons_zero, List.set_cons_succ])
  refine wpAnyH_take (i := 5) (oi := ⟨some 33, _, _, _, _, _⟩) (v := ?_) rfl (by kernel_rfl) (by kernel_rfl) (by kernel_rfl) (fun _ _ _ h => h) (Or.inl ⟨by rfl, ?_⟩) (by assumption) ?_
  rotate_left
  · intro w hSw; (try dsimp only at hSw); go_simp; try with_reducible rfl
  (try simp only [Act.put, List.setIfInBounds_toArray, List.set_cons_zero, List.set_cons_succ])
  refine wpAnyH_ready (rs := [6]) (by kernel_rfl) (by simp) ?_
  refine (AllReadyH.cons (o := ⟨some 34, _, _, _, _, _⟩) rfl (fun K hK => ?_) AllReadyH.nil)
  rw [if_pos (by rfl)]
  refine ow_bare ?_
  refine ow_of_wl (ops := #[]) (by rfl) ?_
  refine wl_neq_bytes rfl rfl rfl rfl ⟨HA.out, HA.out⟩ ?_
  rw [HAA.out]
  refine q0_nil ?_
  refine hK.out _ _ ?_ (fun hHeld => ?_)
  · exact ⟨ldA (bytesV a) [_, _, _] hD6 (HVA.out) (List.take_length), ldA (bytesV b) [_, _] hD6 (HVB.out) (List.take_length), ldA (bytesV a) [_] hD6 (HVA.out) (List.take_length), ldS [] hD6 rfl⟩
  clear hK K
  (try simp only [Act.put, List.setIfInBounds_toArray, List.set_cons_zero, List.set_cons_succ])
  refine wpAnyH_take (i := 7) (oi := ⟨some 35, _, _, _, _, _⟩) (v := ?_) rfl (by kernel_rfl) (by kernel_rfl) (by kernel_rfl) (fun _ _ _ h => h) (Or.inl ⟨by rfl, ?_⟩) (by assumption) ?_
  rotate_left
  · intro w hSw; (try dsimp only at hSw); go_simp; try with_reducible rfl
  (try simp only [Act.put, List.setIfInBounds_toArray, List.set_cons_zero, List.set_cons_succ])
  refine wpAnyH_take (i := 8) (oi := ⟨some 36, _, _, _, _, _⟩) (v := ?_) rfl (by kernel_rfl) (by kernel_rfl) (by kernel_rfl) (fun _ _ _ h => h) (Or.inl ⟨by rfl, ?_⟩) (by assumption) ?_
  rotate_left
  · intro w hSw; (try dsimp only at hSw); go_simp; try with_reducible rfl
  (try simp only [Act.put, List.setIfInBounds_toArray, List.set_cons_zero, List.set_cons_succ])
  refine wpAnyH_take (i := 9) (oi := ⟨some 37, _, _, _, _, _⟩) (v := ?_) rfl (by kernel_rfl) (by kernel_rfl) (by kernel_rfl) (fun _ _ _ h => h) (Or.inl ⟨by rfl, ?_⟩) (by assumption) ?_
  rotate_left
  · intro w hSw; (try dsimp only at hSw); go_simp; try with_reducible rfl
  (try simp only [Act.put, List.setIfInBounds_toArray, List.set_cons_zero, List.set_cons_succ])
  refine wpAnyH_take (i := 10) (oi := ⟨some 38, _, _, _, _, _⟩) (v := ?_) rfl (by kernel_rfl) (by kernel_rfl) (by kernel_rfl) (fun _ _ _ h => h) (Or.inl ⟨by rfl, ?_⟩) (by assumption) ?_
  rotate_left
  · intro w hSw; (try dsimp only at hSw); go_simp; try with_reducible rfl
  (try simp only [Act.put, List.setIfInBounds_toArray, List.set_cons_zero, List.set_cons_succ])
  refine wpAnyH_take (i := 11) (oi := ⟨some 39, _, _, _, _, _⟩) (v := ?_) rfl (by kernel_rfl) (by kernel_rfl) (by kernel_rfl) (fun _ _ _ h => h) (Or.inl ⟨by rfl, ?_⟩) (by assumption) ?_
  rotate_left
  · intro w hSw; (try dsimp only at hSw); go_simp; try with_reducible rfl
  (try simp only [Act.put, List.setIfInBounds_toArray, List.set_cons_zero, List.set_cons_succ])
  refine wpAnyH_take (i := 12) (oi := ⟨some 40, _, _, _, _, _⟩) (v := ?_) rfl (by kernel_rfl) (by kernel_rfl) (by kernel_rfl) (fun _ _ _ h => h) (Or.inl ⟨by rfl, ?_⟩) (by assumption) ?_
  rotate_left
  · intro w hSw; (try dsimp only at hSw); go_simp; try with_reducible rfl
  (try simp only [Act.put, List.setIfInBounds_toArray, List.set_cons_zero, List.set_cons_succ])
  refine wpAnyH_take (i := 13) (oi := ⟨some 41, _, _, _, _, _⟩) (v := ?_) rfl (by kernel_rfl) (by kernel_rfl) (by kernel_rfl) (fun _ _ _ h => h) (Or.inl ⟨by rfl, ?_⟩) (by assumption) ?_
  rotate_left
  · intro w hSw; (try dsimp only at hSw); go_simp; try with_reducible rfl
  (try simp only [Act.put, List.setIfInBounds_toArray, List.set_cons_zero, List.set_cons_succ])
  refine wpAnyH_take (i := 14) (oi := ⟨some 42, _, _, _, _, _⟩) (v := ?_) rfl (by kernel_rfl) (by kernel_rfl) (by kernel_rfl) (fun _ _ _ h => h) (Or.inl ⟨by rfl, ?_⟩) (by assumption) ?_
  rotate_left
  · intro w hSw; (try dsimp only at hSw); go_simp; try with_reducible rfl
  (try simp only [Act.put, List.setIfInBounds_toArray, List.set_cons_zero, List.set_cons_succ])
  refine wpAnyH_take (i := 15) (oi := ⟨some 43, _, _, _, _, _⟩) (v := ?_) rfl (by kernel_rfl) (by kernel_rfl) (by kernel_rfl) (fun _ _ _ h => h) (Or.inl ⟨by rfl, ?_⟩) (by assumption) ?_
  rotate_left
  · intro w hSw; (try dsimp only at hSw); go_simp; try with_reducible rfl
  (try simp only [Act.put, List.setIfInBounds_toArray, List.set_cons_zero, List.set_cons_succ])
  refine wpAnyH_take (i := 17) (oi := ⟨some 45, _, _, _, _, _⟩) (v := ?_) rfl (by kernel_rfl) (by kernel_rfl) (by kernel_rfl) (fun _ _ _ h => h) (Or.inl ⟨by rfl, ?_⟩) (by assumption) ?_
  rotate_left
  · intro w hSw; (try dsimp only at hSw); go_simp; try with_reducible rfl
  (try simp only [Act.put, List.setIfInBounds_toArray, List.set_cons_zero, List.set_cons_succ])
  refine wpAnyH_take (i := 18) (oi := ⟨some 46, _, _, _, _, _⟩) (v := ?_) rfl (by kernel_rfl) (by kernel_rfl) (by kernel_rfl) (fun _ _ _ h => h) (Or.inl ⟨by rfl, ?_⟩) (by assumption) ?_
  rotate_left
  · intro w hSw; (try dsimp only at hSw); go_simp; try with_reducible rfl
  (try simp only [Act.put, List.setIfInBounds_toArray, List.set_cons_zero, List.set_cons_succ])
  refine wpAnyH_take (i := 19) (oi := ⟨some 47, _, _, _, _, _⟩) (v := ?_) rfl (by kernel_rfl) (by kernel_rfl) (by kernel_rfl) (fun _ _ _ h => h) (Or.inl ⟨by rfl, ?_⟩) (by assumption) ?_
  rotate_left
  · intro w hSw; (try dsimp only at hSw); go_simp; try with_reducible rfl
  (try simp only [Act.put, List.setIfInBounds_toArray, List.set_cons_zero, List.set_cons_succ])
  refine wpAnyH_ready (rs := [16]) (by kernel_rfl) (by simp) ?_
  refine (AllReadyH.cons (o := ⟨some 44, _, _, _, _, _⟩) rfl (fun K hK => ?_) AllReadyH.nil)
  go_simp
  go_at_call 29
  refine (less_any a b HA.out HB.out _).mono ?_
  rw [← HL.out]
  rintro _ _ ⟨rfl, h4⟩
  have hM9 := St.call0 hD6 h4
  clear h4
  refine hK.out _ _ ?_ (fun hHeld => ?_)
  · exact ⟨ldA (bytesV a) [_, _, _] hM9 (HVA.out) (List.take_length), ldA (bytesV b) [_, _] hM9 (HVB.out) (List.take_length), ldA (bytesV a) [_] hM9 (HVA.out) (List.take_length), ldS [] hM9 rfl⟩
  clear hK K
  (try simp only [Act.put, List.setIfInBounds_toArray, List.set_cons_zero, List.set_cons_succ])
  refine wpAnyH_take (i := 20) (oi := ⟨some 48, _, _, _, _, _⟩) (v := ?_) rfl (by kernel_rfl) (by kernel_rfl) (by kernel_rfl) (fun _ _ _ h => h) (Or.inl ⟨by rfl, ?_⟩) (by assumption) ?_
  rotate_left
  · intro w hSw; (try dsimp only at hSw); go_simp; try with_reducible rfl
  (try simp only [Act.put, List.setIfInBounds_toArray, List.set_cons_zero, List.set_cons_succ])
  refine wpAnyH_take (i := 21) (oi := ⟨some 49, _, _, _, _, _⟩) (v := ?_) rfl (by kernel_rfl) (by kernel_rfl) (by kernel_rfl) (fun _ _ _ h => h) (Or.inl ⟨by rfl, ?_⟩) (by assumption) ?_
  rotate_left
  · intro w hSw; (try dsimp only at hSw); go_simp; try with_reducible rfl
  (try simp only [Act.put, List.setIfInBounds_toArray, List.set_cons_zero, List.set_cons_succ])
  refine wpAnyH_take (i := 22) (oi := ⟨some 50, _, _, _, _, _⟩) (v := ?_) rfl (by kernel_rfl) (by kernel_rfl) (by kernel_rfl) (fun _ _ _ h => h) (Or.inl ⟨by rfl, ?_⟩) (by assumption) ?_
  rotate_left
  · intro w hSw; (try dsimp only at hSw); go_simp; try with_reducible rfl
  (try simp only [Act.put, List.setIfInBounds_toArray, List.set_cons_zero, List.set_cons_succ])
  refine wpAnyH_take (i := 23) (oi := ⟨some 51, _, _, _, _, _⟩) (v := ?_) rfl (by kernel_rfl) (by kernel_rfl) (by kernel_rfl) (fun _ _ _ h => h) (Or.inl ⟨by rfl, ?_⟩) (by assumption) ?_
  rotate_left
  · intro w hSw; (try dsimp only at hSw); go_simp; try with_reducible rfl
  (try simp only [Act.put, List.setIfInBounds_toArray, List.set_cons_zero, List.set_cons_succ])
  refine wpAnyH_take (i := 24) (oi := ⟨some 52, _, _, _, _, _⟩) (v := ?_) rfl (by kernel_rfl) (by kernel_rfl) (by kernel_rfl) (fun _ _ _ h => h) (Or.inl ⟨by rfl, ?_⟩) (by assumption) ?_
  rotate_left
  · intro w hSw; (try dsimp only at hSw); go_simp; try with_reducible rfl
  (try simp only [Act.put, List.setIfInBounds_toArray, List.set_cons_zero, List.set_cons_succ])
  refine wpAnyH_take (i := 26) (oi := ⟨some 54, _, _, _, _, _⟩) (v := ?_) rfl (by kernel_rfl) (by kernel_rfl) (by kernel_rfl) (fun _ _ _ h => h) (Or.inl ⟨by rfl, ?_⟩) (by assumption) ?_
  rotate_left
  · intro w hSw; (try dsimp only at hSw); go_simp; try with_reducible rfl
  (try simp only [Act.put, List.setIfInBounds_toArray, List.set_cons_zero, List.set_cons_succ])
  refine wpAnyH_take (i := 27) (oi := ⟨some 55, _, _, _, _, _⟩) (v := ?_) rfl (by kernel_rfl) (by kernel_rfl) (by kernel_rfl) (fun _ _ _ h => h) (Or.inl ⟨by rfl, ?_⟩) (by assumption) ?_
  rotate_left
  · intro w hSw; (try dsimp only at hSw); go_simp; try with_reducible rfl
  (try simp only [Act.put, List.setIfInBounds_toArray, List.set_cons_zero, List.set_cons_succ])
  refine wpAnyH_take (i := 28) (oi := ⟨some 56, _, _, _, _, _⟩) (v := ?_) rfl (by kernel_rfl) (by kernel_rfl) (by kernel_rfl) (fun _ _ _ h => h) (Or.inl ⟨by rfl, ?_⟩) (by assumption) ?_
  rotate_left
  · intro w hSw; (try dsimp only at hSw); go_simp; try with_reducible rfl
  (try simp only [Act.put, List.setIfInBounds_toArray, List.set_cons_zero, List.set_cons_succ])
  refine wpAnyH_ready (rs := [25]) (by kernel_rfl) (by simp) ?_
  refine (AllReadyH.cons (o := ⟨some 53, _, _, _, _, _⟩) rfl (fun K hK => ?_) AllReadyH.nil)
  rw [if_pos (by rfl)]
  refine ow_bare ?_
  refine ow_of_wl (ops := #[]) (by rfl) ?_
  refine wl_eql_bytes rfl rfl rfl rfl ⟨HA.out, HB.out⟩ ?_
  rw [HEQ.out]
  refine q0_nil ?_
  refine hK.out _ _ ?_ (fun hHeld => ?_)
  · exact ⟨ldA (bytesV a) [_, _, _] hM9 (HVA.out) (List.take_length), ldA (bytesV b) [_, _] hM9 (HVB.out) (List.take_length), ldA (bytesV a) [_] hM9 (HVA.out) (List.take_length), ldS [] hM9 rfl⟩
  clear hK K
  (try simp only [Act.put, List.setIfInBounds_toArray, List.set_cons_zero, List.set_cons_succ])
  refine wpAnyH_take (i := 29) (oi := ⟨some 57, _, _, _, _, _⟩) (v := ?_) rfl (by kernel_rfl) (by kernel_rfl) (by kernel_rfl) (fun _ _ _ h => h) (Or.inl ⟨by rfl, ?_⟩) (by assumption) ?_
  rotate_left
  · intro w hSw; (try dsimp only at hSw); go_simp; try with_reducible rfl
  (try simp only [Act.put, List.setIfInBounds_toArray, List.set_cons_zero, List.set_cons_succ])
  refine wpAnyH_take (i := 30) (oi := ⟨some 58, _, _, _, _, _⟩) (v := ?_) rfl (by kernel_rfl) (by kernel_rfl) (by kernel_rfl) (fun _ _ _ h => h) (Or.inl ⟨by rfl, ?_⟩) (by assumption) ?_
  rotate_left
  · intro w hSw; (try dsimp only at hSw); go_simp; try with_reducible rfl
  (try simp only [Act.put, List.setIfInBounds_toArray, List.set_cons_zero, List.set_cons_succ])
  refine wpAnyH_take (i := 31) (oi := ⟨some 59, _, _, _, _, _⟩) (v := ?_) rfl (by kernel_rfl) (by kernel_rfl) (by kernel_rfl) (fun _ _ _ h => h) (Or.inl ⟨by rfl, ?_⟩) (by assumption) ?_
  rotate_left
  · intro w hSw; (try dsimp only at hSw); go_simp; try with_reducible rfl
  (try simp only [Act.put, List.setIfInBounds_toArray, List.set_cons_zero, List.set_cons_succ])
  refine wpAnyH_take (i := 32) (oi := ⟨some 60, _, _, _, _, _⟩) (v := ?_) rfl (by kernel_rfl) (by kernel_rfl) (by kernel_rfl) (fun _ _ _ h => h) (Or.inl ⟨by rfl, ?_⟩) (by assumption) ?_
  rotate_left
  · intro w hSw; (try dsimp only at hSw); go_simp; try with_reducible rfl
  (try simp only [Act.put, List.setIfInBounds_toArray, List.set_cons_zero, List.set_cons_succ])
  refine wpAnyH_take (i := 33) (oi := ⟨some 61, _, _, _, _, _⟩) (v := ?_) rfl (by kernel_rfl) (by kernel_rfl) (by kernel_rfl) (fun _ _ _ h => h) (Or.inl ⟨by rfl, ?_⟩) (by assumption) ?_
  rotate_left
  · intro w hSw; (try dsimp only at hSw); go_simp; try with_reducible rfl
  (try simp only [Act.put, List.setIfInBounds_toArray, List.set_cons_zero, List.set_cons_succ])
  refine wpAnyH_ready (rs := [34]) (by kernel_rfl) (by simp) ?_
  refine (AllReadyH.cons (o := ⟨some 62, _, _, _, _, _⟩) rfl (fun K hK => ?_) AllReadyH.nil)
  rw [if_pos (by rfl)]
  refine ow_bare ?_
  refine ow_of_wl (ops := #[]) (by rfl) ?_
  refine wl_neq_bytes rfl rfl rfl rfl ⟨HA.out, HB.out⟩ ?_
  rw [HNE.out]
  refine q0_nil ?_
  refine hK.out _ _ ?_ (fun hHeld => ?_)
  · exact ⟨ldA (bytesV a) [_, _, _] hM9 (HVA.out) (List.take_length), ldA (bytesV b) [_, _] hM9 (HVB.out) (List.take_length), ldA (bytesV a) [_] hM9 (HVA.out) (List.take_length), ldS [] hM9 rfl⟩
  clear hK K
  (try simp only [Act.put, List.setIfInBounds_toArray, List.set_cons_zero, List.set_cons_succ])
  refine wpAnyH_take (i := 35) (oi := ⟨some 63, _, _, _, _, _⟩) (v := ?_) rfl (by kernel_rfl) (by kernel_rfl) (by kernel_rfl) (fun _ _ _ h => h) (Or.inl ⟨by rfl, ?_⟩) (by assumption) ?_
  rotate_left
  · intro w hSw; (try dsimp only at hSw); go_simp; try with_reducible rfl
  (try simp only [Act.put, List.setIfInBounds_toArray, List.set_cons_zero, List.set_cons_succ])
  refine wpAnyH_take (i := 36) (oi := ⟨some 64, _, _, _, _, _⟩) (v := ?_) rfl (by kernel_rfl) (by kernel_rfl) (by kernel_rfl) (fun _ _ _ h => h) (Or.inl ⟨by rfl, ?_⟩) (by assumption) ?_
  rotate_left
  · intro w hSw; (try dsimp only at hSw); go_simp; try with_reducible rfl
  (try simp only [Act.put, List.setIfInBounds_toArray, List.set_cons_zero, List.set_cons_succ])
  refine wpAnyH_take (i := 37) (oi := ⟨some 65, _, _, _, _, _⟩) (v := ?_) rfl (by kernel_rfl) (by kernel_rfl) (by kernel_rfl) (fun _ _ _ h => h) (Or.inl ⟨by rfl, ?_⟩) (by assumption) ?_
  rotate_left
  · intro w hSw; (try dsimp only at hSw); go_simp; try with_reducible rfl
  (try simp only [Act.put, List.setIfInBounds_toArray, List.set_cons_zero, List.set_cons_succ])
  refine wpAnyH_take (i := 39) (oi := ⟨some 67, _, _, _, _, _⟩) (v := ?_) rfl (by kernel_rfl) (by kernel_rfl) (by kernel_rfl) (fun _ _ _ h => h) (Or.inl ⟨by rfl, ?_⟩) (by assumption) ?_
  rotate_left
  · intro w hSw; (try dsimp only at hSw); go_simp; try with_reducible rfl
  (try simp only [Act.put, List.setIfInBounds_toArray, List.set_cons_zero, List.set_cons_succ])
  refine wpAnyH_take (i := 40) (oi := ⟨some 68, _, _, _, _, _⟩) (v := ?_) rfl (by kernel_rfl) (by kernel_rfl) (by kernel_rfl) (fun _ _ _ h => h) (Or.inl ⟨by rfl, ?_⟩) (by assumption) ?_
  rotate_left
  · intro w hSw; (try dsimp only at hSw); go_simp; try with_reducible rfl
  (try simp only [Act.put, List.setIfInBounds_toArray, List.set_cons_zero, List.set_cons_succ])
  refine wpAnyH_ready (rs := [38]) (by kernel_rfl) (by simp) ?_
  refine (AllReadyH.cons (o := ⟨some 66, _, _, _, _, _⟩) rfl (fun K hK => ?_) AllReadyH.nil)
  go_simp
  go_at_call 29
  refine (less_any a b HA.out HB.out _).mono ?_
  rw [← HL.out]
  rintro _ _ ⟨rfl, h4⟩
  have hM10 := St.call0 hM9 h4
  clear h4
  refine hK.out _ _ ?_ (fun hHeld => ?_)
  · exact ⟨ldA (bytesV a) [_, _, _] hM10 (HVA.out) (List.take_length), ldA (bytesV b) [_, _] hM10 (HVB.out) (List.take_length), ldA (bytesV a) [_] hM10 (HVA.out) (List.take_length), ldS [] hM10 rfl⟩
  clear hK K
  (try simp only [Act.put, List.setIfInBounds_toArray, List.set_cons_zero, List.set_cons_succ])
  refine wpAnyH_ready (rs := [41]) (by kernel_rfl) (by simp) ?_
  refine (AllReadyH.cons (o := ⟨some 69, _, _, _, _, _⟩) rfl (fun K hK => ?_) AllReadyH.nil)
  go_simp
  go_at_call 29
  refine (less_any b a HB.out HA.out _).mono ?_
  rw [HLS.out]
  rintro _ _ ⟨rfl, h4⟩
  have hM11 := St.call0 hM10 h4
  clear h4
  refine hK.out _ _ ?_ (fun hHeld => ?_)
  · exact ⟨ldA (bytesV a) [_, _, _] hM11 (HVA.out) (List.take_length), ldA (bytesV b) [_, _] hM11 (HVB.out) (List.take_length), ldA (bytesV a) [_] hM11 (HVA.out) (List.take_length), ldS [] hM11 rfl⟩
  clear hK K
  (try simp only [Act.put, List.setIfInBounds_toArray, List.set_cons_zero, List.set_cons_succ])
  refine wpAnyH_take (i := 42) (oi := ⟨some 70, _, _, _, _, _⟩) (v := ?_) rfl (by kernel_rfl) (by kernel_rfl) (by kernel_rfl) (fun _ _ _ h => h) (Or.inl ⟨by rfl, ?_⟩) (by assumption) ?_
  rotate_left
  · intro w hSw; (try dsimp only at hSw); go_simp; try with_reducible rfl
  (try simp only [Act.put, List.setIfInBounds_toArray, List.set_cons_zero, List.set_cons_succ])
  refine wpAnyH_take (i := 43) (oi := ⟨some 71, _, _, _, _, _⟩) (v := ?_) rfl (by kernel_rfl) (by kernel_rfl) (by kernel_rfl) (fun _ _ _ h => h) (Or.inl ⟨by rfl, ?_⟩) (by assumption) ?_
  rotate_left
  · intro w hSw; (try dsimp only at hSw); go_simp; try with_reducible rfl
  (try simp only [Act.put, List.setIfInBounds_toArray, List.set_cons_zero, List.set_cons_succ])
  refine wpAnyH_take (i := 44) (oi := ⟨some 72, _, _, _, _, _⟩) (v := ?_) rfl (by kernel_rfl) (by kernel_rfl) (by kernel_rfl) (fun _ _ _ h => h) (Or.inl ⟨by rfl, ?_⟩) (by assumption) ?_
  rotate_left
  · intro w hSw; (try dsimp only at hSw); go_simp; try with_reducible rfl
  (try simp only [Act.put, List.setIfInBounds_toArray, List.set_cons_zero, List.set_cons_succ])
  refine wpAnyH_done (by kernel_rfl) ?_ _
  clear hHeld
  go_wp2_with (first | go_big_skip | go_big_guard | (go_at_call 27; refine (parse_any s HSS.out _).mono ?_; rw [HP.out]; (try dsimp only); rintro _ _ ⟨rfl, h4⟩; have hq1 := St.call0 hM11 h4; clear h4 hM11) | (refine wl_alloc (T := 29) hq1 rfl rfl ?_; intro g12 _ hq2; clear hq1) | (refine wl_alloc (T := 47) hq2 rfl rfl ?_; intro g13 _ hq3; clear hq2) | (refine wl_storeA [_] hq3 rfl rfl rfl rfl HVI.out HON.out rfl ?_; intro _ hq4; clear hq3) | (refine wl_storeA [] hq4 rfl rfl rfl rfl rfl rfl rfl ?_; intro _ hq5; clear hq4) | (refine wl_loadE rfl rfl rfl ?_; first | refine ⟨_, Loads.at [] hq5 rfl, ?_⟩ | refine ⟨_, Loads.atA (bytesV I) [_] hq5 (HVI.out) (List.take_length), ?_⟩) | (go_at_call 32; refine (text_any I HI.out _).mono ?_; rw [HTI.out]; rintro _ _ ⟨rfl, h4⟩; have hq6 := St.call0 hq5 h4; clear h4 hq5))
  go_ret
  exact ⟨by simp, hq6.nil⟩
theorem hback_other_bad (a b s : List UInt8) (w : World) (ha : a.length = 32) (hb : b.length = 32) (hs : s.length ≤ 9223372036854775807) (h2 : ¬ 200 < s.length) (hab : a ≠ b) (hE : (parseR s).2.1 ≠ 0) :
    Calls Try.prog 8 #[.agg (bytesV a).toArray, .agg (bytesV b).toArray, .string ⟨s.toArray⟩] w fun e w' => e = .returned (.bool true) ∧ St w [] w' [] := by
  have hst := St.refl w
  obtain ⟨N, hN⟩ : ∃ N, N = s.length := ⟨_, rfl⟩
  have hsz : (⟨s.toArray⟩ : ByteArray).size = N := by rw [size_l, hN]
  have HNS := hid hN
  have HSS := hid hs
  have HA := hid ha
  have HB := hid hb
  have HVA := hid (show (bytesV a).length = 32 by rw [length_bytesV, ha])
  have HVB := hid (show (bytesV b).length = 32 by rw [length_bytesV, hb])
  have HOA := hid (ones_bytesV a)
  have d0 : decide (200 < (N : Int)) = false := decide_eq_false (by omega)
  obtain ⟨I, E, A, hP, hI⟩ : ∃ I E A, parseR s = (I, E, A) ∧ I.length = 32 := ⟨_, _, _, rfl, parse_len32 s⟩
  rw [hP] at hE
  dsimp only at hE
  have HP := hid hP
  have HI := hid hI
  have HVI := hid (show (bytesV I).length = 32 by rw [length_bytesV, hI])
  have HON := hid (ones_bytesV I)
  have HPT := hid (parse_text ha)
  obtain ⟨TA, hTA⟩ : ∃ T, T = textB a := ⟨_, rfl⟩
  obtain ⟨TB, hTB⟩ : ∃ T, T = textB b := ⟨_, rfl⟩
  have htl : TA.length = 64 := by rw [hTA, length_textB, ha]
  have hta : (⟨TA.toArray⟩ : ByteArray).size = 64 := by rw [size_l, htl]
  have HTL := hid htl
  obtain ⟨L, hL⟩ : ∃ L, L = lessB a b := ⟨_, rfl⟩
  have HL := hid hL
  have hless : Op.bytesLess TA TB = L := by rw [less_eq, hTA, hTB, cmp_hex, hL]; rfl
  have HTA := hid hTA
  have HTB := hid hTB
  have heq : (TA == TB) = false := by rw [hTA, hTB, text_inj ha hb]; exact beq_eq_false_iff_ne.2 hab
  have HEQ := hid (show (a == b) = false from beq_eq_false_iff_ne.2 hab)
  have HNE := hid (show (!(a == b)) = true by rw [beq_eq_false_iff_ne.2 hab]; rfl)
  have HLS := hid (show lessB b a = !L by rw [hL]; exact less_swap ha hb hab)
  have hll : (L == !L) = false := by cases L <;> rfl
  have HAA := hid (show (!(a == a)) = false by rw [beq_self_eq_true]; rfl)
  have hf := parse_fault hP hE
  have e0 : (E != 0) = true := by simpa using hE
  have f1 : decide (0 ≤ A) = true := decide_eq_true hf.2.1
  have f2 : decide (A ≤ (N : Int)) = true := decide_eq_true (by have := hf.2.2.1; omega)
  have f3 : decide (A ≤ 64) = true := decide_eq_true hf.2.2.2
  have HIZ := hid hf.1
  clear hN hs ha hb hP hI hL hTA hTB htl hab h2 hf hE
  go_enter Try.func8, Try.ntmps8
  go_wp2_with (first | go_big_skip | go_big_guard | (refine wl_boxA hst rfl rfl rfl ?_; intro g3 _ hst1; clear hst) | (refine wl_boxA hst1 rfl rfl rfl ?_; intro g4 _ hst2; clear hst1) | (go_at_call 6; refine (hknown_any _).mono ?_; rintro _ _ ⟨rfl, h4⟩; have hst3 := St.call0 hst2 h4; clear h4 hst2))
  have hD := hst3.drew
  clear hst3
  refine wp_region_held_drew (S := (fun w' => (loadVarH 29 ⟨g3, 0, none⟩).run Try.prog w' = .ok (.agg (List.toArray (bytesV a))) w' ∧ (loadVarH 29 ⟨g4, 0, none⟩).run Try.prog w' = .ok (.agg (List.toArray (bytesV b))) w')) (by kernel_rfl) (by exact ⟨ldA (bytesV a) [_] hD (HVA.out) (List.take_length), ldA (bytesV b) [] hD (HVB.out) (List.take_length)⟩) (fun hHeld => ?_)
  refine wpAnyH_take (i := 0) (oi := ⟨some 19, _, _, _, _, _⟩) (v := ?_) rfl (by kernel_rfl) (by kernel_rfl) (by kernel_rfl) (fun _ _ _ h => h) (Or.inl ⟨by rfl, ?_⟩) (by assumption) ?_
  rotate_left
  · intro w hSw; (try dsimp only at hSw); go_simp; try with_reducible rfl
  (try simp only [Act.put, List.setIfInBounds_toArray, List.set_cons_zero, List.set_cons_succ])
  refine wpAnyH_take (i := 2) (oi := ⟨some 21, _, _, _, _, _⟩) (v := ?_) rfl (by kernel_rfl) (by kernel_rfl) (by kernel_rfl) (fun _ _ _ h => h) (Or.inl ⟨by rfl, ?_⟩) (by assumption) ?_
  rotate_left
  · intro w hSw; (try dsimp only at hSw); go_simp; try with_reducible rfl
  (try simp only [Act.put, List.setIfInBounds_toArray, List.set_cons_zero, List.set_cons_succ])
  refine wpAnyH_ready (rs := [1]) (by kernel_rfl) (by simp) ?_
  refine (AllReadyH.cons (o := ⟨some 20, _, _, _, _, _⟩) rfl (fun K hK => ?_) AllReadyH.nil)
  go_simp
  go_at_call 32
  refine (text_any a HA.out _).mono ?_
  rw [← HTA.out]
  rintro _ _ ⟨rfl, h4⟩
  have hM12 := St.call0 hD h4
  clear h4
  refine hK.out _ _ ?_ (fun hHeld => ?_)
  · exact ⟨ldA (bytesV a) [_] hM12 (HVA.out) (List.take_length), ldA (bytesV b) [] hM12 (HVB.out) (List.take_length)⟩
  clear hK K
  (try simp only [Act.put, List.setIfInBounds_toArray, List.set_cons_zero, List.set_cons_succ])
  refine wpAnyH_ready (rs := [3]) (by kernel_rfl) (by simp) ?_
  refine (AllReadyH.cons (o := ⟨some 22, _, _, _, _, _⟩) rfl (fun K hK => ?_) AllReadyH.nil)
  go_simp
  go_at_call 32
  refine (text_any b HB.out _).mono ?_
  rw [← HTB.out]
  rintro _ _ ⟨rfl, h4⟩
  have hM13 := St.call0 hM12 h4
  clear h4
  refine hK.out _ _ ?_ (fun hHeld => ?_)
  · exact ⟨ldA (bytesV a) [_] hM13 (HVA.out) (List.take_length), ldA (bytesV b) [] hM13 (HVB.out) (List.take_length)⟩
  clear hK K
  (try simp only [Act.put, List.setIfInBounds_toArray, List.set_cons_zero, List.set_cons_succ])
  refine wpAnyH_take (i := 4) (oi := ⟨some 8, _, _, _, _, _⟩) (v := ?_) rfl (by kernel_rfl) (by kernel_rfl) (by kernel_rfl) (fun _ _ _ h => h) (Or.inl ⟨by rfl, ?_⟩) (by assumption) ?_
  rotate_left
  · intro w hSw; (try dsimp only at hSw); go_simp; try with_reducible rfl
  (try simp only [Act.put, List.setIfInBounds_toArray, List.set_cons_zero, List.set_cons_succ])
  refine wpAnyH_take (i := 5) (oi := ⟨some 9, _, _, _, _, _⟩) (v := ?_) rfl (by kernel_rfl) (by kernel_rfl) (by kernel_rfl) (fun _ _ _ h => h) (Or.inl ⟨by rfl, ?_⟩) (by assumption) ?_
  rotate_left
  · intro w hSw; (try dsimp only at hSw); go_simp; try with_reducible rfl
  (try simp only [Act.put, List.setIfInBounds_toArray, List.set_cons_zero, List.set_cons_succ])
  refine wpAnyH_done (by kernel_rfl) ?_ _
  clear hHeld
  go_wp2_with (first | go_big_skip | go_big_guard | (go_at_call 27; refine (parse_any TA (by rw [HTL.out]; decide) _).mono ?_; rw [HTA.out, HPT.out]; (try dsimp only); rw [← HTA.out]; rintro _ _ ⟨rfl, h4⟩; have hst5 := St.call0 hM13 h4; clear h4 hM13) | (refine wl_alloc (T := 29) hst5 rfl rfl ?_; intro g10 _ hst6; clear hst5) | (refine wl_alloc (T := 47) hst6 rfl rfl ?_; intro g11 _ hst7; clear hst6) | (refine wl_storeA [_] hst7 rfl rfl rfl rfl HVA.out HOA.out rfl ?_; intro _ hst8; clear hst7) | (refine wl_storeA [] hst8 rfl rfl rfl rfl rfl rfl rfl ?_; intro _ hst9; clear hst8))
  have hD6 := hst9.drew
  clear hst9
  refine wp_region_held_drew (S := (fun w' => (loadVarH 29 ⟨g3, 0, none⟩).run Try.prog w' = .ok (.agg (List.toArray (bytesV a))) w' ∧ (loadVarH 29 ⟨g4, 0, none⟩).run Try.prog w' = .ok (.agg (List.toArray (bytesV b))) w' ∧ (loadVarH 29 ⟨g10, 0, none⟩).run Try.prog w' = .ok (.agg (List.toArray (bytesV a))) w' ∧ (loadVarH 37 ⟨g11, 0, none⟩).run Try.prog w' = .ok (.int .i64 0) w')) (by kernel_rfl) (by exact ⟨ldA (bytesV a) [_, _, _] hD6 (HVA.out) (List.take_length), ldA (bytesV b) [_, _] hD6 (HVB.out) (List.take_length), ldA (bytesV a) [_] hD6 (HVA.out) (List.take_length), ldS [] hD6 rfl⟩) (fun hHeld => ?_)
  refine wpAnyH_take (i := 0) (oi := ⟨some 28, _, _, _, _, _⟩) (v := ?_) rfl (by kernel_rfl) (by kernel_rfl) (by kernel_rfl) (fun _ _ _ h => h) (Or.inl ⟨by rfl, ?_⟩) (by assumption) ?_
  rotate_left
  · intro w hSw; (try dsimp only at hSw); go_simp; try with_reducible rfl
  (try simp only [Act.put, List.setIfInBounds_toArray, List.set_cons_zero, List.set_cons_succ])
  refine wpAnyH_take (i := 1) (oi := ⟨some 29, _, _, _, _, _⟩) (v := ?_) rfl (by kernel_rfl) (by kernel_rfl) (by kernel_rfl) (fun _ _ _ h => h) (Or.inl ⟨by rfl, ?_⟩) (by assumption) ?_
  rotate_left
  · intro w hSw; (try dsimp only at hSw); go_simp; try with_reducible rfl
  (try simp only [Act.put, List.setIfInBounds_toArray, List.set_cons_zero, List.set_cons_succ])
  refine wpAnyH_take (i := 2) (oi := ⟨some 30, _, _, _, _, _⟩) (v := ?_) rfl (by kernel_rfl) (by kernel_rfl) (by kernel_rfl) (fun _ _ _ h => h) (Or.inl ⟨by rfl, ?_⟩) (by assumption) ?_
  rotate_left
  · intro w hSw; (try dsimp only at hSw); go_simp; try with_reducible rfl
  (try simp only [Act.put, List.setIfInBounds_toArray, List.set_cons_zero, List.set_cons_succ])
  refine wpAnyH_take (i := 3) (oi := ⟨some 31, _, _, _, _, _⟩) (v := ?_) rfl (by kernel_rfl) (by kernel_rfl) (by kernel_rfl) (fun _ _ _ h => h) (Or.inl ⟨by rfl, ?_⟩) (by assumption) ?_
  rotate_left
  · intro w hSw; (try dsimp only at hSw); go_simp; try with_reducible rfl
  (try simp only [Act.put, List.setIfInBounds_toArray, List.set_cons_zero, List.set_cons_succ])
  refine wpAnyH_take (i := 4) (oi := ⟨some 32, _, _, _, _, _⟩) (v := ?_) rfl (by kernel_rfl) (by kernel_rfl) (by kernel_rfl) (fun _ _ _ h => h) (Or.inl ⟨by rfl, ?_⟩) (by assumption) ?_
  rotate_left
  · intro w hSw; (try dsimp only at hSw); go_simp; try with_reducible rfl
  (try simp only [Act.put, List.setIfInBounds_toArray, List.set_cons_zero, List.set_cons_succ])
  refine wpAnyH_take (i := 5) (oi := ⟨some 33, _, _, _, _, _⟩) (v := ?_) rfl (by kernel_rfl) (by kernel_rfl) (by kernel_rfl) (fun _ _ _ h => h) (Or.inl ⟨by rfl, ?_⟩) (by assumption) ?_
  rotate_left
  · intro w hSw; (try dsimp only at hSw); go_simp; try with_reducible rfl
  (try simp only [Act.put, List.setIfInBounds_toArray, List.set_cons_zero, List.set_cons_succ])
  refine wpAnyH_ready (rs := [6]) (by kernel_rfl) (by simp) ?_
  refine (AllReadyH.cons (o := ⟨some 34, _, _, _, _, _⟩) rfl (fun K hK => ?_) AllReadyH.nil)
  rw [if_pos (by rfl)]
  refine ow_bare ?_
  refine ow_of_wl (ops := #[]) (by rfl) ?_
  refine wl_neq_bytes rfl rfl rfl rfl ⟨HA.out, HA.out⟩ ?_
  rw [HAA.out]
  refine q0_nil ?_
  refine hK.out _ _ ?_ (fun hHeld => ?_)
  · exact ⟨ldA (bytesV a) [_, _, _] hD6 (HVA.out) (List.take_length), ldA (bytesV b) [_, _] hD6 (HVB.out) (List.take_length), ldA (bytesV a) [_] hD6 (HVA.out) (List.take_length), ldS [] hD6 rfl⟩
  clear hK K
  (try simp only [Act.put, List.setIfInBounds_toArray, List.set_cons_zero, List.set_cons_succ])
  refine wpAnyH_take (i := 7) (oi := ⟨some 35, _, _, _, _, _⟩) (v := ?_) rfl (by kernel_rfl) (by kernel_rfl) (by kernel_rfl) (fun _ _ _ h => h) (Or.inl ⟨by rfl, ?_⟩) (by assumption) ?_
  rotate_left
  · intro w hSw; (try dsimp only at hSw); go_simp; try with_reducible rfl
  (try simp only [Act.put, List.setIfInBounds_toArray, List.set_cons_zero, List.set_cons_succ])
  refine wpAnyH_take (i := 8) (oi := ⟨some 36, _, _, _, _, _⟩) (v := ?_) rfl (by kernel_rfl) (by kernel_rfl) (by kernel_rfl) (fun _ _ _ h => h) (Or.inl ⟨by rfl, ?_⟩) (by assumption) ?_
  rotate_left
  · intro w hSw; (try dsimp only at hSw); go_simp; try with_reducible rfl
  (try simp only [Act.put, List.setIfInBounds_toArray, List.set_cons_zero, List.set_cons_succ])
  refine wpAnyH_take (i := 9) (oi := ⟨some 37, _, _, _, _, _⟩) (v := ?_) rfl (by kernel_rfl) (by kernel_rfl) (by kernel_rfl) (fun _ _ _ h => h) (Or.inl ⟨by rfl, ?_⟩) (by assumption) ?_
  rotate_left
  · intro w hSw; (try dsimp only at hSw); go_simp; try with_reducible rfl
  (try simp only [Act.put, List.setIfInBounds_toArray, List.set_cons_zero, List.set_cons_succ])
  refine wpAnyH_take (i := 10) (oi := ⟨some 38, _, _, _, _, _⟩) (v := ?_) rfl (by kernel_rfl) (by kernel_rfl) (by kernel_rfl) (fun _ _ _ h => h) (Or.inl ⟨by rfl, ?_⟩) (by assumption) ?_
  rotate_left
  · intro w hSw; (try dsimp only at hSw); go_simp; try with_reducible rfl
  (try simp only [Act.put, List.setIfInBounds_toArray, List.set_cons_zero, List.set_cons_succ])
  refine wpAnyH_take (i := 11) (oi := ⟨some 39, _, _, _, _, _⟩) (v := ?_) rfl (by kernel_rfl) (by kernel_rfl) (by kernel_rfl) (fun _ _ _ h => h) (Or.inl ⟨by rfl, ?_⟩) (by assumption) ?_
  rotate_left
  · intro w hSw; (try dsimp only at hSw); go_simp; try with_reducible rfl
  (try simp only [Act.put, List.setIfInBounds_toArray, List.set_cons_zero, List.set_cons_succ])
  refine wpAnyH_take (i := 12) (oi := ⟨some 40, _, _, _, _, _⟩) (v := ?_) rfl (by kernel_rfl) (by kernel_rfl) (by kernel_rfl) (fun _ _ _ h => h) (Or.inl ⟨by rfl, ?_⟩) (by assumption) ?_
  rotate_left
  · intro w hSw; (try dsimp only at hSw); go_simp; try with_reducible rfl
  (try simp only [Act.put, List.setIfInBounds_toArray, List.set_cons_zero, List.set_cons_succ])
  refine wpAnyH_take (i := 13) (oi := ⟨some 41, _, _, _, _, _⟩) (v := ?_) rfl (by kernel_rfl) (by kernel_rfl) (by kernel_rfl) (fun _ _ _ h => h) (Or.inl ⟨by rfl, ?_⟩) (by assumption) ?_
  rotate_left
  · intro w hSw; (try dsimp only at hSw); go_simp; try with_reducible rfl
  (try simp only [Act.put, List.setIfInBounds_toArray, List.set_cons_zero, List.set_cons_succ])
  refine wpAnyH_take (i := 14) (oi := ⟨some 42, _, _, _, _, _⟩) (v := ?_) rfl (by kernel_rfl) (by kernel_rfl) (by kernel_rfl) (fun _ _ _ h => h) (Or.inl ⟨by rfl, ?_⟩) (by assumption) ?_
  rotate_left
  · intro w hSw; (try dsimp only at hSw); go_simp; try with_reducible rfl
  (try simp only [Act.put, List.setIfInBounds_toArray, List.set_cons_zero, List.set_cons_succ])
  refine wpAnyH_take (i := 15) (oi := ⟨some 43, _, _, _, _, _⟩) (v := ?_) rfl (by kernel_rfl) (by kernel_rfl) (by kernel_rfl) (fun _ _ _ h => h) (Or.inl ⟨by rfl, ?_⟩) (by assumption) ?_
  rotate_left
  · intro w hSw; (try dsimp only at hSw); go_simp; try with_reducible rfl
  (try simp only [Act.put, List.setIfInBounds_toArray, List.set_cons_zero, List.set_cons_succ])
  refine wpAnyH_take (i := 17) (oi := ⟨some 45, _, _, _, _, _⟩) (v := ?_) rfl (by kernel_rfl) (by kernel_rfl) (by kernel_rfl) (fun _ _ _ h => h) (Or.inl ⟨by rfl, ?_⟩) (by assumption) ?_
  rotate_left
  · intro w hSw; (try dsimp only at hSw); go_simp; try with_reducible rfl
  (try simp only [Act.put, List.setIfInBounds_toArray, List.set_cons_zero, List.set_cons_succ])
  refine wpAnyH_take (i := 18) (oi := ⟨some 46, _, _, _, _, _⟩) (v := ?_) rfl (by kernel_rfl) (by kernel_rfl) (by kernel_rfl) (fun _ _ _ h => h) (Or.inl ⟨by rfl, ?_⟩) (by assumption) ?_
  rotate_left
  · intro w hSw; (try dsimp only at hSw); go_simp; try with_reducible rfl
  (try simp only [Act.put, List.setIfInBounds_toArray, List.set_cons_zero, List.set_cons_succ])
  refine wpAnyH_take (i := 19) (oi := ⟨some 47, _, _, _, _, _⟩) (v := ?_) rfl (by kernel_rfl) (by kernel_rfl) (by kernel_rfl) (fun _ _ _ h => h) (Or.inl ⟨by rfl, ?_⟩) (by assumption) ?_
  rotate_left
  · intro w hSw; (try dsimp only at hSw); go_simp; try with_reducible rfl
  (try simp only [Act.put, List.setIfInBounds_toArray, List.set_cons_zero, List.set_cons_succ])
  refine wpAnyH_ready (rs := [16]) (by kernel_rfl) (by simp) ?_
  refine (AllReadyH.cons (o := ⟨some 44, _, _, _, _, _⟩) rfl (fun K hK => ?_) AllReadyH.nil)
  go_simp
  go_at_call 29
  refine (less_any a b HA.out HB.out _).mono ?_
  rw [← HL.out]
  rintro _ _ ⟨rfl, h4⟩
  have hM14 := St.call0 hD6 h4
  clear h4
  refine hK.out _ _ ?_ (fun hHeld => ?_)
  · exact ⟨ldA (bytesV a) [_, _, _] hM14 (HVA.out) (List.take_length), ldA (bytesV b) [_, _] hM14 (HVB.out) (List.take_length), ldA (bytesV a) [_] hM14 (HVA.out) (List.take_length), ldS [] hM14 rfl⟩
  clear hK K
  (try simp only [Act.put, List.setIfInBounds_toArray, List.set_cons_zero, List.set_cons_succ])
  refine wpAnyH_take (i := 20) (oi := ⟨some 48, _, _, _, _, _⟩) (v := ?_) rfl (by kernel_rfl) (by kernel_rfl) (by kernel_rfl) (fun _ _ _ h => h) (Or.inl ⟨by rfl, ?_⟩) (by assumption) ?_
  rotate_left
  · intro w hSw; (try dsimp only at hSw); go_simp; try with_reducible rfl
  (try simp only [Act.put, List.setIfInBounds_toArray, List.set_cons_zero, List.set_cons_succ])
  refine wpAnyH_take (i := 21) (oi := ⟨some 49, _, _, _, _, _⟩) (v := ?_) rfl (by kernel_rfl) (by kernel_rfl) (by kernel_rfl) (fun _ _ _ h => h) (Or.inl ⟨by rfl, ?_⟩) (by assumption) ?_
  rotate_left
  · intro w hSw; (try dsimp only at hSw); go_simp; try with_reducible rfl
  (try simp only [Act.put, List.setIfInBounds_toArray, List.set_cons_zero, List.set_cons_succ])
  refine wpAnyH_take (i := 22) (oi := ⟨some 50, _, _, _, _, _⟩) (v := ?_) rfl (by kernel_rfl) (by kernel_rfl) (by kernel_rfl) (fun _ _ _ h => h) (Or.inl ⟨by rfl, ?_⟩) (by assumption) ?_
  rotate_left
  · intro w hSw; (try dsimp only at hSw); go_simp; try with_reducible rfl
  (try simp only [Act.put, List.setIfInBounds_toArray, List.set_cons_zero, List.set_cons_succ])
  refine wpAnyH_take (i := 23) (oi := ⟨some 51, _, _, _, _, _⟩) (v := ?_) rfl (by kernel_rfl) (by kernel_rfl) (by kernel_rfl) (fun _ _ _ h => h) (Or.inl ⟨by rfl, ?_⟩) (by assumption) ?_
  rotate_left
  · intro w hSw; (try dsimp only at hSw); go_simp; try with_reducible rfl
  (try simp only [Act.put, List.setIfInBounds_toArray, List.set_cons_zero, List.set_cons_succ])
  refine wpAnyH_take (i := 24) (oi := ⟨some 52, _, _, _, _, _⟩) (v := ?_) rfl (by kernel_rfl) (by kernel_rfl) (by kernel_rfl) (fun _ _ _ h => h) (Or.inl ⟨by rfl, ?_⟩) (by assumption) ?_
  rotate_left
  · intro w hSw; (try dsimp only at hSw); go_simp; try with_reducible rfl
  (try simp only [Act.put, List.setIfInBounds_toArray, List.set_cons_zero, List.set_cons_succ])
  refine wpAnyH_take (i := 26) (oi := ⟨some 54, _, _, _, _, _⟩) (v := ?_) rfl (by kernel_rfl) (by kernel_rfl) (by kernel_rfl) (fun _ _ _ h => h) (Or.inl ⟨by rfl, ?_⟩) (by assumption) ?_
  rotate_left
  · intro w hSw; (try dsimp only at hSw); go_simp; try with_reducible rfl
  (try simp only [Act.put, List.setIfInBounds_toArray, List.set_cons_zero, List.set_cons_succ])
  refine wpAnyH_take (i := 27) (oi := ⟨some 55, _, _, _, _, _⟩) (v := ?_) rfl (by kernel_rfl) (by kernel_rfl) (by kernel_rfl) (fun _ _ _ h => h) (Or.inl ⟨by rfl, ?_⟩) (by assumption) ?_
  rotate_left
  · intro w hSw; (try dsimp only at hSw); go_simp; try with_reducible rfl
  (try simp only [Act.put, List.setIfInBounds_toArray, List.set_cons_zero, List.set_cons_succ])
  refine wpAnyH_take (i := 28) (oi := ⟨some 56, _, _, _, _, _⟩) (v := ?_) rfl (by kernel_rfl) (by kernel_rfl) (by kernel_rfl) (fun _ _ _ h => h) (Or.inl ⟨by rfl, ?_⟩) (by assumption) ?_
  rotate_left
  · intro w hSw; (try dsimp only at hSw); go_simp; try with_reducible rfl
  (try simp only [Act.put, List.setIfInBounds_toArray, List.set_cons_zero, List.set_cons_succ])
  refine wpAnyH_ready (rs := [25]) (by kernel_rfl) (by simp) ?_
  refine (AllReadyH.cons (o := ⟨some 53, _, _, _, _, _⟩) rfl (fun K hK => ?_) AllReadyH.nil)
  rw [if_pos (by rfl)]
  refine ow_bare ?_
  refine ow_of_wl (ops := #[]) (by rfl) ?_
  refine wl_eql_bytes rfl rfl rfl rfl ⟨HA.out, HB.out⟩ ?_
  rw [HEQ.out]
  refine q0_nil ?_
  refine hK.out _ _ ?_ (fun hHeld => ?_)
  · exact ⟨ldA (bytesV a) [_, _, _] hM14 (HVA.out) (List.take_length), ldA (bytesV b) [_, _] hM14 (HVB.out) (List.take_length), ldA (bytesV a) [_] hM14 (HVA.out) (List.take_length), ldS [] hM14 rfl⟩
  clear hK K
  (try simp only [Act.put, List.setIfInBounds_toArray, List.set_cons_zero, List.set_cons_succ])
  refine wpAnyH_take (i := 29) (oi := ⟨some 57, _, _, _, _, _⟩) (v := ?_) rfl (by kernel_rfl) (by kernel_rfl) (by kernel_rfl) (fun _ _ _ h => h) (Or.inl ⟨by rfl, ?_⟩) (by assumption) ?_
  rotate_left
  · intro w hSw; (try dsimp only at hSw); go_simp; try with_reducible rfl
  (try simp only [Act.put, List.setIfInBounds_toArray, List.set_cons_zero, List.set_cons_succ])
  refine wpAnyH_take (i := 30) (oi := ⟨some 58, _, _, _, _, _⟩) (v := ?_) rfl (by kernel_rfl) (by kernel_rfl) (by kernel_rfl) (fun _ _ _ h => h) (Or.inl ⟨by rfl, ?_⟩) (by assumption) ?_
  rotate_left
  · intro w hSw; (try dsimp only at hSw); go_simp; try with_reducible rfl
  (try simp only [Act.put, List.setIfInBounds_toArray, List.set_cons_zero, List.set_cons_succ])
  refine wpAnyH_take (i := 31) (oi := ⟨some 59, _, _, _, _, _⟩) (v := ?_) rfl (by kernel_rfl) (by kernel_rfl) (by kernel_rfl) (fun _ _ _ h => h) (Or.inl ⟨by rfl, ?_⟩) (by assumption) ?_
  rotate_left
  · intro w hSw; (try dsimp only at hSw); go_simp; try with_reducible rfl
  (try simp only [Act.put, List.setIfInBounds_toArray, List.set_cons_zero, List.set_cons_succ])
  refine wpAnyH_take (i := 32) (oi := ⟨some 60, _, _, _, _, _⟩) (v := ?_) rfl (by kernel_rfl) (by kernel_rfl) (by kernel_rfl) (fun _ _ _ h => h) (Or.inl ⟨by rfl, ?_⟩) (by assumption) ?_
  rotate_left
  · intro w hSw; (try dsimp only at hSw); go_simp; try with_reducible rfl
  (try simp only [Act.put, List.setIfInBounds_toArray, List.set_cons_zero, List.set_cons_succ])
  refine wpAnyH_take (i := 33) (oi := ⟨some 61, _, _, _, _, _⟩) (v := ?_) rfl (by kernel_rfl) (by kernel_rfl) (by kernel_rfl) (fun _ _ _ h => h) (Or.inl ⟨by rfl, ?_⟩) (by assumption) ?_
  rotate_left
  · intro w hSw; (try dsimp only at hSw); go_simp; try with_reducible rfl
  (try simp only [Act.put, List.setIfInBounds_toArray, List.set_cons_zero, List.set_cons_succ])
  refine wpAnyH_ready (rs := [34]) (by kernel_rfl) (by simp) ?_
  refine (AllReadyH.cons (o := ⟨some 62, _, _, _, _, _⟩) rfl (fun K hK => ?_) AllReadyH.nil)
  rw [if_pos (by rfl)]
  refine ow_bare ?_
  refine ow_of_wl (ops := #[]) (by rfl) ?_
  refine wl_neq_bytes rfl rfl rfl rfl ⟨HA.out, HB.out⟩ ?_
  rw [HNE.out]
  refine q0_nil ?_
  refine hK.out _ _ ?_ (fun hHeld => ?_)
  · exact ⟨ldA (bytesV a) [_, _, _] hM14 (HVA.out) (List.take_length), ldA (bytesV b) [_, _] hM14 (HVB.out) (List.take_length), ldA (bytesV a) [_] hM14 (HVA.out) (List.take_length), ldS [] hM14 rfl⟩
  clear hK K
  (try simp only [Act.put, List.setIfInBounds_toArray, List.set_cons_zero, List.set_cons_succ])
  refine wpAnyH_take (i := 35) (oi := ⟨some 63, _, _, _, _, _⟩) (v := ?_) rfl (by kernel_rfl) (by kernel_rfl) (by kernel_rfl) (fun _ _ _ h => h) (Or.inl ⟨by rfl, ?_⟩) (by assumption) ?_
  rotate_left
  · intro w hSw; (try dsimp only at hSw); go_simp; try with_reducible rfl
  (try simp only [Act.put, List.setIfInBounds_toArray, List.set_cons_zero, List.set_cons_succ])
  refine wpAnyH_take (i := 36) (oi := ⟨some 64, _, _, _, _, _⟩) (v := ?_) rfl (by kernel_rfl) (by kernel_rfl) (by kernel_rfl) (fun _ _ _ h => h) (Or.inl ⟨by rfl, ?_⟩) (by assumption) ?_
  rotate_left
  · intro w hSw; (try dsimp only at hSw); go_simp; try with_reducible rfl
  (try simp only [Act.put, List.setIfInBounds_toArray, List.set_cons_zero, List.set_cons_succ])
  refine wpAnyH_take (i := 37) (oi := ⟨some 65, _, _, _, _, _⟩) (v := ?_) rfl (by kernel_rfl) (by kernel_rfl) (by kernel_rfl) (fun _ _ _ h => h) (Or.inl ⟨by rfl, ?_⟩) (by assumption) ?_
  rotate_left
  · intro w hSw; (try dsimp only at hSw); go_simp; try with_reducible rfl
  (try simp only [Act.put, List.setIfInBounds_toArray, List.set_cons_zero, List.set_cons_succ])
  refine wpAnyH_take (i := 39) (oi := ⟨some 67, _, _, _, _, _⟩) (v := ?_) rfl (by kernel_rfl) (by kernel_rfl) (by kernel_rfl) (fun _ _ _ h => h) (Or.inl ⟨by rfl, ?_⟩) (by assumption) ?_
  rotate_left
  · intro w hSw; (try dsimp only at hSw); go_simp; try with_reducible rfl
  (try simp only [Act.put, List.setIfInBounds_toArray, List.set_cons_zero, List.set_cons_succ])
  refine wpAnyH_take (i := 40) (oi := ⟨some 68, _, _, _, _, _⟩) (v := ?_) rfl (by kernel_rfl) (by kernel_rfl) (by kernel_rfl) (fun _ _ _ h => h) (Or.inl ⟨by rfl, ?_⟩) (by assumption) ?_
  rotate_left
  · intro w hSw; (try dsimp only at hSw); go_simp; try with_reducible rfl
  (try simp only [Act.put, List.setIfInBounds_toArray, List.set_cons_zero, List.set_cons_succ])
  refine wpAnyH_ready (rs := [38]) (by kernel_rfl) (by simp) ?_
  refine (AllReadyH.cons (o := ⟨some 66, _, _, _, _, _⟩) rfl (fun K hK => ?_) AllReadyH.nil)
  go_simp
  go_at_call 29
  refine (less_any a b HA.out HB.out _).mono ?_
  rw [← HL.out]
  rintro _ _ ⟨rfl, h4⟩
  have hM15 := St.call0 hM14 h4
  clear h4
  refine hK.out _ _ ?_ (fun hHeld => ?_)
  · exact ⟨ldA (bytesV a) [_, _, _] hM15 (HVA.out) (List.take_length), ldA (bytesV b) [_, _] hM15 (HVB.out) (List.take_length), ldA (bytesV a) [_] hM15 (HVA.out) (List.take_length), ldS [] hM15 rfl⟩
  clear hK K
  (try simp only [Act.put, List.setIfInBounds_toArray, List.set_cons_zero, List.set_cons_succ])
  refine wpAnyH_ready (rs := [41]) (by kernel_rfl) (by simp) ?_
  refine (AllReadyH.cons (o := ⟨some 69, _, _, _, _, _⟩) rfl (fun K hK => ?_) AllReadyH.nil)
  go_simp
  go_at_call 29
  refine (less_any b a HB.out HA.out _).mono ?_
  rw [HLS.out]
  rintro _ _ ⟨rfl, h4⟩
  have hM16 := St.call0 hM15 h4
  clear h4
  refine hK.out _ _ ?_ (fun hHeld => ?_)
  · exact ⟨ldA (bytesV a) [_, _, _] hM16 (HVA.out) (List.take_length), ldA (bytesV b) [_, _] hM16 (HVB.out) (List.take_length), ldA (bytesV a) [_] hM16 (HVA.out) (List.take_length), ldS [] hM16 rfl⟩
  clear hK K
  (try simp only [Act.put, List.setIfInBounds_toArray, List.set_cons_zero, List.set_cons_succ])
  refine wpAnyH_take (i := 42) (oi := ⟨some 70, _, _, _, _, _⟩) (v := ?_) rfl (by kernel_rfl) (by kernel_rfl) (by kernel_rfl) (fun _ _ _ h => h) (Or.inl ⟨by rfl, ?_⟩) (by assumption) ?_
  rotate_left
  · intro w hSw; (try dsimp only at hSw); go_simp; try with_reducible rfl
  (try simp only [Act.put, List.setIfInBounds_toArray, List.set_cons_zero, List.set_cons_succ])
  refine wpAnyH_take (i := 43) (oi := ⟨some 71, _, _, _, _, _⟩) (v := ?_) rfl (by kernel_rfl) (by kernel_rfl) (by kernel_rfl) (fun _ _ _ h => h) (Or.inl ⟨by rfl, ?_⟩) (by assumption) ?_
  rotate_left
  · intro w hSw; (try dsimp only at hSw); go_simp; try with_reducible rfl
  (try simp only [Act.put, List.setIfInBounds_toArray, List.set_cons_zero, List.set_cons_succ])
  refine wpAnyH_take (i := 44) (oi := ⟨some 72, _, _, _, _, _⟩) (v := ?_) rfl (by kernel_rfl) (by kernel_rfl) (by kernel_rfl) (fun _ _ _ h => h) (Or.inl ⟨by rfl, ?_⟩) (by assumption) ?_
  rotate_left
  · intro w hSw; (try dsimp only at hSw); go_simp; try with_reducible rfl
  (try simp only [Act.put, List.setIfInBounds_toArray, List.set_cons_zero, List.set_cons_succ])
  refine wpAnyH_done (by kernel_rfl) ?_ _
  clear hHeld
  go_wp2_with (first | go_big_skip | go_big_guard | (go_at_call 27; refine (parse_any s HSS.out _).mono ?_; rw [HP.out]; (try dsimp only); rintro _ _ ⟨rfl, h4⟩; have hq1 := St.call0 hM16 h4; clear h4 hM16) | (refine wl_alloc (T := 29) hq1 rfl rfl ?_; intro g12 _ hq2; clear hq1) | (refine wl_alloc (T := 47) hq2 rfl rfl ?_; intro g13 _ hq3; clear hq2) | (refine wl_storeA [_] hq3 rfl rfl rfl rfl HVI.out HON.out rfl ?_; intro _ hq4; clear hq3) | (refine wl_storeA [] hq4 rfl rfl rfl rfl rfl rfl rfl ?_; intro _ hq5; clear hq4) | (refine wl_loadE rfl rfl rfl ?_; first | refine ⟨_, Loads.at [] hq5 rfl, ?_⟩ | refine ⟨_, Loads.atA (bytesV I) [_] hq5 (HVI.out) (List.take_length), ?_⟩) | (refine wl_build0 rfl rfl ?_) | (refine wl_eql_bytes (l := I) (k := List.replicate 32 0) rfl rfl rfl rfl ⟨HI.out, by simp⟩ ?_; rw [show (I == List.replicate 32 0) = true by rw [HIZ.out]; exact beq_self_eq_true _]))
  go_ret
  exact ⟨by simp, hq5.nil⟩
theorem hback_law (a b s : List UInt8) (w : World) (ha : a.length = 32) (hb : b.length = 32) (hs : s.length ≤ 9223372036854775807) :
    Calls Try.prog 8 #[.agg (bytesV a).toArray, .agg (bytesV b).toArray, .string ⟨s.toArray⟩] w fun e w' => e = .returned (.bool true) ∧ St w [] w' [] := by
  by_cases h2 : 200 < s.length
  · exact hback_long a b s w ha hb hs h2
  · by_cases hab : a = b
    · by_cases hE : (parseR s).2.1 = 0
      · exact hback_same_good a b s w ha hb hs h2 hab hE
      · exact hback_same_bad a b s w ha hb hs h2 hab hE
    · by_cases hE : (parseR s).2.1 = 0
      · exact hback_other_good a b s w ha hb hs h2 hab hE
      · exact hback_other_bad a b s w ha hb hs h2 hab hE
end
end Go.Proofs.Ytilgjldnlgfehaa
namespace Go.Proofs.Ytilgjldnlgfehaa
set_option linter.unusedVariables false
set_option linter.unusedSimpArgs false
open Go.ChangeShapes Go.WideShapes Go.ChangeAt Go.RowKit Hp
set_option maxRecDepth 100000 in
theorem hashBack_lifted (os : Os) (started : os.Started) (H : Type) (enc : TypeId × Value → H) :
    ReturnsInHanded {} Try.checked os 8 .any (Rows.hashBackSpec.pre6 enc Try.prog Try.f8 Rows.hashBackRow.domain false) (Rows.hashBackSpec.post enc Try.prog Try.f8 false true false false) := by
  refine returnsInHanded_of_change (C := Try.checked) own started (by kernel_rfl) Try.func8
    (ChangeSpec.witness6 (enc := enc) (C := Try.checked) false ⟨#[], #[.agg #[.int .u8 0, .int .u8 0, .int .u8 0, .int .u8 0, .int .u8 0, .int .u8 0, .int .u8 0, .int .u8 0, .int .u8 0, .int .u8 0, .int .u8 0, .int .u8 0, .int .u8 0, .int .u8 0, .int .u8 0, .int .u8 0, .int .u8 0, .int .u8 0, .int .u8 0, .int .u8 0, .int .u8 0, .int .u8 0, .int .u8 0, .int .u8 0, .int .u8 0, .int .u8 0, .int .u8 0, .int .u8 0, .int .u8 0, .int .u8 0, .int .u8 0, .int .u8 0], .agg #[.int .u8 0, .int .u8 0, .int .u8 0, .int .u8 0, .int .u8 0, .int .u8 0, .int .u8 0, .int .u8 0, .int .u8 0, .int .u8 0, .int .u8 0, .int .u8 0, .int .u8 0, .int .u8 0, .int .u8 0, .int .u8 0, .int .u8 0, .int .u8 0, .int .u8 0, .int .u8 0, .int .u8 0, .int .u8 0, .int .u8 0, .int .u8 0, .int .u8 0, .int .u8 0, .int .u8 0, .int .u8 0, .int .u8 0, .int .u8 0, .int .u8 0, .int .u8 0], .string ⟨#[]⟩], []⟩ 8 (by kernel_rfl) (by kernel_rfl) (by kernel_rfl) (by kernel_rfl)) ?_
  intro W base args ds gs before hval0 hW hcnd _
  have hval : ∀ (j : Nat) t v, Try.f8.params[j]? = some t → args[j]? = some v → Value.okWide Try.prog W .any base t v := hval0
  have hW' := hW
  obtain ⟨p, q, hAA0, hV, rfl, hfz, hnd⟩ := hW
  have hA : DataW.TrodAll enc Try.prog W 0 (fun _ => true) true Try.f8.params.toList args.toList ds p := hAA0
  rw [Try.params8] at hA hval
  have hk := hA
  obtain ⟨v0, v1, v2, d0, d1, d2, p0, p1, p2, rfl, rfl, rfl, h0, h1, h2⟩ := trodAll_three hA
  obtain ⟨rfl, rfl⟩ := trodVars_none hV
  obtain ⟨n0, h0⟩ := h0
  obtain ⟨S0, rfl, hS0⟩ := open_idH (hval 0 _ v0 rfl rfl) h0
  obtain ⟨n1, h1⟩ := h1
  obtain ⟨S1, rfl, hS1⟩ := open_idH (hval 1 _ v1 rfl rfl) h1
  obtain ⟨s2, rfl, hs2⟩ := open_str (hval 2 _ v2 rfl rfl)
  clear hAA0 hval0
  simp only [List.append_nil] at hW'
  refine (hback_law S0 S1 s2 W hS0 hS1 hs2).mono fun e W' ⟨he, hg⟩ => ?_
  subst he
  exact ⟨_, rfl, post_of_kept (pv := []) hW' (fun _ _ _ => (trodAll_cons_mk (shut_bool Try.underlying4 _) trodAll_mk0)) (fun sp hsp => by
      rw [Try.params8]
      exact args_kept (by decide) hk hg.below (fun p hp => hW'.lt p hp) sp hsp) (fun _ _ => rfl) (by simp)
    (hg.below.frame _)⟩
theorem hashBack_over : Rows.hashBackRow.holds Try.pinned (OpenSpec.ofChange Rows.hashBackSpec) :=
  OpenClaim.holds_of_wide 8 Try.f8 rfl rfl rfl rfl rfl rfl rfl ⟨rfl, rfl, rfl, rfl, rfl⟩ rfl rfl rfl rfl rfl (by kernel_rfl) Try.func8 (by kernel_rfl)
    (of_decide_eq_true (by kernel_rfl)) (by unfold Func.isWrapper; first | (rw [if_pos (by decide +kernel)]; kernel_rfl) | (rw [if_neg (by decide +kernel)]; exact ⟨rfl, rfl⟩))
    (fun os started H enc _ => hashBack_lifted os started H enc)

theorem hashBack_proved : Rows.HashBackSaid :=
  hashBack_over
end Go.Proofs.Ytilgjldnlgfehaa
