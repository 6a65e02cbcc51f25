import Derived.Shelf.Small.Strs
import Derived.Shelf.Strings.Search1
import Derived.Shelf.Strings.Search2
import Derived.Shelf.Strings.Cut
import Derived.Shelf.LaysM
import Derived.Shelf.Strings.Shaped
import Derived.Test.YtifajcblbedcoaaGreatProg
import Derived.Test.YtifajcblbedcoaaGreatNm
import Derived.Test.YtifajcblbedcoaaGreatStr
import Derived.Outline
import Derived.Test.YtifajcblbedcoaaGreatNmL
namespace Go.Proofs
open Go.Shelf
def Tryz.lays106_ren : Go.Shelf.Ren := ⟨fun | 106 => 105 | 213 => 130 | 265 => 138 | n => n, fun | 9 => 9 | 3 => 3 | n => n, fun | n => n⟩
theorem Tryz.lays106 : Go.Proofs.Lays.n106 Tryz.prog Tryz.lays106_ren := {
 mixed := by kernel_rfl
 f106 := Tryz.func105.trans (congrArg some (by kernel_rfl))
 f213 := Tryz.func130.trans (congrArg some (by kernel_rfl))
 f265 := Tryz.func138.trans (congrArg some (by kernel_rfl))
 t3 := Tryz.underlying3
 a3 := Tryz.isAgg3
 z3 := Tryz.sizeOf3
 v3 := Tryz.zeroValue3
 t9 := Tryz.underlying9
 a9 := Tryz.isAgg9
 z9 := Tryz.sizeOf9
 v9 := Tryz.zeroValue9 }
open Go.RowKit in
theorem Tryz.strings_Compare (a b : ByteArray) (w : World) :
  Calls Tryz.prog 105 #[.string a, .string b] w fun e w' => e = .returned (.int .i64 (Lib.compareBytes a.data.toList b.data.toList)) ∧ w' = w := Any.strings_Compare Tryz.lays106 a b w
def Tryz.lays137_ren : Go.Shelf.Ren := ⟨fun | 137 => 132 | 217 => 139 | 266 => 144 | n => n, fun | 9 => 9 | 5 => 5 | 3 => 3 | n => n, fun | n => n⟩
theorem Tryz.lays137 : Go.Proofs.Lays.n137 Tryz.prog Tryz.lays137_ren := {
 mixed := by kernel_rfl
 f137 := Tryz.func132.trans (congrArg some (by kernel_rfl))
 f217 := Tryz.func139.trans (congrArg some (by kernel_rfl))
 f266 := Tryz.func144.trans (congrArg some (by kernel_rfl))
 t3 := Tryz.underlying3
 a3 := Tryz.isAgg3
 z3 := Tryz.sizeOf3
 v3 := Tryz.zeroValue3
 t5 := Tryz.underlying5
 a5 := Tryz.isAgg5
 z5 := Tryz.sizeOf5
 v5 := Tryz.zeroValue5
 t9 := Tryz.underlying9
 a9 := Tryz.isAgg9
 z9 := Tryz.sizeOf9
 v9 := Tryz.zeroValue9 }
open Go.RowKit in
theorem Tryz.strings_IndexByte (s : ByteArray) (c : Int) (w : World) :
  Calls Tryz.prog 132 #[.string s, .int .u8 c] w fun e w' => e = .returned (.int .i64 (Lib.indexByte s.data.toList c.toNat.toUInt8)) ∧ w' = w := Any.strings_IndexByte Tryz.lays137 s c w
def Tryz.lays219_ren : Go.Shelf.Ren := ⟨fun | 219 => 137 | 217 => 139 | 225 => 141 | 224 => 142 | 267 => 143 | 266 => 144 | 314 => 146 | n => n, fun | 9 => 9 | 3 => 3 | 4 => 4 | 5 => 5 | 46 => 119 | 146 => 126 | 51 => 125 | n => n, fun | 1 => 0 | n => n⟩
theorem Tryz.lays219 : Go.Proofs.Lays.n219 Tryz.prog Tryz.lays219_ren := {
 mixed := by kernel_rfl
 f217 := Tryz.func139.trans (congrArg some (by kernel_rfl))
 f219 := Tryz.func137.trans (congrArg some (by kernel_rfl))
 f224 := Tryz.func142.trans (congrArg some (by kernel_rfl))
 f225 := Tryz.func141.trans (congrArg some (by kernel_rfl))
 f266 := Tryz.func144.trans (congrArg some (by kernel_rfl))
 f267 := Tryz.func143.trans (congrArg some (by kernel_rfl))
 f314 := Tryz.func146.trans (congrArg some (by kernel_rfl))
 t3 := Tryz.underlying3
 a3 := Tryz.isAgg3
 z3 := Tryz.sizeOf3
 v3 := Tryz.zeroValue3
 t4 := Tryz.underlying4
 a4 := Tryz.isAgg4
 z4 := Tryz.sizeOf4
 v4 := Tryz.zeroValue4
 t5 := Tryz.underlying5
 a5 := Tryz.isAgg5
 z5 := Tryz.sizeOf5
 v5 := Tryz.zeroValue5
 t9 := Tryz.underlying9
 a9 := Tryz.isAgg9
 z9 := Tryz.sizeOf9
 v9 := Tryz.zeroValue9
 t46 := Tryz.underlying119
 a46 := Tryz.isAgg119
 z46 := Tryz.sizeOf119
 v46 := Tryz.zeroValue119
 t51 := Tryz.underlying125
 a51 := Tryz.isAgg125
 z51 := Tryz.sizeOf125
 v51 := Tryz.zeroValue125
 t146 := Tryz.underlying126
 a146 := Tryz.isAgg126
 z146 := Tryz.sizeOf126
 v146 := Tryz.zeroValue126
 g1 := by kernel_rfl }
open Go.RowKit Go.Lib in
theorem Tryz.stringslite_Index_one (s : ByteArray) (c : UInt8) (w : World) :
  Calls Tryz.prog 137 #[.string s, .string ⟨#[c]⟩] w fun e w' => e = .returned (.int .i64 (Lib.indexByte s.data.toList c)) ∧ w' = w := Any.stringslite_Index_one Tryz.lays219 s c w
end Go.Proofs
namespace Go.Proofs.YtifajcblbedcoaaGreat
set_option linter.unusedVariables false
set_option linter.unusedSimpArgs false
open Go.RowKit Hp
attribute [local irreducible] Go.Calls
set_option maxHeartbeats 1000000
abbrev str (l : List UInt8) : Value := .string ⟨l.toArray⟩
theorem slcut_any (l : List UInt8) (w : World) (hl : l.length ≤ 9223372036854775807) :
  Calls Tryz.prog 129 #[str l, .string ⟨#[64]⟩] w fun e w' => e = .returned (.tuple #[str (cutL l).1, str (cutL l).2.1, .bool (cutL l).2.2]) ∧ St w [] w' [] := by
 have hi := index_cut l
 cases hc : (cutL l).2.2 with
 | false =>
  rw [hc] at hi
  obtain ⟨h1, h2⟩ := cutL_false hc
  rw [h1, h2]
  simp only [Bool.false_eq_true, if_false] at hi
  have Hi := hid hi; clear hi hc h1 h2
  go_enter Tryz.func129, Tryz.ntmps129
  go_wp2_with (first | go_big_skip | go_big_guard | (go_at_call 137; refine (Tryz.stringslite_Index_one _ _ _).mono ?_; rw [show (⟨l.toArray⟩ : ByteArray).data.toList = l from rfl, Hi.out]; rintro _ _ ⟨rfl, rfl⟩))
  go_ret3
  exact ⟨rfl, St.refl _⟩
 | true =>
  rw [hc] at hi
  have e := cutL_true hc
  obtain ⟨a, ha⟩ : ∃ a, a = (cutL l).1 := ⟨_, rfl⟩
  obtain ⟨b, hb⟩ : ∃ b, b = (cutL l).2.1 := ⟨_, rfl⟩
  rw [← ha, ← hb] at e ⊢
  rw [← ha] at hi
  simp only [if_true] at hi
  have Hi := hid hi; clear hi hc ha hb
  subst e
  simp only [List.length_append, List.length_cons] at hl
  go_enter Tryz.func129, Tryz.ntmps129
  go_wp2_with (first | go_big_skip | go_big_guard | (go_at_call 137; refine (Tryz.stringslite_Index_one _ _ _).mono ?_; rw [show (⟨(a ++ 64 :: b).toArray⟩ : ByteArray).data.toList = a ++ 64 :: b from rfl, Hi.out]; rintro _ _ ⟨rfl, rfl⟩))
  go_quiet (fail)
  go_wp2_with (first | go_big_skip | go_big_guard | fail)
  go_ret3
  exact ⟨tup3 (by show Value.string _ = _; rw [extract_l]; simp) (by show Value.string _ = _; rw [extract_l, List.take_of_length_le (by simp)]; simp [List.drop_append]) rfl, (St.refl _).drewN _⟩
theorem cut_any (l : List UInt8) (w : World) (hl : l.length ≤ 9223372036854775807) :
  Calls Tryz.prog 103 #[str l, .string ⟨#[64]⟩] w fun e w' => e = .returned (.tuple #[str (cutL l).1, str (cutL l).2.1, .bool (cutL l).2.2]) ∧ St w [] w' [] := by
 have Hl := hid hl; clear hl
 have hst := St.refl w
 go_enter Tryz.func103, Tryz.ntmps103
 go_wp2_with (first | go_big_skip | go_big_guard | (go_at_call 129; refine (slcut_any l _ Hl.out).mono ?_; rintro _ _ ⟨rfl, h4⟩; replace hst := St.call0 hst h4; clear h4))
 go_ret3
 exact ⟨rfl, hst⟩
instance tyStr9 : TyStr Tryz.prog 9 := ⟨by kernel_rfl⟩
theorem u8ne {c : UInt8} (h : ((c.toNat : Int) == 64) = false) : c ≠ 64 := by rintro rfl; simp at h
theorem u8eq {c : UInt8} (h : ((c.toNat : Int) == 64) = true) : c = 64 := UInt8.toNat_inj.1 (by have h2 := eq_of_beq h; show c.toNat = 64; omega)
theorem refcut_any (l : List UInt8) (w : World) (hl : l.length ≤ 9223372036854775807) :
  Calls Tryz.prog 126 #[str l] w fun e w' => e = .returned (.tuple #[str (cutL l).1, str (cutL l).2.1, .bool (cutL l).2.2]) ∧ St w [] w' [] := by
 go_enter Tryz.func126, Tryz.ntmps126
 go_wp2_with (first | go_big_skip | go_big_guard | fail)
 go_loop [5] (fun i => ∃ k : Nat, k ≤ l.length ∧ i = .int .i64 k ∧ Hid (∀ j, j < k → l.getD j 0 ≠ 64)) (fun i => l.length - (intOf i).toNat)
 case atStart => exact ⟨0, Nat.zero_le _, rfl, hid (fun j hj => absurd hj (Nat.not_lt_zero _))⟩
 case round =>
  obtain ⟨k, hk, rfl, hno⟩ := hrel
  by_cases hlt : k < l.length
  ·go_wp2_with (first | go_big_skip | go_big_guard | (refine wl_strIx rfl rfl rfl rfl hlt ?_; intro c hc))
   ·have hx : c = 64 := u8eq (by assumption)
    have hq := hid (cutL_at hlt hno.out (hc.out.trans hx))
    clear hno
    go_quiet (fail)
    go_wp2_with (first | go_big_skip | go_big_guard | fail)
    go_ret3
    refine ⟨?_, (St.refl _).drewN _⟩
    rw [hq.out]
    exact tup3 (by show Value.string _ = _; rw [extract_l]; simp) (by show Value.string _ = _; rw [extract_l, List.take_of_length_le (by simp)]) rfl
   ·have hx : c ≠ 64 := u8ne (by assumption)
    go_round
    case rel =>
     refine ⟨k + 1, by omega, by go_num, hid fun j hj => ?_⟩
     by_cases e : j = k
     ·rw [e, hc.out]; exact hx
     ·exact hno.out j (by omega)
    case measure => simp [intOf]; omega
  ·have hc := hid (cutL_end (l := l) (fun j hj => hno.out j (by omega)))
   clear hno
   go_wp2_with (first | go_big_skip | go_big_guard | fail)
   go_ret3
   exact ⟨by rw [hc.out]; rfl, St.refl _⟩
end Go.Proofs.YtifajcblbedcoaaGreat
namespace Go.Proofs.YtifajcblbedcoaaGreat
set_option linter.unusedVariables false
set_option linter.unusedSimpArgs false
open Go.RowKit Hp
attribute [local irreducible] Go.Calls
set_option maxHeartbeats 1000000
theorem ixb (c : UInt8) : Lib.indexByte [46, 45, 95] c = if c = 46 then 0 else if c = 45 then 1 else if c = 95 then 2 else -1 := by
 simp only [Lib.indexByte, beq_iff_eq, eq_comm (b := c)]
 split
 ·rfl
 ·split
  ·simp
  ·split <;> simp
theorem u8n (c : UInt8) (n : Nat) (hn : n < 256) : c = UInt8.ofNat n ↔ (c.toNat : Int) = n := by
 rw [← UInt8.toNat_inj, UInt8.toNat_ofNat']
 omega
theorem ixb_iff (c : UInt8) : Lib.indexByte [46, 45, 95] c < 0 ↔ ¬ ((c.toNat : Int) = 46 ∨ (c.toNat : Int) = 45 ∨ (c.toNat : Int) = 95) := by
 rw [ixb]
 have h1 := u8n c 46 (by decide)
 have h2 := u8n c 45 (by decide)
 have h3 := u8n c 95 (by decide)
 simp only [show UInt8.ofNat 46 = 46 from rfl, show UInt8.ofNat 45 = 45 from rfl, show UInt8.ofNat 95 = 95 from rfl] at h1 h2 h3
 simp only [h1, h2, h3]
 split
 ·simp; omega
 ·split
  ·simp; omega
  ·split <;> simp <;> omega
theorem okAt_iff {l : List UInt8} {k : Nat} {c : UInt8} (h : l.getD k 0 = c) : okAt l k = true ↔ (97 ≤ (c.toNat : Int) ∧ (c.toNat : Int) ≤ 122) ∨ (k ≠ 0 ∧ ((48 ≤ (c.toNat : Int) ∧ (c.toNat : Int) ≤ 57) ∨ (c.toNat : Int) = 46 ∨ (c.toNat : Int) = 45 ∨ (c.toNat : Int) = 95)) := by
 have h1 := u8n c 46 (by decide)
 have h2 := u8n c 45 (by decide)
 have h3 := u8n c 95 (by decide)
 simp only [show UInt8.ofNat 46 = 46 from rfl, show UInt8.ofNat 45 = 45 from rfl, show UInt8.ofNat 95 = 95 from rfl] at h1 h2 h3
 rw [okAt, h, okc]
 simp only [Bool.or_eq_true, Bool.and_eq_true, decide_eq_true_eq, Bool.not_eq_true', beq_eq_false_iff_ne, beq_iff_eq, h1, h2, h3, UInt8.le_iff_toNat_le, ne_eq]
 simp only [show (97 : UInt8).toNat = 97 from rfl, show (122 : UInt8).toNat = 122 from rfl, show (48 : UInt8).toNat = 48 from rfl, show (57 : UInt8).toNat = 57 from rfl]
 omega
theorem okAt_bad {l : List UInt8} {k : Nat} {c : UInt8} (h : l.getD k 0 = c) (hb : ¬ ((97 ≤ (c.toNat : Int) ∧ (c.toNat : Int) ≤ 122) ∨ (k ≠ 0 ∧ ((48 ≤ (c.toNat : Int) ∧ (c.toNat : Int) ≤ 57) ∨ (c.toNat : Int) = 46 ∨ (c.toNat : Int) = 45 ∨ (c.toNat : Int) = 95)))) : okAt l k = false := by
 rw [← Bool.not_eq_true, okAt_iff h]; exact hb
theorem okAt_step {l : List UInt8} {k : Nat} (hno : ∀ j, j < k → okAt l j = true) (h : okAt l k = true) : ∀ j, j < k + 1 → okAt l j = true := fun j hj => by
 by_cases e : j = k
 ·rw [e]; exact h
 ·exact hno j (by omega)
theorem part_any (l : List UInt8) (w : World) (hl : l.length ≤ 9223372036854775807) :
  Calls Tryz.prog 115 #[str l] w fun e w' => e = .returned (.bool (partB l)) ∧ St w [] w' [] := by
 by_cases hn : 1 ≤ l.length ∧ l.length ≤ 20
 ·obtain ⟨hn1, hn2⟩ := hn
  go_enter Tryz.func115, Tryz.ntmps115
  go_wp2_with (first | go_big_skip | go_big_guard | fail)
  go_loop [16] (fun i => ∃ k : Nat, k ≤ l.length ∧ i = .int .i64 k ∧ Hid (∀ j, j < k → okAt l j = true)) (fun i => l.length - (intOf i).toNat)
  case atStart => exact ⟨0, Nat.zero_le _, rfl, hid (fun j hj => absurd hj (Nat.not_lt_zero _))⟩
  case round =>
   obtain ⟨k, hk, rfl, hno⟩ := hrel
   by_cases hlt : k < l.length
   ·go_wp2_with (first | go_big_skip | go_big_guard | (refine wl_strIx rfl rfl rfl rfl hlt ?_; intro c hc) | (go_at_call 132; refine (Tryz.strings_IndexByte _ _ _).mono ?_; rintro _ _ ⟨rfl, rfl⟩))
    all_goals
     have e := ixb_iff c
     first
      | (go_ret; exact ⟨(ret_boolv (part_bad hlt (okAt_bad hc.out (by omega)))).symm, St.refl _⟩)
      | (go_round; (case rel => exact ⟨k + 1, by omega, by go_num, hid (okAt_step hno.out ((okAt_iff hc.out).2 (by omega)))⟩); (case measure => simp [intOf]; omega))
   ·have hq := hid (part_all hn1 hn2 (fun j hj => hno.out j (by omega)))
    clear hno
    go_wp2_with (first | go_big_skip | go_big_guard | fail)
    go_ret
    exact ⟨(ret_boolv hq.out).symm, St.refl _⟩
 ·have hq := hid (part_len hn)
  go_enter Tryz.func115, Tryz.ntmps115
  go_wp2_with (first | go_big_skip | go_big_guard | fail)
  all_goals (go_ret; exact ⟨(ret_boolv hq.out).symm, St.refl _⟩)
theorem refPart_any (l : List UInt8) (w : World) (hl : l.length ≤ 9223372036854775807) :
  Calls Tryz.prog 125 #[str l] w fun e w' => e = .returned (.bool (partB l)) ∧ St w [] w' [] := by
 go_enter Tryz.func125, Tryz.ntmps125
 go_wp2_with (first | go_big_skip | go_big_guard | fail)
 go_loop [3] (fun i => ∃ k : Nat, k ≤ l.length ∧ i = .int .i64 k ∧ Hid (∀ j, j < k → okAt l j = true)) (fun i => l.length - (intOf i).toNat)
 case atStart => exact ⟨0, Nat.zero_le _, rfl, hid (fun j hj => absurd hj (Nat.not_lt_zero _))⟩
 case round =>
  obtain ⟨k, hk, rfl, hno⟩ := hrel
  by_cases hlt : k < l.length
  ·go_wp2_with (first | go_big_skip | go_big_guard | (refine wl_strIx rfl rfl rfl rfl hlt ?_; intro c hc))
   all_goals (try simp only [bne_iff_ne, ne_eq, bne_eq_false_iff_eq] at *)
   all_goals
    first
     | (go_ret; exact ⟨(ret_boolv (part_bad hlt (okAt_bad hc.out (by omega)))).symm, St.refl _⟩)
     | (go_round; (case rel => exact ⟨k + 1, by omega, by go_num, hid (okAt_step hno.out ((okAt_iff hc.out).2 (by omega)))⟩); (case measure => simp [intOf]; omega))
  ·have hq := hid (part_end (l := l) (fun j hj => hno.out j (by omega)))
   clear hno
   go_wp2_with (first | go_big_skip | go_big_guard | fail)
   all_goals
    go_ret
    refine ⟨?_, St.refl _⟩
    refine Eq.trans ?_ (ret_boolv hq.out).symm
    refine ret_boolv ?_
    rw [Bool.eq_iff_iff]
    simp only [Bool.and_eq_true, decide_eq_true_eq, Bool.false_eq_true, false_iff]
    omega
end Go.Proofs.YtifajcblbedcoaaGreat
namespace Go.Proofs.YtifajcblbedcoaaGreat
set_option linter.unusedVariables false
set_option linter.unusedSimpArgs false
open Go.RowKit Hp
attribute [local irreducible] Go.Calls
set_option maxHeartbeats 1000000
theorem volume_any (l : List UInt8) (w : World) (hl : l.length ≤ 9223372036854775807) :
  Calls Tryz.prog 62 #[str l] w fun e w' => e = .returned (.bool (partB l)) ∧ St w [] w' [] := by
 have hst := St.refl w
 have Hl := hid hl; clear hl
 go_enter Tryz.func62, Tryz.ntmps62
 go_wp2_with (first | go_big_skip | go_big_guard | (go_at_call 115; refine (part_any l _ Hl.out).mono ?_; rintro _ _ ⟨rfl, h4⟩; replace hst := St.call0 hst h4; clear h4))
 go_ret
 exact ⟨rfl, hst⟩
theorem refVolume_any (l : List UInt8) (w : World) (hl : l.length ≤ 9223372036854775807) :
  Calls Tryz.prog 87 #[str l] w fun e w' => e = .returned (.bool (partB l)) ∧ St w [] w' [] := by
 have hst := St.refl w
 have Hl := hid hl; clear hl
 go_enter Tryz.func87, Tryz.ntmps87
 go_wp2_with (first | go_big_skip | go_big_guard | (go_at_call 125; refine (refPart_any l _ Hl.out).mono ?_; rintro _ _ ⟨rfl, h4⟩; replace hst := St.call0 hst h4; clear h4))
 go_ret
 exact ⟨rfl, hst⟩
theorem cutL_len (l : List UInt8) : (cutL l).1.length ≤ l.length ∧ (cutL l).2.1.length ≤ l.length := by
 cases h : (cutL l).2.2
 ·obtain ⟨h1, h2⟩ := cutL_false h
  rw [h1, h2]; simp
 ·have := congrArg List.length (cutL_true h)
  simp at this
  omega
theorem split_to {l a b : List UInt8} {f : Bool} (hx : cutL l = (a, b, f)) : splitL l = if f && (partB a && partB b) then (a, b, true) else ([], [], false) := by rw [splitL, hx]
theorem cut_to {l a b : List UInt8} {f : Bool} (hx : cutL l = (a, b, f)) (w : World) (hl : l.length ≤ 9223372036854775807) :
  Calls Tryz.prog 103 #[str l, .string ⟨#[64]⟩] w fun e w' => e = .returned (.tuple #[str a, str b, .bool f]) ∧ St w [] w' [] := by
 have := cut_any l w hl
 rwa [hx] at this
theorem refcut_to {l a b : List UInt8} {f : Bool} (hx : cutL l = (a, b, f)) (w : World) (hl : l.length ≤ 9223372036854775807) :
  Calls Tryz.prog 126 #[str l] w fun e w' => e = .returned (.tuple #[str a, str b, .bool f]) ∧ St w [] w' [] := by
 have := refcut_any l w hl
 rwa [hx] at this
theorem split_any (l : List UInt8) (w : World) (hl : l.length ≤ 9223372036854775807) :
  Calls Tryz.prog 68 #[str l] w fun e w' => e = .returned (.tuple #[str (splitL l).1, str (splitL l).2.1, .bool (splitL l).2.2]) ∧ St w [] w' [] := by
 have hst := St.refl w
 rcases hx : cutL l with ⟨a, b, f⟩
 have hq := hid (split_to hx)
 obtain ⟨h1, h2⟩ := cutL_len l
 rw [hx] at h1 h2
 have Ha := hid (Nat.le_trans h1 hl)
 have Hb := hid (Nat.le_trans h2 hl)
 have Hx := hid hx
 have Hl := hid hl; clear hl h1 h2 hx
 clear hq
 cases f with
 | false =>
  go_enter Tryz.func68, Tryz.ntmps68
  go_wp2_with (first | go_big_skip | go_big_guard | (go_at_call 103; refine (cut_to Hx.out _ Hl.out).mono ?_; rintro _ _ ⟨rfl, h4⟩; replace hst := St.call0 hst h4; clear h4))
  go_ret3
  exact ⟨by rw [split_to Hx.out]; rfl, hst⟩
 | true =>
  by_cases pa : partB a = true
  ·by_cases pb : partB b = true
   ·go_enter Tryz.func68, Tryz.ntmps68
    go_wp2_with (first | go_big_skip | go_big_guard | (go_at_call 103; refine (cut_to Hx.out _ Hl.out).mono ?_; rintro _ _ ⟨rfl, h4⟩; replace hst := St.call0 hst h4; clear h4) | (go_at_call 62; refine (volume_any a _ Ha.out).mono ?_; rintro _ _ ⟨rfl, h4⟩; replace hst := St.call0 hst h4; clear h4) | (go_at_call 115; refine (part_any b _ Hb.out).mono ?_; rintro _ _ ⟨rfl, h4⟩; replace hst := St.call0 hst h4; clear h4))
    go_ret3
    exact ⟨by rw [split_to Hx.out, pa, pb]; rfl, hst⟩
   ·replace pb : partB b = false := by simpa using pb
    go_enter Tryz.func68, Tryz.ntmps68
    go_wp2_with (first | go_big_skip | go_big_guard | (go_at_call 103; refine (cut_to Hx.out _ Hl.out).mono ?_; rintro _ _ ⟨rfl, h4⟩; replace hst := St.call0 hst h4; clear h4) | (go_at_call 62; refine (volume_any a _ Ha.out).mono ?_; rintro _ _ ⟨rfl, h4⟩; replace hst := St.call0 hst h4; clear h4) | (go_at_call 115; refine (part_any b _ Hb.out).mono ?_; rintro _ _ ⟨rfl, h4⟩; replace hst := St.call0 hst h4; clear h4))
    go_ret3
    exact ⟨by rw [split_to Hx.out, pa, pb]; rfl, hst⟩
  ·replace pa : partB a = false := by simpa using pa
   go_enter Tryz.func68, Tryz.ntmps68
   go_wp2_with (first | go_big_skip | go_big_guard | (go_at_call 103; refine (cut_to Hx.out _ Hl.out).mono ?_; rintro _ _ ⟨rfl, h4⟩; replace hst := St.call0 hst h4; clear h4) | (go_at_call 62; refine (volume_any a _ Ha.out).mono ?_; rintro _ _ ⟨rfl, h4⟩; replace hst := St.call0 hst h4; clear h4))
   go_ret3
   exact ⟨by rw [split_to Hx.out, pa]; rfl, hst⟩
theorem refSplit_any (l : List UInt8) (w : World) (hl : l.length ≤ 9223372036854775807) :
  Calls Tryz.prog 90 #[str l] w fun e w' => e = .returned (.tuple #[str (splitL l).1, str (splitL l).2.1, .bool (splitL l).2.2]) ∧ St w [] w' [] := by
 have hst := St.refl w
 rcases hx : cutL l with ⟨a, b, f⟩
 have hq := hid (split_to hx)
 obtain ⟨h1, h2⟩ := cutL_len l
 rw [hx] at h1 h2
 have Ha := hid (Nat.le_trans h1 hl)
 have Hb := hid (Nat.le_trans h2 hl)
 have Hx := hid hx
 have Hl := hid hl; clear hl h1 h2 hx
 clear hq
 cases f with
 | false =>
  go_enter Tryz.func90, Tryz.ntmps90
  go_wp2_with (first | go_big_skip | go_big_guard | (go_at_call 126; refine (refcut_to Hx.out _ Hl.out).mono ?_; rintro _ _ ⟨rfl, h4⟩; replace hst := St.call0 hst h4; clear h4))
  go_ret3
  exact ⟨by rw [split_to Hx.out]; rfl, hst⟩
 | true =>
  by_cases pa : partB a = true
  ·by_cases pb : partB b = true
   ·go_enter Tryz.func90, Tryz.ntmps90
    go_wp2_with (first | go_big_skip | go_big_guard | (go_at_call 126; refine (refcut_to Hx.out _ Hl.out).mono ?_; rintro _ _ ⟨rfl, h4⟩; replace hst := St.call0 hst h4; clear h4) | (go_at_call 125; refine (refPart_any a _ Ha.out).mono ?_; rintro _ _ ⟨rfl, h4⟩; replace hst := St.call0 hst h4; clear h4) | (go_at_call 125; refine (refPart_any b _ Hb.out).mono ?_; rintro _ _ ⟨rfl, h4⟩; replace hst := St.call0 hst h4; clear h4))
    go_ret3
    exact ⟨by rw [split_to Hx.out, pa, pb]; rfl, hst⟩
   ·replace pb : partB b = false := by simpa using pb
    go_enter Tryz.func90, Tryz.ntmps90
    go_wp2_with (first | go_big_skip | go_big_guard | (go_at_call 126; refine (refcut_to Hx.out _ Hl.out).mono ?_; rintro _ _ ⟨rfl, h4⟩; replace hst := St.call0 hst h4; clear h4) | (go_at_call 125; refine (refPart_any a _ Ha.out).mono ?_; rintro _ _ ⟨rfl, h4⟩; replace hst := St.call0 hst h4; clear h4) | (go_at_call 125; refine (refPart_any b _ Hb.out).mono ?_; rintro _ _ ⟨rfl, h4⟩; replace hst := St.call0 hst h4; clear h4))
    go_ret3
    exact ⟨by rw [split_to Hx.out, pa, pb]; rfl, hst⟩
  ·replace pa : partB a = false := by simpa using pa
   go_enter Tryz.func90, Tryz.ntmps90
   go_wp2_with (first | go_big_skip | go_big_guard | (go_at_call 126; refine (refcut_to Hx.out _ Hl.out).mono ?_; rintro _ _ ⟨rfl, h4⟩; replace hst := St.call0 hst h4; clear h4) | (go_at_call 125; refine (refPart_any a _ Ha.out).mono ?_; rintro _ _ ⟨rfl, h4⟩; replace hst := St.call0 hst h4; clear h4))
   go_ret3
   exact ⟨by rw [split_to Hx.out, pa]; rfl, hst⟩
theorem snap_any (l : List UInt8) (w : World) (hl : l.length ≤ 9223372036854775807) :
  Calls Tryz.prog 71 #[str l] w fun e w' => e = .returned (.bool (snapB l)) ∧ St w [] w' [] := by
 have hst := St.refl w
 have Hl := hid hl; clear hl
 go_enter Tryz.func71, Tryz.ntmps71
 go_wp2_with (first | go_big_skip | go_big_guard | (go_at_call 68; refine (split_any l _ Hl.out).mono ?_; rintro _ _ ⟨rfl, h4⟩; replace hst := St.call0 hst h4; clear h4))
 go_ret
 exact ⟨rfl, hst⟩
theorem refSnap_any (l : List UInt8) (w : World) (hl : l.length ≤ 9223372036854775807) :
  Calls Tryz.prog 92 #[str l] w fun e w' => e = .returned (.bool (snapB l)) ∧ St w [] w' [] := by
 have hst := St.refl w
 have Hl := hid hl; clear hl
 go_enter Tryz.func92, Tryz.ntmps92
 go_wp2_with (first | go_big_skip | go_big_guard | (go_at_call 90; refine (refSplit_any l _ Hl.out).mono ?_; rintro _ _ ⟨rfl, h4⟩; replace hst := St.call0 hst h4; clear h4))
 go_ret
 exact ⟨rfl, hst⟩
theorem join_any (a b : List UInt8) (w : World) (ha : a.length ≤ 9223372036854775807) (hb : b.length ≤ 9223372036854775807) :
  Calls Tryz.prog 77 #[str a, str b] w fun e w' => e = .returned (.tuple #[str (joinL a b).1, .bool (joinL a b).2]) ∧ St w [] w' [] := by
 have hst := St.refl w
 have Ha := hid ha; clear ha
 have Hb := hid hb; clear hb
 have Hf := hid (fun (h : partB a = true) (h' : partB b = true) => show joinL a b = ((a ++ [64]) ++ b, true) by rw [joinL, h, h']; rfl)
 have Hf2 := hid (fun (h : (partB a && partB b) = false) => show joinL a b = ([], false) by rw [joinL, h]; rfl)
 by_cases pa : partB a = true
 ·by_cases pb : partB b = true
  ·obtain ⟨la1, la⟩ := part_bd pa
   obtain ⟨lb1, lb⟩ := part_bd pb
   go_enter Tryz.func77, Tryz.ntmps77
   go_wp2_with (first | go_big_skip | go_big_guard | (go_at_call 62; refine (volume_any a _ Ha.out).mono ?_; rintro _ _ ⟨rfl, h4⟩; replace hst := St.call0 hst h4; clear h4) | (go_at_call 115; refine (part_any b _ Hb.out).mono ?_; rintro _ _ ⟨rfl, h4⟩; replace hst := St.call0 hst h4; clear h4))
   go_goals
   go_ret2
   exact ⟨by rw [Hf.out pa pb]; exact tup2 (by show Value.string _ = _; rw [append_l a [64], append_l]) rfl, hst⟩
  ·replace pb : partB b = false := by simpa using pb
   go_enter Tryz.func77, Tryz.ntmps77
   go_wp2_with (first | go_big_skip | go_big_guard | (go_at_call 62; refine (volume_any a _ Ha.out).mono ?_; rintro _ _ ⟨rfl, h4⟩; replace hst := St.call0 hst h4; clear h4) | (go_at_call 115; refine (part_any b _ Hb.out).mono ?_; rintro _ _ ⟨rfl, h4⟩; replace hst := St.call0 hst h4; clear h4))
   go_ret2
   exact ⟨by rw [Hf2.out (by simp [pb])]; rfl, hst⟩
 ·replace pa : partB a = false := by simpa using pa
  go_enter Tryz.func77, Tryz.ntmps77
  go_wp2_with (first | go_big_skip | go_big_guard | (go_at_call 62; refine (volume_any a _ Ha.out).mono ?_; rintro _ _ ⟨rfl, h4⟩; replace hst := St.call0 hst h4; clear h4))
  go_ret2
  exact ⟨by rw [Hf2.out (by simp [pa])]; rfl, hst⟩
end Go.Proofs.YtifajcblbedcoaaGreat
namespace Go.Proofs.YtifajcblbedcoaaGreat
set_option linter.unusedVariables false
set_option linter.unusedSimpArgs false
open Go.RowKit Hp
attribute [local irreducible] Go.Calls
set_option maxRecDepth 100000
set_option maxHeartbeats 1000000
instance tyS3 : TyS Tryz.prog 3 := ⟨by kernel_rfl⟩
instance tyE3 : TyE Tryz.prog 3 1 8 := ⟨by kernel_rfl⟩
instance tySl37 : TySl Tryz.prog 25 3 := ⟨by kernel_rfl⟩
theorem order_any (f : Bool) (w : World) : Calls Tryz.prog 104 #[.bool f] w fun e w' => e = .returned (str (ordL f)) ∧ w' = w := by
 cases f
 all_goals
  go_enter Tryz.func104, Tryz.ntmps104
  go_wp2_with (first | go_big_skip | go_big_guard | fail)
  go_ret
  exact ⟨rfl, rfl⟩
theorem or_any (v : Value) (a b : Int) (w : World) (hA : Rd w v 1 2 [.int .i64 a, .int .i64 b]) :
  Calls Tryz.prog 106 #[v] w fun e w' => e = .returned (.int .i64 (orI a b)) ∧ St w [] w' [] := by
 rcases hA.cases with ⟨_, h, _⟩ | ⟨_, _, h, _⟩ | ⟨bb, off, c, rfl, hn, hc, _, hr⟩
 ·cases h
 ·cases h
 have h0 : w.cell? ⟨bb, off, none⟩ = some (.int .i64 a) := hr 0 _ rfl
 have h1 : w.cell? ⟨bb, off + 1, none⟩ = some (.int .i64 b) := hr 1 _ rfl
 clear hr hA
 go_enter Tryz.func106, Tryz.ntmps106
 go_wp2_with (first | go_big_skip | go_big_guard | fail)
 go_loop [8] (fun i => ∃ k : Nat, k ≤ 2 ∧ i = .int .i64 k ∧ Hid (0 < k → a = 0) ∧ Hid (1 < k → b = 0)) (fun i => 2 - (intOf i).toNat)
 case atStart => exact ⟨0, by omega, rfl, hid (by first | trivial | (intro _; rfl) | (intro h; exact absurd h (by decide)) | simp), hid (by first | trivial | (intro _; rfl) | (intro h; exact absurd h (by decide)) | simp)⟩
 case round =>
  obtain ⟨k, hk, rfl, ha, hb⟩ := hrel
  obtain rfl | rfl | rfl : k = 0 ∨ k = 1 ∨ k = 2 := by omega
  ·by_cases e : a = 0
   ·subst e
    go_wp2_with (first | go_big_skip | go_big_guard | fail)
    go_round
    case rel => exact ⟨1, by omega, by go_num, hid (by first | trivial | (intro _; rfl) | (intro h; exact absurd h (by decide)) | simp), hid (by first | trivial | (intro _; rfl) | (intro h; exact absurd h (by decide)) | simp)⟩
    case measure => simp [intOf]
   ·have e1 : (a != 0) = true := by simpa using e
    have e2 := hid e; clear e
    go_wp2_with (first | go_big_skip | go_big_guard | fail)
    go_ret
    exact ⟨ret_intv (by rw [orI, if_pos e2.out]), St.refl _⟩
  ·have e := ha.out (by omega)
   subst e
   by_cases e : b = 0
   ·subst e
    go_wp2_with (first | go_big_skip | go_big_guard | fail)
    go_round
    case rel => exact ⟨2, by omega, by go_num, hid (by first | trivial | (intro _; rfl) | (intro h; exact absurd h (by decide)) | simp), hid (by first | trivial | (intro _; rfl) | (intro h; exact absurd h (by decide)) | simp)⟩
    case measure => simp [intOf]
   ·have e1 : (b != 0) = true := by simpa using e
    go_wp2_with (first | go_big_skip | go_big_guard | fail)
    go_ret
    exact ⟨ret_intv (by simp [orI]), St.refl _⟩
  ·have e := ha.out (by omega)
   subst e
   have e := hb.out (by omega)
   subst e
   go_wp2_with (first | go_big_skip | go_big_guard | fail)
   go_ret
   exact ⟨ret_intv (by simp [orI]), St.refl _⟩
theorem compare_to {a b : List UInt8} {c : Int} (h : c = Lib.compareBytes a b) (w : World) : Calls Tryz.prog 105 #[str a, str b] w fun e w' => e = .returned (.int .i64 c) ∧ w' = w := by
 rw [h]; exact Tryz.strings_Compare _ _ w
theorem ix0 (a b c : Int) (w : World) : (Instr.index 107 (.agg #[.int .i64 a, .int .i64 b, .int .i64 c]) (.int .i64 0)).run Tryz.prog w = .ok (.int .i64 a) w := by kernel_rfl
theorem ix1 (a b c : Int) (w : World) : (Instr.index 107 (.agg #[.int .i64 a, .int .i64 b, .int .i64 c]) (.int .i64 1)).run Tryz.prog w = .ok (.int .i64 b) w := by kernel_rfl
theorem ix2 (a b c : Int) (w : World) : (Instr.index 107 (.agg #[.int .i64 a, .int .i64 b, .int .i64 c]) (.int .i64 2)).run Tryz.prog w = .ok (.int .i64 c) w := by kernel_rfl
attribute [local go_sem ↓] ix0 ix1 ix2
theorem or0 (c : Int) : orI 0 c = c := by simp [orI]
theorem less_any (p q : List UInt8) (w : World) (hp : p.length ≤ 9223372036854775807) (hq : q.length ≤ 9223372036854775807) :
  Calls Tryz.prog 52 #[str p, str q] w fun e w' => e = .returned (.bool (lessL p q)) ∧ St w [] w' [] := by
 have hst := St.refl w
 have Hp := hid hp; clear hp
 have Hq := hid hq; clear hq
 rcases hx : cutL p with ⟨a, b, f⟩
 rcases hy : cutL q with ⟨a', b', f'⟩
 obtain ⟨c1, h1⟩ : ∃ c, c = Lib.compareBytes a a' := ⟨_, rfl⟩
 obtain ⟨c2, h2⟩ : ∃ c, c = Lib.compareBytes (ordL f) (ordL f') := ⟨_, rfl⟩
 obtain ⟨c3, h3⟩ : ∃ c, c = Lib.compareBytes b b' := ⟨_, rfl⟩
 have HL := hid (show lessL p q = decide (orI c1 (orI c2 c3) < 0) by rw [lessL, cmp3, hx, hy, h1, h2, h3])
 have Hx := hid hx; clear hx
 have Hy := hid hy; clear hy
 have H1 := hid h1; clear h1
 have H2 := hid h2; clear h2
 have H3 := hid h3; clear h3
 go_enter Tryz.func52, Tryz.ntmps52
 go_wp2_with (first | go_big_skip | go_big_guard | fail)
 go_step3
 go_wp2_with (first | go_big_skip | go_big_guard | (go_at_call 103; first | (refine (cut_to Hx.out _ Hp.out).mono ?_; rintro _ _ ⟨rfl, h4⟩; replace hst := St.call0 hst h4; clear h4) | (refine (cut_to Hy.out _ Hq.out).mono ?_; rintro _ _ ⟨rfl, h4⟩; replace hst := St.call0 hst h4; clear h4)) | (go_at_call 104; refine (order_any _ _).mono ?_; rintro _ _ ⟨rfl, rfl⟩) | (go_at_call 105; first | (refine (compare_to H1.out _).mono ?_; rintro _ _ ⟨rfl, rfl⟩) | (refine (compare_to H2.out _).mono ?_; rintro _ _ ⟨rfl, rfl⟩) | (refine (compare_to H3.out _).mono ?_; rintro _ _ ⟨rfl, rfl⟩)))
 go_step3
 go_wp2_with (first | go_big_skip | go_big_guard | (go_at_call 104; refine (order_any _ _).mono ?_; rintro _ _ ⟨rfl, rfl⟩) | (go_at_call 105; first | (refine (compare_to H1.out _).mono ?_; rintro _ _ ⟨rfl, rfl⟩) | (refine (compare_to H2.out _).mono ?_; rintro _ _ ⟨rfl, rfl⟩) | (refine (compare_to H3.out _).mono ?_; rintro _ _ ⟨rfl, rfl⟩)))
 go_loopw [12, 41] (fun f i wr => ∃ k : Nat, k ≤ 3 ∧ i = .int .i64 k ∧ f = .int .i64 0 ∧ Hid (0 < k → c1 = 0) ∧ Hid (1 < k → c2 = 0) ∧ Hid (2 < k → c3 = 0) ∧ St w [] wr []) (fun _ i _ => 3 - (intOf i).toNat)
 case atStart => exact ⟨0, by omega, rfl, rfl, hid (by simp), hid (by simp), hid (by simp), hst⟩
 case round =>
  clear hst
  obtain ⟨k, hk, rfl, rfl, ha, hb, hc, hst⟩ := hrel
  obtain rfl | rfl | rfl | rfl : k = 0 ∨ k = 1 ∨ k = 2 ∨ k = 3 := by omega
  ·skip
   by_cases e : c1 = 0
   ·subst e
    go_wp2_with (first | go_big_skip | go_big_guard | (apply wl_bsX ([.int .i64 0, .int .i64 0]) ([.int .i64 0, .int .i64 0]) hst; rfl; rfl; exact rfl; exact rfl; infer_instance; infer_instance; rfl; rfl; rfl; intro g _ hst1) | (go_at_call 106; refine (or_any _ 0 0 _ (Rd.blk0 hst1 rfl (by decide))).mono ?_; rintro _ _ ⟨rfl, h4⟩; have hst2 := (St.call0 hst1 h4).nil; clear h4 hst1 hst; rw [or0]))
    go_roundw
    case rel => exact ⟨1, by omega, by go_num, rfl, hid (by first | trivial | (intro _; rfl) | exact HA | (intro h; exact absurd h (by decide)) | simp), hid (by first | trivial | (intro _; rfl) | (intro h; exact absurd h (by decide)) | simp), hid (by first | trivial | (intro _; rfl) | (intro h; exact absurd h (by decide)) | simp), hst2⟩
    case measure => simp [intOf]
   ·have e1 : (c1 != 0) = true := by simpa using e
    have e2 := hid e; clear e
    go_wp2_with (first | go_big_skip | go_big_guard | (apply wl_bsX ([.int .i64 0, .int .i64 c1]) ([.int .i64 0, .int .i64 c1]) hst; rfl; rfl; exact rfl; exact rfl; infer_instance; infer_instance; rfl; rfl; rfl; intro g _ hst1) | (go_at_call 106; refine (or_any _ 0 c1 _ (Rd.blk0 hst1 rfl (by decide))).mono ?_; rintro _ _ ⟨rfl, h4⟩; have hst2 := (St.call0 hst1 h4).nil; clear h4 hst1 hst; rw [or0]))
    go_goals
    try rw [Exit.noGoto_ret]
    go_ret
    exact ⟨(ret_boolv (HL.out.trans (by simp [orI, e2.out]))).symm, hst2⟩
  ·have e := ha.out (by omega)
   subst e
   by_cases e : c2 = 0
   ·subst e
    go_wp2_with (first | go_big_skip | go_big_guard | (apply wl_bsX ([.int .i64 0, .int .i64 0]) ([.int .i64 0, .int .i64 0]) hst; rfl; rfl; exact rfl; exact rfl; infer_instance; infer_instance; rfl; rfl; rfl; intro g _ hst1) | (go_at_call 106; refine (or_any _ 0 0 _ (Rd.blk0 hst1 rfl (by decide))).mono ?_; rintro _ _ ⟨rfl, h4⟩; have hst2 := (St.call0 hst1 h4).nil; clear h4 hst1 hst; rw [or0]))
    go_roundw
    case rel => exact ⟨2, by omega, by go_num, rfl, hid (by first | trivial | (intro _; rfl) | exact HA | (intro h; exact absurd h (by decide)) | simp), hid (by first | trivial | (intro _; rfl) | (intro h; exact absurd h (by decide)) | simp), hid (by first | trivial | (intro _; rfl) | (intro h; exact absurd h (by decide)) | simp), hst2⟩
    case measure => simp [intOf]
   ·have e1 : (c2 != 0) = true := by simpa using e
    have e2 := hid e; clear e
    go_wp2_with (first | go_big_skip | go_big_guard | (apply wl_bsX ([.int .i64 0, .int .i64 c2]) ([.int .i64 0, .int .i64 c2]) hst; rfl; rfl; exact rfl; exact rfl; infer_instance; infer_instance; rfl; rfl; rfl; intro g _ hst1) | (go_at_call 106; refine (or_any _ 0 c2 _ (Rd.blk0 hst1 rfl (by decide))).mono ?_; rintro _ _ ⟨rfl, h4⟩; have hst2 := (St.call0 hst1 h4).nil; clear h4 hst1 hst; rw [or0]))
    go_goals
    try rw [Exit.noGoto_ret]
    go_ret
    exact ⟨(ret_boolv (HL.out.trans (by simp [orI, e2.out]))).symm, hst2⟩
  ·have e := ha.out (by omega)
   subst e
   have e := hb.out (by omega)
   subst e
   by_cases e : c3 = 0
   ·subst e
    go_wp2_with (first | go_big_skip | go_big_guard | (apply wl_bsX ([.int .i64 0, .int .i64 0]) ([.int .i64 0, .int .i64 0]) hst; rfl; rfl; exact rfl; exact rfl; infer_instance; infer_instance; rfl; rfl; rfl; intro g _ hst1) | (go_at_call 106; refine (or_any _ 0 0 _ (Rd.blk0 hst1 rfl (by decide))).mono ?_; rintro _ _ ⟨rfl, h4⟩; have hst2 := (St.call0 hst1 h4).nil; clear h4 hst1 hst; rw [or0]))
    go_roundw
    case rel => exact ⟨3, by omega, by go_num, rfl, hid (by first | trivial | (intro _; rfl) | exact HA | (intro h; exact absurd h (by decide)) | simp), hid (by first | trivial | (intro _; rfl) | (intro h; exact absurd h (by decide)) | simp), hid (by first | trivial | (intro _; rfl) | (intro h; exact absurd h (by decide)) | simp), hst2⟩
    case measure => simp [intOf]
   ·have e1 : (c3 != 0) = true := by simpa using e
    have e2 := hid e; clear e
    go_wp2_with (first | go_big_skip | go_big_guard | (apply wl_bsX ([.int .i64 0, .int .i64 c3]) ([.int .i64 0, .int .i64 c3]) hst; rfl; rfl; exact rfl; exact rfl; infer_instance; infer_instance; rfl; rfl; rfl; intro g _ hst1) | (go_at_call 106; refine (or_any _ 0 c3 _ (Rd.blk0 hst1 rfl (by decide))).mono ?_; rintro _ _ ⟨rfl, h4⟩; have hst2 := (St.call0 hst1 h4).nil; clear h4 hst1 hst; rw [or0]))
    go_goals
    try rw [Exit.noGoto_ret]
    go_ret
    exact ⟨(ret_boolv (HL.out.trans (by simp [orI, e2.out]))).symm, hst2⟩
  ·have e := ha.out (by omega)
   subst e
   have e := hb.out (by omega)
   subst e
   have e := hc.out (by omega)
   subst e
   go_wp2_with (first | go_big_skip | go_big_guard | fail)
   go_goals
   try rw [Exit.noGoto_ret]
   go_ret
   exact ⟨(ret_boolv (HL.out.trans (by simp [orI]))).symm, hst⟩
end Go.Proofs.YtifajcblbedcoaaGreat
namespace Go.Proofs.YtifajcblbedcoaaGreat
set_option linter.unusedVariables false
set_option linter.unusedSimpArgs false
open Go.RowKit Hp
attribute [local irreducible] Go.Calls
set_option maxHeartbeats 1000000
theorem bytesLess_lt : ∀ (x y : List UInt8), Op.bytesLess x y = decide (x < y)
 | [], [] => by simp [Op.bytesLess]
 | _ :: _, [] => by simp [Op.bytesLess]
 | [], _ :: _ => by simp [Op.bytesLess]
 | a :: x, b :: y => by
  rw [Op.bytesLess, bytesLess_lt x y]
  simp only [List.cons_lt_cons_iff]
  by_cases h1 : a < b <;> by_cases h2 : a = b <;> by_cases h3 : x < y <;> simp [h1, h2, h3]
theorem bl (a b : List UInt8) : Op.bytesLess a b = decide (Lib.compareBytes a b < 0) := by
 rw [bytesLess_lt, Bool.eq_iff_iff]; simp [cb_lt]
theorem ref_val {p q a b a' b' : List UInt8} {f f' : Bool} (hx : cutL p = (a, b, f)) (hy : cutL q = (a', b', f')) :
  lessL p q = if a = a' then (if (!f || !f') then (!f && f') else Op.bytesLess b b') else Op.bytesLess a a' := by
 simp only [bl, lessL, cmp3, hx, hy]
 by_cases h : a = a'
 ·subst h
  rw [if_pos rfl]
  cases f <;> cases f'
  ·have h1 := (cutL_false (l := p) (by rw [hx])).2
   have h2 := (cutL_false (l := q) (by rw [hy])).2
   rw [hx] at h1; rw [hy] at h2
   simp only at h1 h2
   simp [cb_self, orI, ordL, h1, h2]
  ·simp [cb_self, orI, ordL, Lib.compareBytes]
  ·simp [cb_self, orI, ordL, Lib.compareBytes]
  ·simp [cb_self, orI]
 ·rw [if_neg h]
  have : Lib.compareBytes a a' ≠ 0 := fun e => h (cb_eq e)
  simp [orI, this]
theorem refLess_any (p q : List UInt8) (w : World) (hp : p.length ≤ 9223372036854775807) (hq : q.length ≤ 9223372036854775807) :
  Calls Tryz.prog 127 #[str p, str q] w fun e w' => e = .returned (.bool (lessL p q)) ∧ St w [] w' [] := by
 have hst := St.refl w
 have Hp := hid hp; clear hp
 have Hq := hid hq; clear hq
 rcases hx : cutL p with ⟨a, b, f⟩
 rcases hy : cutL q with ⟨a', b', f'⟩
 have Hx := hid hx; clear hx
 have Hy := hid hy; clear hy
 go_enter Tryz.func127, Tryz.ntmps127
 go_wp2_with (first | go_big_skip | go_big_guard | (go_at_call 126; first | (refine (refcut_to Hx.out _ Hp.out).mono ?_; rintro _ _ ⟨rfl, h4⟩; replace hst := St.call0 hst h4; clear h4) | (refine (refcut_to Hy.out _ Hq.out).mono ?_; rintro _ _ ⟨rfl, h4⟩; replace hst := St.call0 hst h4; clear h4)))
 all_goals
  go_ret
  exact ⟨(ret_boolv (by rw [ref_val Hx.out Hy.out]; simp_all)).symm, hst⟩
end Go.Proofs.YtifajcblbedcoaaGreat
