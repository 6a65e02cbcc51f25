import Derived.Test.YtalfdcfcaamnbaaJOrderBackc
import Derived.Test.YtalfdcfcaamnbaaJOrderBackb
import Derived.Test.YtalfdcfcaamnbaaJOrderBacka
import Derived.Test.YtalfdcfcaamnbaaKB
namespace Go.Proofs.Ytalfdcfcaamnbaa
set_option linter.unusedVariables false
set_option linter.unusedSimpArgs false
open Go.RowKit Hp
theorem putW_fit {S bs : List UInt8} {r : WR} (h : r = (0, bs)) (hl : S.length + bs.length ≤ 65536) : putW (0, S) r = (0, S ++ bs) := by
  rw [h]
  exact putW_ok rfl (by show ¬ 65536 < S.length + bs.length; omega)
theorem putAll_fitG {α : Type} {f : α → WR} {g : α → List UInt8} : ∀ (l : List α) (S : List UInt8), (∀ x ∈ l, f x = (0, g x)) → S.length + (l.flatMap g).length ≤ 65536 → putAll (0, S) (l.map f) = (0, S ++ l.flatMap g)
  | [], S, _, _ => by simp [putAll]
  | x :: l, S, h, hl => by
    have hx := h x List.mem_cons_self
    rw [List.flatMap_cons, List.length_append] at hl
    show putAll (putW (0, S) (f x)) (l.map f) = _
    rw [putW_fit hx (by omega), putAll_fitG l _ (fun y hy => h y (List.mem_cons_of_mem _ hy)) (by rw [List.length_append]; omega), List.flatMap_cons, List.append_assoc]
theorem stepR_okG {α : Type} {p p' : Nat} {r : RR α} {v d : α} (h : r = .ok v p') : stepR ⟨p, 0, 0⟩ r d = (⟨p', 0, 0⟩, v) := by
  rw [h]; rfl
theorem length_flatG {α : Type} {g : α → List UInt8} {w : Nat} : ∀ (l : List α), (∀ t ∈ l, (g t).length = w) → (l.flatMap g).length = w * l.length
  | [], _ => by simp
  | t :: l, h => by
    rw [List.flatMap_cons, List.length_append, h t List.mem_cons_self, length_flatG l (fun x hx => h x (List.mem_cons_of_mem _ hx)), List.length_cons, Nat.mul_add]
    omega
theorem many_fwdG {α : Type} {F : List UInt8 → RS → RS × α} {g : α → List UInt8} {w : Nat} {P : α → Prop} (hF : ∀ (A C : List UInt8) (t : α), P t → F (A ++ (g t ++ C)) ⟨A.length, 0, 0⟩ = (⟨A.length + w, 0, 0⟩, t)) (hg : ∀ t, P t → (g t).length = w)
    {A C : List UInt8} {l : List α} (h : ∀ t ∈ l, P t) : ∀ k, k ≤ l.length → manyS (F (A ++ (l.flatMap g ++ C))) ⟨A.length, 0, 0⟩ k = (⟨A.length + w * k, 0, 0⟩, l.take k)
  | 0, _ => by simp [manyS]
  | k + 1, hk => by
    have ih := many_fwdG hF hg (A := A) (C := C) h k (by omega)
    obtain ⟨t, ht⟩ : ∃ t, l[k]? = some t := ⟨_, List.getElem?_eq_getElem (by omega)⟩
    have hb := h t (List.mem_of_getElem? ht)
    have hl : l = l.take k ++ t :: l.drop (k + 1) := by
      have h1 := List.drop_eq_getElem_cons (l := l) (i := k) (by omega)
      rw [(List.getElem?_eq_some_iff.1 ht).2] at h1
      rw [← h1, List.take_append_drop]
    have hB : A ++ (l.flatMap g ++ C) = (A ++ (l.take k).flatMap g) ++ (g t ++ ((l.drop (k + 1)).flatMap g ++ C)) := by
      conv => lhs; rw [hl]
      simp only [List.flatMap_append, List.flatMap_cons, List.append_assoc]
    have hp : (A ++ (l.take k).flatMap g).length = A.length + w * k := by rw [List.length_append, length_flatG _ (fun t ht => hg t (h t (List.mem_of_mem_take ht))), List.length_take, Nat.min_eq_left (by omega)]
    have e := hF (A ++ (l.take k).flatMap g) ((l.drop (k + 1)).flatMap g ++ C) t hb
    rw [← hB, hp] at e
    show ((F _ (manyS _ _ k).1).1, (manyS _ _ k).2 ++ [(F _ (manyS _ _ k).1).2]) = _
    rw [ih, e, List.take_add_one, ht]
    simp only [Option.toList_some]
    rw [Nat.mul_add, Nat.mul_one, Nat.add_assoc]
theorem many_revG {α : Type} {f : RS → RS × α} {g : α → List UInt8} {w : Nat} {B : List UInt8} (hf : ∀ s : RS, (f s).1.e = 0 → s.e = 0 ∧ (f s).1.pos = s.pos + w ∧ (f s).1.pos ≤ B.length ∧ g (f s).2 = (B.drop s.pos).take w) {s : RS} :
    ∀ k, (manyS f s k).1.e = 0 → s.e = 0 ∧ (manyS f s k).1.pos = s.pos + w * k ∧ ((manyS f s k).2.flatMap g) = (B.drop s.pos).take (w * k)
  | 0, h => ⟨h, rfl, by simp [manyS]⟩
  | k + 1, h => by
    obtain ⟨h1, h2, h3, h4⟩ := hf (manyS f s k).1 h
    obtain ⟨i1, i2, i4⟩ := many_revG hf k h1
    refine ⟨i1, ?_, ?_⟩
    · show (f (manyS f s k).1).1.pos = _
      rw [h2, i2, Nat.mul_add, Nat.mul_one, Nat.add_assoc]
    · show (((manyS f s k).2 ++ [(f (manyS f s k).1).2]).flatMap g) = _
      rw [List.flatMap_append, i4, List.flatMap_cons, List.flatMap_nil, List.append_nil, h4, i2, ← List.drop_drop, Nat.mul_add, Nat.mul_one, List.take_add]
theorem stepR_invG {α : Type} {s : RS} {r : RR α} {d : α} (hr : ∀ e a, r = .stop e a → e ≠ 0) (h : (stepR s r d).1.e = 0) : s.e = 0 ∧ ∃ v p', r = .ok v p' ∧ stepR s r d = (⟨p', s.e, s.fa⟩, v) := by
  unfold stepR at h ⊢
  by_cases hs : s.e ≠ 0
  · rw [if_pos hs] at h
    exact absurd h hs
  · rw [if_neg hs] at h ⊢
    match r, hr, h with
    | .stop e a, hr, h => exact absurd h (hr e a rfl)
    | .ok v p, hr, h => exact ⟨by omega, v, p, rfl, rfl⟩
theorem num_rev3 {B : List UInt8} {p p' k : Nat} {low high v : Int} (h : numRR B p (k : Int) low high = .ok v p') : numB v k = (B.drop p).take k ∧ p' = p + k ∧ p' ≤ B.length ∧ low ≤ v ∧ v ≤ high := by
  obtain ⟨_, h2, h3, h4, h5⟩ := num_rev h
  refine ⟨?_, h2, h3, h4, h5⟩
  obtain ⟨_, _, _, _, hv, _⟩ := numRR_val h
  rw [Int.toNat_natCast] at hv
  have hl : ((B.drop p).take k).length = k := by rw [List.length_take, List.length_drop]; omega
  have h9 := numB_beN ((B.drop p).take k)
  rw [hl] at h9
  rw [hv, h9]
theorem text_rev {B v : List UInt8} {p p' : Nat} (h : textRR B p 48 = .ok v p') : textT v = (B.drop p).take 49 ∧ p' = p + 49 ∧ p' ≤ B.length ∧ v.length ≤ 48 := by
  unfold textRR at h
  split at h
  · cases h
  · split at h
    · cases h
    · split at h
      · cases h
      · split at h
        · cases h
        · rename_i h2 h3 _ hz
          cases h
          obtain ⟨n, hn⟩ : ∃ n, n = (B.getD p 0).toNat := ⟨_, rfl⟩
          rw [← hn] at h3 hz ⊢
          rw [show (48 : Int).toNat = 48 from rfl] at hz ⊢
          have hl : ((B.drop (p + 1)).take n).length = n := by rw [List.length_take, List.length_drop]; omega
          have hzl : ((B.drop (p + 1 + n)).take (48 - n)).length = 48 - n := by rw [List.length_take, List.length_drop]; omega
          have hzz := nz_zeros' (l := (B.drop (p + 1 + n)).take (48 - n)) hz
          rw [hzl] at hzz
          refine ⟨?_, rfl, by show p + 1 + 48 ≤ B.length; omega, by rw [hl]; omega⟩
          have hd : B.drop p = B.getD p 0 :: B.drop (p + 1) := by
            rw [List.drop_eq_getElem_cons (by omega), List.getD_eq_getElem?_getD, List.getElem?_eq_getElem (by omega)]
            rfl
          unfold textT
          rw [hl, ← hzz, hd, show (49 : Nat) = 48 + 1 from rfl, List.take_succ_cons, hn, UInt8.ofNat_toNat, ← hn]
          congr 1
          have e9 : B.drop (p + 1 + n) = (B.drop (p + 1)).drop n := by rw [List.drop_drop]
          rw [e9, ← List.take_add, show n + (48 - n) = 48 by omega]
end Go.Proofs.Ytalfdcfcaamnbaa
namespace Go.Proofs.Ytalfdcfcaamnbaa
set_option linter.unusedVariables false
set_option linter.unusedSimpArgs false
open Go.RowKit Hp
def OV.parts (o : OV) : List UInt8 := numB o.op 1 ++ (textT o.name ++ (textT o.dest ++ (numB o.n 4 ++ (numB o.m 4 ++ (numB (o.l.length : Int) 1 ++ (o.l.flatMap textT ++ (numB (o.b.length : Int) 3 ++ o.b)))))))
theorem withinB_is {n : Int} (h : withinB n = true) : 0 ≤ n ∧ n ≤ 2147483647 := by
  unfold withinB at h
  simp only [Bool.and_eq_true, decide_eq_true_eq] at h
  exact ⟨by omega, by omega⟩
structure OV.Fits (o : OV) : Prop where
  op : 1 ≤ o.op ∧ o.op ≤ 24
  n : 0 ≤ o.n ∧ o.n ≤ 2147483647
  m : 0 ≤ o.m ∧ o.m ≤ 2147483647
  ln : o.l.length ≤ 16
  bn : o.b.length ≤ 16384
  name : o.name.length ≤ 48
  dest : o.dest.length ≤ 48
  lt : ∀ t ∈ o.l, t.length ≤ 48
theorem longB_is {s : List UInt8} (h : longB s = false) : s.length ≤ 48 := by
  unfold longB at h
  have := of_decide_eq_false h
  omega
theorem OV.check_odd {o : OV} (h : o.check = 0) : o.oddA = false ∧ o.oddB = false ∧ o.oddC = false := by
  unfold OV.check at h
  cases hA : o.oddA
  · cases hB : o.oddB
    · cases hC : o.oddC
      · exact ⟨rfl, rfl, rfl⟩
      · rw [hA, hB, hC] at h
        simp at h
    · rw [hA, hB] at h
      simp at h
  · rw [hA] at h
    simp at h
theorem OV.fits {o : OV} (h : o.check = 0) : o.Fits := by
  obtain ⟨hA, hB, _⟩ := OV.check_odd h
  unfold OV.oddA at hA
  unfold OV.oddB at hB
  simp only [Bool.or_eq_false_iff, decide_eq_false_iff_not] at hA hB
  obtain ⟨⟨⟨⟨⟨a1, a2⟩, a3⟩, a4⟩, a5⟩, a6⟩ := hA
  obtain ⟨⟨b1, b2⟩, b3⟩ := hB
  have c3 : withinB o.n = true := by cases hh : withinB o.n <;> simp_all
  have c4 : withinB o.m = true := by cases hh : withinB o.m <;> simp_all
  refine ⟨⟨by omega, by omega⟩, withinB_is c3, withinB_is c4, by omega, by omega, longB_is b1, longB_is b2, fun t ht => ?_⟩
  rw [List.any_eq_false] at b3
  have := b3 t ht
  exact longB_is (by cases hh : longB t <;> simp_all)
theorem length_texts {l : List (List UInt8)} (h : ∀ t ∈ l, t.length ≤ 48) : (l.flatMap textT).length = 49 * l.length := length_flatG l (fun t ht => length_textT (h t ht))
theorem putO_ok {o : OV} (h : o.check = 0) : putO o = (0, o.parts) := by
  have F := OV.fits h
  have f1 := F.op
  have f2 := F.n
  have f3 := F.m
  have f4 := F.ln
  have f5 := F.bn
  have e1 : numR o.op 1 = (0, numB o.op 1) := numR_fit (k := 1) (by decide) (by omega) (by show o.op < 256; omega)
  have e2 : textR o.name 48 = (0, textT o.name) := textR_fit F.name
  have e3 : textR o.dest 48 = (0, textT o.dest) := textR_fit F.dest
  have e4 : numR o.n 4 = (0, numB o.n 4) := numR_fit (k := 4) (by decide) (by omega) (by show o.n < 4294967296; omega)
  have e5 : numR o.m 4 = (0, numB o.m 4) := numR_fit (k := 4) (by decide) (by omega) (by show o.m < 4294967296; omega)
  have e6 : numR (o.l.length : Int) 1 = (0, numB (o.l.length : Int) 1) := numR_fit (k := 1) (by decide) (by omega) (by show (o.l.length : Int) < 256; omega)
  have e7 : ∀ t ∈ o.l, (fun t => textR t 48) t = (0, textT t) := fun t ht => textR_fit (F.lt t ht)
  have e8 : numR (o.b.length : Int) 3 = (0, numB (o.b.length : Int) 3) := numR_fit (k := 3) (by decide) (by omega) (by show (o.b.length : Int) < 16777216; omega)
  have lt := length_texts F.lt
  have l1 := length_textT F.name
  have l2 := length_textT F.dest
  unfold putO
  rw [if_pos h]
  show putW (putW (putAll (putW (putW (putW (putW (putW (putW (0, []) (numR o.op 1)) (textR o.name 48)) (textR o.dest 48)) (numR o.n 4)) (numR o.m 4)) (numR (o.l.length : Int) 1)) (o.l.map fun t => textR t 48)) (numR (o.b.length : Int) 3)) (0, o.b) = _
  have z1 : ([] : List UInt8).length = 0 := rfl
  rw [putW_fit e1 (by rw [length_numB]; omega), putW_fit e2 (by simp only [List.length_append, length_numB, l1, z1]; omega), putW_fit e3 (by simp only [List.length_append, length_numB, l1, l2, z1]; omega), putW_fit e4 (by simp only [List.length_append, length_numB, l1, l2, z1]; omega),
    putW_fit e5 (by simp only [List.length_append, length_numB, l1, l2, z1]; omega), putW_fit e6 (by simp only [List.length_append, length_numB, l1, l2, z1]; omega), putAll_fitG o.l _ e7 (by simp only [List.length_append, length_numB, l1, l2, lt, z1]; omega),
    putW_fit e8 (by simp only [List.length_append, length_numB, l1, l2, lt, z1]; omega), putW_fit rfl (by simp only [List.length_append, length_numB, l1, l2, lt, z1]; omega)]
  unfold OV.parts
  simp only [List.append_assoc, List.nil_append]
theorem OV.length_parts {o : OV} (F : o.Fits) : o.parts.length = 111 + 49 * o.l.length + o.b.length := by
  unfold OV.parts
  simp only [List.length_append, length_numB, length_textT F.name, length_textT F.dest, length_texts F.lt]
  omega
theorem at_num {B A C : List UInt8} {p k : Nat} {n low high : Int} (hB : B = A ++ (numB n k ++ C)) (hp : A.length = p) (h1 : 1 ≤ k ∧ k ≤ 7) (h0 : 0 ≤ n) (h : n < 2 ^ (8 * k)) (hl : low ≤ n) (hh : n ≤ high) : stepR ⟨p, 0, 0⟩ (numRR B p (k : Int) low high) 0 = (⟨p + k, 0, 0⟩, n) := by
  subst hB hp
  exact stepR_okG (num_fwd h1 h0 h hl hh)
theorem at_text {B A C s : List UInt8} {p : Nat} (hB : B = A ++ (textT s ++ C)) (hp : A.length = p) (h : s.length ≤ 48) : textF B ⟨p, 0, 0⟩ = (⟨p + 49, 0, 0⟩, s) := by
  subst hB hp
  exact stepR_okG (text_fwd h)
theorem at_raw {B A C b : List UInt8} {p : Nat} (hB : B = A ++ (b ++ C)) (hp : A.length = p) : stepR ⟨p, 0, 0⟩ (rawRR B p (b.length : Int)) [] = (⟨p + b.length, 0, 0⟩, b) := by
  subst hB hp
  exact stepR_okG raw_fwd
theorem at_texts {B A C : List UInt8} {l : List (List UInt8)} {p : Nat} (hB : B = A ++ (l.flatMap textT ++ C)) (hp : A.length = p) (h : ∀ t ∈ l, t.length ≤ 48) : manyS (textF B) ⟨p, 0, 0⟩ l.length = (⟨p + 49 * l.length, 0, 0⟩, l) := by
  subst hB hp
  have := many_fwdG (F := textF) (g := textT) (w := 49) (P := fun t => t.length ≤ 48) (fun A C t ht => at_text rfl rfl ht) (fun t ht => length_textT ht) (A := A) (C := C) h l.length (Nat.le_refl _)
  rw [List.take_length] at this
  exact this
theorem getO_parts {o : OV} (h : o.check = 0) : getO o.parts = (o, 0, 0) := by
  have F := OV.fits h
  have f1 := F.op
  have f2 := F.n
  have f3 := F.m
  have f4 := F.ln
  have f5 := F.bn
  have lB := OV.length_parts F
  obtain ⟨B, hB⟩ : ∃ B, B = o.parts := ⟨_, rfl⟩
  rw [← hB] at lB ⊢
  have lt := length_texts F.lt
  have l1 := length_textT F.name
  have l2 := length_textT F.dest
  have s1 : stepR ⟨0, 0, 0⟩ (numRR B 0 1 1 24) 0 = (⟨1, 0, 0⟩, o.op) := at_num (A := []) (k := 1) (hB.trans (by unfold OV.parts; rfl)) rfl (by decide) (by omega) (by show o.op < 256; omega) (by omega) (by omega)
  have s2 : textF B ⟨1, 0, 0⟩ = (⟨50, 0, 0⟩, o.name) := at_text (A := numB o.op 1) (hB.trans (by unfold OV.parts; rfl)) (by rw [length_numB]) F.name
  have s3 : textF B ⟨50, 0, 0⟩ = (⟨99, 0, 0⟩, o.dest) := at_text (A := numB o.op 1 ++ textT o.name) (hB.trans (by unfold OV.parts; rw [List.append_assoc])) (by simp only [List.length_append, length_numB, l1]) F.dest
  have s4 : stepR ⟨99, 0, 0⟩ (numRR B 99 4 0 2147483647) 0 = (⟨103, 0, 0⟩, o.n) := at_num (A := numB o.op 1 ++ (textT o.name ++ textT o.dest)) (k := 4) (hB.trans (by unfold OV.parts; simp only [List.append_assoc]; rfl)) (by simp only [List.length_append, length_numB, l1, l2]) (by decide) (by omega) (by show o.n < 4294967296; omega) (by omega) (by omega)
  have s5 : stepR ⟨103, 0, 0⟩ (numRR B 103 4 0 2147483647) 0 = (⟨107, 0, 0⟩, o.m) := at_num (A := numB o.op 1 ++ (textT o.name ++ (textT o.dest ++ numB o.n 4))) (k := 4) (hB.trans (by unfold OV.parts; simp only [List.append_assoc]; rfl)) (by simp only [List.length_append, length_numB, l1, l2]) (by decide) (by omega) (by show o.m < 4294967296; omega) (by omega) (by omega)
  have s6 : stepR ⟨107, 0, 0⟩ (numRR B 107 1 0 16) 0 = (⟨108, 0, 0⟩, (o.l.length : Int)) := at_num (A := numB o.op 1 ++ (textT o.name ++ (textT o.dest ++ (numB o.n 4 ++ numB o.m 4)))) (k := 1) (hB.trans (by unfold OV.parts; simp only [List.append_assoc]; rfl)) (by simp only [List.length_append, length_numB, l1, l2]) (by decide) (by omega) (by show (o.l.length : Int) < 256; omega) (by omega) (by omega)
  have s7 : manyS (textF B) ⟨108, 0, 0⟩ o.l.length = (⟨108 + 49 * o.l.length, 0, 0⟩, o.l) := at_texts (A := numB o.op 1 ++ (textT o.name ++ (textT o.dest ++ (numB o.n 4 ++ (numB o.m 4 ++ numB (o.l.length : Int) 1))))) (hB.trans (by unfold OV.parts; simp only [List.append_assoc]; rfl)) (by simp only [List.length_append, length_numB, l1, l2]) F.lt
  have s8 : stepR ⟨108 + 49 * o.l.length, 0, 0⟩ (numRR B (108 + 49 * o.l.length) 3 0 16384) 0 = (⟨108 + 49 * o.l.length + 3, 0, 0⟩, (o.b.length : Int)) := at_num (A := numB o.op 1 ++ (textT o.name ++ (textT o.dest ++ (numB o.n 4 ++ (numB o.m 4 ++ (numB (o.l.length : Int) 1 ++ o.l.flatMap textT)))))) (k := 3) (hB.trans (by unfold OV.parts; simp only [List.append_assoc]; rfl)) (by simp only [List.length_append, length_numB, l1, l2, lt]; omega) (by decide) (by omega) (by show (o.b.length : Int) < 16777216; omega) (by omega) (by omega)
  have s9 : stepR ⟨108 + 49 * o.l.length + 3, 0, 0⟩ (rawRR B (108 + 49 * o.l.length + 3) (o.b.length : Int)) [] = (⟨108 + 49 * o.l.length + 3 + o.b.length, 0, 0⟩, o.b) := at_raw (A := numB o.op 1 ++ (textT o.name ++ (textT o.dest ++ (numB o.n 4 ++ (numB o.m 4 ++ (numB (o.l.length : Int) 1 ++ (o.l.flatMap textT ++ numB (o.b.length : Int) 3))))))) (C := []) (hB.trans (by unfold OV.parts; simp only [List.append_assoc, List.append_nil])) (by simp only [List.length_append, length_numB, l1, l2, lt]; omega)
  have sl : listR (textF B) B 1 16 ⟨107, 0, 0⟩ = (⟨108 + 49 * o.l.length, 0, 0⟩, o.l) := by
    unfold listR
    rw [s6]
    exact s7
  have sr : rawS B ⟨108 + 49 * o.l.length, 0, 0⟩ = (⟨B.length, 0, 0⟩, o.b) := by
    unfold rawS
    rw [s8]
    show stepR ⟨108 + 49 * o.l.length + 3, 0, 0⟩ (rawRR B (108 + 49 * o.l.length + 3) (o.b.length : Int)) [] = _
    rw [s9, lB, show 108 + 49 * o.l.length + 3 + o.b.length = 111 + 49 * o.l.length + o.b.length by omega]
  have g1 : goAll ((⟨0, 0, 0⟩, OV.none) : RS × OV) (getF B) = (⟨B.length, 0, 0⟩, o) := by
    obtain ⟨y1, hy1⟩ : ∃ y, y = stepR (⟨0, 0, 0⟩ : RS) (numRR B 0 1 1 24) 0 := ⟨_, rfl⟩
    obtain ⟨y2, hy2⟩ : ∃ y, y = textF B y1.1 := ⟨_, rfl⟩
    obtain ⟨y3, hy3⟩ : ∃ y, y = textF B y2.1 := ⟨_, rfl⟩
    obtain ⟨y4, hy4⟩ : ∃ y, y = stepR y3.1 (numRR B y3.1.pos 4 0 2147483647) 0 := ⟨_, rfl⟩
    obtain ⟨y5, hy5⟩ : ∃ y, y = stepR y4.1 (numRR B y4.1.pos 4 0 2147483647) 0 := ⟨_, rfl⟩
    obtain ⟨y6, hy6⟩ : ∃ y, y = listR (textF B) B 1 16 y5.1 := ⟨_, rfl⟩
    obtain ⟨y7, hy7⟩ : ∃ y, y = rawS B y6.1 := ⟨_, rfl⟩
    have hS : goAll ((⟨0, 0, 0⟩, OV.none) : RS × OV) (getF B) = (y7.1, OV.mk y1.2 y4.2 y5.2 y2.2 y3.2 y6.2 y7.2) := by rw [hy7, hy6, hy5, hy4, hy3, hy2, hy1]; rfl
    rw [s1] at hy1
    rw [hy1, s2] at hy2
    rw [hy2, s3] at hy3
    rw [hy3, s4] at hy4
    rw [hy4, s5] at hy5
    rw [hy5, sl] at hy6
    rw [hy6, sr] at hy7
    rw [hS, hy1, hy2, hy3, hy4, hy5, hy6, hy7]
  unfold getO
  rw [g1]
  have hE : endR B ⟨B.length, 0, 0⟩ = (0, 0) := by unfold endR; rw [if_neg (fun hh => Nat.lt_irrefl _ hh.2)]
  simp only [hE, h, if_true]
theorem back_num {B : List UInt8} {s : RS} {y : RS × Int} {K low high : Int} (k : Nat) (hy : y = stepR s (numRR B s.pos K low high) 0) (hK : K = (k : Int)) (h : y.1.e = 0) : s.e = 0 ∧ y.1.pos = s.pos + k ∧ s.pos + k ≤ B.length ∧ numB y.2 k = (B.drop s.pos).take k ∧ low ≤ y.2 := by
  subst hK
  rw [hy] at h
  obtain ⟨h1, v, p, hv, hs⟩ := stepR_invG numRR_stop h
  obtain ⟨n1, n2, n3, n4, _⟩ := num_rev3 hv
  rw [hy, hs]
  exact ⟨h1, n2, by omega, n1, n4⟩
theorem back_text {B : List UInt8} (s : RS) (h : (textF B s).1.e = 0) : s.e = 0 ∧ (textF B s).1.pos = s.pos + 49 ∧ (textF B s).1.pos ≤ B.length ∧ textT (textF B s).2 = (B.drop s.pos).take 49 := by
  obtain ⟨h1, v, p, hv, hs⟩ := stepR_invG textRR_stop h
  obtain ⟨n1, n2, n3, _⟩ := text_rev hv
  have hs' : textF B s = (⟨p, s.e, s.fa⟩, v) := hs
  rw [hs']
  exact ⟨h1, n2, n3, n1⟩
theorem back_raw {B : List UInt8} {s : RS} {y : RS × List UInt8} {m : Int} (hy : y = stepR s (rawRR B s.pos m) []) (h : y.1.e = 0) : s.e = 0 ∧ y.1.pos = s.pos + m.toNat ∧ s.pos + m.toNat ≤ B.length ∧ y.2 = (B.drop s.pos).take m.toNat ∧ (y.2.length : Int) = m := by
  rw [hy] at h
  obtain ⟨h1, v, p, hv, hs⟩ := stepR_invG rawRR_stop h
  obtain ⟨n1, n2, n3, n4⟩ := raw_rev hv
  rw [hy, hs]
  exact ⟨h1, n2, by omega, n1, n4⟩
theorem getO_pick (c : Int) (x y : OV) (z : Int) (h : ¬ ((if c = 0 then (x, c, z) else (y, c, z)) : OV × Int × Int).2.1 = 0) : ((if c = 0 then (x, c, z) else (y, c, z)) : OV × Int × Int).1 = y := by
  by_cases hc : c = 0
  · rw [if_pos hc] at h
    exact absurd hc h
  · rw [if_neg hc]
theorem getO_back {B : List UInt8} (h : (getO B).2.1 = 0) : (getO B).1.check = 0 ∧ putO (getO B).1 = (0, B) := by
  obtain ⟨s1, hs1⟩ : ∃ y, y = stepR (⟨0, 0, 0⟩ : RS) (numRR B 0 1 1 24) 0 := ⟨_, rfl⟩
  obtain ⟨s2, hs2⟩ : ∃ y, y = textF B s1.1 := ⟨_, rfl⟩
  obtain ⟨s3, hs3⟩ : ∃ y, y = textF B s2.1 := ⟨_, rfl⟩
  obtain ⟨s4, hs4⟩ : ∃ y, y = stepR s3.1 (numRR B s3.1.pos 4 0 2147483647) 0 := ⟨_, rfl⟩
  obtain ⟨s5, hs5⟩ : ∃ y, y = stepR s4.1 (numRR B s4.1.pos 4 0 2147483647) 0 := ⟨_, rfl⟩
  obtain ⟨s6, hs6⟩ : ∃ y, y = stepR s5.1 (numRR B s5.1.pos 1 0 16) 0 := ⟨_, rfl⟩
  obtain ⟨s7, hs7⟩ : ∃ y, y = manyS (textF B) s6.1 s6.2.toNat := ⟨_, rfl⟩
  obtain ⟨s8, hs8⟩ : ∃ y, y = stepR s7.1 (numRR B s7.1.pos 3 0 16384) 0 := ⟨_, rfl⟩
  obtain ⟨s9, hs9⟩ : ∃ y, y = stepR s8.1 (rawRR B s8.1.pos s8.2) [] := ⟨_, rfl⟩
  have hS : goAll ((⟨0, 0, 0⟩, OV.none) : RS × OV) (getF B) = (s9.1, OV.mk s1.2 s4.2 s5.2 s2.2 s3.2 s7.2 s9.2) := by rw [hs9, hs8, hs7, hs6, hs5, hs4, hs3, hs2, hs1]; rfl
  unfold getO at h ⊢
  rw [hS] at h ⊢
  by_cases hE : (endR B s9.1).1 = 0
  · by_cases hf : (OV.mk s1.2 s4.2 s5.2 s2.2 s3.2 s7.2 s9.2).check = 0
    · simp only [hE, hf, if_true]
      refine ⟨trivial, ?_⟩
      rw [putO_ok hf]
      have hend : s9.1.e = 0 ∧ ¬ s9.1.pos < B.length := by
        unfold endR at hE
        split at hE
        · cases hE
        · rename_i hh
          exact ⟨hE, fun hc => hh ⟨hE, hc⟩⟩
      obtain ⟨e8, p9, b9, r9, q9⟩ := back_raw hs9 hend.1
      obtain ⟨e7, p8, b8, r8, q8⟩ := back_num 3 hs8 rfl e8
      obtain ⟨e6, p7, r7⟩ := many_revG (g := textT) (w := 49) (B := B) back_text s6.2.toNat (by rw [← hs7]; exact e7)
      obtain ⟨e5, p6, b6, r6, q6⟩ := back_num 1 hs6 rfl e6
      obtain ⟨e4, p5, b5, r5, q5⟩ := back_num 4 hs5 rfl e5
      obtain ⟨e3, p4, b4, r4, q4⟩ := back_num 4 hs4 rfl e4
      obtain ⟨e2, p3, b3, r3⟩ := back_text s2.1 (by rw [← hs3]; exact e3)
      obtain ⟨e1, p2, b2, r2⟩ := back_text s1.1 (by rw [← hs2]; exact e2)
      obtain ⟨e0, p1, b1, r1, q1⟩ := back_num (s := ⟨0, 0, 0⟩) 1 hs1 rfl e1
      rw [← hs7] at p7 r7
      rw [← hs3] at p3 r3
      rw [← hs2] at p2 r2
      have hn : s7.2.length = s6.2.toNat := by rw [hs7]; exact manyS_len _ _ _
      have hp := hend.2
      have x1 : s1.1.pos = 1 := p1
      have x2 : s2.1.pos = 50 := by omega
      have x3 : s3.1.pos = 99 := by omega
      have x4 : s4.1.pos = 103 := by omega
      have x5 : s5.1.pos = 107 := by omega
      have x6 : s6.1.pos = 108 := by omega
      have x7 : s7.1.pos = 108 + 49 * s6.2.toNat := by omega
      have x8 : s8.1.pos = 108 + 49 * s6.2.toNat + 3 := by omega
      rw [x1] at r2
      rw [x2] at r3
      rw [x3] at r4
      rw [x4] at r5
      rw [x5] at r6
      rw [x6] at r7
      rw [x7] at r8
      rw [x8] at r9
      unfold OV.parts
      show (0, numB s1.2 1 ++ (textT s2.2 ++ (textT s3.2 ++ (numB s4.2 4 ++ (numB s5.2 4 ++ (numB (s7.2.length : Int) 1 ++ (s7.2.flatMap textT ++ (numB (s9.2.length : Int) 3 ++ s9.2)))))))) = (0, B)
      have hlast : (B.drop (108 + 49 * s6.2.toNat + 3)).take s8.2.toNat = B.drop (108 + 49 * s6.2.toNat + 3) := List.take_of_length_le (by rw [List.length_drop]; omega)
      have cut : ∀ p k, (B.drop p).take k ++ B.drop (p + k) = B.drop p := fun p k => by rw [← List.drop_drop]; exact List.take_append_drop _ _
      have c1 : (B.drop 107).take 1 ++ B.drop 108 = B.drop 107 := cut 107 1
      have c2 : (B.drop 103).take 4 ++ B.drop 107 = B.drop 103 := cut 103 4
      have c3 : (B.drop 99).take 4 ++ B.drop 103 = B.drop 99 := cut 99 4
      have c4 : (B.drop 50).take 49 ++ B.drop 99 = B.drop 50 := cut 50 49
      have c5 : (B.drop 1).take 49 ++ B.drop 50 = B.drop 1 := cut 1 49
      have c6 : (B.drop 0).take 1 ++ B.drop 1 = B.drop 0 := cut 0 1
      have r1' : numB s1.2 1 = (B.drop 0).take 1 := r1
      rw [hn, Int.toNat_of_nonneg q6, q9, r1', r2, r3, r4, r5, r6, r7, r8, r9, hlast, cut (108 + 49 * s6.2.toNat) 3, cut 108 (49 * s6.2.toNat), c1, c2, c3, c4, c5, c6, List.drop_zero]
    · simp [hE, hf] at h
  · simp [hE] at h
theorem getO_ways (B : List UInt8) : (∃ e p, getO B = (OV.none, e, p) ∧ e ≠ 0) ∨ (∃ q p, getO B = (q, 0, p) ∧ q.check = 0 ∧ putO q = (0, B)) := by
  by_cases h : (getO B).2.1 = 0
  · right
    exact ⟨(getO B).1, (getO B).2.2, by rw [← h], getO_back h⟩
  · left
    refine ⟨(getO B).2.1, (getO B).2.2, ?_, h⟩
    have hn : (getO B).1 = OV.none := getO_pick _ _ _ _ h
    rw [← hn]
theorem OV.fits_ok {o : OV} (F : o.Fits) : o.Ok := by
  have f1 := F.op
  have f2 := F.n
  have f3 := F.m
  have f4 := F.ln
  have f5 := F.bn
  have f6 := F.name
  have f7 := F.dest
  exact ⟨by omega, by omega, by omega, by omega, by omega, by omega, fun t ht => Nat.le_trans (F.lt t ht) (by decide), by omega⟩
end Go.Proofs.Ytalfdcfcaamnbaa
namespace Go.Proofs.Ytalfdcfcaamnbaa
set_option linter.unusedVariables false
set_option linter.unusedSimpArgs false
open Go.RowKit Hp
namespace Hp
variable {P : Program}
/-- Two bools that differ, left as it is by the walk's own simp. -/
def bNe (b c : Bool) : Bool := b != c
theorem bNe_eq (b c : Bool) : bNe b c = (b != c) := rfl
theorem wl_gneqB {ops : Array Oper} {rest : List Oper} {o : Oper} {a : Act} {w : World} {Q : Exit → Act → World → Prop} {g : Bool} {T T' : TypeId} {x y : Operand} {b c : Bool} (hop : o.op = .binOp .neq T x y T') (hT : P.underlying T = some .bool) (hw : Region.wanted o (yielded ops a.tmps) = g) (hx : g = true → evL a x = .bool b) (hy : g = true → evL a y = .bool c)
    (h : wpList P ops Q rest (a.put o.dst (gvV g (.bool (bNe b c)))) w) : wpList P ops Q (o :: rest) a w := by
  refine wl_gV hw (fun hg => ?_) h
  have e1 : (eqGuard .neq T x y (.bool b) (.bool c)).run P w = .ok () w := by
    unfold eqGuard
    simp [Sem.run_bind]
  have e2 : (binOp .neq T (.bool b) (.bool c)).run P w = .ok (.bool (bNe b c)) w := by
    rw [run_neq_bool _ T b c hT]
    rfl
  unfold execOp
  simp only [hop, evL_eq, hx hg, hy hg, Sem.run_bind, e1, Result.andThen_ok, e2, Sem.run_pure]
end Hp
/-- What OrderBack calls bare; small; and what it would tell as wrong. -/
def OV.bare (o : OV) (nl nb : Nat) : Bool := ((((((us o.op 0 || (o.name == [])) && (us o.op 1 || (o.dest == []))) && (us o.op 2 || (o.n == 0))) && (us o.op 3 || (o.m == 0))) && (us o.op 4 || ((nl : Int) == 0))) && (us o.op 5 || ((nb : Int) == 0)))
def OV.small (o : OV) (nl nb : Nat) : Bool := (((((((((decide ((o.name.length : Int) ≤ 48) && decide ((o.dest.length : Int) ≤ 48)) && ((nl : Int) == 0)) && decide ((nb : Int) ≤ 16384)) && decide ((0 : Int) ≤ o.n)) && decide (o.n < 2147483648)) && decide ((0 : Int) ≤ o.m)) && decide (o.m < 2147483648)) && decide ((1 : Int) ≤ o.op)) && decide (o.op ≤ 24))
theorem OV.bare_is (o : OV) : o.bare o.l.length o.b.length = !o.oddC := by
  have hl : ∀ k : Nat, ((k : Int) == 0) = !decide ((0 : Int) < (k : Int)) := by
    intro k
    rw [Bool.eq_iff_iff]
    simp
  unfold OV.bare OV.oddC
  rw [hl, hl]
  cases us o.op 0 <;> cases us o.op 1 <;> cases us o.op 2 <;> cases us o.op 3 <;> cases us o.op 4 <;> cases us o.op 5 <;> simp [bne]
theorem OV.small_is (o : OV) (h : o.l = []) : o.small o.l.length o.b.length = (!o.oddA && !o.oddB) := by
  rw [Bool.eq_iff_iff]
  unfold OV.small OV.oddA OV.oddB longB withinB
  rw [h]
  simp only [Bool.and_eq_true, Bool.not_eq_true', Bool.or_eq_false_iff, decide_eq_true_eq, decide_eq_false_iff_not, beq_iff_eq, Bool.not_eq_false', List.any_nil, List.length_nil, eq_self_iff_true, and_true]
  constructor
  · intro hh
    omega
  · intro hh
    omega
theorem OV.sound (o : OV) : (((o.bare o.l.length o.b.length && (o.small o.l.length o.b.length != (o.check == 0))) && ((o.l.length : Int) == 0)) || (!o.bare o.l.length o.b.length && (o.check == 0))) = false := by
  rw [OV.bare_is]
  by_cases hl : o.l = []
  · rw [OV.small_is o hl]
    unfold OV.check
    cases o.oddA <;> cases o.oddB <;> cases o.oddC <;> simp
  · have h0 : ((o.l.length : Int) == 0) = false := by
      have : o.l.length ≠ 0 := fun h => hl (List.eq_nil_of_length_eq_zero h)
      simpa using this
    rw [h0]
    unfold OV.check
    cases o.oddA <;> cases o.oddB <;> cases o.oddC <;> simp
theorem OV.check_two {o : OV} (h : o.check ≠ 0) : o.check = 2 := by
  unfold OV.check at h ⊢
  cases hA : o.oddA <;> cases hB : o.oddB <;> cases hC : o.oddC <;> simp_all
end Go.Proofs.Ytalfdcfcaamnbaa
namespace Go.Proofs.Ytalfdcfcaamnbaa
set_option linter.unusedVariables false
set_option linter.unusedSimpArgs false
open Go.RowKit Hp
attribute [local irreducible] Go.Calls Go.wpList
set_option maxRecDepth 100000
set_option maxHeartbeats 4000000
theorem qput_bad (o : OV) (ok : o.Ok) (al ab : Option Addr) (nl cl nb cb : Nat) (w : World) (hl : Rd w (.slice al nl cl) 1 nl (strsV o.l)) (hb : Rd w (.slice ab nb cb) 1 nb (bytesV o.b)) (hnl : o.l.length = nl) (hnb : o.b.length = nb) (h0 : o.check ≠ 0) :
    Calls Try.prog 13 #[.agg (o.cells (.slice al nl cl) (.slice ab nb cb)).toArray] w (OutP w (putO o)) := by
  have hst0 := St.refl w
  have HL := hid hl
  have HB := hid hb
  have HNL := hid hnl
  have HNB := hid hnb
  have hln : nl ≤ 1000000 := by rw [← hnl]; exact ok.ln
  have hbn : nb ≤ 100000 := by rw [← hnb]; exact ok.bn
  have OK := hid ok
  have hnli : -9223372036854775808 ≤ (nl : Int) ∧ (nl : Int) ≤ 9223372036854775807 := by omega
  have hnbi : -9223372036854775808 ≤ (nb : Int) ∧ (nb : Int) ≤ 9223372036854775807 := by omega
  obtain ⟨R, hR⟩ : ∃ R, R = putO o := ⟨_, rfl⟩
  have HR := hid hR
  rw [← hR]
  obtain ⟨ck, hck⟩ : ∃ ck, ck = o.check := ⟨_, rfl⟩
  have HCK := hid hck
  have d0 : (ck != 0) = true := by rw [hck]; simpa using h0
  have H0 := hid h0
  have h2 : ck = 2 ∨ ck = 0 := by
    rw [hck]
    unfold OV.check
    split
    · exact .inl rfl
    · split
      · exact .inl rfl
      · split
        · exact .inl rfl
        · exact .inr rfl
  have H2 := hid h2
  clear hl hb hnl hnb hR hck h0 ok h2
  show Calls Try.prog 13 #[.agg (List.toArray [.int .i64 o.op, strV o.name, strV o.dest, .int .i64 o.n, .int .i64 o.m, .slice al nl cl, .slice ab nb cb])] w _
  go_enter Try.func13, Try.ntmps13
  go_wp2_with (first | go_big_skip | go_big_guard | (refine wl_boxA hst0 rfl rfl rfl ?_; intro g1 _ hst1; clear hst0) | (refine wl_loadE rfl rfl rfl ?_; refine ⟨_, Loads.whole (T := 25) [] hst1 rfl, ?_⟩) | (go_at_call 16; refine (qcheck_any o al ab nl cl nb cb _ (Rd.old hst1 HL.out) HNL.out HNB.out hln).mono ?_; rw [← HCK.out]; rintro _ w9 ⟨rfl, h4⟩; have hst2 := St.call0 hst1 h4; clear h4 hst1))
  go_ret2
  have e : R = (ck, []) := by rw [HR.out, HCK.out]; unfold putO; rw [if_neg H0.out]
  have e2 : ck = 2 := by
    rcases H2.out with h | h
    · exact h
    · rw [HCK.out] at h; exact absurd h H0.out
  refine ⟨.slice none 0 0, by rw [e, e2]; rfl, ?_⟩
  rw [e, show outW (ck, []) = [] from by unfold outW; split <;> rfl]
  exact St.nilPQ isB _ 1 hst2.nil
theorem qput_ok (o : OV) (ok : o.Ok) (al ab : Option Addr) (nl cl nb cb : Nat) (w : World) (hl : Rd w (.slice al nl cl) 1 nl (strsV o.l)) (hb : Rd w (.slice ab nb cb) 1 nb (bytesV o.b)) (hnl : o.l.length = nl) (hnb : o.b.length = nb) (h0 : o.check = 0) :
    Calls Try.prog 13 #[.agg (o.cells (.slice al nl cl) (.slice ab nb cb)).toArray] w (OutP w (putO o)) := by
  have hst0 := St.refl w
  have HL := hid hl
  have HB := hid hb
  have HNL := hid hnl
  have HNB := hid hnb
  have hln : nl ≤ 1000000 := by rw [← hnl]; exact ok.ln
  have hbn : nb ≤ 100000 := by rw [← hnb]; exact ok.bn
  have OK := hid ok
  have hnli : -9223372036854775808 ≤ (nl : Int) ∧ (nl : Int) ≤ 9223372036854775807 := by omega
  have hnbi : -9223372036854775808 ≤ (nb : Int) ∧ (nb : Int) ≤ 9223372036854775807 := by omega
  obtain ⟨R, hR⟩ : ∃ R, R = putO o := ⟨_, rfl⟩
  have HR := hid hR
  rw [← hR]
  obtain ⟨ck, hck⟩ : ∃ ck, ck = o.check := ⟨_, rfl⟩
  have HCK := hid hck
  have d0 : (ck != 0) = false := by rw [hck]; simpa using h0
  have H0 := hid h0
  have h2 : ck = 2 ∨ ck = 0 := by
    rw [hck]
    unfold OV.check
    split
    · exact .inl rfl
    · split
      · exact .inl rfl
      · split
        · exact .inl rfl
        · exact .inr rfl
  have H2 := hid h2
  clear hl hb hnl hnb hR hck h0 ok h2
  show Calls Try.prog 13 #[.agg (List.toArray [.int .i64 o.op, strV o.name, strV o.dest, .int .i64 o.n, .int .i64 o.m, .slice al nl cl, .slice ab nb cb])] w _
  go_enter Try.func13, Try.ntmps13
  go_wp2_with (first | go_big_skip | go_big_guard | (refine wl_boxA hst0 rfl rfl rfl ?_; intro g1 _ hst1; clear hst0) | (refine wl_loadE rfl rfl rfl ?_; refine ⟨_, Loads.whole (T := 25) [] hst1 rfl, ?_⟩) | (go_at_call 16; refine (qcheck_any o al ab nl cl nb cb _ (Rd.old hst1 HL.out) HNL.out HNB.out hln).mono ?_; rw [← HCK.out]; rintro _ w9 ⟨rfl, h4⟩; have hst2 := St.call0 hst1 h4; clear h4 hst1) | (refine wl_build0 rfl rfl ?_) | (refine wl_boxA hst2 rfl rfl rfl ?_; intro gw w3 hst3; clear hst2; obtain ⟨b0, hb0⟩ : ∃ b, b = Value.slice none 0 0 := ⟨_, rfl⟩; obtain ⟨s0, hs0⟩ : ∃ s : WR, s = (0, []) := ⟨_, rfl⟩; have hW0 : St w [] w3 (vP gw b0 s0 ++ [.blk g1 25 [.int .i64 o.op, strV o.name, strV o.dest, .int .i64 o.n, .int .i64 o.m, .slice al nl cl, .slice ab nb cb]]) := (by rw [hb0, hs0]; exact St.perm (St.nilPQ isB 5 1 hst3) (List.Perm.swap _ _ _)); have HS0 := hid hs0; have HB0 := hid (show s0.2.length ≤ 65536 by rw [hs0]; decide); clear hst3 hb0 hs0) | (refine wl_loadE rfl rfl rfl ?_; first | refine ⟨_, Loads.at [_, _] hW0 rfl, ?_⟩ | refine ⟨_, Loads.at [_, _] hW1 rfl, ?_⟩ | refine ⟨_, Loads.at [_, _] hW2 rfl, ?_⟩ | refine ⟨_, Loads.at [_, _] hW3 rfl, ?_⟩ | refine ⟨_, Loads.at [_, _] hW4 rfl, ?_⟩ | refine ⟨_, Loads.at [_, _] hW5 rfl, ?_⟩ | refine ⟨_, Loads.at [_, _] hW6 rfl, ?_⟩) | (go_at_call 35; refine (vnum_any gw b0 s0 o.op 1 _ (St.sub hW0 (List.sublist_append_left _ _)).selfF HB0.out (by decide) OK.out.op).mono ?_; rintro _ w9 ⟨rfl, b1, h4⟩; have hW1 := St.callF (vP gw b0 s0) hW0 h4; clear h4 hW0; obtain ⟨s1, hs1⟩ : ∃ s, s = putW s0 (numR o.op 1) := ⟨_, rfl⟩; rw [← hs1] at hW1; have HS1 := hid hs1; have HB1 := hid (show s1.2.length ≤ 65536 by rw [hs1]; exact putW_len HB0.out); clear hs1) | (go_at_call 36; refine (vtext_any gw b1 s1 o.name 48 _ (St.sub hW1 (List.sublist_append_left _ _)).selfF HB1.out (by decide) (Nat.le_trans OK.out.name (by decide))).mono ?_; rintro _ w9 ⟨rfl, b2, h4⟩; have hW2 := St.callF (vP gw b1 s1) hW1 h4; clear h4 hW1; obtain ⟨s2, hs2⟩ : ∃ s, s = putW s1 (textR o.name 48) := ⟨_, rfl⟩; rw [← hs2] at hW2; have HS2 := hid hs2; have HB2 := hid (show s2.2.length ≤ 65536 by rw [hs2]; exact putW_len HB1.out); clear hs2) | (go_at_call 36; refine (vtext_any gw b2 s2 o.dest 48 _ (St.sub hW2 (List.sublist_append_left _ _)).selfF HB2.out (by decide) (Nat.le_trans OK.out.dest (by decide))).mono ?_; rintro _ w9 ⟨rfl, b3, h4⟩; have hW3 := St.callF (vP gw b2 s2) hW2 h4; clear h4 hW2; obtain ⟨s3, hs3⟩ : ∃ s, s = putW s2 (textR o.dest 48) := ⟨_, rfl⟩; rw [← hs3] at hW3; have HS3 := hid hs3; have HB3 := hid (show s3.2.length ≤ 65536 by rw [hs3]; exact putW_len HB2.out); clear hs3) | (go_at_call 35; refine (vnum_any gw b3 s3 o.n 4 _ (St.sub hW3 (List.sublist_append_left _ _)).selfF HB3.out (by decide) OK.out.n).mono ?_; rintro _ w9 ⟨rfl, b4, h4⟩; have hW4 := St.callF (vP gw b3 s3) hW3 h4; clear h4 hW3; obtain ⟨s4, hs4⟩ : ∃ s, s = putW s3 (numR o.n 4) := ⟨_, rfl⟩; rw [← hs4] at hW4; have HS4 := hid hs4; have HB4 := hid (show s4.2.length ≤ 65536 by rw [hs4]; exact putW_len HB3.out); clear hs4) | (go_at_call 35; refine (vnum_any gw b4 s4 o.m 4 _ (St.sub hW4 (List.sublist_append_left _ _)).selfF HB4.out (by decide) OK.out.m).mono ?_; rintro _ w9 ⟨rfl, b5, h4⟩; have hW5 := St.callF (vP gw b4 s4) hW4 h4; clear h4 hW4; obtain ⟨s5, hs5⟩ : ∃ s, s = putW s4 (numR o.m 4) := ⟨_, rfl⟩; rw [← hs5] at hW5; have HS5 := hid hs5; have HB5 := hid (show s5.2.length ≤ 65536 by rw [hs5]; exact putW_len HB4.out); clear hs5) | (go_at_call 35; refine (vnum_any gw b5 s5 nl 1 _ (St.sub hW5 (List.sublist_append_left _ _)).selfF HB5.out (by decide) hnli).mono ?_; rintro _ w9 ⟨rfl, b6, h4⟩; have hW6 := St.callF (vP gw b5 s5) hW5 h4; clear h4 hW5; obtain ⟨s6, hs6⟩ : ∃ s, s = putW s5 (numR nl 1) := ⟨_, rfl⟩; rw [← hs6] at hW6; have HS6 := hid hs6; have HB6 := hid (show s6.2.length ≤ 65536 by rw [hs6]; exact putW_len HB5.out); clear hs6))
  have hAll := hid (fun j : Nat => putAll_len (s := s6) (rs := (o.l.map fun t => textR t 48).take j) HB6.out)
  go_loopw [5] (fun i wr => ∃ (j : Nat) (bv : Value), j ≤ nl ∧ i = .int .i64 (j : Int) ∧ St w [] wr (vP gw bv (putAll s6 ((o.l.map fun t => textR t 48).take j)) ++ [.blk g1 25 [.int .i64 o.op, strV o.name, strV o.dest, .int .i64 o.n, .int .i64 o.m, .slice al nl cl, .slice ab nb cb]])) (fun i _ => nl - (intOf i).toNat)
  case atStart => exact ⟨0, b6, Nat.zero_le _, rfl, hW6⟩
  case round =>
    clear hW6
    obtain ⟨j, b6, hj, rfl, hst⟩ := hrel
    by_cases hlt : j < nl
    · have d1 : decide ((j : Int) < (nl : Int)) = true := decide_eq_true (by omega)
      have z1 : IntKind.i64.wrap ((j : Int) + 1) = (j : Int) + 1 := IntWalk.i64_in _ (by omega)
      have hjl : j < o.l.length := by rw [HNL.out]; exact hlt
      obtain ⟨t, ht⟩ : ∃ t, o.l[j]? = some t := ⟨_, List.getElem?_eq_getElem hjl⟩
      have HTL := hid (OK.out.lt t (List.mem_of_getElem? ht))
      have HSU := hid (putAll_succ (s := s6) (show (o.l.map fun t => textR t 48)[j]? = some (textR t 48) by rw [List.getElem?_map, ht]; rfl))
      obtain ⟨b, off, rfl, hrg⟩ := Rd.at HL.out hlt
      have hcell := hid (show w.cell? ⟨b, off + j, none⟩ = some (.string ⟨t.toArray⟩) from hrg j _ (strsV_get ht))
      have HB7 := hid (hAll.out j)
      obtain ⟨s7, hs7⟩ : ∃ s, s = putAll s6 ((o.l.map fun t => textR t 48).take j) := ⟨_, rfl⟩
      rw [← hs7] at hst
      have HS7 := hid hs7
      clear hs7 ht hjl hrg
      go_wp2_with (first | go_big_skip | go_big_guard | (refine wl_index rfl rfl rfl rfl hlt ?_) | (refine wl_loadE rfl rfl rfl ?_; first | refine ⟨_, Loads.at [_, _] hst rfl, ?_⟩ | refine ⟨_, Loads.old hst (by rw [Nat.mul_one]; exact hcell.out), ?_⟩) | (go_at_call 36; refine (vtext_any gw b6 s7 t 48 _ (St.sub hst (List.sublist_append_left _ _)).selfF (by rw [HS7.out]; exact HB7.out) (by decide) (Nat.le_trans HTL.out (by decide))).mono ?_; rintro _ w9 ⟨rfl, b7, h4⟩; have hG := St.callF (vP gw b6 s7) hst h4; clear h4 hst))
      go_roundw
      case rel =>
        refine ⟨j + 1, b7, by omega, rfl, ?_⟩
        rw [HSU.out, ← HS7.out]
        exact hG
      case measure => simp [intOf]; omega
    · have hjn : j = nl := by omega
      have d1 : decide ((j : Int) < (nl : Int)) = false := decide_eq_false (by omega)
      obtain ⟨s7, hs7⟩ : ∃ s, s = putAll s6 (o.l.map fun t => textR t 48) := ⟨_, rfl⟩
      have HB7 := hid (show s7.2.length ≤ 65536 by rw [hs7]; exact putAll_len HB6.out)
      have HS7 := hid hs7
      have hW7 : St w [] wr (vP gw b6 s7 ++ [.blk g1 25 [.int .i64 o.op, strV o.name, strV o.dest, .int .i64 o.n, .int .i64 o.m, .slice al nl cl, .slice ab nb cb]]) := by
        rw [List.take_of_length_le (by rw [List.length_map, HNL.out]; omega), ← hs7] at hst
        exact hst
      obtain ⟨b7, hb7⟩ : ∃ b, b = b6 := ⟨_, rfl⟩
      rw [← hb7] at hW7
      clear hst hjn hs7 hb7
      go_wp2_with (first | go_big_skip | go_big_guard | (refine wl_loadE rfl rfl rfl ?_; first | refine ⟨_, Loads.at [_, _] hW7 rfl, ?_⟩ | refine ⟨_, Loads.at [_, _] hW8 rfl, ?_⟩) | (go_at_call 35; refine (vnum_any gw b7 s7 nb 3 _ (St.sub hW7 (List.sublist_append_left _ _)).selfF HB7.out (by decide) hnbi).mono ?_; rintro _ w9 ⟨rfl, b8, h4⟩; have hW8 := St.callF (vP gw b7 s7) hW7 h4; clear h4 hW7; obtain ⟨s8, hs8⟩ : ∃ s, s = putW s7 (numR nb 3) := ⟨_, rfl⟩; rw [← hs8] at hW8; have HS8 := hid hs8; have HB8 := hid (show s8.2.length ≤ 65536 by rw [hs8]; exact putW_len HB7.out); clear hs8) | (go_at_call 37; have hV := St.sub hW8 (List.sublist_append_left _ _); refine (vraw_any gw b8 s8 ab nb cb o.b _ hV.selfF HB8.out (Rd.old hW8 HB.out) (Off.later hV HB.out (by decide)) HNB.out hbn).mono ?_; rintro _ w9 ⟨rfl, b9, h4⟩; have hW9 := St.callF (vP gw b8 s8) hW8 h4; clear h4 hW8 hV; obtain ⟨s9, hs9⟩ : ∃ s, s = putW s8 (0, o.b) := ⟨_, rfl⟩; rw [← hs9] at hW9; have HS9 := hid hs9; have HB9 := hid (show s9.2.length ≤ 65536 by rw [hs9]; exact putW_len HB8.out); clear hs9) | (go_at_call 38; refine (vout_any gw b9 s9 _ (St.sub hW9 (List.sublist_append_left _ _)) HB9.out).mono ?_; rintro _ w10 ⟨u, rfl, h4⟩; have hstE := St.call hW9 h4; clear h4 hW9))
      go_ret2
      have e : R = s9 := by
        rw [HR.out]
        unfold putO
        rw [if_pos H0.out, HS9.out, HS8.out, HS7.out, HS6.out, HS5.out, HS4.out, HS3.out, HS2.out, HS1.out, HS0.out, ← HNL.out, ← HNB.out]
        rfl
      rw [e]
      exact ⟨u, rfl, St.sub hstE (List.sublist_append_left _ _)⟩
theorem qput_any (o : OV) (ok : o.Ok) (al ab : Option Addr) (nl cl nb cb : Nat) (w : World) (hl : Rd w (.slice al nl cl) 1 nl (strsV o.l)) (hb : Rd w (.slice ab nb cb) 1 nb (bytesV o.b)) (hnl : o.l.length = nl) (hnb : o.b.length = nb) :
    Calls Try.prog 13 #[.agg (o.cells (.slice al nl cl) (.slice ab nb cb)).toArray] w (OutP w (putO o)) := by
  by_cases h0 : o.check = 0
  · exact qput_ok o ok al ab nl cl nb cb w hl hb hnl hnb h0
  · exact qput_bad o ok al ab nl cl nb cb w hl hb hnl hnb h0
end Go.Proofs.Ytalfdcfcaamnbaa
namespace Go.Proofs.Ytalfdcfcaamnbaa
set_option linter.unusedVariables false
set_option linter.unusedSimpArgs false
open Go.RowKit Hp
attribute [local irreducible] Go.Calls Go.wpList
set_option maxRecDepth 100000
set_option maxHeartbeats 4000000
section
attribute [local go_sem ↓] loadedStr loadedInt
theorem sameS_eq (ao bo : Option Addr) (n c d : Nat) (l : List (List UInt8)) (w : World) (hA : Rd w (.slice ao n c) 1 n (strsV l)) (hB : Rd w (.slice bo n d) 1 n (strsV l)) :
    Calls Try.prog 43 #[.slice ao n c, .slice bo n d] w fun e w' => e = .returned (.bool true) ∧ St w [] w' [] := by
  have hst := St.refl w
  have hN := hA.bd.2.1
  have hN2 := hA.bd.1
  have hlen : l.length = n := by have := hA.1; cases l <;> simp_all [strsV]
  have HN := hid hlen
  have d0 : ((n : Int) != (n : Int)) = false := by simp
  clear hlen
  go_enter Try.func43, Try.ntmps43
  go_wp2_with (first | go_big_skip | go_big_guard | fail)
  go_loopw [5] (fun q wr => ∃ k : Nat, k ≤ n ∧ q = .int .i64 k ∧ St w [] wr []) (fun q _ => n - (intOf q).toNat)
  case atStart => exact ⟨0, by omega, rfl, hst⟩
  case round =>
    clear hst
    obtain ⟨k, hk, rfl, hst⟩ := hrel
    by_cases hkN : k < n
    · have hkl : k < l.length := by rw [HN.out]; exact hkN
      obtain ⟨x, hx⟩ : ∃ x, l[k]? = some x := ⟨_, List.getElem?_eq_getElem hkl⟩
      obtain ⟨b, off, rfl, hr⟩ := hA.at hkN
      obtain ⟨b', off', rfl, hr'⟩ := hB.at hkN
      have h1 := hid (show w.cell? ⟨b, off + k, none⟩ = some (.string ⟨x.toArray⟩) from hr k _ (strsV_get hx))
      have h2 := hid (show w.cell? ⟨b', off' + k, none⟩ = some (.string ⟨x.toArray⟩) from hr' k _ (strsV_get hx))
      have hk2 : (k : Int) < (n : Int) := by omega
      have d1 : decide ((k : Int) < (n : Int)) = true := decide_eq_true hk2
      have n1 : (k : Int).toNat = k := by omega
      have n2 : (0 : Int) ≤ (k : Int) := by omega
      have z1 : IntKind.i64.wrap ((k : Int) + 1) = (k : Int) + 1 := IntWalk.i64_in _ (by omega)
      clear hr hr' hx hkl
      go_wp2_with (first | go_big_skip | go_big_guard | fail)
      have hD := hst.drew
      clear hst
      refine wp_region_held_drew (S := (fun w' => (loadVarH 9 ⟨b, off + k, none⟩).run Try.prog w' = .ok (.string ⟨x.toArray⟩) w' ∧ (loadVarH 9 ⟨b', off' + k, none⟩).run Try.prog w' = .ok (.string ⟨x.toArray⟩) w')) (by kernel_rfl) (by exact ⟨ldO hD (h1.out), ldO hD (h2.out)⟩) (fun hHeld => ?_)
      refine wpAnyH_take (i := 0) (oi := ⟨some 17, _, _, _, _, _⟩) (v := ?_) rfl (by kernel_rfl) (by kernel_rfl) (by kernel_rfl) (fun _ _ _ h => h) (Or.inl ⟨by rfl, ?_⟩) (by assumption) ?_
      rotate_left
      · intro w hSw; (try dsimp only at hSw); go_simp; try with_reducible rfl
      (try simp only [Act.put, List.setIfInBounds_toArray, List.set_cons_zero, List.set_cons_succ])
      refine wpAnyH_take (i := 1) (oi := ⟨some 18, _, _, _, _, _⟩) (v := ?_) rfl (by kernel_rfl) (by kernel_rfl) (by kernel_rfl) (fun _ _ _ h => h) (Or.inl ⟨by rfl, ?_⟩) (by assumption) ?_
      rotate_left
      · intro w hSw; (try dsimp only at hSw); go_simp; try with_reducible rfl
      (try simp only [Act.put, List.setIfInBounds_toArray, List.set_cons_zero, List.set_cons_succ])
      refine wpAnyH_take (i := 4) (oi := ⟨some 21, _, _, _, _, _⟩) (v := ?_) rfl (by kernel_rfl) (by kernel_rfl) (by kernel_rfl) (fun _ _ _ h => h) (Or.inl ⟨by rfl, ?_⟩) (by assumption) ?_
      rotate_left
      · intro w hSw; (try dsimp only at hSw); go_simp; try with_reducible rfl
      (try simp only [Act.put, List.setIfInBounds_toArray, List.set_cons_zero, List.set_cons_succ])
      refine wpAnyH_take (i := 5) (oi := ⟨some 22, _, _, _, _, _⟩) (v := ?_) rfl (by kernel_rfl) (by kernel_rfl) (by kernel_rfl) (fun _ _ _ h => h) (Or.inl ⟨by rfl, ?_⟩) (by assumption) ?_
      rotate_left
      · intro w hSw; (try dsimp only at hSw); go_simp; try with_reducible rfl
      (try simp only [Act.put, List.setIfInBounds_toArray, List.set_cons_zero, List.set_cons_succ])
      refine wpAnyH_take (i := 2) (oi := ⟨some 19, _, _, _, _, _⟩) (v := ?_) rfl (by kernel_rfl) (by kernel_rfl) (by kernel_rfl) (fun _ _ _ h => h) (Or.inl ⟨by rfl, ?_⟩) (by assumption) ?_
      rotate_left
      · intro w hSw; (try dsimp only at hSw); go_simp; try with_reducible rfl
      (try simp only [Act.put, List.setIfInBounds_toArray, List.set_cons_zero, List.set_cons_succ])
      refine wpAnyH_take (i := 6) (oi := ⟨some 23, _, _, _, _, _⟩) (v := ?_) rfl (by kernel_rfl) (by kernel_rfl) (by kernel_rfl) (fun _ _ _ h => h) (Or.inl ⟨by rfl, ?_⟩) (by assumption) ?_
      rotate_left
      · intro w hSw; (try dsimp only at hSw); go_simp; try with_reducible rfl
      (try simp only [Act.put, List.setIfInBounds_toArray, List.set_cons_zero, List.set_cons_succ])
      refine wpAnyH_take (i := 3) (oi := ⟨some 20, _, _, _, _, _⟩) (v := ?_) rfl (by kernel_rfl) (by kernel_rfl) (by kernel_rfl) (fun _ _ _ h => h) (Or.inl ⟨by rfl, ?_⟩) (by assumption) ?_
      rotate_left
      · intro w hSw; (try dsimp only at hSw); go_simp; try with_reducible rfl
      (try simp only [Act.put, List.setIfInBounds_toArray, List.set_cons_zero, List.set_cons_succ])
      refine wpAnyH_take (i := 7) (oi := ⟨some 24, _, _, _, _, _⟩) (v := ?_) rfl (by kernel_rfl) (by kernel_rfl) (by kernel_rfl) (fun _ _ _ h => h) (Or.inl ⟨by rfl, ?_⟩) (by assumption) ?_
      rotate_left
      · intro w hSw; (try dsimp only at hSw); go_simp; try with_reducible rfl
      (try simp only [Act.put, List.setIfInBounds_toArray, List.set_cons_zero, List.set_cons_succ])
      refine wpAnyH_take (i := 8) (oi := ⟨some 25, _, _, _, _, _⟩) (v := ?_) rfl (by kernel_rfl) (by kernel_rfl) (by kernel_rfl) (fun _ _ _ h => h) (Or.inl ⟨by rfl, ?_⟩) (by assumption) ?_
      rotate_left
      · intro w hSw; (try dsimp only at hSw); go_simp; try with_reducible rfl
      (try simp only [Act.put, List.setIfInBounds_toArray, List.set_cons_zero, List.set_cons_succ])
      refine wpAnyH_done (by kernel_rfl) ?_ _
      clear hHeld
      skip
      go_wp2_with (first | go_big_skip | go_big_guard | fail)
      go_roundw
      case rel => exact ⟨k + 1, by omega, by go_num, hD⟩
      case measure => simp [intOf]; omega
    · have e : k = n := by omega
      subst e
      have d1 : decide ((k : Int) < (k : Int)) = false := by simp
      go_wp2_with (first | go_big_skip | go_big_guard | fail)
      go_ret
      exact ⟨rfl, hst⟩
theorem sameI_eq (ao bo : Option Addr) (n c d : Nat) (l : List (Int)) (w : World) (hA : Rd w (.slice ao n c) 1 n (intsV l)) (hB : Rd w (.slice bo n d) 1 n (intsV l)) :
    Calls Try.prog 53 #[.slice ao n c, .slice bo n d] w fun e w' => e = .returned (.bool true) ∧ St w [] w' [] := by
  have hst := St.refl w
  have hN := hA.bd.2.1
  have hN2 := hA.bd.1
  have hlen : l.length = n := by have := hA.1; cases l <;> simp_all [intsV]
  have HN := hid hlen
  have d0 : ((n : Int) != (n : Int)) = false := by simp
  clear hlen
  go_enter Try.func53, Try.ntmps53
  go_wp2_with (first | go_big_skip | go_big_guard | fail)
  go_loopw [5] (fun q wr => ∃ k : Nat, k ≤ n ∧ q = .int .i64 k ∧ St w [] wr []) (fun q _ => n - (intOf q).toNat)
  case atStart => exact ⟨0, by omega, rfl, hst⟩
  case round =>
    clear hst
    obtain ⟨k, hk, rfl, hst⟩ := hrel
    by_cases hkN : k < n
    · have hkl : k < l.length := by rw [HN.out]; exact hkN
      obtain ⟨x, hx⟩ : ∃ x, l[k]? = some x := ⟨_, List.getElem?_eq_getElem hkl⟩
      obtain ⟨b, off, rfl, hr⟩ := hA.at hkN
      obtain ⟨b', off', rfl, hr'⟩ := hB.at hkN
      have h1 := hid (show w.cell? ⟨b, off + k, none⟩ = some (.int .i64 x) from hr k _ (intsV_get hx))
      have h2 := hid (show w.cell? ⟨b', off' + k, none⟩ = some (.int .i64 x) from hr' k _ (intsV_get hx))
      have hk2 : (k : Int) < (n : Int) := by omega
      have d1 : decide ((k : Int) < (n : Int)) = true := decide_eq_true hk2
      have n1 : (k : Int).toNat = k := by omega
      have n2 : (0 : Int) ≤ (k : Int) := by omega
      have z1 : IntKind.i64.wrap ((k : Int) + 1) = (k : Int) + 1 := IntWalk.i64_in _ (by omega)
      clear hr hr' hx hkl
      go_wp2_with (first | go_big_skip | go_big_guard | fail)
      have hD := hst.drew
      clear hst
      refine wp_region_held_drew (S := (fun w' => (loadVarH 3 ⟨b, off + k, none⟩).run Try.prog w' = .ok (.int .i64 x) w' ∧ (loadVarH 3 ⟨b', off' + k, none⟩).run Try.prog w' = .ok (.int .i64 x) w')) (by kernel_rfl) (by exact ⟨ldO hD (h1.out), ldO hD (h2.out)⟩) (fun hHeld => ?_)
      refine wpAnyH_take (i := 0) (oi := ⟨some 17, _, _, _, _, _⟩) (v := ?_) rfl (by kernel_rfl) (by kernel_rfl) (by kernel_rfl) (fun _ _ _ h => h) (Or.inl ⟨by rfl, ?_⟩) (by assumption) ?_
      rotate_left
      · intro w hSw; (try dsimp only at hSw); go_simp; try with_reducible rfl
      (try simp only [Act.put, List.setIfInBounds_toArray, List.set_cons_zero, List.set_cons_succ])
      refine wpAnyH_take (i := 1) (oi := ⟨some 18, _, _, _, _, _⟩) (v := ?_) rfl (by kernel_rfl) (by kernel_rfl) (by kernel_rfl) (fun _ _ _ h => h) (Or.inl ⟨by rfl, ?_⟩) (by assumption) ?_
      rotate_left
      · intro w hSw; (try dsimp only at hSw); go_simp; try with_reducible rfl
      (try simp only [Act.put, List.setIfInBounds_toArray, List.set_cons_zero, List.set_cons_succ])
      refine wpAnyH_take (i := 4) (oi := ⟨some 21, _, _, _, _, _⟩) (v := ?_) rfl (by kernel_rfl) (by kernel_rfl) (by kernel_rfl) (fun _ _ _ h => h) (Or.inl ⟨by rfl, ?_⟩) (by assumption) ?_
      rotate_left
      · intro w hSw; (try dsimp only at hSw); go_simp; try with_reducible rfl
      (try simp only [Act.put, List.setIfInBounds_toArray, List.set_cons_zero, List.set_cons_succ])
      refine wpAnyH_take (i := 5) (oi := ⟨some 22, _, _, _, _, _⟩) (v := ?_) rfl (by kernel_rfl) (by kernel_rfl) (by kernel_rfl) (fun _ _ _ h => h) (Or.inl ⟨by rfl, ?_⟩) (by assumption) ?_
      rotate_left
      · intro w hSw; (try dsimp only at hSw); go_simp; try with_reducible rfl
      (try simp only [Act.put, List.setIfInBounds_toArray, List.set_cons_zero, List.set_cons_succ])
      refine wpAnyH_take (i := 2) (oi := ⟨some 19, _, _, _, _, _⟩) (v := ?_) rfl (by kernel_rfl) (by kernel_rfl) (by kernel_rfl) (fun _ _ _ h => h) (Or.inl ⟨by rfl, ?_⟩) (by assumption) ?_
      rotate_left
      · intro w hSw; (try dsimp only at hSw); go_simp; try with_reducible rfl
      (try simp only [Act.put, List.setIfInBounds_toArray, List.set_cons_zero, List.set_cons_succ])
      refine wpAnyH_take (i := 6) (oi := ⟨some 23, _, _, _, _, _⟩) (v := ?_) rfl (by kernel_rfl) (by kernel_rfl) (by kernel_rfl) (fun _ _ _ h => h) (Or.inl ⟨by rfl, ?_⟩) (by assumption) ?_
      rotate_left
      · intro w hSw; (try dsimp only at hSw); go_simp; try with_reducible rfl
      (try simp only [Act.put, List.setIfInBounds_toArray, List.set_cons_zero, List.set_cons_succ])
      refine wpAnyH_take (i := 3) (oi := ⟨some 20, _, _, _, _, _⟩) (v := ?_) rfl (by kernel_rfl) (by kernel_rfl) (by kernel_rfl) (fun _ _ _ h => h) (Or.inl ⟨by rfl, ?_⟩) (by assumption) ?_
      rotate_left
      · intro w hSw; (try dsimp only at hSw); go_simp; try with_reducible rfl
      (try simp only [Act.put, List.setIfInBounds_toArray, List.set_cons_zero, List.set_cons_succ])
      refine wpAnyH_take (i := 7) (oi := ⟨some 24, _, _, _, _, _⟩) (v := ?_) rfl (by kernel_rfl) (by kernel_rfl) (by kernel_rfl) (fun _ _ _ h => h) (Or.inl ⟨by rfl, ?_⟩) (by assumption) ?_
      rotate_left
      · intro w hSw; (try dsimp only at hSw); go_simp; try with_reducible rfl
      (try simp only [Act.put, List.setIfInBounds_toArray, List.set_cons_zero, List.set_cons_succ])
      refine wpAnyH_take (i := 8) (oi := ⟨some 25, _, _, _, _, _⟩) (v := ?_) rfl (by kernel_rfl) (by kernel_rfl) (by kernel_rfl) (fun _ _ _ h => h) (Or.inl ⟨by rfl, ?_⟩) (by assumption) ?_
      rotate_left
      · intro w hSw; (try dsimp only at hSw); go_simp; try with_reducible rfl
      (try simp only [Act.put, List.setIfInBounds_toArray, List.set_cons_zero, List.set_cons_succ])
      refine wpAnyH_done (by kernel_rfl) ?_ _
      clear hHeld
      skip
      go_wp2_with (first | go_big_skip | go_big_guard | fail)
      go_roundw
      case rel => exact ⟨k + 1, by omega, by go_num, hD⟩
      case measure => simp [intOf]; omega
    · have e : k = n := by omega
      subst e
      have d1 : decide ((k : Int) < (k : Int)) = false := by simp
      go_wp2_with (first | go_big_skip | go_big_guard | fail)
      go_ret
      exact ⟨rfl, hst⟩
end
theorem sameOrder_eq (o : OV) (al bl ab bb : Option Addr) (cl dl cb db : Nat) (w : World) (hl : Rd w (.slice al o.l.length cl) 1 o.l.length (strsV o.l)) (hk : Rd w (.slice bl o.l.length dl) 1 o.l.length (strsV o.l)) (hb : Rd w (.slice ab o.b.length cb) 1 o.b.length (bytesV o.b)) (hc : Rd w (.slice bb o.b.length db) 1 o.b.length (bytesV o.b)) :
    Calls Try.prog 20 #[.agg (o.cells (.slice al o.l.length cl) (.slice ab o.b.length cb)).toArray, .agg (o.cells (.slice bl o.l.length dl) (.slice bb o.b.length db)).toArray] w fun e w' => e = .returned (.bool true) ∧ St w [] w' [] := by
  have hst0 := St.refl w
  have HL := hid hl
  have HK := hid hk
  have HB := hid hb
  have HC := hid hc
  obtain ⟨nl, hnl⟩ : ∃ nl, nl = o.l.length := ⟨_, rfl⟩
  obtain ⟨nb, hnb⟩ : ∃ nb, nb = o.b.length := ⟨_, rfl⟩
  rw [← hnl] at HL HK ⊢
  rw [← hnb] at HB HC ⊢
  clear hl hk hb hc hnl hnb
  show Calls Try.prog 20 #[.agg (List.toArray [.int .i64 o.op, .string ⟨o.name.toArray⟩, .string ⟨o.dest.toArray⟩, .int .i64 o.n, .int .i64 o.m, .slice al nl cl, .slice ab nb cb]), .agg (List.toArray [.int .i64 o.op, .string ⟨o.name.toArray⟩, .string ⟨o.dest.toArray⟩, .int .i64 o.n, .int .i64 o.m, .slice bl nl dl, .slice bb nb db])] w _
  go_enter Try.func20, Try.ntmps20
  go_wp2_with (first | go_big_skip | go_big_guard | (refine wl_boxA hst0 rfl rfl rfl ?_; intro g1 _ hst1; clear hst0) | (refine wl_boxA hst1 rfl rfl rfl ?_; intro g2 _ hst; clear hst1) | (refine wl_loadE rfl rfl rfl ?_; first | refine ⟨_, Loads.at [_] hst rfl, ?_⟩ | refine ⟨_, Loads.at [] hst rfl, ?_⟩) | (go_at_call 43; refine (sameS_eq al bl nl cl dl o.l _ (Rd.old hst HL.out) (Rd.old hst HK.out)).mono ?_; rintro _ w9 ⟨rfl, h4⟩; replace hst := St.call0 hst h4; clear h4) | (go_at_call 14; refine (sameBytes_any _ _ nb nb o.b o.b _ (Rd.old hst HB.out) (Rd.old hst HC.out)).mono ?_; rw [beq_self_eq_true]; rintro _ w9 ⟨rfl, h4⟩; replace hst := St.call0 hst h4; clear h4))
  go_ret
  exact ⟨rfl, hst.nil⟩
end Go.Proofs.Ytalfdcfcaamnbaa
namespace Go.Proofs.Ytalfdcfcaamnbaa
set_option linter.unusedVariables false
set_option linter.unusedSimpArgs false
open Go.RowKit Hp
attribute [local irreducible] Go.Calls Go.wpList
set_option maxRecDepth 100000
set_option maxHeartbeats 4000000
section
theorem loadedOq (A : Addr) : loadVar 25 A = loadVarH 25 A := rfl
theorem loadedOi (A : Addr) : loadVar 3 A = loadVarH 3 A := rfl
theorem neqUsesC (op : Int) (w : World) : (binOp .neq 35 (.agg (usesC op).toArray) (.agg (usesC op).toArray)).run Try.prog w = .ok (.bool false) w := neqUses (us op 0) (us op 1) (us op 2) (us op 3) (us op 4) (us op 5) w
theorem strs_isS {l : List (List UInt8)} (h : ∀ x ∈ l, x.length ≤ 100) : (strsV l).all isS = true := by
  rw [List.all_eq_true]
  intro v hv
  simp only [strsV, List.mem_map] at hv
  obtain ⟨x, hx, rfl⟩ := hv
  have := isS_one (t := x) (by have := h x hx; omega)
  simpa using this
attribute [local irreducible] usesC
attribute [local go_sem ↓] loadedOq loadedOi neqUsesC guardUses
theorem puts_far (o : OV) (op : Int) (al ab : Option Addr) (nl cl nb cb : Nat) (w : World) (hl : Rd w (.slice al nl cl) 1 nl (strsV o.l)) (hb : Rd w (.slice ab nb cb) 1 nb (bytesV o.b)) (hnl : o.l.length = nl) (hnb : o.b.length = nb) (hop : -9223372036854775808 ≤ o.op ∧ o.op ≤ 9223372036854775807) (hn : -9223372036854775808 ≤ o.n ∧ o.n ≤ 9223372036854775807) (hm : -9223372036854775808 ≤ o.m ∧ o.m ≤ 9223372036854775807) (hq : o.long nl nb = true) :
    Calls Try.prog 3 #[.agg (o.cells (.slice al nl cl) (.slice ab nb cb)).toArray, .int .i64 op] w fun e w' => e = .returned (.bool true) ∧ St w [] w' [] := by
  have hst0 := St.refl w
  have HL := hid hl
  have HB := hid hb
  have HNL := hid hnl
  have HNB := hid hnb
  have HQ := hid hq
  clear hl hb hnl hnb hq hop hn hm
  show Calls Try.prog 3 #[.agg (List.toArray [.int .i64 o.op, strV o.name, strV o.dest, .int .i64 o.n, .int .i64 o.m, .slice al nl cl, .slice ab nb cb]), .int .i64 op] w _
  go_enter Try.func3, Try.ntmps3
  go_wp2_with (first | go_big_skip | go_big_guard | (refine wl_boxA hst0 rfl rfl rfl ?_; intro g1 _ hst1; clear hst0) | (refine wl_loadE rfl rfl rfl ?_; first | refine ⟨_, Loads.whole (T := 25) [] hst1 rfl, ?_⟩ | refine ⟨_, Loads.whole (T := 25) [] hst2 rfl, ?_⟩) | (go_at_call 9; refine (longOrder_any o al ab nl cl nb cb _ (Rd.old hst1 HL.out) HNL.out).mono ?_; rw [HQ.out]; rintro _ w2 ⟨rfl, h4⟩; have hst2 := St.call0 hst1 h4; clear h4 hst1) | (go_at_call 10; refine (awake_any _).mono ?_; rintro _ w3 ⟨rfl, h4⟩; have hst3 := St.call0 hst2 h4; clear h4 hst2))
  go_ret
  exact ⟨rfl, hst3.nil⟩
theorem puts_near (o : OV) (op : Int) (al ab : Option Addr) (nl cl nb cb : Nat) (w : World) (hl : Rd w (.slice al nl cl) 1 nl (strsV o.l)) (hb : Rd w (.slice ab nb cb) 1 nb (bytesV o.b)) (hnl : o.l.length = nl) (hnb : o.b.length = nb) (hop : -9223372036854775808 ≤ o.op ∧ o.op ≤ 9223372036854775807) (hn : -9223372036854775808 ≤ o.n ∧ o.n ≤ 9223372036854775807) (hm : -9223372036854775808 ≤ o.m ∧ o.m ≤ 9223372036854775807) (hq : o.long nl nb = false) :
    Calls Try.prog 3 #[.agg (o.cells (.slice al nl cl) (.slice ab nb cb)).toArray, .int .i64 op] w fun e w' => e = .returned (.bool true) ∧ St w [] w' [] := by
  have hst0 := St.refl w
  have HL := hid hl
  have HB := hid hb
  have HNL := hid hnl
  have HNB := hid hnb
  have HQ := hid hq
  obtain ⟨q1, q2, q3, q4, q5⟩ := OV.short hnl hq
  have OK := hid (show o.Ok from ⟨hop, hn, hm, by omega, by omega, by omega, fun t ht => Nat.le_trans (q5 t ht) (by decide), by omega⟩)
  have HIS := hid (strs_isS q5)
  obtain ⟨R, hR⟩ : ∃ R, R = putO o := ⟨_, rfl⟩
  have HR := hid hR
  obtain ⟨ck, hck⟩ : ∃ ck, ck = o.check := ⟨_, rfl⟩
  have HCK := hid hck
  have HLl := hid (show nl ≤ 1000000 by omega)
  clear hR hck q1 q2 q5
  clear hl hb hnl hnb hq hop hn hm
  show Calls Try.prog 3 #[.agg (List.toArray [.int .i64 o.op, strV o.name, strV o.dest, .int .i64 o.n, .int .i64 o.m, .slice al nl cl, .slice ab nb cb]), .int .i64 op] w _
  go_enter Try.func3, Try.ntmps3
  go_wp2_with (first | go_big_skip | go_big_guard | (refine wl_boxA hst0 rfl rfl rfl ?_; intro g1 _ hst1; clear hst0) | (refine wl_loadE rfl rfl rfl ?_; first | refine ⟨_, Loads.whole (T := 25) [] hst1 rfl, ?_⟩ | refine ⟨_, Loads.whole (T := 25) [] hst2 rfl, ?_⟩ | refine ⟨_, Loads.whole (T := 25) [] hst5 rfl, ?_⟩ | refine ⟨_, Loads.whole (T := 25) [_, _, _, _] hst6 rfl, ?_⟩) | (go_at_call 9; refine (longOrder_any o al ab nl cl nb cb _ (Rd.old hst1 HL.out) HNL.out).mono ?_; rw [HQ.out]; rintro _ w2 ⟨rfl, h4⟩; have hst2 := St.call0 hst1 h4; clear h4 hst1) | (go_at_call 11; refine (copyOrder_any o al ab nl cl nb cb _ (Rd.old hst2 HL.out) (Rd.old hst2 HB.out) q3 q4 HIS.out).mono ?_; rintro _ w3 ⟨al2, cl2, ab2, cb2, rfl, h4⟩; have hst3 := St.call hst2 h4; clear h4 hst2) | (refine wl_alloc (T := 25) hst3 rfl rfl ?_; intro g5 _ hst4; clear hst3) | (refine wl_storeA (T := 25) (vs := [.int .i64 o.op, strV o.name, strV o.dest, .int .i64 o.n, .int .i64 o.m, .slice al2 nl cl2, .slice ab2 nb cb2]) [] hst4 rfl rfl rfl rfl rfl rfl rfl ?_; intro w5 hst5; clear hst4) | (go_at_call 12; refine (oput_any o OK.out al2 ab2 nl cl2 nb cb2 _ (Rd.rowP hst5 (.tail _ (.tail _ (.head _)))) (Rd.rowP hst5 (.tail _ (.head _))) HNL.out HNB.out).mono ?_; rw [← HR.out]; rintro _ w6 ⟨u, rfl, h4⟩; have hst6 := St.call hst5 h4; clear h4 hst5) | (go_at_call 13; refine (qput_any o OK.out al ab nl cl nb cb _ (Rd.old hst6 HL.out) (Rd.old hst6 HB.out) HNL.out HNB.out).mono ?_; rw [← HR.out]; rintro _ w7 ⟨u2, rfl, h4⟩; have hst7 := St.call hst6 h4; clear h4 hst6))
  have q9 : (R.1 != R.1) = false := bne_self_eq_false _
  have q8 : (ck != ck) = false := bne_self_eq_false _
  have hst100 := hst7.drew; clear hst7
  go_region_held3 (fun w' => (loadVarH 25 ⟨g5, 0, none⟩).run Try.prog w' = .ok (.agg (List.toArray ([.int .i64 o.op, strV o.name, strV o.dest, .int .i64 o.n, .int .i64 o.m, .slice al2 nl cl2, .slice ab2 nb cb2]))) w' ∧ (loadVarH 25 ⟨g1, 0, none⟩).run Try.prog w' = .ok (.agg (List.toArray ([.int .i64 o.op, strV o.name, strV o.dest, .int .i64 o.n, .int .i64 o.m, .slice al nl cl, .slice ab nb cb]))) w' ∧ (loadVarH 3 ⟨g1, 0, none⟩).run Try.prog w' = .ok (.int .i64 o.op) w')
    (first | exact ⟨ldA ([.int .i64 o.op, strV o.name, strV o.dest, .int .i64 o.n, .int .i64 o.m, .slice al2 nl cl2, .slice ab2 nb cb2]) [_, _] hst107 (rfl) (rfl), ldA ([.int .i64 o.op, strV o.name, strV o.dest, .int .i64 o.n, .int .i64 o.m, .slice al nl cl, .slice ab nb cb]) [_, _, _, _, _] hst107 (rfl) (rfl), ldS [_, _, _, _, _] hst107 rfl⟩ | exact ⟨ldA ([.int .i64 o.op, strV o.name, strV o.dest, .int .i64 o.n, .int .i64 o.m, .slice al2 nl cl2, .slice ab2 nb cb2]) [_, _] hst106 (rfl) (rfl), ldA ([.int .i64 o.op, strV o.name, strV o.dest, .int .i64 o.n, .int .i64 o.m, .slice al nl cl, .slice ab nb cb]) [_, _, _, _, _] hst106 (rfl) (rfl), ldS [_, _, _, _, _] hst106 rfl⟩ | exact ⟨ldA ([.int .i64 o.op, strV o.name, strV o.dest, .int .i64 o.n, .int .i64 o.m, .slice al2 nl cl2, .slice ab2 nb cb2]) [_, _] hst105 (rfl) (rfl), ldA ([.int .i64 o.op, strV o.name, strV o.dest, .int .i64 o.n, .int .i64 o.m, .slice al nl cl, .slice ab nb cb]) [_, _, _, _, _] hst105 (rfl) (rfl), ldS [_, _, _, _, _] hst105 rfl⟩ | exact ⟨ldA ([.int .i64 o.op, strV o.name, strV o.dest, .int .i64 o.n, .int .i64 o.m, .slice al2 nl cl2, .slice ab2 nb cb2]) [_, _] hst104 (rfl) (rfl), ldA ([.int .i64 o.op, strV o.name, strV o.dest, .int .i64 o.n, .int .i64 o.m, .slice al nl cl, .slice ab nb cb]) [_, _, _, _, _] hst104 (rfl) (rfl), ldS [_, _, _, _, _] hst104 rfl⟩ | exact ⟨ldA ([.int .i64 o.op, strV o.name, strV o.dest, .int .i64 o.n, .int .i64 o.m, .slice al2 nl cl2, .slice ab2 nb cb2]) [_, _] hst103 (rfl) (rfl), ldA ([.int .i64 o.op, strV o.name, strV o.dest, .int .i64 o.n, .int .i64 o.m, .slice al nl cl, .slice ab nb cb]) [_, _, _, _, _] hst103 (rfl) (rfl), ldS [_, _, _, _, _] hst103 rfl⟩ | exact ⟨ldA ([.int .i64 o.op, strV o.name, strV o.dest, .int .i64 o.n, .int .i64 o.m, .slice al2 nl cl2, .slice ab2 nb cb2]) [_, _] hst102 (rfl) (rfl), ldA ([.int .i64 o.op, strV o.name, strV o.dest, .int .i64 o.n, .int .i64 o.m, .slice al nl cl, .slice ab nb cb]) [_, _, _, _, _] hst102 (rfl) (rfl), ldS [_, _, _, _, _] hst102 rfl⟩ | exact ⟨ldA ([.int .i64 o.op, strV o.name, strV o.dest, .int .i64 o.n, .int .i64 o.m, .slice al2 nl cl2, .slice ab2 nb cb2]) [_, _] hst101 (rfl) (rfl), ldA ([.int .i64 o.op, strV o.name, strV o.dest, .int .i64 o.n, .int .i64 o.m, .slice al nl cl, .slice ab nb cb]) [_, _, _, _, _] hst101 (rfl) (rfl), ldS [_, _, _, _, _] hst101 rfl⟩ | exact ⟨ldA ([.int .i64 o.op, strV o.name, strV o.dest, .int .i64 o.n, .int .i64 o.m, .slice al2 nl cl2, .slice ab2 nb cb2]) [_, _] hst100 (rfl) (rfl), ldA ([.int .i64 o.op, strV o.name, strV o.dest, .int .i64 o.n, .int .i64 o.m, .slice al nl cl, .slice ab nb cb]) [_, _, _, _, _] hst100 (rfl) (rfl), ldS [_, _, _, _, _] hst100 rfl⟩)
    (first | (go_at_call 14; refine (sameBytes_any u u2 (outW R).length (outW R).length (outW R) (outW R) _ (Rd.rowP hst100 (.tail _ (.head _))) (Rd.rowP hst100 (.head _))).mono ?_; rw [beq_self_eq_true]; rintro _ _ ⟨rfl, h4⟩; have hst101 := St.call0 hst100 h4; clear h4 hst100) | (go_at_call 15; refine (check_any o al2 ab2 nl cl2 nb cb2 _ (Rd.rowP hst101 (.tail _ (.tail _ (.tail _ (.tail _ (.head _)))))) HNL.out HNB.out HLl.out).mono ?_; rw [← HCK.out]; rintro _ _ ⟨rfl, h4⟩; have hst102 := St.call0 hst101 h4; clear h4 hst101) | (go_at_call 16; refine (qcheck_any o al ab nl cl nb cb _ (Rd.old hst102 HL.out) HNL.out HNB.out HLl.out).mono ?_; rw [← HCK.out]; rintro _ _ ⟨rfl, h4⟩; have hst103 := St.call0 hst102 h4; clear h4 hst102) | (go_at_call 17; refine (uses_any op _).mono ?_; rintro _ _ ⟨rfl, h4⟩; have hst104 := St.call0 hst103 h4; clear h4 hst103) | (go_at_call 18; refine (quses_any op _).mono ?_; rintro _ _ ⟨rfl, h4⟩; have hst105 := St.call0 hst104 h4; clear h4 hst104) | (go_at_call 17; refine (uses_any o.op _).mono ?_; rintro _ _ ⟨rfl, h4⟩; have hst106 := St.call0 hst105 h4; clear h4 hst105) | (go_at_call 18; refine (quses_any o.op _).mono ?_; rintro _ _ ⟨rfl, h4⟩; have hst107 := St.call0 hst106 h4; clear h4 hst106))
  go_wp2_with (first | go_big_skip | go_big_guard | (go_at_call 19; refine (over_rowP u _ _ _ (hst107.ownsP (.tail _ (.head _))).1 (hst107.ownsP (.tail _ (.head _))).2).mono ?_; rintro _ w8 ⟨rfl, h4⟩; have hst20 := St.callRowP (St.front [_] hst107) h4; clear h4 hst107) | (refine wl_loadE rfl rfl rfl ?_; first | refine ⟨_, Loads.whole (T := 25) [_] hst20 rfl, ?_⟩ | refine ⟨_, Loads.whole (T := 25) [_, _, _, _] hst20 rfl, ?_⟩) | (go_at_call 20; obtain rfl := HNL.out; obtain rfl := HNB.out; refine (sameOrder_eq o al2 al ab2 ab cl2 cl cb2 cb _ (Rd.rowP hst20 (.tail _ (.tail _ (.tail _ (.head _))))) (Rd.old hst20 HL.out) (Rd.rowP hst20 (.tail _ (.tail _ (.head _)))) (Rd.old hst20 HB.out)).mono ?_; rintro _ w9 ⟨rfl, h4⟩; have hst21 := St.call0 hst20 h4; clear h4 hst20) | (go_at_call 10; refine (awake_any _).mono ?_; rintro _ w10 ⟨rfl, h4⟩; have hst22 := St.call0 hst21 h4; clear h4 hst21))
  go_ret
  exact ⟨rfl, hst22.nil⟩
theorem puts_law (o : OV) (op : Int) (al ab : Option Addr) (nl cl nb cb : Nat) (w : World) (hl : Rd w (.slice al nl cl) 1 nl (strsV o.l)) (hb : Rd w (.slice ab nb cb) 1 nb (bytesV o.b)) (hnl : o.l.length = nl) (hnb : o.b.length = nb) (hop : -9223372036854775808 ≤ o.op ∧ o.op ≤ 9223372036854775807) (hn : -9223372036854775808 ≤ o.n ∧ o.n ≤ 9223372036854775807) (hm : -9223372036854775808 ≤ o.m ∧ o.m ≤ 9223372036854775807) :
    Calls Try.prog 3 #[.agg (o.cells (.slice al nl cl) (.slice ab nb cb)).toArray, .int .i64 op] w fun e w' => e = .returned (.bool true) ∧ St w [] w' [] := by
  cases hq : o.long nl nb
  · exact puts_near o op al ab nl cl nb cb w hl hb hnl hnb hop hn hm hq
  · exact puts_far o op al ab nl cl nb cb w hl hb hnl hnb hop hn hm hq
end
end Go.Proofs.Ytalfdcfcaamnbaa
namespace Go.Proofs.Ytalfdcfcaamnbaa
set_option linter.unusedVariables false
set_option linter.unusedSimpArgs false
open Go.RowKit Hp
attribute [local irreducible] Go.Calls Go.wpList Hp.gvV Hp.gB Hp.gA Hp.bOr Hp.bAnd Hp.bNot Hp.bNe us
set_option maxRecDepth 100000
set_option maxHeartbeats 4000000
theorem oback_far1 (o : OV) (al ab : Option Addr) (nl cl nb cb : Nat) (ao : Option Addr) (m c : Nat) (w : World) (hl : Rd w (.slice al nl cl) 1 nl (strsV o.l)) (hnl : o.l.length = nl) (hq : o.long nl nb = true) :
    Calls Try.prog 7 #[.agg (o.cells (.slice al nl cl) (.slice ab nb cb)).toArray, .slice ao m c] w fun e w' => e = .returned (.bool true) ∧ St w [] w' [] := by
  have hst0 := St.refl w
  have HL := hid hl
  have HNL := hid hnl
  have HQ := hid hq
  clear hl hnl hq
  show Calls Try.prog 7 #[.agg (List.toArray [.int .i64 o.op, .string ⟨o.name.toArray⟩, .string ⟨o.dest.toArray⟩, .int .i64 o.n, .int .i64 o.m, .slice al nl cl, .slice ab nb cb]), .slice ao m c] w _
  go_enter Try.func7, Try.ntmps7
  go_wp2_with (first | go_big_skip | go_big_guard | (refine wl_boxA hst0 rfl rfl rfl ?_; intro g1 _ hst1; clear hst0) | (refine wl_loadE rfl rfl rfl ?_; first | refine ⟨_, Loads.at [] hst3 rfl, ?_⟩) | (go_at_call 6; refine (oknown_any _).mono ?_; rintro _ w3 ⟨rfl, h4⟩; have hst2 := St.call0 hst1 h4; clear h4 hst1) | (refine wl_loadE rfl rfl rfl ?_; first | refine ⟨_, Loads.whole (T := 25) [] hst2 rfl, ?_⟩) | (go_at_call 9; refine (longOrder_any o al ab nl cl nb cb _ (Rd.old hst2 HL.out) HNL.out).mono ?_; rw [HQ.out]; rintro _ w4 ⟨rfl, h4⟩; have hst3 := St.call0 hst2 h4; clear h4 hst2))
  go_ret
  exact ⟨rfl, hst3.nil⟩
theorem oback_far2 (o : OV) (al ab : Option Addr) (nl cl nb cb : Nat) (ao : Option Addr) (m c : Nat) (w : World) (hl : Rd w (.slice al nl cl) 1 nl (strsV o.l)) (hnl : o.l.length = nl) (hq : o.long nl nb = false) (d1 : decide ((20000 : Int) < (m : Int)) = true) :
    Calls Try.prog 7 #[.agg (o.cells (.slice al nl cl) (.slice ab nb cb)).toArray, .slice ao m c] w fun e w' => e = .returned (.bool true) ∧ St w [] w' [] := by
  have hst0 := St.refl w
  have HL := hid hl
  have HNL := hid hnl
  have HQ := hid hq
  clear hl hnl hq
  show Calls Try.prog 7 #[.agg (List.toArray [.int .i64 o.op, .string ⟨o.name.toArray⟩, .string ⟨o.dest.toArray⟩, .int .i64 o.n, .int .i64 o.m, .slice al nl cl, .slice ab nb cb]), .slice ao m c] w _
  go_enter Try.func7, Try.ntmps7
  go_wp2_with (first | go_big_skip | go_big_guard | (refine wl_boxA hst0 rfl rfl rfl ?_; intro g1 _ hst1; clear hst0) | (refine wl_loadE rfl rfl rfl ?_; first | refine ⟨_, Loads.at [] hst3 rfl, ?_⟩) | (go_at_call 6; refine (oknown_any _).mono ?_; rintro _ w3 ⟨rfl, h4⟩; have hst2 := St.call0 hst1 h4; clear h4 hst1) | (refine wl_loadE rfl rfl rfl ?_; first | refine ⟨_, Loads.whole (T := 25) [] hst2 rfl, ?_⟩) | (go_at_call 9; refine (longOrder_any o al ab nl cl nb cb _ (Rd.old hst2 HL.out) HNL.out).mono ?_; rw [HQ.out]; rintro _ w4 ⟨rfl, h4⟩; have hst3 := St.call0 hst2 h4; clear h4 hst2))
  go_ret
  exact ⟨rfl, hst3.nil⟩
end Go.Proofs.Ytalfdcfcaamnbaa
namespace Go.Proofs.Ytalfdcfcaamnbaa
set_option linter.unusedVariables false
set_option linter.unusedSimpArgs false
open Go.RowKit Hp
attribute [local irreducible] Go.Calls Go.wpList Hp.gvV Hp.gB Hp.gA Hp.bOr Hp.bAnd Hp.bNot Hp.bNe us
set_option maxRecDepth 100000
set_option maxHeartbeats 4000000
theorem oback_gx (o : OV) (al ab : Option Addr) (nl cl nb cb : Nat) (ao : Option Addr) (m c : Nat) (bs : List UInt8) (w : World) (hl : Rd w (.slice al nl cl) 1 nl (strsV o.l)) (hb : Rd w (.slice ab nb cb) 1 nb (bytesV o.b)) (hnl : o.l.length = nl) (hnb : o.b.length = nb) (hA : Rd w (.slice ao m c) 1 m (bytesV bs)) (hm : bs.length = m) (hop : -9223372036854775808 ≤ o.op ∧ o.op ≤ 9223372036854775807) (hn : -9223372036854775808 ≤ o.n ∧ o.n ≤ 9223372036854775807) (hmm : -9223372036854775808 ≤ o.m ∧ o.m ≤ 9223372036854775807) (hq : o.long nl nb = false) (d1 : decide ((20000 : Int) < (m : Int)) = false) (h0 : o.check = 0) (e1 p1 : Int) (hR : getO bs = (OV.none, e1, p1)) (h1 : e1 ≠ 0) :
    Calls Try.prog 7 #[.agg (o.cells (.slice al nl cl) (.slice ab nb cb)).toArray, .slice ao m c] w fun e w' => e = .returned (.bool true) ∧ St w [] w' [] := by
  have hst0 := St.refl w
  obtain ⟨q1, q2, q3, q4, q5⟩ := OV.short hnl hq
  have b3 : m ≤ 20000 := by have := of_decide_eq_false d1; omega
  have b4 : m ≤ 100000 := by omega
  have OK := hid (show o.Ok from ⟨hop, hn, hmm, by omega, by omega, by omega, fun t ht => Nat.le_trans (q5 t ht) (by decide), by omega⟩)
  have HLl := hid (show nl ≤ 1000000 by omega)
  have HBAD := hid (show (((o.bare nl nb && (o.small nl nb != (o.check == 0))) && ((nl : Int) == 0)) || (!o.bare nl nb && (o.check == 0))) = false by rw [← hnl, ← hnb]; exact o.sound)
  have hsz : ∀ x : List UInt8, (⟨x.toArray⟩ : ByteArray).size = x.length := fun x => by simp [ByteArray.size]
  have HL := hid hl
  have HB := hid hb
  have HNL := hid hnl
  have HNB := hid hnb
  have HA := hid hA
  have HM := hid hm
  have HQ := hid hq
  have H0 := hid h0
  have HR := hid hR
  rw [h0] at HBAD
  have dF : (e1 != 0) = true := by simpa using h1
  have HP := hid (putO_ok h0)
  have HG := hid (getO_parts h0)
  have hlen : o.parts.length ≤ 100000 := by rw [OV.length_parts (OV.fits h0), hnl, hnb]; omega
  obtain ⟨X, hX⟩ : ∃ X, X = o.parts := ⟨_, rfl⟩
  rw [← hX] at HP HG hlen
  obtain ⟨L, hL⟩ : ∃ L, L = X.length := ⟨_, rfl⟩
  have HLn := hid hL.symm
  have b5 : L ≤ 100000 := by omega
  clear hX hL hlen
  clear q1 q2 q5 hl hb hnl hnb hA hm hop hn hmm hq hR h0 h1
  show Calls Try.prog 7 #[.agg (List.toArray [.int .i64 o.op, .string ⟨o.name.toArray⟩, .string ⟨o.dest.toArray⟩, .int .i64 o.n, .int .i64 o.m, .slice al nl cl, .slice ab nb cb]), .slice ao m c] w _
  go_enter Try.func7, Try.ntmps7
  go_wp2_with (first | go_big_skip | (refine wl_boxA hst0 rfl rfl rfl ?_; intro g1 _ hst1; clear hst0) | (go_at_call 6; refine (oknown_any _).mono ?_; rintro _ w3 ⟨rfl, h4⟩; have hst2 := St.call0 hst1 h4; clear h4 hst1) | (go_at_call 9; refine (longOrder_any o al ab nl cl nb cb _ (Rd.old hst2 HL.out) HNL.out).mono ?_; rw [HQ.out]; rintro _ w4 ⟨rfl, h4⟩; have hst3 := St.call0 hst2 h4; clear h4 hst2) | (go_at_call 12; refine (oput_any o OK.out al ab nl cl nb cb _ (Rd.old hst3 HL.out) (Rd.old hst3 HB.out) HNL.out HNB.out).mono ?_; rw [HP.out]; rintro _ w5 ⟨u, rfl, h4⟩; have h5 : St _ [] w5 [.rowP isB u 5 1 L (bytesV X)] := (by rw [← HLn.out]; exact h4); have hst4 := St.call hst3 h5; clear h4 h5 hst3; obtain ⟨au, cu, rfl⟩ := St.rowPSliceF [] hst4) | (go_at_call 15; refine (check_any o al ab nl cl nb cb _ (Rd.old hst4 HL.out) HNL.out HNB.out HLl.out).mono ?_; rw [H0.out]; rintro _ w6 ⟨rfl, h4⟩; have hst5 := St.call0 hst4 h4; clear h4 hst4) | (go_at_call 22; refine (oget_any au L cu X _ (Rd.rowP hst5 (.head _)) HLn.out b5).mono ?_; rw [HG.out]; rintro _ w7 ⟨lv, bv, rfl, h4⟩; have hst6 := St.call hst5 h4; clear h4 hst5; obtain ⟨al2, cl2, rfl⟩ := St.rowPSliceF [] hst6; obtain ⟨ab2, cb2, rfl⟩ := St.rowPSliceF [_] hst6) | (refine wl_alloc (T := 25) hst6 rfl rfl ?_; intro c8 _ hst7; clear hst6) | (refine wl_alloc (T := 42) hst7 rfl rfl ?_; intro c9 _ hst8; clear hst7) | (refine wl_storeA (T := 25) (vs := o.cells (.slice al2 o.l.length cl2) (.slice ab2 o.b.length cb2)) [_] hst8 rfl rfl rfl rfl rfl rfl rfl ?_; intro w9 hst9; clear hst8) | (refine wl_storeA (T := 42) (vs := [.int .i64 0, .int .i64 0]) [] hst9 rfl rfl rfl rfl rfl rfl rfl ?_; intro w10 hst10; clear hst9) | (go_at_call 20; obtain rfl := HNL.out; obtain rfl := HNB.out; refine (sameOrder_eq o al al2 ab ab2 cl cl2 cb cb2 _ (Rd.old hst10 HL.out) (Rd.rowP hst10 (.tail _ (.tail _ (.head _)))) (Rd.old hst10 HB.out) (Rd.rowP hst10 (.tail _ (.tail _ (.tail _ (.head _)))))).mono ?_; rintro _ w11 ⟨rfl, h4⟩; have hst11 := St.call0 hst10 h4; clear h4 hst10) | (go_at_call 17; refine (uses_any o.op _).mono ?_; rintro _ w12 ⟨rfl, h4⟩; have hst12 := St.call0 hst11 h4; clear h4 hst11) | (refine wl_alloc (T := 35) hst12 rfl rfl ?_; intro c10 _ hst13; clear hst12) | (refine wl_storeA (T := 35) [] hst13 rfl rfl rfl rfl rfl rfl rfl ?_; intro w14 hst; clear hst13) | (go_at_call 22; refine (oget_any ao m c bs _ (Rd.old hst HA.out) HM.out b4).mono ?_; rw [HR.out]; rintro _ w15 ⟨lv, bv, rfl, h4⟩; have hst15 := St.call hst h4; clear h4 hst; obtain ⟨bl, dl, rfl⟩ := St.rowPSliceF [] hst15; obtain ⟨bb, db, rfl⟩ := St.rowPSliceF [_] hst15) | (refine wl_alloc (T := 25) hst15 rfl rfl ?_; intro c13 _ hst16; clear hst15) | (refine wl_alloc (T := 42) hst16 rfl rfl ?_; intro c14 _ hst17; clear hst16) | (refine wl_storeA (T := 25) (vs := [.int .i64 OV.none.op, strV OV.none.name, strV OV.none.dest, .int .i64 OV.none.n, .int .i64 OV.none.m, .slice bl 0 dl, .slice bb 0 db]) [_] hst17 rfl rfl rfl rfl rfl rfl rfl ?_; intro w18 hst18; clear hst17) | (refine wl_storeA (T := 42) [] hst18 rfl rfl rfl rfl rfl rfl rfl ?_; intro w19 hst19; clear hst18) | (refine wl_build0 rfl rfl ?_) | (go_at_call 20; refine (sameOrder_eq OV.none bl none bb none dl 0 db 0 _ (Rd.rowP hst19 (.tail _ (.tail _ (.head _)))) (Rd.nil _ _) (Rd.rowP hst19 (.tail _ (.tail _ (.tail _ (.head _))))) (Rd.nil _ _)).mono ?_; rintro _ w20 ⟨rfl, h4⟩; have hst20 := St.call0 hst19 h4; clear h4 hst19) | (refine wl_loadE rfl rfl rfl ?_; first | refine ⟨_, Loads.whole (T := 25) [] hst2 rfl, ?_⟩ | refine ⟨_, Loads.whole (T := 25) [] hst3 rfl, ?_⟩ | refine ⟨_, Loads.whole (T := 25) [_] hst4 rfl, ?_⟩ | refine ⟨_, Loads.whole (T := 25) [_] hst10 rfl, ?_⟩ | refine ⟨_, Loads.whole (T := 25) [_, _, _, _, _] hst10 rfl, ?_⟩ | refine ⟨_, Loads.whole (T := 25) [_] hst19 rfl, ?_⟩) | (refine wl_loadE rfl rfl rfl ?_; first | refine ⟨_, Loads.at [] hst10 rfl, ?_⟩ | refine ⟨_, Loads.at [_, _, _, _, _] hst11 rfl, ?_⟩ | refine ⟨_, Loads.at [] hst rfl, ?_⟩ | refine ⟨_, Loads.at [_, _, _, _, _, _] hst rfl, ?_⟩ | refine ⟨_, Loads.at [] hst19 rfl, ?_⟩) | go_big_want | (show wpList _ _ _ (Oper.mk _ (.fieldAddr _ _ _) _ _ _ (some _) :: _) _ _; refine wl_gfld1 rfl (by first | exact wanted_b rfl rfl | exact wanted_g rfl rfl) (by first | exact (fun hg => gvV_on hg) | exact (fun hg => gvV_gA hg) | exact (fun _ => rfl)) (by kernel_rfl) ?_; (try simp only [Act.put, List.setIfInBounds_toArray, List.set_cons_zero, List.set_cons_succ])) | (show wpList _ _ _ (Oper.mk _ (.load _ _) _ _ _ (some _) :: _) _ _; refine wl_gloadE rfl (by first | exact wanted_b rfl rfl | exact wanted_g rfl rfl) (by first | exact (fun hg => gvV_on hg) | exact (fun hg => gvV_gA hg) | exact (fun _ => rfl)) ?_; (first | refine ⟨_, Loads.at [] hst rfl, ?_⟩ | refine ⟨_, Loads.at [_, _, _, _, _, _] hst rfl, ?_⟩); (try simp only [Act.put, List.setIfInBounds_toArray, List.set_cons_zero, List.set_cons_succ]); (repeat ((first | (show wpList _ _ _ (Oper.mk _ (.move _) _ _ _ none :: _) _ _; refine wl_mv rfl rfl rfl ?_) | (show wpList _ _ _ (Oper.mk _ (.pick _ _ _) _ _ _ none :: _) _ _; (first | (refine wl_pickOr rfl rfl rfl rfl rfl ?_; intro q hq) | (refine wl_pickAnd rfl rfl rfl rfl rfl ?_; intro q hq))) | (show wpList _ _ _ (Oper.mk _ (.pick _ _ _) _ _ _ (some _) :: _) _ _; (first | (refine wl_gpickOr rfl (by first | exact wanted_b rfl rfl | exact wanted_g rfl rfl) rfl rfl rfl ?_; intro q hq) | (refine wl_gpickAnd rfl (by first | exact wanted_b rfl rfl | exact wanted_g rfl rfl) rfl rfl rfl ?_; intro q hq))) | (show wpList _ _ _ (Oper.mk _ (.move _) _ _ _ (some _) :: _) _ _; refine wl_gmove rfl (by first | exact wanted_b rfl rfl | exact wanted_g rfl rfl) (by first | exact (fun hg => gvV_on hg) | exact (fun hg => gvV_gA hg) | exact (fun _ => rfl)) ?_)); (try simp only [Act.put, List.setIfInBounds_toArray, List.set_cons_zero, List.set_cons_succ])))) | (show wpList _ _ _ (Oper.mk _ (.binOp _ 3 _ _ _) _ _ _ (some _) :: _) _ _; refine wl_gcmp rfl (by first | exact wanted_b rfl rfl | exact wanted_g rfl rfl) (by first | exact (fun hg => gvV_on hg) | exact (fun hg => gvV_gA hg) | exact (fun _ => rfl)) (by first | exact (fun hg => gvV_on hg) | exact (fun hg => gvV_gA hg) | exact (fun _ => rfl)) rfl ?_; (try simp only [Act.put, List.setIfInBounds_toArray, List.set_cons_zero, List.set_cons_succ]); (repeat ((first | (show wpList _ _ _ (Oper.mk _ (.move _) _ _ _ none :: _) _ _; refine wl_mv rfl rfl rfl ?_) | (show wpList _ _ _ (Oper.mk _ (.pick _ _ _) _ _ _ none :: _) _ _; (first | (refine wl_pickOr rfl rfl rfl rfl rfl ?_; intro q hq) | (refine wl_pickAnd rfl rfl rfl rfl rfl ?_; intro q hq))) | (show wpList _ _ _ (Oper.mk _ (.pick _ _ _) _ _ _ (some _) :: _) _ _; (first | (refine wl_gpickOr rfl (by first | exact wanted_b rfl rfl | exact wanted_g rfl rfl) rfl rfl rfl ?_; intro q hq) | (refine wl_gpickAnd rfl (by first | exact wanted_b rfl rfl | exact wanted_g rfl rfl) rfl rfl rfl ?_; intro q hq))) | (show wpList _ _ _ (Oper.mk _ (.move _) _ _ _ (some _) :: _) _ _; refine wl_gmove rfl (by first | exact wanted_b rfl rfl | exact wanted_g rfl rfl) (by first | exact (fun hg => gvV_on hg) | exact (fun hg => gvV_gA hg) | exact (fun _ => rfl)) ?_)); (try simp only [Act.put, List.setIfInBounds_toArray, List.set_cons_zero, List.set_cons_succ])))) | (show wpList _ _ _ (Oper.mk _ (.binOp _ 29 _ _ _) _ _ _ (some _) :: _) _ _; refine wl_gcmp rfl (by first | exact wanted_b rfl rfl | exact wanted_g rfl rfl) (by first | exact (fun hg => gvV_on hg) | exact (fun hg => gvV_gA hg) | exact (fun _ => rfl)) (by first | exact (fun hg => gvV_on hg) | exact (fun hg => gvV_gA hg) | exact (fun _ => rfl)) rfl ?_; (try simp only [Act.put, List.setIfInBounds_toArray, List.set_cons_zero, List.set_cons_succ]); (repeat ((first | (show wpList _ _ _ (Oper.mk _ (.move _) _ _ _ none :: _) _ _; refine wl_mv rfl rfl rfl ?_) | (show wpList _ _ _ (Oper.mk _ (.pick _ _ _) _ _ _ none :: _) _ _; (first | (refine wl_pickOr rfl rfl rfl rfl rfl ?_; intro q hq) | (refine wl_pickAnd rfl rfl rfl rfl rfl ?_; intro q hq))) | (show wpList _ _ _ (Oper.mk _ (.pick _ _ _) _ _ _ (some _) :: _) _ _; (first | (refine wl_gpickOr rfl (by first | exact wanted_b rfl rfl | exact wanted_g rfl rfl) rfl rfl rfl ?_; intro q hq) | (refine wl_gpickAnd rfl (by first | exact wanted_b rfl rfl | exact wanted_g rfl rfl) rfl rfl rfl ?_; intro q hq))) | (show wpList _ _ _ (Oper.mk _ (.move _) _ _ _ (some _) :: _) _ _; refine wl_gmove rfl (by first | exact wanted_b rfl rfl | exact wanted_g rfl rfl) (by first | exact (fun hg => gvV_on hg) | exact (fun hg => gvV_gA hg) | exact (fun _ => rfl)) ?_)); (try simp only [Act.put, List.setIfInBounds_toArray, List.set_cons_zero, List.set_cons_succ])))) | (show wpList _ _ _ (Oper.mk _ (.binOp .neq 9 _ _ _) _ _ _ (some _) :: _) _ _; refine wl_gneqS rfl (by first | exact wanted_b rfl rfl | exact wanted_g rfl rfl) (by first | exact (fun hg => gvV_on hg) | exact (fun hg => gvV_gA hg) | exact (fun _ => rfl)) (by first | exact (fun hg => gvV_on hg) | exact (fun hg => gvV_gA hg) | exact (fun _ => rfl)) ?_; (try simp only [Act.put, List.setIfInBounds_toArray, List.set_cons_zero, List.set_cons_succ]); (repeat ((first | (show wpList _ _ _ (Oper.mk _ (.move _) _ _ _ none :: _) _ _; refine wl_mv rfl rfl rfl ?_) | (show wpList _ _ _ (Oper.mk _ (.pick _ _ _) _ _ _ none :: _) _ _; (first | (refine wl_pickOr rfl rfl rfl rfl rfl ?_; intro q hq) | (refine wl_pickAnd rfl rfl rfl rfl rfl ?_; intro q hq))) | (show wpList _ _ _ (Oper.mk _ (.pick _ _ _) _ _ _ (some _) :: _) _ _; (first | (refine wl_gpickOr rfl (by first | exact wanted_b rfl rfl | exact wanted_g rfl rfl) rfl rfl rfl ?_; intro q hq) | (refine wl_gpickAnd rfl (by first | exact wanted_b rfl rfl | exact wanted_g rfl rfl) rfl rfl rfl ?_; intro q hq))) | (show wpList _ _ _ (Oper.mk _ (.move _) _ _ _ (some _) :: _) _ _; refine wl_gmove rfl (by first | exact wanted_b rfl rfl | exact wanted_g rfl rfl) (by first | exact (fun hg => gvV_on hg) | exact (fun hg => gvV_gA hg) | exact (fun _ => rfl)) ?_)); (try simp only [Act.put, List.setIfInBounds_toArray, List.set_cons_zero, List.set_cons_succ])))) | (show wpList _ _ _ (Oper.mk _ (.binOp .eql 9 _ _ _) _ _ _ (some _) :: _) _ _; refine wl_geqS rfl (by first | exact wanted_b rfl rfl | exact wanted_g rfl rfl) (by first | exact (fun hg => gvV_on hg) | exact (fun hg => gvV_gA hg) | exact (fun _ => rfl)) (by first | exact (fun hg => gvV_on hg) | exact (fun hg => gvV_gA hg) | exact (fun _ => rfl)) ?_; (try simp only [Act.put, List.setIfInBounds_toArray, List.set_cons_zero, List.set_cons_succ]); (repeat ((first | (show wpList _ _ _ (Oper.mk _ (.move _) _ _ _ none :: _) _ _; refine wl_mv rfl rfl rfl ?_) | (show wpList _ _ _ (Oper.mk _ (.pick _ _ _) _ _ _ none :: _) _ _; (first | (refine wl_pickOr rfl rfl rfl rfl rfl ?_; intro q hq) | (refine wl_pickAnd rfl rfl rfl rfl rfl ?_; intro q hq))) | (show wpList _ _ _ (Oper.mk _ (.pick _ _ _) _ _ _ (some _) :: _) _ _; (first | (refine wl_gpickOr rfl (by first | exact wanted_b rfl rfl | exact wanted_g rfl rfl) rfl rfl rfl ?_; intro q hq) | (refine wl_gpickAnd rfl (by first | exact wanted_b rfl rfl | exact wanted_g rfl rfl) rfl rfl rfl ?_; intro q hq))) | (show wpList _ _ _ (Oper.mk _ (.move _) _ _ _ (some _) :: _) _ _; refine wl_gmove rfl (by first | exact wanted_b rfl rfl | exact wanted_g rfl rfl) (by first | exact (fun hg => gvV_on hg) | exact (fun hg => gvV_gA hg) | exact (fun _ => rfl)) ?_)); (try simp only [Act.put, List.setIfInBounds_toArray, List.set_cons_zero, List.set_cons_succ])))) | (show wpList _ _ _ (Oper.mk _ (.binOp .neq 9 _ _ _) _ _ _ none :: _) _ _; refine wl_neqS rfl rfl rfl rfl ?_; (try simp only [Act.put, List.setIfInBounds_toArray, List.set_cons_zero, List.set_cons_succ]); (repeat ((first | (show wpList _ _ _ (Oper.mk _ (.move _) _ _ _ none :: _) _ _; refine wl_mv rfl rfl rfl ?_) | (show wpList _ _ _ (Oper.mk _ (.pick _ _ _) _ _ _ none :: _) _ _; (first | (refine wl_pickOr rfl rfl rfl rfl rfl ?_; intro q hq) | (refine wl_pickAnd rfl rfl rfl rfl rfl ?_; intro q hq))) | (show wpList _ _ _ (Oper.mk _ (.pick _ _ _) _ _ _ (some _) :: _) _ _; (first | (refine wl_gpickOr rfl (by first | exact wanted_b rfl rfl | exact wanted_g rfl rfl) rfl rfl rfl ?_; intro q hq) | (refine wl_gpickAnd rfl (by first | exact wanted_b rfl rfl | exact wanted_g rfl rfl) rfl rfl rfl ?_; intro q hq))) | (show wpList _ _ _ (Oper.mk _ (.move _) _ _ _ (some _) :: _) _ _; refine wl_gmove rfl (by first | exact wanted_b rfl rfl | exact wanted_g rfl rfl) (by first | exact (fun hg => gvV_on hg) | exact (fun hg => gvV_gA hg) | exact (fun _ => rfl)) ?_)); (try simp only [Act.put, List.setIfInBounds_toArray, List.set_cons_zero, List.set_cons_succ])))) | (show wpList _ _ _ (Oper.mk _ (.binOp .eql 9 _ _ _) _ _ _ none :: _) _ _; refine wl_eqS rfl rfl rfl rfl ?_; (try simp only [Act.put, List.setIfInBounds_toArray, List.set_cons_zero, List.set_cons_succ]); (repeat ((first | (show wpList _ _ _ (Oper.mk _ (.move _) _ _ _ none :: _) _ _; refine wl_mv rfl rfl rfl ?_) | (show wpList _ _ _ (Oper.mk _ (.pick _ _ _) _ _ _ none :: _) _ _; (first | (refine wl_pickOr rfl rfl rfl rfl rfl ?_; intro q hq) | (refine wl_pickAnd rfl rfl rfl rfl rfl ?_; intro q hq))) | (show wpList _ _ _ (Oper.mk _ (.pick _ _ _) _ _ _ (some _) :: _) _ _; (first | (refine wl_gpickOr rfl (by first | exact wanted_b rfl rfl | exact wanted_g rfl rfl) rfl rfl rfl ?_; intro q hq) | (refine wl_gpickAnd rfl (by first | exact wanted_b rfl rfl | exact wanted_g rfl rfl) rfl rfl rfl ?_; intro q hq))) | (show wpList _ _ _ (Oper.mk _ (.move _) _ _ _ (some _) :: _) _ _; refine wl_gmove rfl (by first | exact wanted_b rfl rfl | exact wanted_g rfl rfl) (by first | exact (fun hg => gvV_on hg) | exact (fun hg => gvV_gA hg) | exact (fun _ => rfl)) ?_)); (try simp only [Act.put, List.setIfInBounds_toArray, List.set_cons_zero, List.set_cons_succ])))) | (show wpList _ _ _ (Oper.mk _ (.call (Call.mk (.builtin .len) _ #[9])) _ _ _ (some _) :: _) _ _; refine wl_glenS rfl (by first | exact wanted_b rfl rfl | exact wanted_g rfl rfl) (by first | exact (fun hg => gvV_on hg) | exact (fun hg => gvV_gA hg) | exact (fun _ => rfl)) ?_; (try simp only [Act.put, List.setIfInBounds_toArray, List.set_cons_zero, List.set_cons_succ])) | (show wpList _ _ _ (Oper.mk _ (.call (Call.mk (.builtin .len) _ #[23])) _ _ _ (some _) :: _) _ _; refine wl_glen rfl (by first | exact wanted_b rfl rfl | exact wanted_g rfl rfl) (by first | exact (fun hg => gvV_on hg) | exact (fun hg => gvV_gA hg) | exact (fun _ => rfl)) ?_; (try simp only [Act.put, List.setIfInBounds_toArray, List.set_cons_zero, List.set_cons_succ])) | (show wpList _ _ _ (Oper.mk _ (.call (Call.mk (.builtin .len) _ #[22])) _ _ _ (some _) :: _) _ _; refine wl_glen rfl (by first | exact wanted_b rfl rfl | exact wanted_g rfl rfl) (by first | exact (fun hg => gvV_on hg) | exact (fun hg => gvV_gA hg) | exact (fun _ => rfl)) ?_; (try simp only [Act.put, List.setIfInBounds_toArray, List.set_cons_zero, List.set_cons_succ])) | (show wpList _ _ _ (Oper.mk _ (.unOp .not _ _) _ _ _ (some _) :: _) _ _; refine wl_gnot rfl (by first | exact wanted_b rfl rfl | exact wanted_g rfl rfl) (by first | exact (fun hg => gvV_on hg) | exact (fun hg => gvV_gA hg) | exact (fun _ => rfl)) ?_; (try simp only [Act.put, List.setIfInBounds_toArray, List.set_cons_zero, List.set_cons_succ]); (repeat ((first | (show wpList _ _ _ (Oper.mk _ (.move _) _ _ _ none :: _) _ _; refine wl_mv rfl rfl rfl ?_) | (show wpList _ _ _ (Oper.mk _ (.pick _ _ _) _ _ _ none :: _) _ _; (first | (refine wl_pickOr rfl rfl rfl rfl rfl ?_; intro q hq) | (refine wl_pickAnd rfl rfl rfl rfl rfl ?_; intro q hq))) | (show wpList _ _ _ (Oper.mk _ (.pick _ _ _) _ _ _ (some _) :: _) _ _; (first | (refine wl_gpickOr rfl (by first | exact wanted_b rfl rfl | exact wanted_g rfl rfl) rfl rfl rfl ?_; intro q hq) | (refine wl_gpickAnd rfl (by first | exact wanted_b rfl rfl | exact wanted_g rfl rfl) rfl rfl rfl ?_; intro q hq))) | (show wpList _ _ _ (Oper.mk _ (.move _) _ _ _ (some _) :: _) _ _; refine wl_gmove rfl (by first | exact wanted_b rfl rfl | exact wanted_g rfl rfl) (by first | exact (fun hg => gvV_on hg) | exact (fun hg => gvV_gA hg) | exact (fun _ => rfl)) ?_)); (try simp only [Act.put, List.setIfInBounds_toArray, List.set_cons_zero, List.set_cons_succ])))) | (show wpList _ _ _ (Oper.mk _ (.binOp .neq 4 _ _ _) _ _ _ (some _) :: _) _ _; refine wl_gneqB rfl rfl (by first | exact wanted_b rfl rfl | exact wanted_g rfl rfl) (by first | exact (fun hg => gvV_on hg) | exact (fun hg => gvV_gA hg) | exact (fun _ => rfl)) (by first | exact (fun hg => gvV_on hg) | exact (fun hg => gvV_gA hg) | exact (fun _ => rfl)) ?_; (try simp only [Act.put, List.setIfInBounds_toArray, List.set_cons_zero, List.set_cons_succ]); (repeat ((first | (show wpList _ _ _ (Oper.mk _ (.move _) _ _ _ none :: _) _ _; refine wl_mv rfl rfl rfl ?_) | (show wpList _ _ _ (Oper.mk _ (.pick _ _ _) _ _ _ none :: _) _ _; (first | (refine wl_pickOr rfl rfl rfl rfl rfl ?_; intro q hq) | (refine wl_pickAnd rfl rfl rfl rfl rfl ?_; intro q hq))) | (show wpList _ _ _ (Oper.mk _ (.pick _ _ _) _ _ _ (some _) :: _) _ _; (first | (refine wl_gpickOr rfl (by first | exact wanted_b rfl rfl | exact wanted_g rfl rfl) rfl rfl rfl ?_; intro q hq) | (refine wl_gpickAnd rfl (by first | exact wanted_b rfl rfl | exact wanted_g rfl rfl) rfl rfl rfl ?_; intro q hq))) | (show wpList _ _ _ (Oper.mk _ (.move _) _ _ _ (some _) :: _) _ _; refine wl_gmove rfl (by first | exact wanted_b rfl rfl | exact wanted_g rfl rfl) (by first | exact (fun hg => gvV_on hg) | exact (fun hg => gvV_gA hg) | exact (fun _ => rfl)) ?_)); (try simp only [Act.put, List.setIfInBounds_toArray, List.set_cons_zero, List.set_cons_succ])))))
  all_goals try (
    exfalso
    have hb := HBAD.out
    unfold OV.bare OV.small at hb
    clear HBAD OK HLl hsz HL HB HNL HNB HA HM HQ H0 HR HP
    try clear hst
    have z2 : ((2 : Int) == 0) = false := rfl
    have z0 : ((0 : Int) == 0) = true := rfl
    simp only [hid_iff, bNot_eq, Hp.bNe_eq] at *
    simp_all only [Bool.true_eq_false, Bool.false_eq_true, Bool.true_and, Bool.and_true, Bool.or_false, Bool.false_or, Bool.and_false, Bool.false_and, Bool.not_true, Bool.not_false, Bool.bne_false, Bool.bne_true]
    done)
  all_goals go_ret
  all_goals exact ⟨rfl, hst20.nil⟩
end Go.Proofs.Ytalfdcfcaamnbaa
namespace Go.Proofs.Ytalfdcfcaamnbaa
set_option linter.unusedVariables false
set_option linter.unusedSimpArgs false
open Go.RowKit Hp
attribute [local irreducible] Go.Calls Go.wpList Hp.gvV Hp.gB Hp.gA Hp.bOr Hp.bAnd Hp.bNot Hp.bNe us
set_option maxRecDepth 100000
set_option maxHeartbeats 4000000
theorem oback_go (o : OV) (al ab : Option Addr) (nl cl nb cb : Nat) (ao : Option Addr) (m c : Nat) (bs : List UInt8) (w : World) (hl : Rd w (.slice al nl cl) 1 nl (strsV o.l)) (hb : Rd w (.slice ab nb cb) 1 nb (bytesV o.b)) (hnl : o.l.length = nl) (hnb : o.b.length = nb) (hA : Rd w (.slice ao m c) 1 m (bytesV bs)) (hm : bs.length = m) (hop : -9223372036854775808 ≤ o.op ∧ o.op ≤ 9223372036854775807) (hn : -9223372036854775808 ≤ o.n ∧ o.n ≤ 9223372036854775807) (hmm : -9223372036854775808 ≤ o.m ∧ o.m ≤ 9223372036854775807) (hq : o.long nl nb = false) (d1 : decide ((20000 : Int) < (m : Int)) = false) (h0 : o.check = 0) (od : OV) (p1 : Int) (hR : getO bs = (od, 0, p1)) (h1 : od.check = 0) (h2 : putO od = (0, bs)) :
    Calls Try.prog 7 #[.agg (o.cells (.slice al nl cl) (.slice ab nb cb)).toArray, .slice ao m c] w fun e w' => e = .returned (.bool true) ∧ St w [] w' [] := by
  have hst0 := St.refl w
  obtain ⟨q1, q2, q3, q4, q5⟩ := OV.short hnl hq
  have b3 : m ≤ 20000 := by have := of_decide_eq_false d1; omega
  have b4 : m ≤ 100000 := by omega
  have OK := hid (show o.Ok from ⟨hop, hn, hmm, by omega, by omega, by omega, fun t ht => Nat.le_trans (q5 t ht) (by decide), by omega⟩)
  have HLl := hid (show nl ≤ 1000000 by omega)
  have HBAD := hid (show (((o.bare nl nb && (o.small nl nb != (o.check == 0))) && ((nl : Int) == 0)) || (!o.bare nl nb && (o.check == 0))) = false by rw [← hnl, ← hnb]; exact o.sound)
  have hsz : ∀ x : List UInt8, (⟨x.toArray⟩ : ByteArray).size = x.length := fun x => by simp [ByteArray.size]
  have HL := hid hl
  have HB := hid hb
  have HNL := hid hnl
  have HNB := hid hnb
  have HA := hid hA
  have HM := hid hm
  have HQ := hid hq
  have H0 := hid h0
  have HR := hid hR
  rw [h0] at HBAD
  have HP2 := hid h2
  have HQO := hid (OV.fits_ok (OV.fits h1))
  have HP := hid (putO_ok h0)
  have HG := hid (getO_parts h0)
  have hlen : o.parts.length ≤ 100000 := by rw [OV.length_parts (OV.fits h0), hnl, hnb]; omega
  obtain ⟨X, hX⟩ : ∃ X, X = o.parts := ⟨_, rfl⟩
  rw [← hX] at HP HG hlen
  obtain ⟨L, hL⟩ : ∃ L, L = X.length := ⟨_, rfl⟩
  have HLn := hid hL.symm
  have b5 : L ≤ 100000 := by omega
  clear hX hL hlen
  clear q1 q2 q5 hl hb hnl hnb hA hm hop hn hmm hq hR h0 h1 h2
  show Calls Try.prog 7 #[.agg (List.toArray [.int .i64 o.op, .string ⟨o.name.toArray⟩, .string ⟨o.dest.toArray⟩, .int .i64 o.n, .int .i64 o.m, .slice al nl cl, .slice ab nb cb]), .slice ao m c] w _
  go_enter Try.func7, Try.ntmps7
  go_wp2_with (first | go_big_skip | (refine wl_boxA hst0 rfl rfl rfl ?_; intro g1 _ hst1; clear hst0) | (go_at_call 6; refine (oknown_any _).mono ?_; rintro _ w3 ⟨rfl, h4⟩; have hst2 := St.call0 hst1 h4; clear h4 hst1) | (go_at_call 9; refine (longOrder_any o al ab nl cl nb cb _ (Rd.old hst2 HL.out) HNL.out).mono ?_; rw [HQ.out]; rintro _ w4 ⟨rfl, h4⟩; have hst3 := St.call0 hst2 h4; clear h4 hst2) | (go_at_call 12; refine (oput_any o OK.out al ab nl cl nb cb _ (Rd.old hst3 HL.out) (Rd.old hst3 HB.out) HNL.out HNB.out).mono ?_; rw [HP.out]; rintro _ w5 ⟨u, rfl, h4⟩; have h5 : St _ [] w5 [.rowP isB u 5 1 L (bytesV X)] := (by rw [← HLn.out]; exact h4); have hst4 := St.call hst3 h5; clear h4 h5 hst3; obtain ⟨au, cu, rfl⟩ := St.rowPSliceF [] hst4) | (go_at_call 15; refine (check_any o al ab nl cl nb cb _ (Rd.old hst4 HL.out) HNL.out HNB.out HLl.out).mono ?_; rw [H0.out]; rintro _ w6 ⟨rfl, h4⟩; have hst5 := St.call0 hst4 h4; clear h4 hst4) | (go_at_call 22; refine (oget_any au L cu X _ (Rd.rowP hst5 (.head _)) HLn.out b5).mono ?_; rw [HG.out]; rintro _ w7 ⟨lv, bv, rfl, h4⟩; have hst6 := St.call hst5 h4; clear h4 hst5; obtain ⟨al2, cl2, rfl⟩ := St.rowPSliceF [] hst6; obtain ⟨ab2, cb2, rfl⟩ := St.rowPSliceF [_] hst6) | (refine wl_alloc (T := 25) hst6 rfl rfl ?_; intro c8 _ hst7; clear hst6) | (refine wl_alloc (T := 42) hst7 rfl rfl ?_; intro c9 _ hst8; clear hst7) | (refine wl_storeA (T := 25) (vs := o.cells (.slice al2 o.l.length cl2) (.slice ab2 o.b.length cb2)) [_] hst8 rfl rfl rfl rfl rfl rfl rfl ?_; intro w9 hst9; clear hst8) | (refine wl_storeA (T := 42) (vs := [.int .i64 0, .int .i64 0]) [] hst9 rfl rfl rfl rfl rfl rfl rfl ?_; intro w10 hst10; clear hst9) | (go_at_call 20; obtain rfl := HNL.out; obtain rfl := HNB.out; refine (sameOrder_eq o al al2 ab ab2 cl cl2 cb cb2 _ (Rd.old hst10 HL.out) (Rd.rowP hst10 (.tail _ (.tail _ (.head _)))) (Rd.old hst10 HB.out) (Rd.rowP hst10 (.tail _ (.tail _ (.tail _ (.head _)))))).mono ?_; rintro _ w11 ⟨rfl, h4⟩; have hst11 := St.call0 hst10 h4; clear h4 hst10) | (go_at_call 17; refine (uses_any o.op _).mono ?_; rintro _ w12 ⟨rfl, h4⟩; have hst12 := St.call0 hst11 h4; clear h4 hst11) | (refine wl_alloc (T := 35) hst12 rfl rfl ?_; intro c10 _ hst13; clear hst12) | (refine wl_storeA (T := 35) [] hst13 rfl rfl rfl rfl rfl rfl rfl ?_; intro w14 hst; clear hst13) | (go_at_call 22; refine (oget_any ao m c bs _ (Rd.old hst HA.out) HM.out b4).mono ?_; rw [HR.out]; rintro _ w15 ⟨lv, bv, rfl, h4⟩; have hst15 := St.call hst h4; clear h4 hst; obtain ⟨bl, dl, rfl⟩ := St.rowPSliceF [] hst15; obtain ⟨bb, db, rfl⟩ := St.rowPSliceF [_] hst15) | (refine wl_alloc (T := 25) hst15 rfl rfl ?_; intro c13 _ hst16; clear hst15) | (refine wl_alloc (T := 42) hst16 rfl rfl ?_; intro c14 _ hst17; clear hst16) | (refine wl_storeA (T := 25) (vs := od.cells (.slice bl od.l.length dl) (.slice bb od.b.length db)) [_] hst17 rfl rfl rfl rfl rfl rfl rfl ?_; intro w18 hst18; clear hst17) | (refine wl_storeA (T := 42) [] hst18 rfl rfl rfl rfl rfl rfl rfl ?_; intro w19 hst19; clear hst18) | (go_at_call 12; refine (oput_any od HQO.out bl bb od.l.length dl od.b.length db _ (Rd.rowP hst19 (.tail _ (.tail _ (.head _)))) (Rd.rowP hst19 (.tail _ (.tail _ (.tail _ (.head _))))) rfl rfl).mono ?_; rw [HP2.out]; rintro _ w20 ⟨u2, rfl, h4⟩; have h5 : St _ [] w20 [.rowP isB u2 5 1 m (bytesV bs)] := (by rw [← HM.out]; exact h4); have hst20 := St.call hst19 h5; clear h4 h5 hst19) | (go_at_call 14; refine (sameBytes_any u2 _ m m bs bs _ (Rd.rowP hst20 (.head _)) (Rd.old hst20 HA.out)).mono ?_; rw [beq_self_eq_true]; rintro _ w21 ⟨rfl, h4⟩; have hst21 := St.call0 hst20 h4; clear h4 hst20) | (refine wl_loadE rfl rfl rfl ?_; first | refine ⟨_, Loads.whole (T := 25) [] hst2 rfl, ?_⟩ | refine ⟨_, Loads.whole (T := 25) [] hst3 rfl, ?_⟩ | refine ⟨_, Loads.whole (T := 25) [_] hst4 rfl, ?_⟩ | refine ⟨_, Loads.whole (T := 25) [_] hst10 rfl, ?_⟩ | refine ⟨_, Loads.whole (T := 25) [_, _, _, _, _] hst10 rfl, ?_⟩ | refine ⟨_, Loads.whole (T := 25) [_] hst19 rfl, ?_⟩) | (refine wl_loadE rfl rfl rfl ?_; first | refine ⟨_, Loads.at [] hst10 rfl, ?_⟩ | refine ⟨_, Loads.at [_, _, _, _, _] hst11 rfl, ?_⟩ | refine ⟨_, Loads.at [] hst rfl, ?_⟩ | refine ⟨_, Loads.at [_, _, _, _, _, _] hst rfl, ?_⟩ | refine ⟨_, Loads.at [] hst19 rfl, ?_⟩) | go_big_want | (show wpList _ _ _ (Oper.mk _ (.fieldAddr _ _ _) _ _ _ (some _) :: _) _ _; refine wl_gfld1 rfl (by first | exact wanted_b rfl rfl | exact wanted_g rfl rfl) (by first | exact (fun hg => gvV_on hg) | exact (fun hg => gvV_gA hg) | exact (fun _ => rfl)) (by kernel_rfl) ?_; (try simp only [Act.put, List.setIfInBounds_toArray, List.set_cons_zero, List.set_cons_succ])) | (show wpList _ _ _ (Oper.mk _ (.load _ _) _ _ _ (some _) :: _) _ _; refine wl_gloadE rfl (by first | exact wanted_b rfl rfl | exact wanted_g rfl rfl) (by first | exact (fun hg => gvV_on hg) | exact (fun hg => gvV_gA hg) | exact (fun _ => rfl)) ?_; (first | refine ⟨_, Loads.at [] hst rfl, ?_⟩ | refine ⟨_, Loads.at [_, _, _, _, _, _] hst rfl, ?_⟩); (try simp only [Act.put, List.setIfInBounds_toArray, List.set_cons_zero, List.set_cons_succ]); (repeat ((first | (show wpList _ _ _ (Oper.mk _ (.move _) _ _ _ none :: _) _ _; refine wl_mv rfl rfl rfl ?_) | (show wpList _ _ _ (Oper.mk _ (.pick _ _ _) _ _ _ none :: _) _ _; (first | (refine wl_pickOr rfl rfl rfl rfl rfl ?_; intro q hq) | (refine wl_pickAnd rfl rfl rfl rfl rfl ?_; intro q hq))) | (show wpList _ _ _ (Oper.mk _ (.pick _ _ _) _ _ _ (some _) :: _) _ _; (first | (refine wl_gpickOr rfl (by first | exact wanted_b rfl rfl | exact wanted_g rfl rfl) rfl rfl rfl ?_; intro q hq) | (refine wl_gpickAnd rfl (by first | exact wanted_b rfl rfl | exact wanted_g rfl rfl) rfl rfl rfl ?_; intro q hq))) | (show wpList _ _ _ (Oper.mk _ (.move _) _ _ _ (some _) :: _) _ _; refine wl_gmove rfl (by first | exact wanted_b rfl rfl | exact wanted_g rfl rfl) (by first | exact (fun hg => gvV_on hg) | exact (fun hg => gvV_gA hg) | exact (fun _ => rfl)) ?_)); (try simp only [Act.put, List.setIfInBounds_toArray, List.set_cons_zero, List.set_cons_succ])))) | (show wpList _ _ _ (Oper.mk _ (.binOp _ 3 _ _ _) _ _ _ (some _) :: _) _ _; refine wl_gcmp rfl (by first | exact wanted_b rfl rfl | exact wanted_g rfl rfl) (by first | exact (fun hg => gvV_on hg) | exact (fun hg => gvV_gA hg) | exact (fun _ => rfl)) (by first | exact (fun hg => gvV_on hg) | exact (fun hg => gvV_gA hg) | exact (fun _ => rfl)) rfl ?_; (try simp only [Act.put, List.setIfInBounds_toArray, List.set_cons_zero, List.set_cons_succ]); (repeat ((first | (show wpList _ _ _ (Oper.mk _ (.move _) _ _ _ none :: _) _ _; refine wl_mv rfl rfl rfl ?_) | (show wpList _ _ _ (Oper.mk _ (.pick _ _ _) _ _ _ none :: _) _ _; (first | (refine wl_pickOr rfl rfl rfl rfl rfl ?_; intro q hq) | (refine wl_pickAnd rfl rfl rfl rfl rfl ?_; intro q hq))) | (show wpList _ _ _ (Oper.mk _ (.pick _ _ _) _ _ _ (some _) :: _) _ _; (first | (refine wl_gpickOr rfl (by first | exact wanted_b rfl rfl | exact wanted_g rfl rfl) rfl rfl rfl ?_; intro q hq) | (refine wl_gpickAnd rfl (by first | exact wanted_b rfl rfl | exact wanted_g rfl rfl) rfl rfl rfl ?_; intro q hq))) | (show wpList _ _ _ (Oper.mk _ (.move _) _ _ _ (some _) :: _) _ _; refine wl_gmove rfl (by first | exact wanted_b rfl rfl | exact wanted_g rfl rfl) (by first | exact (fun hg => gvV_on hg) | exact (fun hg => gvV_gA hg) | exact (fun _ => rfl)) ?_)); (try simp only [Act.put, List.setIfInBounds_toArray, List.set_cons_zero, List.set_cons_succ])))) | (show wpList _ _ _ (Oper.mk _ (.binOp _ 29 _ _ _) _ _ _ (some _) :: _) _ _; refine wl_gcmp rfl (by first | exact wanted_b rfl rfl | exact wanted_g rfl rfl) (by first | exact (fun hg => gvV_on hg) | exact (fun hg => gvV_gA hg) | exact (fun _ => rfl)) (by first | exact (fun hg => gvV_on hg) | exact (fun hg => gvV_gA hg) | exact (fun _ => rfl)) rfl ?_; (try simp only [Act.put, List.setIfInBounds_toArray, List.set_cons_zero, List.set_cons_succ]); (repeat ((first | (show wpList _ _ _ (Oper.mk _ (.move _) _ _ _ none :: _) _ _; refine wl_mv rfl rfl rfl ?_) | (show wpList _ _ _ (Oper.mk _ (.pick _ _ _) _ _ _ none :: _) _ _; (first | (refine wl_pickOr rfl rfl rfl rfl rfl ?_; intro q hq) | (refine wl_pickAnd rfl rfl rfl rfl rfl ?_; intro q hq))) | (show wpList _ _ _ (Oper.mk _ (.pick _ _ _) _ _ _ (some _) :: _) _ _; (first | (refine wl_gpickOr rfl (by first | exact wanted_b rfl rfl | exact wanted_g rfl rfl) rfl rfl rfl ?_; intro q hq) | (refine wl_gpickAnd rfl (by first | exact wanted_b rfl rfl | exact wanted_g rfl rfl) rfl rfl rfl ?_; intro q hq))) | (show wpList _ _ _ (Oper.mk _ (.move _) _ _ _ (some _) :: _) _ _; refine wl_gmove rfl (by first | exact wanted_b rfl rfl | exact wanted_g rfl rfl) (by first | exact (fun hg => gvV_on hg) | exact (fun hg => gvV_gA hg) | exact (fun _ => rfl)) ?_)); (try simp only [Act.put, List.setIfInBounds_toArray, List.set_cons_zero, List.set_cons_succ])))) | (show wpList _ _ _ (Oper.mk _ (.binOp .neq 9 _ _ _) _ _ _ (some _) :: _) _ _; refine wl_gneqS rfl (by first | exact wanted_b rfl rfl | exact wanted_g rfl rfl) (by first | exact (fun hg => gvV_on hg) | exact (fun hg => gvV_gA hg) | exact (fun _ => rfl)) (by first | exact (fun hg => gvV_on hg) | exact (fun hg => gvV_gA hg) | exact (fun _ => rfl)) ?_; (try simp only [Act.put, List.setIfInBounds_toArray, List.set_cons_zero, List.set_cons_succ]); (repeat ((first | (show wpList _ _ _ (Oper.mk _ (.move _) _ _ _ none :: _) _ _; refine wl_mv rfl rfl rfl ?_) | (show wpList _ _ _ (Oper.mk _ (.pick _ _ _) _ _ _ none :: _) _ _; (first | (refine wl_pickOr rfl rfl rfl rfl rfl ?_; intro q hq) | (refine wl_pickAnd rfl rfl rfl rfl rfl ?_; intro q hq))) | (show wpList _ _ _ (Oper.mk _ (.pick _ _ _) _ _ _ (some _) :: _) _ _; (first | (refine wl_gpickOr rfl (by first | exact wanted_b rfl rfl | exact wanted_g rfl rfl) rfl rfl rfl ?_; intro q hq) | (refine wl_gpickAnd rfl (by first | exact wanted_b rfl rfl | exact wanted_g rfl rfl) rfl rfl rfl ?_; intro q hq))) | (show wpList _ _ _ (Oper.mk _ (.move _) _ _ _ (some _) :: _) _ _; refine wl_gmove rfl (by first | exact wanted_b rfl rfl | exact wanted_g rfl rfl) (by first | exact (fun hg => gvV_on hg) | exact (fun hg => gvV_gA hg) | exact (fun _ => rfl)) ?_)); (try simp only [Act.put, List.setIfInBounds_toArray, List.set_cons_zero, List.set_cons_succ])))) | (show wpList _ _ _ (Oper.mk _ (.binOp .eql 9 _ _ _) _ _ _ (some _) :: _) _ _; refine wl_geqS rfl (by first | exact wanted_b rfl rfl | exact wanted_g rfl rfl) (by first | exact (fun hg => gvV_on hg) | exact (fun hg => gvV_gA hg) | exact (fun _ => rfl)) (by first | exact (fun hg => gvV_on hg) | exact (fun hg => gvV_gA hg) | exact (fun _ => rfl)) ?_; (try simp only [Act.put, List.setIfInBounds_toArray, List.set_cons_zero, List.set_cons_succ]); (repeat ((first | (show wpList _ _ _ (Oper.mk _ (.move _) _ _ _ none :: _) _ _; refine wl_mv rfl rfl rfl ?_) | (show wpList _ _ _ (Oper.mk _ (.pick _ _ _) _ _ _ none :: _) _ _; (first | (refine wl_pickOr rfl rfl rfl rfl rfl ?_; intro q hq) | (refine wl_pickAnd rfl rfl rfl rfl rfl ?_; intro q hq))) | (show wpList _ _ _ (Oper.mk _ (.pick _ _ _) _ _ _ (some _) :: _) _ _; (first | (refine wl_gpickOr rfl (by first | exact wanted_b rfl rfl | exact wanted_g rfl rfl) rfl rfl rfl ?_; intro q hq) | (refine wl_gpickAnd rfl (by first | exact wanted_b rfl rfl | exact wanted_g rfl rfl) rfl rfl rfl ?_; intro q hq))) | (show wpList _ _ _ (Oper.mk _ (.move _) _ _ _ (some _) :: _) _ _; refine wl_gmove rfl (by first | exact wanted_b rfl rfl | exact wanted_g rfl rfl) (by first | exact (fun hg => gvV_on hg) | exact (fun hg => gvV_gA hg) | exact (fun _ => rfl)) ?_)); (try simp only [Act.put, List.setIfInBounds_toArray, List.set_cons_zero, List.set_cons_succ])))) | (show wpList _ _ _ (Oper.mk _ (.binOp .neq 9 _ _ _) _ _ _ none :: _) _ _; refine wl_neqS rfl rfl rfl rfl ?_; (try simp only [Act.put, List.setIfInBounds_toArray, List.set_cons_zero, List.set_cons_succ]); (repeat ((first | (show wpList _ _ _ (Oper.mk _ (.move _) _ _ _ none :: _) _ _; refine wl_mv rfl rfl rfl ?_) | (show wpList _ _ _ (Oper.mk _ (.pick _ _ _) _ _ _ none :: _) _ _; (first | (refine wl_pickOr rfl rfl rfl rfl rfl ?_; intro q hq) | (refine wl_pickAnd rfl rfl rfl rfl rfl ?_; intro q hq))) | (show wpList _ _ _ (Oper.mk _ (.pick _ _ _) _ _ _ (some _) :: _) _ _; (first | (refine wl_gpickOr rfl (by first | exact wanted_b rfl rfl | exact wanted_g rfl rfl) rfl rfl rfl ?_; intro q hq) | (refine wl_gpickAnd rfl (by first | exact wanted_b rfl rfl | exact wanted_g rfl rfl) rfl rfl rfl ?_; intro q hq))) | (show wpList _ _ _ (Oper.mk _ (.move _) _ _ _ (some _) :: _) _ _; refine wl_gmove rfl (by first | exact wanted_b rfl rfl | exact wanted_g rfl rfl) (by first | exact (fun hg => gvV_on hg) | exact (fun hg => gvV_gA hg) | exact (fun _ => rfl)) ?_)); (try simp only [Act.put, List.setIfInBounds_toArray, List.set_cons_zero, List.set_cons_succ])))) | (show wpList _ _ _ (Oper.mk _ (.binOp .eql 9 _ _ _) _ _ _ none :: _) _ _; refine wl_eqS rfl rfl rfl rfl ?_; (try simp only [Act.put, List.setIfInBounds_toArray, List.set_cons_zero, List.set_cons_succ]); (repeat ((first | (show wpList _ _ _ (Oper.mk _ (.move _) _ _ _ none :: _) _ _; refine wl_mv rfl rfl rfl ?_) | (show wpList _ _ _ (Oper.mk _ (.pick _ _ _) _ _ _ none :: _) _ _; (first | (refine wl_pickOr rfl rfl rfl rfl rfl ?_; intro q hq) | (refine wl_pickAnd rfl rfl rfl rfl rfl ?_; intro q hq))) | (show wpList _ _ _ (Oper.mk _ (.pick _ _ _) _ _ _ (some _) :: _) _ _; (first | (refine wl_gpickOr rfl (by first | exact wanted_b rfl rfl | exact wanted_g rfl rfl) rfl rfl rfl ?_; intro q hq) | (refine wl_gpickAnd rfl (by first | exact wanted_b rfl rfl | exact wanted_g rfl rfl) rfl rfl rfl ?_; intro q hq))) | (show wpList _ _ _ (Oper.mk _ (.move _) _ _ _ (some _) :: _) _ _; refine wl_gmove rfl (by first | exact wanted_b rfl rfl | exact wanted_g rfl rfl) (by first | exact (fun hg => gvV_on hg) | exact (fun hg => gvV_gA hg) | exact (fun _ => rfl)) ?_)); (try simp only [Act.put, List.setIfInBounds_toArray, List.set_cons_zero, List.set_cons_succ])))) | (show wpList _ _ _ (Oper.mk _ (.call (Call.mk (.builtin .len) _ #[9])) _ _ _ (some _) :: _) _ _; refine wl_glenS rfl (by first | exact wanted_b rfl rfl | exact wanted_g rfl rfl) (by first | exact (fun hg => gvV_on hg) | exact (fun hg => gvV_gA hg) | exact (fun _ => rfl)) ?_; (try simp only [Act.put, List.setIfInBounds_toArray, List.set_cons_zero, List.set_cons_succ])) | (show wpList _ _ _ (Oper.mk _ (.call (Call.mk (.builtin .len) _ #[23])) _ _ _ (some _) :: _) _ _; refine wl_glen rfl (by first | exact wanted_b rfl rfl | exact wanted_g rfl rfl) (by first | exact (fun hg => gvV_on hg) | exact (fun hg => gvV_gA hg) | exact (fun _ => rfl)) ?_; (try simp only [Act.put, List.setIfInBounds_toArray, List.set_cons_zero, List.set_cons_succ])) | (show wpList _ _ _ (Oper.mk _ (.call (Call.mk (.builtin .len) _ #[22])) _ _ _ (some _) :: _) _ _; refine wl_glen rfl (by first | exact wanted_b rfl rfl | exact wanted_g rfl rfl) (by first | exact (fun hg => gvV_on hg) | exact (fun hg => gvV_gA hg) | exact (fun _ => rfl)) ?_; (try simp only [Act.put, List.setIfInBounds_toArray, List.set_cons_zero, List.set_cons_succ])) | (show wpList _ _ _ (Oper.mk _ (.unOp .not _ _) _ _ _ (some _) :: _) _ _; refine wl_gnot rfl (by first | exact wanted_b rfl rfl | exact wanted_g rfl rfl) (by first | exact (fun hg => gvV_on hg) | exact (fun hg => gvV_gA hg) | exact (fun _ => rfl)) ?_; (try simp only [Act.put, List.setIfInBounds_toArray, List.set_cons_zero, List.set_cons_succ]); (repeat ((first | (show wpList _ _ _ (Oper.mk _ (.move _) _ _ _ none :: _) _ _; refine wl_mv rfl rfl rfl ?_) | (show wpList _ _ _ (Oper.mk _ (.pick _ _ _) _ _ _ none :: _) _ _; (first | (refine wl_pickOr rfl rfl rfl rfl rfl ?_; intro q hq) | (refine wl_pickAnd rfl rfl rfl rfl rfl ?_; intro q hq))) | (show wpList _ _ _ (Oper.mk _ (.pick _ _ _) _ _ _ (some _) :: _) _ _; (first | (refine wl_gpickOr rfl (by first | exact wanted_b rfl rfl | exact wanted_g rfl rfl) rfl rfl rfl ?_; intro q hq) | (refine wl_gpickAnd rfl (by first | exact wanted_b rfl rfl | exact wanted_g rfl rfl) rfl rfl rfl ?_; intro q hq))) | (show wpList _ _ _ (Oper.mk _ (.move _) _ _ _ (some _) :: _) _ _; refine wl_gmove rfl (by first | exact wanted_b rfl rfl | exact wanted_g rfl rfl) (by first | exact (fun hg => gvV_on hg) | exact (fun hg => gvV_gA hg) | exact (fun _ => rfl)) ?_)); (try simp only [Act.put, List.setIfInBounds_toArray, List.set_cons_zero, List.set_cons_succ])))) | (show wpList _ _ _ (Oper.mk _ (.binOp .neq 4 _ _ _) _ _ _ (some _) :: _) _ _; refine wl_gneqB rfl rfl (by first | exact wanted_b rfl rfl | exact wanted_g rfl rfl) (by first | exact (fun hg => gvV_on hg) | exact (fun hg => gvV_gA hg) | exact (fun _ => rfl)) (by first | exact (fun hg => gvV_on hg) | exact (fun hg => gvV_gA hg) | exact (fun _ => rfl)) ?_; (try simp only [Act.put, List.setIfInBounds_toArray, List.set_cons_zero, List.set_cons_succ]); (repeat ((first | (show wpList _ _ _ (Oper.mk _ (.move _) _ _ _ none :: _) _ _; refine wl_mv rfl rfl rfl ?_) | (show wpList _ _ _ (Oper.mk _ (.pick _ _ _) _ _ _ none :: _) _ _; (first | (refine wl_pickOr rfl rfl rfl rfl rfl ?_; intro q hq) | (refine wl_pickAnd rfl rfl rfl rfl rfl ?_; intro q hq))) | (show wpList _ _ _ (Oper.mk _ (.pick _ _ _) _ _ _ (some _) :: _) _ _; (first | (refine wl_gpickOr rfl (by first | exact wanted_b rfl rfl | exact wanted_g rfl rfl) rfl rfl rfl ?_; intro q hq) | (refine wl_gpickAnd rfl (by first | exact wanted_b rfl rfl | exact wanted_g rfl rfl) rfl rfl rfl ?_; intro q hq))) | (show wpList _ _ _ (Oper.mk _ (.move _) _ _ _ (some _) :: _) _ _; refine wl_gmove rfl (by first | exact wanted_b rfl rfl | exact wanted_g rfl rfl) (by first | exact (fun hg => gvV_on hg) | exact (fun hg => gvV_gA hg) | exact (fun _ => rfl)) ?_)); (try simp only [Act.put, List.setIfInBounds_toArray, List.set_cons_zero, List.set_cons_succ])))))
  all_goals try (
    exfalso
    have hb := HBAD.out
    unfold OV.bare OV.small at hb
    clear HBAD OK HLl hsz HL HB HNL HNB HA HM HQ H0 HR HP
    try clear hst
    have z2 : ((2 : Int) == 0) = false := rfl
    have z0 : ((0 : Int) == 0) = true := rfl
    simp only [hid_iff, bNot_eq, Hp.bNe_eq] at *
    simp_all only [Bool.true_eq_false, Bool.false_eq_true, Bool.true_and, Bool.and_true, Bool.or_false, Bool.false_or, Bool.and_false, Bool.false_and, Bool.not_true, Bool.not_false, Bool.bne_false, Bool.bne_true]
    done)
  all_goals go_ret
  all_goals exact ⟨rfl, hst21.nil⟩
end Go.Proofs.Ytalfdcfcaamnbaa
