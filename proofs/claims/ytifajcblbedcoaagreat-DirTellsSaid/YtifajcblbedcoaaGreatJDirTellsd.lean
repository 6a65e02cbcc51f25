import Derived.Test.YtifajcblbedcoaaGreatJDirTellsc
import Derived.Deep.Slices
import Derived.Test.YtifajcblbedcoaaGreatSepR
import Derived.Test.YtifajcblbedcoaaGreatSepQ
import Derived.Test.YtifajcblbedcoaaGreatSepF
import Derived.Lib.AppendZerosOnto
import Derived.Lib.Overlaps
import Derived.Laws.Externs
import Derived.Deep.DeepCutAuto
namespace Go.Proofs.YtifajcblbedcoaaGreat
set_option linter.unusedVariables false
set_option linter.unusedSimpArgs false
open Go.RowKit Hp
attribute [local irreducible] Go.Calls Go.wpList
set_option maxRecDepth 100000
set_option maxHeartbeats 8000000
def RC.longB (r : RC) : Bool := decide ((100 : Int) < (r.name.length : Int)) || decide ((20 : Int) < (r.l.length : Int))
def TC.longB (t : TC) : Bool := (t.recs.take 21).any RC.longB || (decide ((20 : Int) < (t.recs.length : Int)) || decide ((20 : Int) < (t.lives.length : Int)))
theorem TC.long_no {t : TC} (h : t.longB = false) : t.recs.length ≤ 20 ∧ t.lives.length ≤ 20 ∧ ∀ r ∈ t.recs, r.name.length ≤ 100 ∧ r.l.length ≤ 20 := by
 unfold TC.longB at h
 rw [Bool.or_eq_false_iff, Bool.or_eq_false_iff, decide_eq_false_iff_not, decide_eq_false_iff_not] at h
 obtain ⟨h1, h2, h3⟩ := h
 refine ⟨by omega, by omega, fun r hr => ?_⟩
 rw [List.take_of_length_le (by omega)] at h1
 have := List.any_eq_false.1 h1 r hr
 unfold RC.longB at this
 simp only [Bool.or_eq_true, decide_eq_true_eq, not_or] at this
 omega
theorem any_take {l : List RC} {p : RC → Bool} {j : Nat} {x : RC} (hx : l[j]? = some x) (h : (l.take j).any p = false) (hp : p x = false) : (l.take (j + 1)).any p = false := by
 rw [List.take_add_one, hx, List.any_append, h]
 simp [hp]
theorem any_hit {l : List RC} {p : RC → Bool} {j : Nat} {x : RC} (hx : l[j]? = some x) (hj : j < 21) (hp : p x = true) : (l.take 21).any p = true := by
 rw [List.any_eq_true]
 obtain ⟨hlt, hg⟩ := List.getElem?_eq_some_iff.1 hx
 exact ⟨x, by rw [List.mem_take_iff_getElem]; exact ⟨j, by omega, hg⟩, hp⟩
structure TabAny (w : World) (t : TC) (ar : Option Addr) (nr cr : Nat) (al : Option Addr) (nl cl : Nat) (xs : List (Value × RC)) : Prop where
 R : RecsIn w (.slice ar nr cr) nr xs
 eq : xs.map (·.2) = t.recs
 L : Rd w (.slice al nl cl) 1 nl (numsV t.lives)
 ln : t.lives.length = nl
theorem TabAny.len {w : World} {t : TC} {ar al : Option Addr} {nr cr nl cl : Nat} {xs : List (Value × RC)} (h : TabAny w t ar nr cr al nl cl xs) : t.recs.length = nr := by rw [← h.eq, List.length_map, h.R.len]
theorem TabAny.old {w0 w : World} {Ls : List HA} {t : TC} {ar al : Option Addr} {nr cr nl cl : Nat} {xs : List (Value × RC)} (hst : St w0 [] w Ls) (h : TabAny w0 t ar nr cr al nl cl xs) : TabAny w t ar nr cr al nl cl xs := ⟨h.R.old hst, h.eq, Rd.old hst h.L, h.ln⟩
theorem TabAny.tab {w : World} {t : TC} {ar al : Option Addr} {nr cr nl cl : Nat} {xs : List (Value × RC)} (h : TabAny w t ar nr cr al nl cl xs) (hl : t.longB = false) : TabIn w t ar nr cr al nl cl xs := by
 obtain ⟨h1, h2, _⟩ := TC.long_no hl
 exact ⟨h.R, h.eq, h.L, h.ln, by have := h.len; omega, by have := h.ln; omega⟩
theorem recs_atA {w : World} {t : TC} {ar al : Option Addr} {nr cr nl cl j : Nat} {xs : List (Value × RC)} {x : Value × RC} (h : TabAny w t ar nr cr al nl cl xs) (hx : xs[j]? = some x) : t.recs[j]? = some x.2 := by rw [← h.eq]; exact map_at hx
theorem longTable_any (t : TC) (ar al : Option Addr) (nr cr nl cl : Nat) (xs : List (Value × RC)) (w : World) (ht : TabAny w t ar nr cr al nl cl xs) :
  Calls Tryz.prog 6 #[.agg (tabC t (.slice ar nr cr) (.slice al nl cl)).toArray] w fun e w' => e = .returned (.bool t.longB) ∧ St w [] w' [] := by
 have hst0 := St.refl w
 have HT := hid ht
 obtain ⟨E, hE⟩ : ∃ E, E = t.longB := ⟨_, rfl⟩
 rw [← hE]
 have HE := hid hE
 clear ht hE
 go_enter Tryz.func6, Tryz.ntmps6
 go_wp2_with (first | go_big_skip | go_big_guard | (refine wl_boxA hst0 rfl rfl rfl ?_; intro g1 w1 hst; clear hst0) | (refine wl_loadE rfl rfl rfl ?_; first | refine ⟨_, Loads.at [] hst rfl, ?_⟩ | refine ⟨_, Loads.old hst HCN.out, ?_⟩ | refine ⟨_, Loads.old hst HCS.out, ?_⟩))
 go_loopw [3] (fun i wr => ∃ j : Nat, j ≤ nr ∧ j ≤ 21 ∧ i = .int .i64 (j : Int) ∧ St w [] wr [.blk g1 27 (tabC t (.slice ar nr cr) (.slice al nl cl))] ∧ Hid ((t.recs.take j).any RC.longB = false)) (fun i _ => nr - (intOf i).toNat)
 case atStart => exact ⟨0, Nat.zero_le _, Nat.zero_le _, rfl, hst, hid rfl⟩
 case round =>
  clear hst
  obtain ⟨j, hj, hj21, rfl, hst, HP⟩ := hrel
  by_cases hlt : j < nr
  ·have e1 : decide ((j : Int) < (nr : Int)) = true := decide_eq_true (by omega)
   by_cases h21 : j < 21
   ·have e2 : decide ((j : Int) < 21) = true := decide_eq_true (by omega)
    have z1 : IntKind.i64.wrap ((j : Int) + 1) = (j : Int) + 1 := IntWalk.i64_in _ (by omega)
    obtain ⟨x, lb, lo, hx, rfl, hin, hr⟩ := RecsIn.at HT.out.R hlt
    obtain ⟨⟨_, so, sn, sc, hsv, hsr, hsl⟩, _⟩ := hin
    have HX := hid (recs_atA HT.out hx)
    have HCN := hid (show w.cell? ⟨lb, lo + j * 44 + 1, none⟩ = some (.string ⟨x.2.name.toArray⟩) from hr 1 _ rfl)
    have HCS := hid (show w.cell? ⟨lb, lo + j * 44 + 4, none⟩ = some (.slice so sn sc) by
     have := hr 4 x.1 rfl
     rw [show x.1 = .slice so sn sc from hsv] at this
     exact this)
    have hsz : (⟨x.2.name.toArray⟩ : ByteArray).size = x.2.name.length := by simp [ByteArray.size]
    have HSL := hid (show x.2.l.length = sn from hsl)
    clear hx hr hsv hsr hsl
    by_cases hn : 100 < x.2.name.length
    ·have e3 : decide ((x.2.name.length : Int) > 100) = true := decide_eq_true (by omega)
     have e3' : decide ((100 : Int) < (x.2.name.length : Int)) = true := e3
     have HL := hid (show x.2.longB = true by unfold RC.longB; rw [e3']; rfl)
     go_wp2_with (first | go_big_skip | go_big_guard | (refine wl_loadE rfl rfl rfl ?_; first | refine ⟨_, Loads.at [] hst rfl, ?_⟩ | refine ⟨_, Loads.old hst HCN.out, ?_⟩ | refine ⟨_, Loads.old hst HCS.out, ?_⟩) | (refine wl_index rfl rfl rfl rfl hlt ?_))
     go_ret
     exact ⟨by rw [HE.out, TC.longB, any_hit HX.out h21 HL.out]; rfl, hst.nil⟩
    ·have e3 : decide ((x.2.name.length : Int) > 100) = false := decide_eq_false (by omega)
     have e3' : decide ((100 : Int) < (x.2.name.length : Int)) = false := e3
     by_cases hs : 20 < sn
     ·have e4 : decide ((sn : Int) > 20) = true := decide_eq_true (by omega)
      have e4' : decide ((20 : Int) < (sn : Int)) = true := e4
      have HL := hid (show x.2.longB = true by unfold RC.longB; rw [HSL.out, e4']; simp)
      go_wp2_with (first | go_big_skip | go_big_guard | (refine wl_loadE rfl rfl rfl ?_; first | refine ⟨_, Loads.at [] hst rfl, ?_⟩ | refine ⟨_, Loads.old hst HCN.out, ?_⟩ | refine ⟨_, Loads.old hst HCS.out, ?_⟩) | (refine wl_index rfl rfl rfl rfl hlt ?_))
      go_ret
      exact ⟨by rw [HE.out, TC.longB, any_hit HX.out h21 HL.out]; rfl, hst.nil⟩
     ·have e4 : decide ((sn : Int) > 20) = false := decide_eq_false (by omega)
      have e4' : decide ((20 : Int) < (sn : Int)) = false := e4
      have HL := hid (show x.2.longB = false by unfold RC.longB; rw [HSL.out, e4', e3']; rfl)
      go_wp2_with (first | go_big_skip | go_big_guard | (refine wl_loadE rfl rfl rfl ?_; first | refine ⟨_, Loads.at [] hst rfl, ?_⟩ | refine ⟨_, Loads.old hst HCN.out, ?_⟩ | refine ⟨_, Loads.old hst HCS.out, ?_⟩) | (refine wl_index rfl rfl rfl rfl hlt ?_))
      go_roundw
      case rel => exact ⟨j + 1, by omega, by omega, rfl, hst, hid (any_take HX.out HP.out HL.out)⟩
      case measure => simp [intOf]; omega
   ·have e2 : decide ((j : Int) < 21) = false := decide_eq_false (by omega)
    have e3 : decide ((nr : Int) > 20) = true := decide_eq_true (by omega)
    have e3' : decide ((20 : Int) < (nr : Int)) = true := e3
    go_wp2_with (first | go_big_skip | go_big_guard | (refine wl_loadE rfl rfl rfl ?_; first | refine ⟨_, Loads.at [] hst rfl, ?_⟩ | refine ⟨_, Loads.old hst HCN.out, ?_⟩ | refine ⟨_, Loads.old hst HCS.out, ?_⟩))
    go_ret
    refine ⟨?_, hst.nil⟩
    rw [HE.out, TC.longB, HT.out.len, e3', Bool.true_or, Bool.or_true]
    rfl
  ·have e1 : decide ((j : Int) < (nr : Int)) = false := decide_eq_false (by omega)
   have H0 := hid (show (t.recs.take 21).any RC.longB = false by
    have h := HP.out
    have hl := HT.out.len
    rw [List.take_of_length_le (by omega)] at h
    have : (t.recs.take 21) = t.recs := List.take_of_length_le (by omega)
    rw [this]; exact h)
   by_cases h20 : 20 < nr
   ·have e3 : decide ((nr : Int) > 20) = true := decide_eq_true (by omega)
    have e3' : decide ((20 : Int) < (nr : Int)) = true := e3
    go_wp2_with (first | go_big_skip | go_big_guard | (refine wl_loadE rfl rfl rfl ?_; first | refine ⟨_, Loads.at [] hst rfl, ?_⟩ | refine ⟨_, Loads.old hst HCN.out, ?_⟩ | refine ⟨_, Loads.old hst HCS.out, ?_⟩))
    go_ret
    refine ⟨?_, hst.nil⟩
    rw [HE.out, TC.longB, HT.out.len, e3', Bool.true_or, Bool.or_true]
    rfl
   ·have e3 : decide ((nr : Int) > 20) = false := decide_eq_false (by omega)
    have e3' : decide ((20 : Int) < (nr : Int)) = false := e3
    go_wp2_with (first | go_big_skip | go_big_guard | (refine wl_loadE rfl rfl rfl ?_; first | refine ⟨_, Loads.at [] hst rfl, ?_⟩ | refine ⟨_, Loads.old hst HCN.out, ?_⟩ | refine ⟨_, Loads.old hst HCS.out, ?_⟩))
    go_ret
    refine ⟨?_, hst.nil⟩
    rw [HE.out, TC.longB, HT.out.len, HT.out.ln, e3', H0.out]
    rfl
end Go.Proofs.YtifajcblbedcoaaGreat
namespace Go.Proofs.YtifajcblbedcoaaGreat
set_option linter.unusedVariables false
set_option linter.unusedSimpArgs false
open Go.ChangeShapes Go.WideShapes Go.ChangeAt Go.RowKit Go.Deep Go.Lib Go.Joins Hp
set_option maxRecDepth 100000
theorem cellsRd : Tryz.prog.cellsOf 53 = 44 := by kernel_rfl
theorem cellsSR : Tryz.prog.cellsOf 22 = 1 := by kernel_rfl
theorem cellsSI : Tryz.prog.cellsOf 25 = 1 := by kernel_rfl
theorem cellsCu : Tryz.prog.cellsOf 24 = 4 := by kernel_rfl
theorem cellsTa : Tryz.prog.cellsOf 27 = 7 := by kernel_rfl
def RCL : Type := { x : Value × RC // L32 x.2.S }
instance inhRCL : Inhabited RCL := ⟨⟨(.slice none 0 0, { id := 1, kind := 1, size := 1, made := 1, own := 0, origin := 0, quota := 0, reserve := 0, name := [], l := [], b := 0, v := 0, S := nones }), L32.nones⟩⟩
theorem open_recD {H : Type} {enc : TypeId × Value → H} {W : World} (fuel : Nat) (cs : List Value) (x : DataW H × List MemPlace) (hl : cs.length = 44)
  (h : DataW.trod enc Tryz.prog W 0 (fun _ => true) true fuel 53 cs = some x) : ∃ k : RCL, cs = cellsR k.1 ∧ RC.In W k.1 := by
 obtain ⟨xs, n, _, _, _, hlen, hf⟩ := DataW.trod_struct Tryz.underlying53 h
 have hlen' : xs.length = 10 := hlen
 have g0 := hf 0 _ rfl
 have g1 := hf 1 _ rfl
 have g2 := hf 2 _ rfl
 have g3 := hf 3 _ rfl
 have g4 := hf 4 _ rfl
 have g5 := hf 5 _ rfl
 have g6 := hf 6 _ rfl
 have g7 := hf 7 _ rfl
 have g8 := hf 8 _ rfl
 have g9 := hf 9 _ rfl
 clear hf h
 match xs, hlen' with
 | [y0, y1, y2, y3, y4, y5, y6, y7, y8, y9], _ =>
  match cs, hl with
  | a :: b :: c :: d :: T, hl =>
   have hT : T.length = 40 := by simpa using hl
   obtain ⟨P, hP⟩ : ∃ P, P = T.take 35 := ⟨_, rfl⟩
   obtain ⟨E, hE⟩ : ∃ E, E = T.drop 35 := ⟨_, rfl⟩
   have hTE : T = P ++ E := by rw [hP, hE, List.take_append_drop]
   have hPl : P.length = 35 := by rw [hP, List.length_take]; omega
   have hEl : E.length = 5 := by rw [hE, List.length_drop]; omega
   clear hP hE
   subst hTE
   match E, hEl with
   | [e0, e1, e2, e3, e4], _ =>
    have dr : ∀ k, ((a :: b :: c :: d :: (P ++ [e0, e1, e2, e3, e4])).drop (39 + k)) = [e0, e1, e2, e3, e4].drop k := fun k => by
     rw [show 39 + k = (35 + k) + 1 + 1 + 1 + 1 by omega]
     simp only [List.drop_succ_cons]
     rw [List.drop_append, List.drop_of_length_le (by omega), List.nil_append, hPl]
     congr 1
     omega
    have q4 : (((a :: b :: c :: d :: (P ++ [e0, e1, e2, e3, e4])).drop 4).take 35) = P := by
     simp only [List.drop_succ_cons, List.drop_zero]
     rw [List.take_append_of_le_length (by omega), List.take_of_length_le (by omega)]
    have f0 : DataW.trod enc Tryz.prog W 0 (fun _ => true) true n 3 (List.take (Tryz.prog.cellsOf 3) (List.drop 0 (a :: b :: c :: d :: (P ++ [e0, e1, e2, e3, e4])))) = some y0 := g0
    have f1 : DataW.trod enc Tryz.prog W 0 (fun _ => true) true n 9 (List.take (Tryz.prog.cellsOf 9) (List.drop 1 (a :: b :: c :: d :: (P ++ [e0, e1, e2, e3, e4])))) = some y1 := g1
    have f2 : DataW.trod enc Tryz.prog W 0 (fun _ => true) true n 3 (List.take (Tryz.prog.cellsOf 3) (List.drop 2 (a :: b :: c :: d :: (P ++ [e0, e1, e2, e3, e4])))) = some y2 := g2
    have f3 : DataW.trod enc Tryz.prog W 0 (fun _ => true) true n 3 (List.take (Tryz.prog.cellsOf 3) (List.drop 3 (a :: b :: c :: d :: (P ++ [e0, e1, e2, e3, e4])))) = some y3 := g3
    have f4 : DataW.trod enc Tryz.prog W 0 (fun _ => true) true n 32 (List.take (Tryz.prog.cellsOf 32) (List.drop 4 (a :: b :: c :: d :: (P ++ [e0, e1, e2, e3, e4])))) = some y4 := g4
    have f5 : DataW.trod enc Tryz.prog W 0 (fun _ => true) true n 3 (List.take (Tryz.prog.cellsOf 3) (List.drop 39 (a :: b :: c :: d :: (P ++ [e0, e1, e2, e3, e4])))) = some y5 := g5
    have f6 : DataW.trod enc Tryz.prog W 0 (fun _ => true) true n 3 (List.take (Tryz.prog.cellsOf 3) (List.drop 40 (a :: b :: c :: d :: (P ++ [e0, e1, e2, e3, e4])))) = some y6 := g6
    have f7 : DataW.trod enc Tryz.prog W 0 (fun _ => true) true n 3 (List.take (Tryz.prog.cellsOf 3) (List.drop 41 (a :: b :: c :: d :: (P ++ [e0, e1, e2, e3, e4])))) = some y7 := g7
    have f8 : DataW.trod enc Tryz.prog W 0 (fun _ => true) true n 3 (List.take (Tryz.prog.cellsOf 3) (List.drop 42 (a :: b :: c :: d :: (P ++ [e0, e1, e2, e3, e4])))) = some y8 := g8
    have f9 : DataW.trod enc Tryz.prog W 0 (fun _ => true) true n 3 (List.take (Tryz.prog.cellsOf 3) (List.drop 43 (a :: b :: c :: d :: (P ++ [e0, e1, e2, e3, e4])))) = some y9 := g9
    obtain ⟨z0, w0, _⟩ := DataW.trod_int Tryz.underlying3 (show DataW.trod enc Tryz.prog W 0 (fun _ => true) true n 3 [a] = some y0 from by rw [cellsI] at f0; exact f0)
    obtain ⟨s1, w1, _, hs1⟩ := DataW.trod_string Tryz.underlying9 (show DataW.trod enc Tryz.prog W 0 (fun _ => true) true n 9 [b] = some y1 from by rw [cellsSd] at f1; exact f1)
    obtain ⟨z2, w2, _⟩ := DataW.trod_int Tryz.underlying3 (show DataW.trod enc Tryz.prog W 0 (fun _ => true) true n 3 [c] = some y2 from by rw [cellsI] at f2; exact f2)
    obtain ⟨z3, w3, _⟩ := DataW.trod_int Tryz.underlying3 (show DataW.trod enc Tryz.prog W 0 (fun _ => true) true n 3 [d] = some y3 from by rw [cellsI] at f3; exact f3)
    obtain ⟨p, w4, hp⟩ := open_ptrD (W := W) (x := y4) (L := P) hPl (by rw [cellsP] at f4; exact (congrArg (fun l => DataW.trod enc Tryz.prog W 0 (fun _ => true) true n 32 l) q4).symm.trans f4)
    obtain ⟨z5, w5, _⟩ := DataW.trod_int Tryz.underlying3 (show DataW.trod enc Tryz.prog W 0 (fun _ => true) true n 3 [e0] = some y5 from by rw [cellsI] at f5; exact (congrArg (fun l => DataW.trod enc Tryz.prog W 0 (fun _ => true) true n 3 (l.take 1)) (dr 0)).symm.trans f5)
    obtain ⟨z6, w6, _⟩ := DataW.trod_int Tryz.underlying3 (show DataW.trod enc Tryz.prog W 0 (fun _ => true) true n 3 [e1] = some y6 from by rw [cellsI] at f6; exact (congrArg (fun l => DataW.trod enc Tryz.prog W 0 (fun _ => true) true n 3 (l.take 1)) (dr 1)).symm.trans f6)
    obtain ⟨z7, w7, _⟩ := DataW.trod_int Tryz.underlying3 (show DataW.trod enc Tryz.prog W 0 (fun _ => true) true n 3 [e2] = some y7 from by rw [cellsI] at f7; exact (congrArg (fun l => DataW.trod enc Tryz.prog W 0 (fun _ => true) true n 3 (l.take 1)) (dr 2)).symm.trans f7)
    obtain ⟨z8, w8, _⟩ := DataW.trod_int Tryz.underlying3 (show DataW.trod enc Tryz.prog W 0 (fun _ => true) true n 3 [e3] = some y8 from by rw [cellsI] at f8; exact (congrArg (fun l => DataW.trod enc Tryz.prog W 0 (fun _ => true) true n 3 (l.take 1)) (dr 3)).symm.trans f8)
    obtain ⟨z9, w9, _⟩ := DataW.trod_int Tryz.underlying3 (show DataW.trod enc Tryz.prog W 0 (fun _ => true) true n 3 [e4] = some y9 from by rw [cellsI] at f9; exact (congrArg (fun l => DataW.trod enc Tryz.prog W 0 (fun _ => true) true n 3 (l.take 1)) (dr 4)).symm.trans f9)
    cases w0; cases w1; cases w2; cases w3; cases w5; cases w6; cases w7; cases w8; cases w9
    subst w4
    obtain ⟨hS, ao, pn, pc, hsv, hpr, hpl⟩ := hp
    refine ⟨⟨(p.sv, { id := z0, kind := z2, size := z3, made := z5, own := z6, origin := z7, quota := z8, reserve := z9, name := s1.data.toList, l := p.l, b := p.b, v := p.v, S := p.S }), hS⟩, ?_, ⟨hS, ao, pn, pc, hsv, hpr, hpl⟩, ?_⟩
    ·show _ = Value.int IntKind.i64 z0 :: Value.string ⟨s1.data.toList.toArray⟩ :: Value.int IntKind.i64 z2 :: Value.int IntKind.i64 z3 :: (p.cells ++ _)
     rfl
    ·show s1.data.toList.length ≤ _
     rw [Array.length_toList]
     exact hs1
theorem open_intsD {H : Type} {enc : TypeId × Value → H} {W : World} {fuel : Nat} {cs : List Value} {x : DataW H × List MemPlace}
  (h : DataW.trod enc Tryz.prog W 0 (fun _ => true) true fuel 25 cs = some x) : ∃ ao n c l, cs = [.slice ao n c] ∧ Rd W (.slice ao n c) 1 n (numsV l) ∧ l.length = n := by
 obtain ⟨ao, n, c, ks, e, hr, hl, -⟩ := open_structsD (α := Int) (f := fun a => [.int .i64 a]) (sz := 1) (fun _ => rfl) (by decide) (fun _ _ => True) Tryz.underlying25 cellsI (fun fuel cs x hl h => by
  match cs, hl with
  | [a], _ =>
   obtain ⟨z0, e0, _⟩ := DataW.trod_int Tryz.underlying3 h
   cases e0
   exact ⟨z0, rfl, trivial⟩) h
 refine ⟨ao, n, c, ks, e, ?_, hl⟩
 have : ks.flatMap (fun a => [Value.int .i64 a]) = numsV ks := by
  clear hr hl
  induction ks with
  | nil => rfl
  | cons a ks ih => rw [List.flatMap_cons, ih]; rfl
 rw [← this]
 exact hr
theorem open_tableD {H : Type} {enc : TypeId × Value → H} {W : World} {base fuel : Nat} {v : Value} {x : DataW H × List MemPlace} (hv : Value.okWide Tryz.prog W .any base 27 v)
  (h : DataW.trod enc Tryz.prog W 0 (fun _ => true) true fuel 27 v.cells.toList = some x) : ∃ (t : TC) (ar : Option Addr) (nr cr : Nat) (al : Option Addr) (nl cl : Nat) (xs : List (Value × RC)), v = .agg (tabC t (.slice ar nr cr) (.slice al nl cl)).toArray ∧ TabAny W t ar nr cr al nl cl xs := by
 unfold Value.okWide at hv
 rw [Tryz.underlying27] at hv
 obtain ⟨cs, rfl, hsz, _⟩ := hv
 rw [cellsTa] at hsz
 obtain ⟨L, rfl⟩ : ∃ L : List Value, cs = L.toArray := ⟨cs.toList, rfl⟩
 have hL : L.length = 7 := by simpa using hsz
 obtain ⟨y0, y1, y2, y3, n, _, _, h0, h1, h2, h3⟩ := trod_struct4 Tryz.underlying27 h
 match L, hL with
 | [a, b, c, d, e, f, g], _ =>
  simp only [Value.cells, cellsI, cellsSR, cellsCu, cellsSI, List.drop_zero, List.drop_succ_cons, List.take_succ_cons, List.take_zero] at h0 h1 h2 h3
  obtain ⟨q0, q1, q2, q3, m, _, _, k0, k1, k2, k3⟩ := trod_struct4 Tryz.underlying24 h2
  simp only [cellsI, List.drop_zero, List.drop_succ_cons, List.take_succ_cons, List.take_zero] at k0 k1 k2 k3
  obtain ⟨z0, w0, _⟩ := DataW.trod_int Tryz.underlying3 h0
  obtain ⟨z1, w1, _⟩ := DataW.trod_int Tryz.underlying3 k0
  obtain ⟨z2, w2, _⟩ := DataW.trod_int Tryz.underlying3 k1
  obtain ⟨z3, w3, _⟩ := DataW.trod_int Tryz.underlying3 k2
  obtain ⟨z4, w4, _⟩ := DataW.trod_int Tryz.underlying3 k3
  obtain ⟨al, nl, cl, lv, w5, hlr, hll⟩ := open_intsD h3
  obtain ⟨ar, nr, cr, ks, w6, hrr, hrl, hri⟩ := open_structsD (α := RCL) (f := fun k => cellsR k.1) (sz := 44) (fun k => cellsR_len k.2) (by decide) (fun k W => RC.In W k.1) Tryz.underlying22 cellsRd open_recD h1
  cases w0; cases w1; cases w2; cases w3; cases w4; cases w5; cases w6
  have er : ks.flatMap (fun k => cellsR k.1) = recsV (ks.map (·.1)) := by unfold recsV; rw [List.flatMap_map]
  rw [er] at hrr
  refine ⟨⟨z0, ks.map (·.1.2), z1, z2, z3, z4, lv⟩, ar, nr, cr, al, nl, cl, ks.map (·.1), rfl, ⟨⟨hrr, by rw [List.length_map]; exact hrl, fun x hx => ?_⟩, by rw [List.map_map]; rfl, hlr, hll⟩⟩
  obtain ⟨k, hk, rfl⟩ := List.mem_map.1 hx
  exact hri k hk
end Go.Proofs.YtifajcblbedcoaaGreat
namespace Go.Proofs.YtifajcblbedcoaaGreat
set_option linter.unusedVariables false
set_option linter.unusedSimpArgs false
open Go.RowKit Hp
def R31 (z : Int) : Prop := 0 ≤ z ∧ z ≤ 2147483648
theorem inB_31 {z lo hi : Int} (h : inB z lo hi = true) (h0 : 0 ≤ lo) (h1 : hi ≤ 2147483648) : R31 z := by
 unfold inB at h
 simp only [Bool.and_eq_true, decide_eq_true_eq] at h
 exact ⟨by omega, by omega⟩
theorem eq_31 {z k : Int} (h : (z == k) = true) (hk : R31 k) : R31 z := by
 rw [beq_iff_eq] at h
 rw [h]; exact hk
structure RC.Bd (r : RC) : Prop where
 id : R31 r.id
 kind : R31 r.kind
 size : R31 r.size
 made : R31 r.made
 own : R31 r.own
 origin : R31 r.origin
 quota : R31 r.quota
 reserve : R31 r.reserve
 name : r.name.length ≤ 41
 root : (r.pv undef).ok = true
theorem snapB_len {l : List UInt8} (h : snapB l = true) : l.length ≤ 41 := by
 unfold snapB at h
 obtain ⟨⟨a, b, f⟩, hs⟩ : ∃ p, splitL l = p := ⟨_, rfl⟩
 rw [hs] at h
 simp at h
 subst h
 obtain ⟨e, ha, hb⟩ := split_true hs
 have h1 := (part_bd ha).2
 have h2 := (part_bd hb).2
 rw [e]
 simp
 omega
theorem rootB_ok {p : PV} (h : rootB p = true) : p.ok = true := by
 unfold rootB at h
 rcases Bool.or_eq_true_iff.1 h with h | h
 ·exact PV.hole_ok h
 ·exact (Bool.and_eq_true_iff.1 h).1
theorem alone_bd {r : RC} (h : r.aloneB = true) : r.Bd := by
 unfold RC.aloneB at h
 simp only [Bool.and_eq_true] at h
 obtain ⟨⟨⟨⟨h1, h2⟩, h3⟩, h4⟩, h5⟩ := h
 unfold RC.kindB at h5
 have z : R31 0 := ⟨by decide, by decide⟩
 have one : R31 1 := ⟨by decide, by decide⟩
 have two : R31 2 := ⟨by decide, by decide⟩
 by_cases k1 : (r.kind == 1) = true
 ·rw [if_pos k1] at h5
  simp only [Bool.and_eq_true] at h5
  obtain ⟨⟨⟨⟨a1, a2⟩, a3⟩, a4⟩, a5⟩ := h5
  exact ⟨inB_31 h1 (by decide) (by decide), eq_31 k1 one, inB_31 h2 (by decide) (by decide), inB_31 h3 (by decide) (by decide), eq_31 a2 z, inB_31 a3 (by decide) (by decide), inB_31 a4 (by decide) (by decide), inB_31 a5 (by decide) (by decide), by have := (part_bd a1).2; omega, rootB_ok h4⟩
 ·rw [if_neg k1] at h5
  by_cases k2 : (r.kind == 2) = true
  ·rw [if_pos k2] at h5
   simp only [Bool.and_eq_true] at h5
   obtain ⟨⟨⟨⟨⟨a1, a2⟩, a3⟩, a4⟩, a5⟩, a6⟩ := h5
   exact ⟨inB_31 h1 (by decide) (by decide), eq_31 k2 two, inB_31 h2 (by decide) (by decide), inB_31 h3 (by decide) (by decide), inB_31 a2 (by decide) (by decide), eq_31 a3 z, eq_31 a4 z, eq_31 a5 z, snapB_len a1, rootB_ok h4⟩
  ·rw [if_neg k2] at h5
   cases h5
structure TC.Bd (t : TC) : Prop where
 next : R31 t.next
 kind : R31 t.kind
 dev : R31 t.dev
 at_ : R31 t.at_
 txg : R31 t.txg
 many : t.recs.length ≤ 16
 lives : t.lives.length ≤ 8
 recs : ∀ r ∈ t.recs, r.Bd
 live : ∀ z ∈ t.lives, R31 z
theorem cur_bd {t : TC} (h : t.curB = true) (hl : t.lives.length ≤ 8) : R31 t.kind ∧ R31 t.dev ∧ R31 t.at_ ∧ R31 t.txg := by
 have z : R31 0 := ⟨by decide, by decide⟩
 have one : R31 1 := ⟨by decide, by decide⟩
 have two : R31 2 := ⟨by decide, by decide⟩
 unfold TC.curB at h
 rcases Bool.or_eq_true_iff.1 h with h | h
 ·unfold TC.cur0 at h
  simp at h
  obtain ⟨h1, h2, h3, h4⟩ := h
  rw [h1, h2, h3, h4]
  exact ⟨z, z, z, z⟩
 ·simp only [Bool.and_eq_true] at h
  obtain ⟨⟨h1, h2⟩, h3⟩ := h
  have a1 := inB_31 h1 (by decide) (by decide)
  have a2 := inB_31 h2 (by decide) (by decide)
  rcases Bool.or_eq_true_iff.1 h3 with h | h
  ·simp only [Bool.and_eq_true] at h
   exact ⟨eq_31 h.1 one, eq_31 h.2 z, a1, a2⟩
  ·simp only [Bool.and_eq_true] at h
   exact ⟨eq_31 h.1 two, inB_31 h.2 (by decide) (by omega), a1, a2⟩
theorem ok_bd {t : TC} (h : t.ok = true) : t.Bd := by
 unfold TC.ok at h
 simp only [Bool.and_eq_true] at h
 obtain ⟨⟨⟨⟨h1, h2⟩, h3⟩, h4⟩, h5⟩ := h
 unfold TC.sizeB at h1
 simp only [Bool.and_eq_true, decide_eq_true_eq] at h1
 obtain ⟨⟨a1, a2⟩, a3⟩ := h1
 have hl : t.lives.length ≤ 8 := by
  unfold inB at a3
  simp only [Bool.and_eq_true, decide_eq_true_eq] at a3
  omega
 obtain ⟨c1, c2, c3, c4⟩ := cur_bd h2 hl
 refine ⟨inB_31 a1 (by decide) (by decide), c1, c2, c3, c4, by omega, hl, fun r hr => ?_, fun z hz => ?_⟩
 ·obtain ⟨i, hi⟩ := List.getElem?_of_mem hr
  have := allAt_at h4 hi
  unfold eachB at this
  exact alone_bd (Bool.and_eq_true_iff.1 this).1
 ·unfold TC.livesB at h3
  exact inB_31 (List.all_eq_true.1 h3 z hz) (by decide) (by decide)
end Go.Proofs.YtifajcblbedcoaaGreat
namespace Go.Proofs.YtifajcblbedcoaaGreat
set_option linter.unusedVariables false
set_option linter.unusedSimpArgs false
open Go.RowKit Hp
def noTab : TC := ⟨0, [], 0, 0, 0, 0, []⟩
abbrev TR := Int × TC
def badR (e : Int) : TR := (e, noTab)
def opR (t : TC) (r : TR) : TR := if t.ok then (if r.1 == 0 then r else badR r.1) else badR 2
def newR (devs : Int) : TR := if inB devs 2 8 then (0, ⟨1, [], 0, 0, 0, 0, List.replicate devs.toNat 0⟩) else badR 2
def recAt (nm : List UInt8) (l : List RC) : Option RC := l.find? fun x => x.name == nm
def isAt (nm : List UInt8) (l : List RC) : Bool := (recAt nm l).isSome
def fullB (t : TC) : Bool := decide ((t.recs.length : Int) ≥ 16) || decide (t.next ≥ 2147483648)
def roomE (t : TC) (nm : List UInt8) : Int := if isAt nm t.recs then 7 else if fullB t then 8 else 0
def layL (x : RC) (l : List RC) : List RC := (l.takeWhile fun y => lessL y.name x.name) ++ x :: (l.dropWhile fun y => lessL y.name x.name)
def sortL (l : List RC) : List RC := l.foldl (fun out x => layL x out) []
def putT (t : TC) (x : RC) : TC := { t with next := t.next + 1, recs := layL { x with id := t.next } t.recs }
def volR (nm : List UInt8) (size txg : Int) : RC := { id := 0, kind := 1, size := size, made := txg, own := 0, origin := 0, quota := 0, reserve := 0, name := nm, l := [], b := 0, v := 0, S := nones }
def snapR (v : RC) (nm : List UInt8) (txg : Int) : RC := { id := 0, kind := 2, size := v.size, made := txg, own := v.id, origin := 0, quota := 0, reserve := 0, name := nm, l := v.l, b := v.b, v := v.v, S := v.S }
def cloneR (s : RC) (nm : List UInt8) (txg : Int) : RC := { id := 0, kind := 1, size := s.size, made := txg, own := 0, origin := s.id, quota := 0, reserve := 0, name := nm, l := s.l, b := s.b, v := s.v, S := s.S }
def txgB (txg : Int) : Bool := inB txg 1 2147483648
def makeR (t : TC) (nm : List UInt8) (size txg : Int) : TR :=
 if (partB nm && inB size 1 64) && txgB txg then (if roomE t nm == 0 then (0, putT t (volR nm size txg)) else badR (roomE t nm)) else badR 2
def snapT (t : TC) (nm : List UInt8) (txg : Int) : TR :=
 if snapB nm && txgB txg then (match recAt (splitL nm).1 t.recs with
  | none => badR 6
  | some v => if roomE t nm == 0 then (if decide (txg < v.b) then badR 2 else (0, putT t (snapR v nm txg))) else badR (roomE t nm)) else badR 2
def cloneT (t : TC) (snap nm : List UInt8) (txg : Int) : TR :=
 if (snapB snap && partB nm) && txgB txg then (match recAt snap t.recs with
  | none => badR 6
  | some s => if roomE t nm == 0 then (0, putT t (cloneR s nm txg)) else badR (roomE t nm)) else badR 2
def newerB (a b : RC) : Bool := decide (b.made < a.made) || ((a.made == b.made) && decide (b.id < a.id))
def setN (nm : List UInt8) (l : List RC) (y : RC) : List RC := l.set (findN nm l).toNat y
def backR (v s : RC) : RC := { v with size := s.size, l := s.l, b := s.b, v := s.v, S := s.S }
def rollT (t : TC) (snap : List UInt8) : TR :=
 if snapB snap then (match recAt snap t.recs with
  | none => badR 6
  | some s => if t.recs.any (fun x => (x.own == s.own) && newerB x s) then badR 17 else
   (match recAt (splitL snap).1 t.recs with
   | none => badR 0
   | some v => (0, { t with recs := setN (splitL snap).1 t.recs (backR v s) }))) else badR 2
def namedB (nm : List UInt8) : Bool := partB nm || snapB nm
def dropT (t : TC) (nm : List UInt8) : TR :=
 if namedB nm then (match recAt nm t.recs with
  | none => badR 6
  | some r => if t.recs.any (fun x => (x.own == r.id) || (x.origin == r.id)) then badR 17 else (0, { t with recs := t.recs.eraseIdx (findN nm t.recs).toNat })) else badR 2
def alikeB (a b : List UInt8) : Bool := (partB a && partB b) || (((splitL a).2.2 && (splitL b).2.2) && ((splitL a).1 == (splitL b).1))
def renR (nm tn : List UInt8) (x : RC) : RC := if x.name == nm then { x with name := tn } else if (splitL x.name).2.2 && ((splitL x.name).1 == nm) then { x with name := (joinL tn (splitL x.name).2.1).1 } else x
def renameT (t : TC) (nm tn : List UInt8) : TR :=
 if alikeB nm tn then (if isAt nm t.recs then (if isAt tn t.recs then badR 7 else (0, { t with recs := sortL (t.recs.map (renR nm tn)) })) else badR 6) else badR 2
def changeT (t : TC) (nm : List UInt8) (fine : Bool) (f : RC → RC) : TR :=
 if fine && namedB nm then (match recAt nm t.recs with
  | none => badR 6
  | some r => if r.kind == 2 then badR 18 else (0, { t with recs := setN nm t.recs (f r) })) else badR 2
def limB (n : Int) : Bool := inB n 0 64
def resizeT (t : TC) (nm : List UInt8) (size : Int) : TR := changeT t nm (inB size 1 64) fun v => { v with size := size }
def limitT (t : TC) (nm : List UInt8) (q r : Int) : TR := changeT t nm (limB q && limB r) fun v => { v with quota := q, reserve := r }
def rootT (t : TC) (nm : List UInt8) (p : PV) : TR := changeT t nm (rootB p) fun v => { v with l := p.l, b := p.b, v := p.v, S := p.S }
theorem find_split {nm : List UInt8} : ∀ {l : List RC}, (recAt nm l = none ∧ findP nm l = (0, false)) ∨ ∃ (j : Nat) (y : RC), l[j]? = some y ∧ recAt nm l = some y ∧ findN nm l = (j : Int) ∧ findP nm l = ((j : Int), true) ∧ y.name = nm := by
 intro l
 by_cases h : ∃ x ∈ l, (x.name == nm) = true
 ·right
  obtain ⟨j, hj⟩ : ∃ j, j = l.findIdx (fun x => x.name == nm) := ⟨_, rfl⟩
  have hlt : l.findIdx (fun x => x.name == nm) < l.length := List.findIdx_lt_length.2 h
  have e1 : findN nm l = (l.findIdx (fun x => x.name == nm) : Int) := idxI_first hlt (List.findIdx_getElem (w := hlt)) (fun i hi => by simpa using List.not_of_lt_findIdx hi)
  refine ⟨l.findIdx (fun x => x.name == nm), l[l.findIdx (fun x => x.name == nm)], List.getElem?_eq_getElem hlt, ?_, e1, ?_, ?_⟩
  ·unfold recAt
   rw [List.find?_eq_some_iff_getElem]
   exact ⟨List.findIdx_getElem (w := hlt), _, hlt, rfl, fun i hi => by simpa using List.not_of_lt_findIdx hi⟩
  ·unfold findP
   rw [e1, if_neg (by omega)]
  ·simpa using List.findIdx_getElem (w := hlt)
 ·left
  have h0 : ∀ x ∈ l, (x.name == nm) = false := fun x hx => by
   cases hh : (x.name == nm) with
   | false => rfl
   | true => exact absurd ⟨x, hx, hh⟩ h
  refine ⟨?_, ?_⟩
  ·unfold recAt
   rw [List.find?_eq_none]
   intro x hx
   simp [h0 x hx]
  ·unfold findP
   rw [show findN nm l = -1 from idxI_none h0]
   rfl
theorem findP_is (nm : List UInt8) (l : List RC) : (findP nm l).2 = isAt nm l := by
 unfold isAt
 rcases find_split (nm := nm) (l := l) with ⟨h1, h2⟩ | ⟨j, y, _, h1, _, h2, _⟩
 ·rw [h1, h2]; rfl
 ·rw [h1, h2]; rfl
def nLess (x : RC) (l : List RC) : Nat := (l.takeWhile fun y => lessL y.name x.name).length
theorem layL_at (x : RC) (l : List RC) : layL x l = l.take (nLess x l) ++ x :: l.drop (nLess x l) := by
 have key : ∀ p : RC → Bool, l.takeWhile p = l.take (l.takeWhile p).length ∧ l.dropWhile p = l.drop (l.takeWhile p).length := by
  intro p
  induction l with
  | nil => exact ⟨rfl, rfl⟩
  | cons y l ih =>
   by_cases h : p y = true
   ·simp [List.takeWhile_cons, List.dropWhile_cons, h]
    exact ih
   ·simp [List.takeWhile_cons, List.dropWhile_cons, h]
 unfold layL nLess
 rw [← (key _).1, ← (key _).2]
theorem nLess_le (x : RC) (l : List RC) : nLess x l ≤ l.length := by
 unfold nLess
 exact (List.takeWhile_sublist _).length_le
theorem layL_length (x : RC) (l : List RC) : (layL x l).length = l.length + 1 := by
 have := nLess_le x l
 rw [layL_at, List.length_append, List.length_cons, List.length_take, List.length_drop]
 omega
theorem nLess_of {x : RC} {l : List RC} {k : Nat} (hk : k ≤ l.length) (h1 : ∀ i y, i < k → l[i]? = some y → lessL y.name x.name = true) (h2 : ∀ y, l[k]? = some y → lessL y.name x.name = false) : nLess x l = k := by
 unfold nLess
 induction l generalizing k with
 | nil => simp at hk; simp [hk]
 | cons y l ih =>
  cases k with
  | zero =>
   have := h2 y rfl
   simp [List.takeWhile_cons, this]
  | succ k =>
   have h0 := h1 0 y (by omega) rfl
   rw [List.takeWhile_cons, if_pos h0, List.length_cons, ih (k := k) (by simpa using hk) (fun i z hi hz => h1 (i + 1) z (by omega) (by simpa using hz)) (fun z hz => h2 z (by simpa using hz))]
def Sorted (l : List RC) : Prop := ∀ (i j : Nat) (x y : RC), i < j → l[i]? = some x → l[j]? = some y → lessL x.name y.name = true
theorem Sorted.mono {l : List RC} (h : Sorted l) {x : RC} {i j : Nat} {y z : RC} (hij : i ≤ j) (hy : l[i]? = some y) (hz : l[j]? = some z) (hl : lessL z.name x.name = true) : lessL y.name x.name = true := by
 by_cases e : i = j
 ·subst e
  rw [hy] at hz
  cases hz
  exact hl
 ·exact less_trans (h i j y z (by omega) hy hz) hl
end Go.Proofs.YtifajcblbedcoaaGreat
namespace Go.Proofs.YtifajcblbedcoaaGreat
set_option linter.unusedVariables false
set_option linter.unusedSimpArgs false
open Go.RowKit Hp
attribute [local irreducible] Go.Calls Go.wpList
set_option maxRecDepth 100000
set_option maxHeartbeats 8000000
attribute [local go_sem ↓] heldInt heldInts heldRecs heldRec heldStr
def cmpN (x y : RC) : Int := if lessL x.name y.name then -1 else if lessL y.name x.name then 1 else 0
theorem cmpN_lt (x y : RC) : decide (cmpN x y < 0) = lessL x.name y.name := by
 unfold cmpN
 cases lessL x.name y.name <;> cases lessL y.name x.name <;> rfl
theorem layC_any (x y : Value × RC) (w : World) (hx : RC.In w x) (hy : RC.In w y) : Calls Tryz.prog 117 #[.agg (cellsR x).toArray, .agg (cellsR y).toArray] w fun e w' => e = .returned (.int .i64 (cmpN x.2 y.2)) ∧ St w [] w' [] := by
 have hst0 := St.refl w
 have HX := hid hx
 have HY := hid hy
 clear hx hy
 unfold cmpN
 cases h1 : lessL x.2.name y.2.name
 ·cases h2 : lessL y.2.name x.2.name
  ·have H1 := hid h1
   have H2 := hid h2
   clear h1 h2
   go_enter Tryz.func117, Tryz.ntmps117
   go_wp2_with (first | go_big_skip | go_big_guard | (refine wl_boxA hst0 rfl rfl rfl ?_; intro gx w1 hst1; clear hst0) | (refine wl_boxA hst1 rfl rfl rfl ?_; intro gy w1 hst; clear hst1) | (refine wl_loadE rfl rfl rfl ?_; first | refine ⟨_, Loads.at [_] hst rfl, ?_⟩ | refine ⟨_, Loads.at [] hst rfl, ?_⟩) | (go_at_call 52; first | (refine (less_any x.2.name y.2.name _ HX.out.2 HY.out.2).mono ?_; rw [H1.out]; rintro _ w9 ⟨rfl, h4⟩; replace hst := St.call0 hst h4; clear h4) | (refine (less_any y.2.name x.2.name _ HY.out.2 HX.out.2).mono ?_; rw [H2.out]; rintro _ w9 ⟨rfl, h4⟩; replace hst := St.call0 hst h4; clear h4)))
   go_ret
   exact ⟨rfl, hst.nil⟩
  ·have H1 := hid h1
   have H2 := hid h2
   clear h1 h2
   go_enter Tryz.func117, Tryz.ntmps117
   go_wp2_with (first | go_big_skip | go_big_guard | (refine wl_boxA hst0 rfl rfl rfl ?_; intro gx w1 hst1; clear hst0) | (refine wl_boxA hst1 rfl rfl rfl ?_; intro gy w1 hst; clear hst1) | (refine wl_loadE rfl rfl rfl ?_; first | refine ⟨_, Loads.at [_] hst rfl, ?_⟩ | refine ⟨_, Loads.at [] hst rfl, ?_⟩) | (go_at_call 52; first | (refine (less_any x.2.name y.2.name _ HX.out.2 HY.out.2).mono ?_; rw [H1.out]; rintro _ w9 ⟨rfl, h4⟩; replace hst := St.call0 hst h4; clear h4) | (refine (less_any y.2.name x.2.name _ HY.out.2 HX.out.2).mono ?_; rw [H2.out]; rintro _ w9 ⟨rfl, h4⟩; replace hst := St.call0 hst h4; clear h4)))
   go_ret
   exact ⟨rfl, hst.nil⟩
 ·have H1 := hid h1
  clear h1
  go_enter Tryz.func117, Tryz.ntmps117
  go_wp2_with (first | go_big_skip | go_big_guard | (refine wl_boxA hst0 rfl rfl rfl ?_; intro gx w1 hst1; clear hst0) | (refine wl_boxA hst1 rfl rfl rfl ?_; intro gy w1 hst; clear hst1) | (refine wl_loadE rfl rfl rfl ?_; first | refine ⟨_, Loads.at [_] hst rfl, ?_⟩ | refine ⟨_, Loads.at [] hst rfl, ?_⟩) | (go_at_call 52; first | (refine (less_any x.2.name y.2.name _ HX.out.2 HY.out.2).mono ?_; rw [H1.out]; rintro _ w9 ⟨rfl, h4⟩; replace hst := St.call0 hst h4; clear h4) | (refine (less_any y.2.name x.2.name _ HY.out.2 HX.out.2).mono ?_; rw [H1.out]; rintro _ w9 ⟨rfl, h4⟩; replace hst := St.call0 hst h4; clear h4)))
  go_ret
  exact ⟨rfl, hst.nil⟩
theorem search_any (ao : Option Addr) (n c : Nat) (xs : List (Value × RC)) (y : Value × RC) (w : World) (hl : RecsIn w (.slice ao n c) n xs) (hy : RC.In w y) (hs : Sorted (xs.map (·.2))) (hb : n ≤ 1000000) :
  Calls Tryz.prog 116 #[.slice ao n c, .agg (cellsR y).toArray, .func (.func 117) #[] #[]] w fun e w' => ∃ q : Bool, e = .returned (.tuple #[.int .i64 (nLess y.2 (xs.map (·.2)) : Nat), .bool q]) ∧ St w [] w' [] := by
 have hst0 := St.refl w
 have HL := hid hl
 have HIY := hid hy
 have HLY := hid (cellsR_len hy.L)
 have HS := hid hs
 obtain ⟨N, hN⟩ : ∃ N, N = nLess y.2 (xs.map (·.2)) := ⟨_, rfl⟩
 rw [← hN]
 have HN := hid hN
 clear hl hy hs hN
 go_enter Tryz.func116, Tryz.ntmps116
 go_wp2_with (first | go_big_skip | go_big_guard | (refine wl_boxA hst0 rfl rfl rfl ?_; intro g4 w1 hst; clear hst0))
 go_loopw [9, 10] (fun iv jv wr => ∃ lo hi : Nat, lo ≤ hi ∧ hi ≤ n ∧ iv = .int .i64 (lo : Int) ∧ jv = .int .i64 (hi : Int) ∧ St w [] wr [.blk g4 53 (cellsR y)] ∧ Hid ((∀ (i : Nat) (u : Value × RC), i < lo → xs[i]? = some u → lessL u.2.name y.2.name = true) ∧ (∀ (i : Nat) (u : Value × RC), hi ≤ i → xs[i]? = some u → lessL u.2.name y.2.name = false))) (fun iv jv _ => (intOf jv - intOf iv).toNat)
 case atStart => exact ⟨0, n, by omega, by omega, rfl, rfl, hst, hid ⟨fun i u hi _ => by omega, fun i u hi hu => by have := (List.getElem?_eq_some_iff.1 hu).1; have := HL.out.len; omega⟩⟩
 case round =>
  clear hst
  obtain ⟨lo, hi, hlh, hhi, rfl, rfl, hst, HI⟩ := hrel
  by_cases hlt : lo < hi
  ·have e1 : decide ((lo : Int) < (hi : Int)) = true := decide_eq_true (by omega)
   obtain ⟨m, hm⟩ : ∃ m : Nat, m = (lo + hi) / 2 := ⟨_, rfl⟩
   have hm1 : lo ≤ m := by omega
   have hm2 : m < hi := by omega
   have hmn : m < n := by omega
   have z1 : IntKind.i64.wrap ((lo : Int) + (hi : Int)) = (lo : Int) + (hi : Int) := IntWalk.i64_in _ (by omega)
   have z5 : IntKind.i64.wrap ((m : Int) + 1) = (m : Int) + 1 := IntWalk.i64_in _ (by omega)
   obtain ⟨x, lb, lo0, hx, har, hin, hr⟩ := RecsIn.at HL.out hmn
   subst har
   have HX := hid hx
   have HIX := hid hin
   have HLX := hid (cellsR_len hin.L)
   have HRX := hid hr
   obtain ⟨q, hq⟩ : ∃ q, cmpN x.2 y.2 = q := ⟨_, rfl⟩
   have HQ := hid hq
   clear hx hr hin hq
   have HM := hid hm
   have e3 : ((lo : Int) + (hi : Int)) / 2 = (m : Int) := by omega
   clear hm
   go_wp2_with (first | go_big_skip | go_big_guard | fail)
   by_cases hc : q < 0
   ·have d1 : decide (q < 0) = true := decide_eq_true hc
    have HC := hid hc
    clear hc
    have hX := hst.drew
    clear hst
    refine wp_region_held_drew (S := (fun w' => (loadVarH 53 ⟨lb, lo0 + m * 44, none⟩).run Tryz.prog w' = .ok (.agg (List.toArray (cellsR x))) w' ∧ (loadVarH 53 ⟨g4, 0, none⟩).run Tryz.prog w' = .ok (.agg (List.toArray (cellsR y))) w')) (by kernel_rfl) (by exact ⟨ldOA hX HLX.out HRX.out, ldA (cellsR y) [] hX (HLY.out) (cellsR_all y)⟩) (fun hHeld => ?_)
    refine tq 0 24 ?_
    refine tq 1 25 ?_
    refine tq 2 26 ?_
    refine tq 5 29 ?_
    refine tq 3 27 ?_
    refine tq 4 28 ?_
    refine wpAnyH_ready (rs := [6]) (by kernel_rfl) (by simp) ?_
    refine (AllReadyH.cons (o := ⟨some 30, _, _, _, _, _⟩) rfl (fun K hK => ?_) AllReadyH.nil)
    rw [if_pos (by rfl)]
    go_simp
    go_at_call 117
    refine (layC_any x y _ (RC.In.old hX.nil HIX.out) (RC.In.old hX.nil HIY.out)).mono ?_
    rw [HQ.out]
    rintro _ w9 ⟨rfl, h4⟩
    have hA6 := St.call0 hX h4
    clear h4
    refine hK.out _ _ ?_ (fun hHeld => ?_)
    ·exact ⟨ldOA hA6 HLX.out HRX.out, ldA (cellsR y) [] hA6 (HLY.out) (cellsR_all y)⟩
    clear hK K
    (try simp only [Act.put, List.setIfInBounds_toArray, List.set_cons_zero, List.set_cons_succ])
    refine tq 7 31 ?_
    refine wpAnyH_done (by kernel_rfl) ?_ _
    clear hHeld
    go_wp2_with (first | go_big_skip | go_big_guard | fail)
    go_roundw
    case rel =>
     refine ⟨m + 1, hi, by omega, hhi, by push_cast; rfl, rfl, hA6, hid ⟨fun i u hi hu => ?_, HI.out.2⟩⟩
     have hm1 : lessL x.2.name y.2.name = true := by rw [← cmpN_lt, HQ.out]; exact decide_eq_true (by have := HC.out; omega)
     exact HS.out.mono (x := y.2) (i := i) (j := m) (by omega) (map_at hu) (map_at HX.out) hm1
    case measure => simp [intOf]; omega
   ·have d1 : decide (q < 0) = false := decide_eq_false hc
    have HC := hid hc
    clear hc
    have hX := hst.drew
    clear hst
    refine wp_region_held_drew (S := (fun w' => (loadVarH 53 ⟨lb, lo0 + m * 44, none⟩).run Tryz.prog w' = .ok (.agg (List.toArray (cellsR x))) w' ∧ (loadVarH 53 ⟨g4, 0, none⟩).run Tryz.prog w' = .ok (.agg (List.toArray (cellsR y))) w')) (by kernel_rfl) (by exact ⟨ldOA hX HLX.out HRX.out, ldA (cellsR y) [] hX (HLY.out) (cellsR_all y)⟩) (fun hHeld => ?_)
    refine tq 0 24 ?_
    refine tq 1 25 ?_
    refine tq 2 26 ?_
    refine tq 5 29 ?_
    refine tq 3 27 ?_
    refine tq 4 28 ?_
    refine wpAnyH_ready (rs := [6]) (by kernel_rfl) (by simp) ?_
    refine (AllReadyH.cons (o := ⟨some 30, _, _, _, _, _⟩) rfl (fun K hK => ?_) AllReadyH.nil)
    rw [if_pos (by rfl)]
    go_simp
    go_at_call 117
    refine (layC_any x y _ (RC.In.old hX.nil HIX.out) (RC.In.old hX.nil HIY.out)).mono ?_
    rw [HQ.out]
    rintro _ w9 ⟨rfl, h4⟩
    have hA6 := St.call0 hX h4
    clear h4
    refine hK.out _ _ ?_ (fun hHeld => ?_)
    ·exact ⟨ldOA hA6 HLX.out HRX.out, ldA (cellsR y) [] hA6 (HLY.out) (cellsR_all y)⟩
    clear hK K
    (try simp only [Act.put, List.setIfInBounds_toArray, List.set_cons_zero, List.set_cons_succ])
    refine tq 7 31 ?_
    refine wpAnyH_done (by kernel_rfl) ?_ _
    clear hHeld
    go_wp2_with (first | go_big_skip | go_big_guard | fail)
    go_roundw
    case rel =>
     refine ⟨lo, m, by omega, by omega, rfl, rfl, hA6, hid ⟨HI.out.1, fun i u hi hu => ?_⟩⟩
     have hm1 : lessL x.2.name y.2.name = false := by rw [← cmpN_lt, HQ.out]; exact decide_eq_false (by have := HC.out; omega)
     cases hq : lessL u.2.name y.2.name with
     | false => rfl
     | true => rw [HS.out.mono (x := y.2) (i := m) (j := i) hi (map_at HX.out) (map_at hu) hq] at hm1; cases hm1
    case measure => simp [intOf]; omega
  ·have e1 : decide ((lo : Int) < (hi : Int)) = false := decide_eq_false (by omega)
   obtain rfl : lo = hi := by omega
   have hn0 : nLess y.2 (xs.map (·.2)) = lo := nLess_of (by rw [List.length_map, HL.out.len]; exact hhi) (fun i u hi hu => by
    rw [List.getElem?_map] at hu
    cases hv : xs[i]? with
    | none => rw [hv] at hu; cases hu
    | some v => rw [hv] at hu; cases hu; exact HI.out.1 i v hi hv) (fun u hu => by
    rw [List.getElem?_map] at hu
    cases hv : xs[lo]? with
    | none => rw [hv] at hu; cases hu
    | some v => rw [hv] at hu; cases hu; exact HI.out.2 lo v (Nat.le_refl _) hv)
   have HNN := hid (HN.out.trans hn0)
   clear hn0 HI
   go_wp2_with (first | go_big_skip | go_big_guard | fail)
   by_cases hln : lo < n
   ·have e2 : decide ((lo : Int) < (n : Int)) = true := decide_eq_true (by omega)
    obtain ⟨x, lb, lo0, hx, har, hin, hr⟩ := RecsIn.at HL.out hln
    subst har
    have HIX := hid hin
    have HLX := hid (cellsR_len hin.L)
    have HRX := hid hr
    obtain ⟨q, hq⟩ : ∃ q, cmpN x.2 y.2 = q := ⟨_, rfl⟩
    have HQ := hid hq
    clear hx hr hin hq
    have hX := hst.drew
    clear hst
    refine wp_region_held_drew (S := (fun w' => (loadVarH 53 ⟨lb, lo0 + lo * 44, none⟩).run Tryz.prog w' = .ok (.agg (List.toArray (cellsR x))) w' ∧ (loadVarH 53 ⟨g4, 0, none⟩).run Tryz.prog w' = .ok (.agg (List.toArray (cellsR y))) w')) (by kernel_rfl) (by exact ⟨ldOA hX HLX.out HRX.out, ldA (cellsR y) [] hX (HLY.out) (cellsR_all y)⟩) (fun hHeld => ?_)
    refine tq 0 35 ?_
    refine tq 1 36 ?_
    refine tq 2 37 ?_
    refine tq 3 38 ?_
    refine tq 4 39 ?_
    refine tq 5 40 ?_
    refine tq 6 41 ?_
    refine tq 7 42 ?_
    refine tq 10 45 ?_
    refine tq 8 43 ?_
    refine tq 9 44 ?_
    refine wpAnyH_ready (rs := [11]) (by kernel_rfl) (by simp) ?_
    refine (AllReadyH.cons (o := ⟨some 46, _, _, _, _, _⟩) rfl (fun K hK => ?_) AllReadyH.nil)
    rw [if_pos (by rfl)]
    go_simp
    go_at_call 117
    refine (layC_any x y _ (RC.In.old hX.nil HIX.out) (RC.In.old hX.nil HIY.out)).mono ?_
    rw [HQ.out]
    rintro _ w9 ⟨rfl, h4⟩
    have hA6 := St.call0 hX h4
    clear h4
    refine hK.out _ _ ?_ (fun hHeld => ?_)
    ·exact ⟨ldOA hA6 HLX.out HRX.out, ldA (cellsR y) [] hA6 (HLY.out) (cellsR_all y)⟩
    clear hK K
    (try simp only [Act.put, List.setIfInBounds_toArray, List.set_cons_zero, List.set_cons_succ])
    refine tq 12 47 ?_
    refine tq 14 6 ?_
    refine tq 13 48 ?_
    refine tq 15 7 ?_
    refine wpAnyH_done (by kernel_rfl) ?_ _
    clear hHeld
    go_wp2_with (first | go_big_skip | go_big_guard | fail)
    go_ret2
    exact ⟨_, (by rw [HNN.out]; rfl), hA6.nil⟩
   ·have e2 : decide ((lo : Int) < (n : Int)) = false := decide_eq_false (by omega)
    have hX := hst.drew
    clear hst
    refine wp_region_held_drew (S := (fun w' => (loadVarH 53 ⟨g4, 0, none⟩).run Tryz.prog w' = .ok (.agg (List.toArray (cellsR y))) w')) (by kernel_rfl) (by exact ldA (cellsR y) [] hX (HLY.out) (cellsR_all y)) (fun hHeld => ?_)
    refine tq 0 35 ?_
    refine tq 1 36 ?_
    refine tq 2 37 ?_
    refine tq 3 38 ?_
    refine tq 4 39 ?_
    refine tu 5 40 ?_
    refine tu 6 41 ?_
    refine tu 7 42 ?_
    refine tu 10 45 ?_
    refine tu 8 43 ?_
    refine tu 9 44 ?_
    refine wpAnyH_ready (rs := [11]) (by kernel_rfl) (by simp) ?_
    refine (AllReadyH.cons (o := ⟨some 46, _, _, _, _, _⟩) rfl (fun K hK => ?_) AllReadyH.nil)
    rw [if_neg (by rw [show Region.wanted _ _ = false from rfl]; exact Bool.false_ne_true)]
    refine hK.out _ _ ?_ (fun hHeld => ?_)
    ·exact ldA (cellsR y) [] hX (HLY.out) (cellsR_all y)
    clear hK K
    (try simp only [Act.put, List.setIfInBounds_toArray, List.set_cons_zero, List.set_cons_succ])
    refine tu 12 47 ?_
    refine tq 14 6 ?_
    refine tq 13 48 ?_
    refine tq 15 7 ?_
    refine wpAnyH_done (by kernel_rfl) ?_ _
    clear hHeld
    go_wp2_with (first | go_big_skip | go_big_guard | fail)
    go_ret2
    exact ⟨_, (by rw [HNN.out]; rfl), hX.nil⟩
end Go.Proofs.YtifajcblbedcoaaGreat
namespace Go.Proofs.YtifajcblbedcoaaGreat
set_option linter.unusedVariables false
set_option linter.unusedSimpArgs false
open Go.RowKit
namespace Hp
variable {P : Program}
theorem wl_storeO {ops : Array Oper} {rest : List Oper} {o : Oper} {a : Act} {w0 w : World} {M : List Nat} {Q : Exit → Act → World → Prop} {T T' : TypeId} {x y : Operand} {g n off : Nat} {vs cs cs' : List Value} (L1 : List HA) {L2 : List HA} (hst : St w0 M w (L1 ++ .blk g T' cs :: L2)) (hop : o.op = .store T x y)
  (hw : Region.wanted o (yielded ops a.tmps) = true) (hx : a.eval x = .pointer (some ⟨g, off, none⟩)) (hy : a.eval y = .agg vs.toArray) [hi : TyN P T n] (hn : vs.length = n)
  (h1 : vs.all (·.oneCell') = true) (hf : off + n ≤ cs.length) (he : putAt cs off vs = cs')
  (h : ∀ w', St w0 M w' (L1 ++ .blk g T' cs' :: L2) → wpList P ops Q rest (a.put o.dst undef) w') : wpList P ops Q (o :: rest) a w := by
 refine wl_store L1 hst hop hw hx hy (n := n) (by simpa [Value.cells] using hn) (by simpa [Value.cells] using h1) (by simp [Value.cells, hn, hf]) fun w' hst' => h w' ?_
 rw [← he]
 simpa [Value.cells] using hst'
end Hp
end Go.Proofs.YtifajcblbedcoaaGreat
namespace Go.Proofs.YtifajcblbedcoaaGreat
set_option linter.unusedVariables false
set_option linter.unusedSimpArgs false
open Go.RowKit
namespace Hp
variable {P : Program}
theorem row_openV {w0 w : World} {M : List Nat} {L1 L2 : List HA} {v : Value} {T : TypeId} {sz n : Nat} {xs : List Value} (h : St w0 M w (L1 ++ .row v T sz n xs :: L2)) (hn : 0 < n) : ∃ g c rest, v = .slice (some ⟨g, 0, none⟩) n c ∧ n ≤ c ∧ c ≤ 9223372036854775807 ∧ (xs ++ rest).length = c * sz ∧ xs.length = n * sz ∧ St w0 M w (L1 ++ .blk g T (xs ++ rest) :: L2) := by
 obtain ⟨hl, h2⟩ := h.owns (v := v) (T := T) (sz := sz) (n := n) (xs := xs) (by simp)
 rcases h2 with ⟨_, hz⟩ | ⟨g, cap, cur, rfl, _, hh, hnc, hcm, hs, hp⟩
 ·omega
 ·have e : xs ++ cur.toList.drop (n * sz) = cur.toList := by rw [← hp, List.take_append_drop]
  refine ⟨g, cap, cur.toList.drop (n * sz), rfl, hnc, hcm, by rw [e]; simpa using hs, hl, h.rep (y := .blk g T (xs ++ cur.toList.drop (n * sz))) rfl fun _ => ?_⟩
  show w.heap[g]? = _
  rw [hh, e]
theorem row_spot {w0 w : World} {M : List Nat} {L : List HA} {v : Value} {T : TypeId} {sz n : Nat} {xs : List Value} (h : St w0 M w L) (hm : HA.row v T sz n xs ∈ L) (hn : 0 < n) : ∃ g c, v = .slice (some ⟨g, 0, none⟩) n c ∧ w.rangeAt g 0 xs := by
 have hr := Rd.row h hm
 obtain ⟨L1, L2, rfl⟩ := List.append_of_mem hm
 obtain ⟨g, c, rest, rfl, _⟩ := row_openV h hn
 exact ⟨g, c, rfl, hr.range⟩
theorem put_left {l r vs : List Value} {k : Nat} (h : k + vs.length ≤ l.length) : putAt (l ++ r) k vs = putAt l k vs ++ r := by
 unfold putAt
 rw [List.take_append_of_le_length (by omega), List.drop_append_of_le_length (by omega), List.append_assoc, List.append_assoc]
theorem length_putAt {l vs : List Value} {k : Nat} (h : k + vs.length ≤ l.length) : (putAt l k vs).length = l.length := by
 unfold putAt
 simp
 omega
theorem wl_storeRow {ops : Array Oper} {rest : List Oper} {o : Oper} {a : Act} {w0 w : World} {M : List Nat} {Q : Exit → Act → World → Prop} {T T' : TypeId} {x y : Operand} {g sz n m c off : Nat} {vs xs : List Value} (L1 : List HA) {L2 : List HA} (hst : St w0 M w (L1 ++ .row (.slice (some ⟨g, 0, none⟩) n c) T' sz n xs :: L2)) (hop : o.op = .store T x y)
  (hw : Region.wanted o (yielded ops a.tmps) = true) (hx : a.eval x = .pointer (some ⟨g, off, none⟩)) (hy : a.eval y = .agg vs.toArray) [hi : TyN P T m] (hm : vs.length = m)
  (h1 : vs.all (·.oneCell') = true) (hf : off + m ≤ n * sz) (hn0 : 0 < n)
  (h : ∀ w', St w0 M w' (L1 ++ .row (.slice (some ⟨g, 0, none⟩) n c) T' sz n (putAt xs off vs) :: L2) → wpList P ops Q rest (a.put o.dst undef) w') : wpList P ops Q (o :: rest) a w := by
 obtain ⟨g', c', rs, e, hnc, hcm, hl, hxl, h2⟩ := row_openV hst hn0
 cases e
 refine wl_storeO L1 h2 hop hw hx hy (n := m) hm h1 (by rw [List.length_append, hxl]; omega) rfl fun w' h3 => h w' ?_
 rw [put_left (by rw [hm, hxl]; exact hf)] at h3
 have hpl : (putAt xs off vs).length = xs.length := length_putAt (by rw [hm, hxl]; exact hf)
 have h4 := St.toRow (n := n) (cap := c) (sz := sz) (St.front L1 h3) (by rw [List.length_append, hpl, ← List.length_append, hl]) hnc hcm
 rw [List.take_append_of_le_length (by rw [hpl, hxl]; exact Nat.le_refl _), List.take_of_length_le (by rw [hpl, hxl]; exact Nat.le_refl _)] at h4
 exact St.perm h4 List.perm_middle.symm
theorem wl_storeRow1 {ops : Array Oper} {rest : List Oper} {o : Oper} {a : Act} {w0 w : World} {M : List Nat} {Q : Exit → Act → World → Prop} {T T' : TypeId} {x y : Operand} {g sz n c off : Nat} {v : Value} {xs : List Value} (L1 : List HA) {L2 : List HA} (hst : St w0 M w (L1 ++ .row (.slice (some ⟨g, 0, none⟩) n c) T' sz n xs :: L2)) (hop : o.op = .store T x y)
  (hw : Region.wanted o (yielded ops a.tmps) = true) (hx : a.eval x = .pointer (some ⟨g, off, none⟩)) (hy : a.eval y = v) [hi : TyN P T 1] (hv : v.cells = #[v]) (h1 : v.oneCell' = true) (hf : off + 1 ≤ n * sz) (hn0 : 0 < n)
  (h : ∀ w', St w0 M w' (L1 ++ .row (.slice (some ⟨g, 0, none⟩) n c) T' sz n (putAt xs off [v]) :: L2) → wpList P ops Q rest (a.put o.dst undef) w') : wpList P ops Q (o :: rest) a w := by
 obtain ⟨g', c', rs, e, hnc, hcm, hl, hxl, h2⟩ := row_openV hst hn0
 cases e
 refine wl_store L1 h2 hop hw hx hy (n := 1) (by rw [hv]; rfl) (by rw [hv]; simpa using h1) (by rw [hv, List.length_append, hxl]; show off + 1 ≤ _; omega) fun w' h3 => h w' ?_
 rw [hv, show (#[v] : Array Value).toList = [v] from rfl, put_left (by rw [hxl]; exact hf)] at h3
 have hpl : (putAt xs off [v]).length = xs.length := length_putAt (by rw [hxl]; exact hf)
 have h4 := St.toRow (n := n) (cap := c) (sz := sz) (St.front L1 h3) (by rw [List.length_append, hpl, ← List.length_append, hl]) hnc hcm
 rw [List.take_append_of_le_length (by rw [hpl, hxl]; exact Nat.le_refl _), List.take_of_length_le (by rw [hpl, hxl]; exact Nat.le_refl _)] at h4
 exact St.perm h4 List.perm_middle.symm
theorem Loads.inRow {w0 w : World} {M : List Nat} {L : List HA} {T T' : TypeId} {g n sz c k : Nat} {v : Value} {xs : List Value} (h : St w0 M w L) (hm : HA.row (.slice (some ⟨g, 0, none⟩) n c) T' sz n xs ∈ L) [ht : TyS P T] (hk : xs[k]? = some v) : Loads P w T ⟨g, k, none⟩ v := by
 have hr := (Rd.row h hm).range
 have := hr k v hk
 rw [Nat.zero_add] at this
 exact Loads.cell ht.out this
theorem drop_putAt {l vs : List Value} {k d : Nat} (h : k + vs.length ≤ l.length) (hd : k + vs.length ≤ d) : (putAt l k vs).drop d = l.drop d := by
 unfold putAt
 have e1 : (l.take k).length = k := by rw [List.length_take]; omega
 rw [← List.append_assoc, List.drop_append, List.drop_of_length_le (by simp; omega), List.nil_append, List.drop_drop]
 congr 1
 simp
 omega
end Hp
end Go.Proofs.YtifajcblbedcoaaGreat
namespace Go.Proofs.YtifajcblbedcoaaGreat
set_option linter.unusedVariables false
set_option linter.unusedSimpArgs false
open Go.RowKit
namespace Hp
variable {P : Program}
theorem range_add {w : World} {b off : Nat} {xs : List Value} (hr : w.rangeAt b off xs) : ∀ j v, xs[j]? = some v → w.cell? ((⟨b, off, none⟩ : Addr).add j) = some v := fun j v hv => by
 rw [Addr.add_mid]
 exact hr j v hv
theorem run_copyM {w0 w : World} {M : List Nat} {L1 L2 : List HA} {g off n c b o2 m c2 k sz bytes : Nat} {T e t t' ty : TypeId} {cs xs : List Value} (hst : St w0 M w (L1 ++ .blk g T cs :: L2)) (ht : P.underlying t = some (.slice e)) (he : tyE P e sz bytes = true)
  (hr : w.rangeAt b o2 xs) (hk : xs.length = k * sz) (hmin : Nat.min m n = k) (h1 : xs.all (·.oneCell') = true) (hf : off + k * sz ≤ cs.length) :
  (Builtin.copy_ #[t, t'] ty #[.slice (some ⟨g, off, none⟩) n c, .slice (some ⟨b, o2, none⟩) m c2]).run P w = .ok (.int .i64 k) (w.setRow g (putAt cs off xs).toArray) := by
 obtain ⟨i, z, hi, hz, hs, hb, hzs⟩ := tyE_spec he
 have hg : w.heap[g]? = some (.cells cs.toArray T (0, 0)) := hst.all (.blk g T cs) (by simp)
 have hl := run_loadCells_list (P := P) w ⟨b, o2, none⟩ xs (range_add hr)
 rw [hk] at hl
 have hs2 := run_storeCells_at P g off T xs 0 cs.toArray w hg (by simpa [hk] using hf) (all_ones h1)
 simp only [Nat.add_zero, List.append_assoc] at hs2
 simp [Builtin.copy_, run_underlying ht, Builtin.lenOf, Builtin.firstCells, sizeOf, typeInfo, hi, hs, hmin, hl, hs2, goInt, putAt]
theorem wl_copyM {ops : Array Oper} {rest : List Oper} {o : Oper} {a : Act} {w0 w : World} {M : List Nat} {Q : Exit → Act → World → Prop} {d x : Operand} {g off n c b o2 m c2 k sz bytes : Nat} {T e t t' : TypeId} {cs xs : List Value} (L1 : List HA) {L2 : List HA} (hst : St w0 M w (L1 ++ .blk g T cs :: L2))
  (hop : o.op = .call { callee := .builtin .copy, args := #[d, x], argTypes := #[t, t'] }) (hw : Region.wanted o (yielded ops a.tmps) = true) (hd : a.eval d = .slice (some ⟨g, off, none⟩) n c) (hx : a.eval x = .slice (some ⟨b, o2, none⟩) m c2)
  (ht : TySl P t e) (he : TyE P e sz bytes) (hr : w.rangeAt b o2 xs) (hk : xs.length = k * sz) (hmin : Nat.min m n = k) (h1 : xs.all (·.oneCell') = true) (hf : off + k * sz ≤ cs.length)
  (h : ∀ w', St w0 M w' (L1 ++ .blk g T (putAt cs off xs) :: L2) → wpList P ops Q rest (a.put o.dst (.int .i64 k)) w') : wpList P ops Q (o :: rest) a w := by
 refine wl_run hw ?_ (h _ (hst.setRow _))
 unfold execOp
 simp only [hop, resolve, invoke, builtin, Sem.run_bind, Sem.run_pure, Result.andThen_ok, List.map_toArray, List.map_cons, List.map_nil, hd, hx]
 rw [run_copyM hst ht.out he.out hr hk hmin h1 hf]
 rfl
theorem wl_appZ {ops : Array Oper} {rest : List Oper} {o : Oper} {a : Act} {w0 w : World} {M : List Nat} {L : List HA} {Q : Exit → Act → World → Prop} {s x : Operand} {b off n c m sz bytes r : Nat} {e t tn : TypeId} {olds : List Value} {kn : IntKind} {zm : Int} (hst : St w0 M w L)
  (hop : o.op = .call { callee := .builtin .append, args := #[s, x], argTypes := #[t, tn] }) (hw : Region.wanted o (yielded ops a.tmps) = true) (hs : a.eval s = .slice (some ⟨b, off, none⟩) n c) (hx : a.eval x = .int .i64 zm) (hzm : zm = (m : Int))
  (ht : TySl P t e) (htn : P.underlying tn = some (.int kn)) (he : TyE P e sz bytes) (hr : w.rangeAt b off olds) (hl : olds.length = n * sz) (hgr : c < n + m) (hm : 0 < m) (hsz : 0 < sz) (hnm : n + m = r) (hb : (n + m) * bytes ≤ 140737488355328) (h63 : n + m ≤ 9223372036854775807)
  (h : ∀ g cap zs w', zs.length + n * sz = cap * sz → r ≤ cap → cap ≤ 9223372036854775807 → St w0 M w' (.blk g e (olds ++ zs) :: L) → wpList P ops Q rest (a.put o.dst (.slice (some ⟨g, 0, none⟩) r cap)) w') : wpList P ops Q (o :: rest) a w := by
 subst hzm hnm
 obtain ⟨i, z, hi, hz, hsi, hbi, hzs⟩ := tyE_spec he.out
 subst hsi hbi
 have hcap := growslice_fits (need := n + m) (old := c) (bytes := i.bytes) hgr hb
 have hmb : m * i.bytes ≤ 281474976710656 := by
  have : m * i.bytes ≤ (n + m) * i.bytes := Nat.mul_le_mul_right _ (by omega)
  omega
 have hold := run_firstCells_some (P := P) w.drew i.size n ⟨b, off, none⟩ n c olds hl (by simpa using range_add hr)
 have hrun := Lib.run_append_grow_zeros (P := P) w t tn o.type e i z .i64 kn ht.out htn hi hz (some ⟨b, off, none⟩) n c olds hold m hm hsz hgr (by omega) hmb hcap
 have hge := grownCap_ge w (n + m) c e
 have hcm := grownCap_le_maxLen w (n + m) c e (by unfold maxLen; omega)
 have h2 := St.alloc hst.drew e (olds ++ ((Builtin.zeroCells z.cells m).toList ++ (Builtin.zeroCells z.cells (grownCap w (n + m) c e - (n + m))).toList))
 have e2 : (olds ++ ((Builtin.zeroCells z.cells m).toList ++ (Builtin.zeroCells z.cells (grownCap w (n + m) c e - (n + m))).toList)).toArray = olds.toArray ++ Builtin.zeroCells z.cells m ++ Builtin.zeroCells z.cells (grownCap w (n + m) c e - (n + m)) := by
  apply Array.ext'
  simp
 rw [e2] at h2
 refine wl_run hw ?_ (h _ _ _ _ ?_ hge hcm h2)
 ·unfold execOp
  simp only [hop, resolve, invoke, builtin, Sem.run_bind, Sem.run_pure, Result.andThen_ok, List.map_toArray, List.map_cons, List.map_nil, hs, hx]
  rw [hrun]
  rfl
 ·rw [List.length_append, Array.length_toList, Array.length_toList, size_zeroCells, size_zeroCells, hzs, ← Nat.add_mul, ← Nat.add_mul]
  congr 1
  omega
theorem wl_clearM {ops : Array Oper} {rest : List Oper} {o : Oper} {a : Act} {w0 w : World} {M : List Nat} {Q : Exit → Act → World → Prop} {t e T : TypeId} {x : Operand} {g off n c sz bytes : Nat} {cs : List Value} (L1 : List HA) {L2 : List HA} (hst : St w0 M w (L1 ++ .blk g T cs :: L2))
  (hop : o.op = .call { callee := .builtin .clear, args := #[x], argTypes := #[t] }) (hw : Region.wanted o (yielded ops a.tmps) = true) (hx : a.eval x = .slice (some ⟨g, off, none⟩) n c) (ht : TySl P t e) (he : TyE P e sz bytes) {zs : List Value} (hz : TyZ P e zs) (h1 : zs.all (·.oneCell') = true) (hn : 0 < n) (hf : off + n * sz ≤ cs.length)
  (h : ∀ w' cs', cs'.length = cs.length → cs'.take off = cs.take off → St w0 M w' (L1 ++ .blk g T cs' :: L2) → wpList P ops Q rest (a.put o.dst (.tuple #[])) w') : wpList P ops Q (o :: rest) a w := by
 obtain ⟨i, z, hi, hzi, hs, hb, hzs⟩ := tyE_spec he.out
 have hzz : z.cells.toList = zs := by
  have := hz.out
  unfold tyZ at this
  simpa [hi, hzi] using this
 have hg : w.heap[g]? = some (.cells cs.toArray T (0, 0)) := hst.all (.blk g T cs) (by simp)
 have hsz : (Builtin.zeroCells z.cells n).toList.length = n * sz := by rw [Array.length_toList, size_zeroCells, hzs]
 have hq : z.cells.toList.all (·.oneCell') = true := by rw [hzz]; exact h1
 have hrun := run_storeCells_at P g off T (Builtin.zeroCells z.cells n).toList 0 cs.toArray w hg (by rw [hsz]; simpa using hf) (all_ones (all_zeroCells (p := (·.oneCell')) hq n))
 simp only [Nat.add_zero, List.append_assoc] at hrun
 have hl : (putAt cs off (Builtin.zeroCells z.cells n).toList).length = cs.length := by
  unfold putAt
  rw [List.length_append, List.length_append, hsz, List.length_take, List.length_drop]
  omega
 have htk : (putAt cs off (Builtin.zeroCells z.cells n).toList).take off = cs.take off := by
  unfold putAt
  rw [List.take_append_of_le_length (by rw [List.length_take]; omega), List.take_take, Nat.min_self]
 refine wl_run hw ?_ (h _ _ hl htk (hst.setRow _))
 obtain ⟨m, rfl⟩ : ∃ m, n = m + 1 := ⟨n - 1, by omega⟩
 unfold execOp
 simp only [hop, resolve, invoke, builtin, Sem.run_bind, Sem.run_pure, Result.andThen_ok, List.map_toArray, List.map_cons, List.map_nil, hx]
 have hzv : ∀ w, (zeroValue e).run P w = .ok z w := fun w => by simp [zeroValue, typeInfo, hi, hzi]
 simp only [Builtin.clear_, run_underlying ht.out, Sem.run_bind, Result.andThen_ok, hzv, hrun, List.getElem?_toArray, List.getElem?_cons_zero]
 rfl
theorem run_apart {w0 w : World} {M : List Nat} {L : List HA} {tS tR e A B : TypeId} {g h off1 off2 n m c d sz bytes : Nat} {cs ds : List Value} (hst : St w0 M w L) (h1 : HA.blk g A cs ∈ L) (h2 : HA.blk h B ds ∈ L) (hne : g ≠ h) (ht : P.underlying tS = some (.slice e)) (he : tyE P e sz bytes = true) (hd : ds ≠ []) :
  (Extern.SlicesOverlaps.overlaps #[tS, tS] #[tR] #[.slice (some ⟨g, off1, none⟩) n c, .slice (some ⟨h, off2, none⟩) m d]).run P w = .ok (.bool false) w := by
 obtain ⟨i, z, hi, hz, hs, hb, hzs⟩ := tyE_spec he
 have hg : w.heap[g]? = some (.cells cs.toArray A (0, 0)) := hst.all (.blk g A cs) h1
 have hh : w.heap[h]? = some (.cells ds.toArray B (0, 0)) := hst.all (.blk h B ds) h2
 refine Lib.run_overlaps_apart (P := P) w tS tR e ht sz (fun w => by simp [sizeOf, typeInfo, hi, hs]) ⟨g, off1, none⟩ ⟨h, off2, none⟩ n c m d hne A B cs.length ds.length ?_ ?_ ?_ ?_ ?_
 ·simp [World.shape?, hg]
 ·simp [World.shape?, hh]
 ·intro h0
  exact hd (List.length_eq_zero_iff.1 h0)
 ·simp [World.frozen?, hg]
 ·simp [World.frozen?, hg]
theorem wl_appRoomR {ops : Array Oper} {rest : List Oper} {o : Oper} {a : Act} {w0 w : World} {M : List Nat} {Q : Exit → Act → World → Prop} {s x : Operand} {t t' e : TypeId} {v u : Value} {g sz bytes n m r cap : Nat} {cs ys : List Value} (L1 : List HA) {L2 : List HA} (hst : St w0 M w (L1 ++ .blk g e cs :: L2)) (hv : v = .slice (some ⟨g, 0, none⟩) n cap)
  (hop : o.op = .call { callee := .builtin .append, args := #[s, x], argTypes := #[t, t'] }) (hw : Region.wanted o (yielded ops a.tmps) = true) (hs : a.eval s = v) (hx : a.eval x = u)
  (ht : TySl P t e) (ht' : TySl P t' e) (he : TyE P e sz bytes) (hrd : Rd w u sz m ys) (h1 : ys.all (·.oneCell') = true) (hroom : n + m ≤ cap) (hcs : cs.length = cap * sz) (hcap : cap ≤ 9223372036854775807) (hr : n + m = r)
  (h : ∀ w', St w0 M w' (L1 ++ .blk g e (putAt cs (n * sz) ys) :: L2) → wpList P ops Q rest (a.put o.dst (.slice (some ⟨g, 0, none⟩) r cap)) w') : wpList P ops Q (o :: rest) a w := by
 subst hr
 exact wl_appRoom L1 hst hv hop hw hs hx ht ht' he hrd h1 hroom hcs hcap h
end Hp
end Go.Proofs.YtifajcblbedcoaaGreat
namespace Go.Proofs.YtifajcblbedcoaaGreat
set_option linter.unusedVariables false
set_option linter.unusedSimpArgs false
open Go.RowKit Hp
attribute [local irreducible] Go.Calls
set_option maxRecDepth 100000
set_option maxHeartbeats 4000000
theorem eqNilI (ao : Option Addr) (n c : Nat) (w : World) : (binOp .eql 25 (.slice ao n c) (.slice none 0 0)).run Tryz.prog w = .ok (.bool ao.isNone) w :=
 eqSlNil w _ 3 ao n c (show Tryz.prog.underlying 25 = some (.slice 3) by kernel_rfl)
attribute [local go_sem ↓] eqNilI
theorem cloneI_any (ao : Option Addr) (n c : Nat) (xs : List Value) (w : World) (hA : Rd w (.slice ao n c) 1 n xs) (h1 : xs.all (·.oneCell') = true) (hb : n ≤ 100000) :
  Calls Tryz.prog 110 #[.slice ao n c] w fun e w' => ∃ v, e = .returned v ∧ St w [] w' [.row v 3 1 n xs] := by
 have hst := St.refl w
 rcases hA.casesF with ⟨he, h0, hb0⟩ | ⟨A, c', he, _⟩
 ·cases he
  subst hb0
  clear hA hb h1 h0
  go_enter Tryz.func110, Tryz.ntmps110
  go_wp2_with (first | go_big_skip | go_big_guard | fail)
  go_ret
  exact ⟨_, rfl, St.nilR _ _ hst⟩
 ·cases he
  go_enter Tryz.func110, Tryz.ntmps110
  go_wp2_with (first | go_big_skip | go_big_guard | (apply wl_bsX [] [] hst; rfl; rfl; exact rfl; exact rfl; infer_instance; infer_instance; rfl; rfl; rfl; intro g3 w3 hst3; clear hst; have hst4 := St.toRow (n := 0) (cap := 0) (sz := 1) hst3 rfl (by decide) (by decide); clear hst3) | (apply wl_appX [] hst4; rfl; rfl; exact rfl; exact rfl; infer_instance; infer_instance; infer_instance; exact Rd.old hst4 hA; exact h1; (unfold maxLen; omega); intro v9 w9 hst9 _; clear hst4))
  go_ret
  rw [Nat.zero_add] at hst9
  exact ⟨v9, rfl, hst9⟩
theorem eqNilA (ao : Option Addr) (n c : Nat) (w : World) : (binOp .eql 28 (.slice ao n c) (.slice none 0 0)).run Tryz.prog w = .ok (.bool ao.isNone) w :=
 eqSlNil w _ 102 ao n c (show Tryz.prog.underlying 28 = some (.slice 102) by kernel_rfl)
attribute [local go_sem ↓] eqNilA
theorem cloneA_any (ao : Option Addr) (n c : Nat) (xs : List Value) (w : World) (hA : Rd w (.slice ao n c) 2 n xs) (h1 : xs.all (·.oneCell') = true) (hb : n ≤ 100000) :
  Calls Tryz.prog 113 #[.slice ao n c] w fun e w' => ∃ v, e = .returned v ∧ St w [] w' [.row v 102 2 n xs] := by
 have hst := St.refl w
 rcases hA.casesF with ⟨he, h0, hb0⟩ | ⟨A, c', he, _⟩
 ·cases he
  subst hb0
  clear hA hb h1 h0
  go_enter Tryz.func113, Tryz.ntmps113
  go_wp2_with (first | go_big_skip | go_big_guard | fail)
  go_ret
  exact ⟨_, rfl, St.nilR _ _ hst⟩
 ·cases he
  go_enter Tryz.func113, Tryz.ntmps113
  go_wp2_with (first | go_big_skip | go_big_guard | (apply wl_bsX [] [] hst; rfl; rfl; exact rfl; exact rfl; infer_instance; infer_instance; rfl; rfl; rfl; intro g3 w3 hst3; clear hst; have hst4 := St.toRow (n := 0) (cap := 0) (sz := 2) hst3 rfl (by decide) (by decide); clear hst3) | (apply wl_appX [] hst4; rfl; rfl; exact rfl; exact rfl; infer_instance; infer_instance; infer_instance; exact Rd.old hst4 hA; exact h1; (unfold maxLen; omega); intro v9 w9 hst9 _; clear hst4))
  go_ret
  rw [Nat.zero_add] at hst9
  exact ⟨v9, rfl, hst9⟩
theorem eqNilR (ao : Option Addr) (n c : Nat) (w : World) : (binOp .eql 22 (.slice ao n c) (.slice none 0 0)).run Tryz.prog w = .ok (.bool ao.isNone) w :=
 eqSlNil w _ 53 ao n c (show Tryz.prog.underlying 22 = some (.slice 53) by kernel_rfl)
attribute [local go_sem ↓] eqNilR
theorem cloneR_any (ao : Option Addr) (n c : Nat) (xs : List Value) (w : World) (hA : Rd w (.slice ao n c) 44 n xs) (h1 : xs.all (·.oneCell') = true) (hb : n ≤ 100000) :
  Calls Tryz.prog 131 #[.slice ao n c] w fun e w' => ∃ v, e = .returned v ∧ St w [] w' [.row v 53 44 n xs] := by
 have hst := St.refl w
 rcases hA.casesF with ⟨he, h0, hb0⟩ | ⟨A, c', he, _⟩
 ·cases he
  subst hb0
  clear hA hb h1 h0
  go_enter Tryz.func131, Tryz.ntmps131
  go_wp2_with (first | go_big_skip | go_big_guard | fail)
  go_ret
  exact ⟨_, rfl, St.nilR _ _ hst⟩
 ·cases he
  go_enter Tryz.func131, Tryz.ntmps131
  go_wp2_with (first | go_big_skip | go_big_guard | (apply wl_bsX [] [] hst; rfl; rfl; exact rfl; exact rfl; infer_instance; infer_instance; rfl; rfl; rfl; intro g3 w3 hst3; clear hst; have hst4 := St.toRow (n := 0) (cap := 0) (sz := 44) hst3 rfl (by decide) (by decide); clear hst3) | (apply wl_appX [] hst4; rfl; rfl; exact rfl; exact rfl; infer_instance; infer_instance; infer_instance; exact Rd.old hst4 hA; exact h1; (unfold maxLen; omega); intro v9 w9 hst9 _; clear hst4))
  go_ret
  rw [Nat.zero_add] at hst9
  exact ⟨v9, rfl, hst9⟩
end Go.Proofs.YtifajcblbedcoaaGreat
namespace Go.Proofs.YtifajcblbedcoaaGreat
set_option linter.unusedVariables false
set_option linter.unusedSimpArgs false
open Go.RowKit Hp
attribute [local irreducible] Go.Calls Go.wpList
set_option maxRecDepth 100000
set_option maxHeartbeats 8000000
theorem putAt_mid {A B V R : List Value} (h : B.length = V.length) : putAt (A ++ (B ++ R)) A.length V = A ++ (V ++ R) := by
 unfold putAt
 rw [List.take_left, ← List.drop_drop, List.drop_left, ← h, List.drop_left]
theorem split_cells {C : List Value} {n i : Nat} (hl : C.length = n * 44) (hi : i ≤ n) : (C.take (i * 44)).length = i * 44 ∧ (C.drop (i * 44)).length = (n - i) * 44 := by
 rw [List.length_take, List.length_drop, hl]
 omega
theorem range_part {w0 w : World} {M : List Nat} {L : List HA} {g : Nat} {T : TypeId} {cs xs : List Value} {off : Nat} (hst : St w0 M w L) (hm : HA.blk g T cs ∈ L) (hx : (cs.drop off).take xs.length = xs) : w.rangeAt g off xs := by
 rw [← hx]
 exact rangeAt_take (hst.range hm)
theorem insEnd {w0 w : World} {M : List Nat} {R : List HA} (ao : Option Addr) (c i n g : Nat) (C X : List Value) (hS : St w0 M w (.blk g 53 X :: .row (.slice ao n c) 53 44 n C :: R)) (hl : C.length = n * 44) (hx : X.length = 44) (hC : C.all (·.oneCell') = true) (hX : X.all (·.oneCell') = true) (hn : n ≤ 100000) (hi : i = n) :
  Calls Tryz.prog 118 #[.slice ao n c, .int .i64 i, .slice (some ⟨g, 0, none⟩) 1 1] w fun e w' => ∃ v', e = .returned v' ∧ St w0 M w' (.row v' 53 44 (n + 1) (C.take (i * 44) ++ (X ++ C.drop (i * 44))) :: R) := by
 subst hi
 have hst := hS
 have HC := hid hC
 have HX := hid hX
 have HL := hid hl
 have HLX := hid hx
 have z1 : ((i : Int) == (i : Int)) = true := by simp
 clear hS hC hX hl hx
 go_enter Tryz.func118, Tryz.ntmps118
 go_wp2_with (first | go_big_skip | go_big_guard | (apply wl_appX (m := 1) (ys := X) [_] hst; rfl; rfl; exact rfl; exact rfl; infer_instance; infer_instance; infer_instance; exact Rd.blk (n := 1) hst (.head _) (Nat.le_refl _) (by decide) (by rw [HLX.out]) (by rw [List.drop_zero, List.take_length]); exact HX.out; exact ⟨by decide, by unfold maxLen; omega, by omega⟩; intro v9 w9 hst9 _; clear hst))
 all_goals go_ret
 all_goals refine ⟨v9, rfl, ?_⟩
 all_goals have h1 := St.sub hst9 (.cons _ (List.Sublist.refl _))
 all_goals rw [← HL.out, List.take_length, List.drop_length, List.append_nil]
 all_goals exact h1
end Go.Proofs.YtifajcblbedcoaaGreat
namespace Go.Proofs.YtifajcblbedcoaaGreat
set_option linter.unusedVariables false
set_option linter.unusedSimpArgs false
open Go.RowKit Hp
attribute [local irreducible] Go.Calls Go.wpList
set_option maxRecDepth 100000
set_option maxHeartbeats 8000000
theorem ins_cells {A Z X D : List Value} {i : Nat} (hA : A.length = i * 44) (hX : X.length = 44) : putAt (putAt (A ++ Z) (i * 44) X) ((i + 1) * 44) D = (A ++ (X ++ D)) ++ Z.drop (44 + D.length) := by
 have e1 : putAt (A ++ Z) (i * 44) X = (A ++ X) ++ Z.drop 44 := by
  unfold putAt
  rw [hX, ← hA, List.take_left, ← List.drop_drop, List.drop_left, List.append_assoc]
 have e2 : (A ++ X).length = (i + 1) * 44 := by rw [List.length_append, hA, hX]; omega
 rw [e1]
 unfold putAt
 rw [← e2, List.take_left, ← List.drop_drop, List.drop_left, List.drop_drop, List.append_assoc, List.append_assoc, List.append_assoc]
theorem insGrow {w0 w : World} {M : List Nat} {R : List HA} (i n g b c : Nat) (rest C X : List Value) (hS : St w0 M w (.blk g 53 X :: .blk b 53 (C ++ rest) :: R)) (hl : C.length = n * 44) (hx : X.length = 44) (hC : C.all (·.oneCell') = true) (hX : X.all (·.oneCell') = true) (hn : n ≤ 100000) (hi : i < n) (hc1 : n ≤ c) (hc2 : c < n + 1) (hc3 : c ≤ 9223372036854775807) :
  Calls Tryz.prog 118 #[.slice (some ⟨b, 0, none⟩) n c, .int .i64 i, .slice (some ⟨g, 0, none⟩) 1 1] w fun e w' => ∃ v', e = .returned v' ∧ St w0 M w' (.row v' 53 44 (n + 1) (C.take (i * 44) ++ (X ++ C.drop (i * 44))) :: R) := by
 have hst := hS
 have HC := hid hC
 have HX := hid hX
 have HL := hid hl
 have HLX := hid hx
 obtain ⟨i1, hi1⟩ : ∃ i1, i1 = i + 1 := ⟨_, rfl⟩
 obtain ⟨n1, hn1⟩ : ∃ n1, n1 = n + 1 := ⟨_, rfl⟩
 obtain ⟨k1, hk1⟩ : ∃ k1, k1 = n1 - i := ⟨_, rfl⟩
 have z1 : ((i : Int) == (n : Int)) = false := by rw [beq_eq_false_iff_ne]; omega
 have z2 : IntKind.i64.wrap ((n : Int) + 1) = (n1 : Int) := by rw [IntWalk.i64_in _ (by omega)]; omega
 have z3 : IntKind.i64.wrap ((n1 : Int) - (i : Int)) = (k1 : Int) := by rw [IntWalk.i64_in _ (by omega)]; omega
 have z4 : IntKind.i64.wrap ((i : Int) + 1) = (i1 : Int) := by rw [IntWalk.i64_in _ (by omega)]; omega
 have b1 : i ≤ n := by omega
 have b2 : i1 ≤ n := by omega
 have b3 : i1 ≤ n1 := by omega
 have b4 : i ≤ n1 := by omega
 have c1 : ¬ (c = i) := by omega
 have HI1 := hid hi1
 have HN1 := hid hn1
 have HK1 := hid hk1
 have HSP := hid (split_cells hl b1)
 clear hS hC hX hl hx hi1 hn1 hk1
 have d1 : decide ((n1 : Int) > (c : Int)) = true := decide_eq_true (by have := HN1.out; omega)
 have d2 : c < n1 := by have := HN1.out; omega
 clear d1
 go_enter Tryz.func118, Tryz.ntmps118
 go_wp2_with (first | go_big_skip | go_big_guard | (apply wl_appZ (n := i) (m := k1) (sz := 44) (r := n1) (olds := C.take (i * 44)) hst; rfl; rfl; exact rfl; exact rfl; rfl; infer_instance; exact Tryz.underlying3; infer_instance; exact range_part hst (.tail _ (.head _)) (by rw [List.drop_zero, HSP.out.1, List.take_append_of_le_length (by rw [HL.out]; omega)]); exact HSP.out.1; (have := HI1.out; have := HN1.out; have := HK1.out; omega); (have := HI1.out; have := HN1.out; have := HK1.out; omega); decide; (have := HI1.out; have := HN1.out; have := HK1.out; omega); (have := HI1.out; have := HN1.out; have := HK1.out; omega); (have := HI1.out; have := HN1.out; have := HK1.out; omega); intro g3 cap zs w5 hzs hcap hcm hst2; clear hst; have c2 : ¬ (cap = i) := (by have := HI1.out; have := HN1.out; have := HK1.out; omega); have c3 : ¬ (cap = i1) := (by have := HI1.out; have := HN1.out; have := HK1.out; omega); have HZS := hid hzs; clear hzs) | (apply wl_copyM (k := 1) (sz := 44) (xs := X) [] hst2; rfl; rfl; exact rfl; exact rfl; infer_instance; infer_instance; exact range_part hst2 (.tail _ (.head _)) (by rw [List.drop_zero, List.take_length]); (rw [HLX.out]); exact (by show min _ _ = _; have := HI1.out; have := HN1.out; have := HK1.out; omega); exact HX.out; (have hz := HZS.out; have hl3 := HSP.out.1; rw [List.length_append, hl3]; have := HI1.out; have := HN1.out; have := HK1.out; omega); intro w6 hst3; clear hst2))
 have hX := hst3.drew
 clear hst3
 refine wp_region_held_drew (S := (fun w' => True)) (by kernel_rfl) (by exact trivial) (fun hHeld => ?_)
 refine tq 0 46 ?_
 refine tq 1 47 ?_
 refine tq 2 48 ?_
 refine tq 5 51 ?_
 refine tq 6 52 ?_
 refine tq 3 49 ?_
 refine tq 7 53 ?_
 refine tq 4 50 ?_
 refine wpAnyH_ready (rs := [8]) (by kernel_rfl) (by simp) ?_
 refine (AllReadyH.cons (o := ⟨some 54, _, _, _, _, _⟩) rfl (fun K hK => ?_) AllReadyH.nil)
 rw [if_pos (by rfl)]
 refine ow_of_wl (ops := #[]) (by rfl) ?_
 apply wl_copyM (k := n - i) (sz := 44) (xs := C.drop (i * 44)) [] hX
 ·rfl
 ·rfl
 ·exact rfl
 ·exact rfl
 ·infer_instance
 ·infer_instance
 ·exact range_part hX (.tail _ (.tail _ (.head _))) (by rw [List.drop_append_of_le_length (by rw [HL.out]; omega), List.take_left])
 ·exact HSP.out.2
 ·exact (by show min _ _ = _; have := HI1.out; have := HN1.out; have := HK1.out; omega)
 ·exact (by have hq := HC.out; rw [List.all_eq_true] at hq ⊢; exact fun x hx => hq x (List.mem_of_mem_drop hx))
 ·(have hz := HZS.out; have hl3 := HSP.out.1; rw [length_putAt (by rw [List.length_append, hl3, HLX.out]; have := HI1.out; have := HN1.out; have := HK1.out; omega), List.length_append, hl3]; have := HI1.out; have := HN1.out; have := HK1.out; omega)
 intro w7 hst4
 refine q0_nil ?_
 refine hK.out _ _ ?_ (fun hHeld => ?_)
 ·exact trivial
 clear hK K
 (try simp only [Act.put, List.setIfInBounds_toArray, List.set_cons_zero, List.set_cons_succ])
 refine wpAnyH_done (by kernel_rfl) ?_ _
 clear hHeld
 go_wp2_with (first | go_big_skip | go_big_guard | fail)
 go_ret
 refine ⟨_, rfl, ?_⟩
 have hz := HZS.out
 have hl3 := HSP.out.1
 have hl4 := HSP.out.2
 have e1 := hst4
 rw [HI1.out, ins_cells hl3 HLX.out] at e1
 have e2 := St.toRow (n := n1) (cap := cap) (sz := 44) e1 (by have hl5 : (zs.drop (44 + (C.drop (i * 44)).length)).length = zs.length - (44 + (C.drop (i * 44)).length) := List.length_drop; rw [List.length_append, List.length_append, List.length_append, hl5, hl3, hl4, HLX.out]; have := HI1.out; have := HN1.out; have := HK1.out; omega) hcap hcm
 have e3 : n1 * 44 = (C.take (i * 44) ++ (X ++ C.drop (i * 44))).length := by rw [List.length_append, List.length_append, hl3, hl4, HLX.out]; have := HI1.out; have := HN1.out; have := HK1.out; omega
 rw [e3, List.take_left, show n1 = n + 1 by have := HI1.out; have := HN1.out; have := HK1.out; omega] at e2
 rw [show n1 = n + 1 by have := HI1.out; have := HN1.out; have := HK1.out; omega]
 exact St.sub e2 (.cons_cons _ (.cons _ (.cons _ (List.Sublist.refl _))))
end Go.Proofs.YtifajcblbedcoaaGreat
namespace Go.Proofs.YtifajcblbedcoaaGreat
set_option linter.unusedVariables false
set_option linter.unusedSimpArgs false
open Go.RowKit Hp
attribute [local irreducible] Go.Calls Go.wpList
set_option maxRecDepth 100000
set_option maxHeartbeats 8000000
theorem ins_cells2 {A X D R : List Value} {i : Nat} (hA : A.length = i * 44) (hX : X.length = 44) : putAt (putAt ((A ++ D) ++ R) ((i + 1) * 44) D) (i * 44) X = (A ++ (X ++ D)) ++ R.drop 44 ∨ R.length < 44 := by
 by_cases hR : R.length < 44
 ·exact .inr hR
 left
 have h1 : ((A ++ D) ++ R).take ((i + 1) * 44) = A ++ ((D ++ R).take 44) := by
  rw [List.append_assoc, List.take_append, hA, List.take_of_length_le (by rw [hA]; omega)]
  congr 2
  omega
 have h2 : ((A ++ D) ++ R).drop ((i + 1) * 44 + D.length) = R.drop 44 := by
  rw [List.drop_append, List.drop_of_length_le (by rw [List.length_append, hA]; omega), List.nil_append, List.length_append, hA]
  congr 1
  omega
 have h3 : ((D ++ R).take 44).length = 44 := by rw [List.length_take, List.length_append]; omega
 have e1 : putAt ((A ++ D) ++ R) ((i + 1) * 44) D = A ++ ((D ++ R).take 44 ++ (D ++ R.drop 44)) := by
  show ((A ++ D) ++ R).take ((i + 1) * 44) ++ (D ++ ((A ++ D) ++ R).drop ((i + 1) * 44 + D.length)) = _
  rw [h1, h2, List.append_assoc]
 rw [e1, ← hA, putAt_mid (by rw [h3, hX]), List.append_assoc, List.append_assoc]
theorem insRoom {w0 w : World} {M : List Nat} {R : List HA} (i n g b c : Nat) (rest C X : List Value) (hS : St w0 M w (.blk g 53 X :: .blk b 53 (C ++ rest) :: R)) (hl : C.length = n * 44) (hx : X.length = 44) (hC : C.all (·.oneCell') = true) (hX : X.all (·.oneCell') = true) (hn : n ≤ 100000) (hi : i < n) (hc0 : n + 1 ≤ c) (hc3 : c ≤ 9223372036854775807) (hcs : (C ++ rest).length = c * 44) :
  Calls Tryz.prog 118 #[.slice (some ⟨b, 0, none⟩) n c, .int .i64 i, .slice (some ⟨g, 0, none⟩) 1 1] w fun e w' => ∃ v', e = .returned v' ∧ St w0 M w' (.row v' 53 44 (n + 1) (C.take (i * 44) ++ (X ++ C.drop (i * 44))) :: R) := by
 have hst := hS
 have HC := hid hC
 have HX := hid hX
 have HL := hid hl
 have HLX := hid hx
 obtain ⟨i1, hi1⟩ : ∃ i1, i1 = i + 1 := ⟨_, rfl⟩
 obtain ⟨n1, hn1⟩ : ∃ n1, n1 = n + 1 := ⟨_, rfl⟩
 obtain ⟨k1, hk1⟩ : ∃ k1, k1 = n1 - i := ⟨_, rfl⟩
 have z1 : ((i : Int) == (n : Int)) = false := by rw [beq_eq_false_iff_ne]; omega
 have z2 : IntKind.i64.wrap ((n : Int) + 1) = (n1 : Int) := by rw [IntWalk.i64_in _ (by omega)]; omega
 have z3 : IntKind.i64.wrap ((n1 : Int) - (i : Int)) = (k1 : Int) := by rw [IntWalk.i64_in _ (by omega)]; omega
 have z4 : IntKind.i64.wrap ((i : Int) + 1) = (i1 : Int) := by rw [IntWalk.i64_in _ (by omega)]; omega
 have b1 : i ≤ n := by omega
 have b2 : i1 ≤ n := by omega
 have b3 : i1 ≤ n1 := by omega
 have b4 : i ≤ n1 := by omega
 have c1 : ¬ (c = i) := by omega
 have HI1 := hid hi1
 have HN1 := hid hn1
 have HK1 := hid hk1
 have HSP := hid (split_cells hl b1)
 clear hS hC hX hl hx hi1 hn1 hk1
 have hc1 : n1 ≤ c := by have := HN1.out; omega
 have d2 : ¬ (c < n1) := by have := HN1.out; omega
 have c2 : ¬ (c = i1) := by have := HN1.out; have := HI1.out; omega
 have HCS := hid hcs
 have hov : ∀ (o1 o2 l1 l2 k1 k2 : Nat), (callFunc 133 #[.slice (some ⟨g, o1, none⟩) l1 k1, .slice (some ⟨b, o2, none⟩) l2 k2]).run Tryz.prog w = .ok (.value (.bool false)) w := fun o1 o2 l1 l2 k1 k2 => by
  have hgb : g ≠ b := by
   have h := hst.apart
   unfold Apart at h
   have h2 := (List.pairwise_cons.1 h).1 _ (.head _) g rfl
   rintro rfl
   exact h2 rfl
  rw [run_callFunc_extern Tryz.func133 (by kernel_rfl) (by kernel_rfl) (by kernel_rfl) (e := Extern.SlicesOverlaps.overlaps #[22, 22] #[4]) (by kernel_rfl),
   run_apart (e := 53) (sz := 44) (bytes := 152) hst (.head _) (.tail _ (.head _)) hgb (inferInstance : TySl Tryz.prog 22 53).out dER.out (by intro h; rw [h] at hcs; simp at hcs; omega)]
  rfl
 clear hcs hc0
 go_enter Tryz.func118, Tryz.ntmps118
 go_wp2_with (first | go_big_skip | go_big_guard | fail)
 have hX := hst.drew
 clear hst
 refine wp_region_held_drew (S := (fun w' => True)) (by kernel_rfl) (by exact trivial) (fun hHeld => ?_)
 refine tq 0 69 ?_
 refine tq 1 70 ?_
 refine tq 2 71 ?_
 refine tq 5 74 ?_
 refine tq 6 75 ?_
 refine tq 3 72 ?_
 refine tq 7 76 ?_
 refine tq 4 73 ?_
 refine wpAnyH_ready (rs := [8]) (by kernel_rfl) (by simp) ?_
 refine (AllReadyH.cons (o := ⟨some 77, _, _, _, _, _⟩) rfl (fun K hK => ?_) AllReadyH.nil)
 rw [if_pos (by rfl)]
 refine ow_of_wl (ops := #[]) (by rfl) ?_
 apply wl_copyM (k := n - i) (sz := 44) (xs := C.drop (i * 44)) [_] hX
 ·rfl
 ·rfl
 ·exact rfl
 ·exact rfl
 ·infer_instance
 ·infer_instance
 ·exact range_part hX (.tail _ (.head _)) (by rw [List.drop_append_of_le_length (by rw [HL.out]; omega), List.take_left])
 ·exact HSP.out.2
 ·exact (by show min _ _ = _; have := HI1.out; have := HN1.out; have := HK1.out; omega)
 ·exact (by have hq := HC.out; rw [List.all_eq_true] at hq ⊢; exact fun x hx => hq x (List.mem_of_mem_drop hx))
 ·(rw [HCS.out]; have := HI1.out; have := HN1.out; have := HK1.out; omega)
 intro w7 hst4
 refine q0_nil ?_
 refine hK.out _ _ ?_ (fun hHeld => ?_)
 ·exact trivial
 clear hK K
 (try simp only [Act.put, List.setIfInBounds_toArray, List.set_cons_zero, List.set_cons_succ])
 refine wpAnyH_done (by kernel_rfl) ?_ _
 clear hHeld
 go_wp2_with (first | go_big_skip | go_big_guard | (apply wl_copyM (k := 1) (sz := 44) (xs := X) [_] hst4; rfl; rfl; exact rfl; exact rfl; infer_instance; infer_instance; exact range_part hst4 (.head _) (by rw [List.drop_zero, List.take_length]); (rw [HLX.out]); exact (by show min _ _ = _; have := HI1.out; have := HN1.out; have := HK1.out; omega); exact HX.out; (have hl3 := HSP.out.2; rw [length_putAt (by rw [HCS.out, hl3]; have := HI1.out; have := HN1.out; have := HK1.out; omega), HCS.out]; have := HI1.out; have := HN1.out; have := HK1.out; omega); intro w8 hst5; clear hst4))
 go_ret
 refine ⟨_, rfl, ?_⟩
 have hl3 := HSP.out.1
 have hl4 := HSP.out.2
 have e1 := St.front (L1 := [_]) hst5
 have hcs := HCS.out
 have hq : 44 ≤ rest.length := by rw [List.length_append, HL.out] at hcs; have := HI1.out; have := HN1.out; have := HK1.out; omega
 have e0 : putAt (putAt (C ++ rest) (i1 * 44) (C.drop (i * 44))) (i * 44) X = (C.take (i * 44) ++ (X ++ C.drop (i * 44))) ++ rest.drop 44 := by
  have h := ins_cells2 (A := C.take (i * 44)) (X := X) (D := C.drop (i * 44)) (R := rest) hl3 HLX.out
  rw [List.take_append_drop] at h
  rw [HI1.out]
  rcases h with h | h
  ·exact h
  ·omega
 rw [e0] at e1
 have hl5 : (rest.drop 44).length = rest.length - 44 := List.length_drop
 have e2 := St.toRow (n := n1) (cap := c) (sz := 44) e1 (by rw [List.length_append, HL.out] at hcs; rw [List.length_append, List.length_append, List.length_append, hl5, hl3, hl4, HLX.out]; have := HI1.out; have := HN1.out; have := HK1.out; omega) hc1 hc3
 have e3 : n1 * 44 = (C.take (i * 44) ++ (X ++ C.drop (i * 44))).length := by rw [List.length_append, List.length_append, hl3, hl4, HLX.out]; have := HI1.out; have := HN1.out; have := HK1.out; omega
 rw [e3, List.take_left, show n1 = n + 1 by have := HI1.out; have := HN1.out; have := HK1.out; omega] at e2
 rw [show n1 = n + 1 by have := HI1.out; have := HN1.out; have := HK1.out; omega]
 exact St.sub e2 (.cons_cons _ (.cons _ (List.Sublist.refl _)))
end Go.Proofs.YtifajcblbedcoaaGreat
