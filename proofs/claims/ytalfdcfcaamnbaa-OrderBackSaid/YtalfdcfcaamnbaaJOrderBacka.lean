import Derived.Test.YtalfdcfcaamnbaaF8
import Derived.Test.YtalfdcfcaamnbaaF28
import Derived.Test.YtalfdcfcaamnbaaF16
import Derived.Test.YtalfdcfcaamnbaaO13
import Derived.Test.YtalfdcfcaamnbaaKB
import Derived.Test.YtalfdcfcaamnbaaO8
import Derived.Test.YtalfdcfcaamnbaaO1
namespace Go.Proofs.Ytalfdcfcaamnbaa
set_option linter.unusedVariables false
set_option linter.unusedSimpArgs false
open Go.RowKit Hp
/-- An act: kind, number, size, text, bytes (as a value, and which they are). -/
structure AV where
  (kind n size : Int) (s : List UInt8) (au : Option Addr) (m cu : Nat) (B : List UInt8)
def AV.cells (x : AV) : List Value := [.int .i64 x.kind, .int .i64 x.n, .int .i64 x.size, .string ⟨x.s.toArray⟩, .slice x.au x.m x.cu]
/-- What an act makes of a writer. -/
def AV.step (x : AV) (s : WR) : WR :=
  if x.kind = 0 then putW s (numR x.n x.size) else if x.kind = 1 then putW s (textR x.s x.size) else if x.kind = 2 then putW s (0, x.B) else if x.kind = 3 then putW s (padR x.size s.2.length) else s
structure AV.Ok (x : AV) (w : World) : Prop where
  rd : Rd w (.slice x.au x.m x.cu) 1 x.m (bytesV x.B)
  len : x.B.length = x.m
  m : x.m ≤ 1000
  s : x.s.length ≤ 1000
  n : -9223372036854775808 ≤ x.n ∧ x.n ≤ 9223372036854775807
  size : -9223372036854775808 ≤ x.size ∧ x.size ≤ 9223372036854775807
theorem AV.step_len {x : AV} {s : WR} (h : s.2.length ≤ 65536) : (x.step s).2.length ≤ 65536 := by
  unfold AV.step
  split
  · exact putW_len h
  · split
    · exact putW_len h
    · split
      · exact putW_len h
      · split
        · exact putW_len h
        · exact h
end Go.Proofs.Ytalfdcfcaamnbaa
namespace Go.Proofs.Ytalfdcfcaamnbaa
set_option linter.unusedVariables false
set_option linter.unusedSimpArgs false
open Go.RowKit Hp
attribute [local irreducible] Go.Calls
set_option maxRecDepth 100000
set_option maxHeartbeats 4000000
/-- What is asked of a reader. -/
structure KV where
  (kind size low high : Int)
def KV.cells (x : KV) : List Value := [.int .i64 x.kind, .int .i64 x.size, .int .i64 x.low, .int .i64 x.high]
def KV.Ok (x : KV) : Prop := -9223372036854775808 ≤ x.size ∧ x.size ≤ 9223372036854775807
def KV.step (B : List UInt8) (x : KV) (s : RS) : RS :=
  if x.kind = 0 then (stepR s (numRR B s.pos x.size x.low x.high) 0).1 else if x.kind = 1 then (stepR s (textRR B s.pos x.size) []).1 else if x.kind = 2 then (stepR s (rawRR B s.pos x.size) []).1 else if x.kind = 3 then (stepR s (restRR B s.pos) ()).1 else s
/-- Both readers, in the same state. -/
def bP (g : Nat) (bv : Value) (q : Nat) (v : Value) (B : List UInt8) (s : RS) : List HA := rP g bv B s ++ qP q v s
def bF (g : Nat) (bv : Value) (q : Nat) (v : Value) (B : List UInt8) (s : RS) : List Nat := (bP g bv q v B s).filterMap HA.foot
section
attribute [local go_sem ↓] loadedInt loadedSl
end
end Go.Proofs.Ytalfdcfcaamnbaa
namespace Go.Proofs.Ytalfdcfcaamnbaa
set_option linter.unusedVariables false
set_option linter.unusedSimpArgs false
open Go.RowKit Hp
attribute [local irreducible] Go.Calls
set_option maxRecDepth 100000
set_option maxHeartbeats 4000000
theorem stepR_pos {α : Type} {B : List UInt8} {s : RS} {r : RR α} {d : α} (hp : s.pos ≤ B.length) (hr : ∀ v p, r = .ok v p → p ≤ B.length) : (stepR s r d).1.pos ≤ B.length := by
  unfold stepR
  split
  · exact hp
  · cases r with
    | stop e a => exact hp
    | ok v p => exact hr v p rfl
theorem numRR_pos {B : List UInt8} {p : Nat} {size low high : Int} (v : Int) (p' : Nat) (h : numRR B p size low high = .ok v p') : p' ≤ B.length := by
  unfold numRR at h
  split at h
  · cases h
  · split at h
    · cases h
    · split at h
      · cases h
      · simp only [RR.ok.injEq] at h
        omega
theorem textRR_pos {B : List UInt8} {p : Nat} {most : Int} (v : List UInt8) (p' : Nat) (h : textRR B p most = .ok v p') : p' ≤ B.length := by
  unfold textRR at h
  split at h
  · cases h
  · split at h
    · cases h
    · split at h
      · cases h
      · split at h
        · cases h
        · simp only [RR.ok.injEq] at h
          omega
theorem rawRR_pos {B : List UInt8} {p : Nat} {m : Int} (v : List UInt8) (p' : Nat) (h : rawRR B p m = .ok v p') : p' ≤ B.length := by
  unfold rawRR at h
  split at h
  · cases h
  · split at h
    · cases h
    · simp only [RR.ok.injEq] at h
      omega
theorem restRR_pos {B : List UInt8} {p : Nat} (v : Unit) (p' : Nat) (h : restRR B p = .ok v p') : p' ≤ B.length := by
  unfold restRR at h
  split at h
  · cases h
  · simp only [RR.ok.injEq] at h
    omega
theorem KV.step_pos {B : List UInt8} {x : KV} {s : RS} (hp : s.pos ≤ B.length) : (x.step B s).pos ≤ B.length := by
  unfold KV.step
  split
  · exact stepR_pos hp numRR_pos
  · split
    · exact stepR_pos hp textRR_pos
    · split
      · exact stepR_pos hp rawRR_pos
      · split
        · exact stepR_pos hp restRR_pos
        · exact hp
/-- A reader behind the first k questions. -/
def foldK (B : List UInt8) (ks : List KV) (k : Nat) : RS := (ks.take k).foldl (fun s x => x.step B s) ⟨0, 0, 0⟩
theorem foldK_zero (B : List UInt8) (ks : List KV) : foldK B ks 0 = ⟨0, 0, 0⟩ := by simp [foldK]
theorem foldK_succ {B : List UInt8} {ks : List KV} {k : Nat} {x : KV} (h : ks[k]? = some x) : foldK B ks (k + 1) = x.step B (foldK B ks k) := by
  simp [foldK, List.take_add_one, h]
theorem foldK_pos (B : List UInt8) (ks : List KV) (k : Nat) : (foldK B ks k).pos ≤ B.length := by
  unfold foldK
  generalize ks.take k = l
  have : ∀ (s : RS), s.pos ≤ B.length → (l.foldl (fun s x => x.step B s) s).pos ≤ B.length := by
    induction l with
    | nil => exact fun s h => h
    | cons x l ih => exact fun s h => ih _ (KV.step_pos h)
  exact this _ (Nat.zero_le _)
theorem asksV_at : ∀ {ks : List KV} {k : Nat} {x : KV}, ks[k]? = some x → ∀ j v, x.cells[j]? = some v → (ks.flatMap KV.cells)[k * 4 + j]? = some v
  | y :: ks, 0, x, h, j, v, hj => by
    cases h
    rw [List.flatMap_cons, Nat.zero_mul, Nat.zero_add, List.getElem?_append_left (List.getElem?_eq_some_iff.1 hj).1]
    exact hj
  | y :: ks, k + 1, x, h, j, v, hj => by
    have hl : y.cells.length = 4 := rfl
    rw [List.flatMap_cons, List.getElem?_append_right (by rw [hl]; omega), hl, show (k + 1) * 4 + j - 4 = k * 4 + j by omega]
    exact asksV_at (by simpa using h) j v hj
  | [], _, _, h, _, _, _ => by cases h
theorem asks_range {w : World} {b off n c k : Nat} {ks : List KV} {x : KV} (h : Rd w (.slice (some ⟨b, off, none⟩) n c) 4 n (ks.flatMap KV.cells)) (hk : ks[k]? = some x) : w.rangeAt b (off + k * 4) x.cells := by
  have hr := h.range
  intro j v hj
  have := hr (k * 4 + j) v (asksV_at hk j v hj)
  rwa [← Nat.add_assoc] at this
end Go.Proofs.Ytalfdcfcaamnbaa
namespace Go.Proofs.Ytalfdcfcaamnbaa
set_option linter.unusedVariables false
set_option linter.unusedSimpArgs false
open Go.RowKit Hp
attribute [local irreducible] Go.Calls Go.wpList
set_option maxRecDepth 100000
set_option maxHeartbeats 4000000
theorem numRR_val {B : List UInt8} {p : Nat} {size low high v : Int} {p' : Nat} (h : numRR B p size low high = .ok v p') : 1 ≤ size ∧ size ≤ 7 ∧ p' = p + size.toNat ∧ (p' : Int) ≤ B.length ∧ v = (beN ((B.drop p).take size.toNat) : Int) ∧ low ≤ v ∧ v ≤ high := by
  unfold numRR at h
  split at h
  · cases h
  · split at h
    · cases h
    · split at h
      · cases h
      · cases h
        refine ⟨by omega, by omega, rfl, by omega, rfl, by omega, by omega⟩
theorem num_in {B : List UInt8} {s : RS} {size low high : Int} (h0 : low ≤ 0 ∧ 0 ≤ high) : low ≤ (stepR s (numRR B s.pos size low high) 0).2 ∧ (stepR s (numRR B s.pos size low high) 0).2 ≤ high := by
  unfold stepR
  split
  · exact h0
  · split
    · exact h0
    · rename_i v p h
      obtain ⟨_, _, _, _, _, h1, h2⟩ := numRR_val h
      exact ⟨h1, h2⟩
theorem num_pos {B : List UInt8} {s : RS} {size low high : Int} (hp : s.pos ≤ B.length) : (stepR s (numRR B s.pos size low high) 0).1.pos ≤ B.length := stepR_pos hp numRR_pos
theorem text_pos {B : List UInt8} {s : RS} {most : Int} (hp : s.pos ≤ B.length) : (stepR s (textRR B s.pos most) []).1.pos ≤ B.length := stepR_pos hp textRR_pos
theorem raw_pos {B : List UInt8} {s : RS} {m : Int} (hp : s.pos ≤ B.length) : (stepR s (rawRR B s.pos m) []).1.pos ≤ B.length := stepR_pos hp rawRR_pos
/-- So many things, one behind the other. -/
def manyS {α : Type} (f : RS → RS × α) (s : RS) : Nat → RS × List α
  | 0 => (s, [])
  | k + 1 => ((f (manyS f s k).1).1, (manyS f s k).2 ++ [(f (manyS f s k).1).2])
theorem manyS_len {α : Type} (f : RS → RS × α) (s : RS) (k : Nat) : (manyS f s k).2.length = k := by
  induction k with
  | zero => rfl
  | succ k ih => simp [manyS, ih]
theorem manyS_pos {α : Type} {f : RS → RS × α} {s : RS} {N : Nat} (h0 : s.pos ≤ N) (h : ∀ s : RS, s.pos ≤ N → (f s).1.pos ≤ N) (k : Nat) : (manyS f s k).1.pos ≤ N := by
  induction k with
  | zero => exact h0
  | succ k ih => exact h _ ih
def textF (B : List UInt8) (s : RS) : RS × List UInt8 := stepR s (textRR B s.pos 48) []
def wideF (B : List UInt8) (s : RS) : RS × Int := stepR s (numRR B s.pos 5 0 1099511627775) 0
/-- A list: how many, and the things. -/
def listR {α : Type} (f : RS → RS × α) (B : List UInt8) (size most : Int) (s : RS) : RS × List α := manyS f (stepR s (numRR B s.pos size 0 most) 0).1 (stepR s (numRR B s.pos size 0 most) 0).2.toNat
theorem putAt_self {cs : List Value} {off : Nat} {v : Value} (h : cs[off]? = some v) : putAt cs off [v] = cs := by
  obtain ⟨h1, h2⟩ := List.getElem?_eq_some_iff.1 h
  subst h2
  have h3 : cs.drop off = cs[off] :: cs.drop (off + 1) := List.drop_eq_getElem_cons h1
  simp only [putAt, List.length_cons, List.length_nil, Nat.zero_add]
  rw [List.singleton_append, ← h3, List.take_append_drop]
theorem putAt_one {cs : List Value} {off : Nat} {v : Value} (h : off < cs.length) : putAt cs off [v] = cs.set off v := by
  rw [List.set_eq_take_append_cons_drop, if_pos h]
  rfl
theorem putAt_len {cs : List Value} {off : Nat} {v : Value} (h : off < cs.length) : (putAt cs off [v]).length = cs.length := by
  rw [putAt_one h, List.length_set]
theorem putAt_twice {cs : List Value} {off : Nat} {v u : Value} (h : off < cs.length) : putAt (putAt cs off [v]) off [u] = putAt cs off [u] := by
  rw [putAt_one (by rw [putAt_len h]; exact h), putAt_one h, putAt_one h, List.set_set]
theorem putAt_get {cs : List Value} {off : Nat} {v : Value} (h : off < cs.length) : (putAt cs off [v])[off]? = some v := by
  rw [putAt_one h]
  simp [h]
/-- A text; a number. -/
def isS (v : Value) : Bool := match v with
  | .string s => decide (s.size ≤ 1000)
  | _ => false
def isI (v : Value) : Bool := match v with
  | .int .i64 _ => true
  | _ => false
theorem isS_one {t : List UInt8} (h : t.length ≤ 1000) : [strV t].all isS = true := by
  have e : (⟨t.toArray⟩ : ByteArray).size = t.length := by simp [ByteArray.size]
  simp [isS, strV, e, h]
theorem textF_len (B : List UInt8) (s : RS) : (textF B s).2.length ≤ 1000 := by
  unfold textF stepR
  split
  · exact Nat.zero_le _
  · split
    · exact Nat.zero_le _
    · rename_i v p h
      unfold textRR at h
      split at h
      · cases h
      · split at h
        · cases h
        · split at h
          · cases h
          · split at h
            · cases h
            · cases h
              show (List.take _ _).length ≤ 1000
              rw [List.length_take]
              have := (B.getD s.pos 0).toNat_lt
              omega
end Go.Proofs.Ytalfdcfcaamnbaa
namespace Go.Proofs.Ytalfdcfcaamnbaa
set_option linter.unusedVariables false
set_option linter.unusedSimpArgs false
open Go.RowKit Hp
attribute [local irreducible] Go.Calls Go.wpList
set_option maxRecDepth 100000
set_option maxHeartbeats 4000000
theorem isS_spec {v : Value} (h : isS v = true) : ∃ l : List UInt8, v = .string ⟨l.toArray⟩ ∧ l.length ≤ 1000 := by
  unfold isS at h
  split at h
  · rename_i s
    exact ⟨s.data.toList, rfl, by rw [Array.length_toList]; exact of_decide_eq_true h⟩
  · cases h
theorem overT_none (w : World) : Calls Try.prog 24 #[.slice none 0 0] w fun e w' => e = .returned (.tuple #[]) ∧ St w [] w' [] := by
  have hst := St.refl w
  go_enter Try.func24, Try.ntmps24
  go_wp2_with (first | go_big_skip | go_big_guard | fail)
  go_loopw [3] (fun i wr => i = .int .i64 0 ∧ St w [] wr []) (fun i _ => 0)
  case atStart => exact ⟨rfl, hst⟩
  case round =>
    clear hst
    obtain ⟨rfl, hst⟩ := hrel
    go_wp2_with (first | go_big_skip | go_big_guard | fail)
    go_end0
    exact ⟨rfl, hst⟩
theorem overT_blk (g n c : Nat) (cs : List Value) (w : World) (hg : w.heap[g]? = some (.cells cs.toArray 9 (0, 0))) (hc : cs.length = c) (hn : n ≤ c) (hb : c ≤ 9223372036854775807) (hp : cs.all isS = true) :
    Calls Try.prog 24 #[.slice (some ⟨g, 0, none⟩) n c] w fun e w' => e = .returned (.tuple #[]) ∧ ∃ cs', St w [g] w' [.blk g 9 cs'] := by
  have hst := St.one w g _ _ hg
  have HC := hid hc
  have HP := hid hp
  clear hc hp hg
  go_enter Try.func24, Try.ntmps24
  go_wp2_with (first | go_big_skip | go_big_guard | fail)
  go_loopw [3] (fun i wr => ∃ (k : Nat) (ds : List Value), k ≤ c ∧ i = .int .i64 k ∧ St w [g] wr [.blk g 9 ds] ∧ Hid (ds.length = c) ∧ Hid ((ds.drop k).all isS = true)) (fun i _ => c - (intOf i).toNat)
  case atStart => exact ⟨0, cs, by omega, rfl, hst, HC, by rw [List.drop_zero]; exact HP⟩
  case round =>
    clear hst HC HP
    obtain ⟨k, ds, hk, rfl, hst, HC, HP⟩ := hrel
    by_cases hlt : k < c
    · have hkl : k < ds.length := by rw [HC.out]; exact hlt
      obtain ⟨x, hx⟩ : ∃ x, ds[k]? = some x := ⟨_, List.getElem?_eq_getElem hkl⟩
      obtain ⟨l, rfl, hll⟩ := isS_spec (List.all_eq_true.1 HP.out x (by rw [List.drop_eq_getElem_cons hkl]; rw [List.getElem?_eq_getElem hkl] at hx; cases hx; exact List.mem_cons_self))
      have hl9 : ¬ 9223372036854775807 < l.length + 1 := by omega
      have HX := hid hx
      have HK := hid hkl
      have z1 : IntKind.i64.wrap ((k : Int) + 1) = (k : Int) + 1 := IntWalk.i64_in _ (by omega)
      clear hx hkl
      go_wp2_with (first | go_big_skip | go_big_guard | (refine wl_index rfl rfl rfl rfl hlt ?_) | (refine wl_loadE rfl rfl rfl ?_; refine ⟨_, Loads.at [] hst (by simpa using HX.out), ?_⟩) | (refine wl_store [] hst rfl rfl rfl (v := .string _) rfl rfl rfl (by simp [Value.cells]; exact HK.out) ?_; intro w5 hst4; clear hst))
      go_roundw
      case rel =>
        refine ⟨k + 1, _, by omega, by go_num, hst4, hid ?_, hid ?_⟩
        · rw [Nat.zero_add, Nat.mul_one]
          exact (putAt_len HK.out).trans HC.out
        · rw [Nat.zero_add, Nat.mul_one]
          have hp := HP.out
          show ((putAt ds k [_]).drop (k + 1)).all isS = true
          rw [putAt_one HK.out, List.drop_set_of_lt (by omega)]
          rw [List.drop_eq_getElem_cons HK.out, List.all_cons, Bool.and_eq_true] at hp
          exact hp.2
      case measure => simp [intOf]; omega
    · have e : k = c := by omega
      subst e
      go_wp2_with (first | go_big_skip | go_big_guard | fail)
      go_end0
      exact ⟨rfl, ds, hst⟩
theorem overT_rowP (v : Value) (n : Nat) (xs : List Value) (w : World) (hv : w.ownsRow 0 9 1 v n xs) (hp : AllP isS w v 9) :
    Calls Try.prog 24 #[v] w fun e w' => e = .returned (.tuple #[]) ∧ St w v.ownBlock.toList w' [] := by
  have hst := St.ofRowP (p := isS) w hv hp
  rcases St.openP (L1 := []) hst with ⟨rfl, rfl, rfl, _⟩ | ⟨g, cap, cs, rfl, h1, h2, h3, _, h5, h6⟩
  · exact overT_none w
  · rw [Nat.mul_one] at h3
    refine (overT_blk g n cap cs w (h6.all _ (.head _)) h3 h1 h2 h5).mono ?_
    rintro e w' ⟨he, cs', hh⟩
    exact ⟨he, hh.nil⟩
end Go.Proofs.Ytalfdcfcaamnbaa
namespace Go.Proofs.Ytalfdcfcaamnbaa
set_option linter.unusedVariables false
set_option linter.unusedSimpArgs false
open Go.RowKit Hp
attribute [local irreducible] Go.Calls Go.wpList
set_option maxRecDepth 100000
set_option maxHeartbeats 4000000
/-- What one writes behind the other. -/
def putAll (s : WR) (rs : List WR) : WR := rs.foldl putW s
theorem putAll_succ {s : WR} {rs : List WR} {k : Nat} {r : WR} (h : rs[k]? = some r) : putAll s (rs.take (k + 1)) = putW (putAll s (rs.take k)) r := by
  simp [putAll, List.take_add_one, h]
theorem putAll_len {s : WR} {rs : List WR} (h : s.2.length ≤ 65536) : (putAll s rs).2.length ≤ 65536 := by
  induction rs generalizing s with
  | nil => exact h
  | cons r rs ih => exact ih (putW_len h)
/-- What was there is off the pieces that are the call's own or in F. -/
theorem elem_off {w w' : World} {F : List Nat} {L : List HA} (h : St w F w' L) {b : Nat} (hb : b < w.heap.size) (hF : b ∉ F) : b ∉ L.filterMap HA.foot := by
  intro hk
  obtain ⟨x, hx, hf⟩ := List.mem_filterMap.1 hk
  rcases h.own x hx _ hf with h2 | h2
  · omega
  · exact hF h2
section
attribute [local go_sem ↓] loadedPS loadedSs loadedInt loadedFs loadedPI loadedIs loadedFi
theorem listS_put {w0 : World} {gn gz gf : Nat} {A : Addr} {size : Int} {ao : Option Addr} {n c : Nat} {l : List (List UInt8)} (c0 : w0.cell? ⟨gn, 0, none⟩ = some (.pointer (some A))) (c1 : w0.cell? ⟨gz, 0, none⟩ = some (.int .i64 size)) (c2 : w0.cell? ⟨gf, 0, none⟩ = some (.func (.func 57) #[] #[]))
    (c3 : w0.cell? A = some (.slice ao n c)) (hr : Rd w0 (.slice ao n c) 1 n (strsV l)) (hn : l.length = n) (hb : n ≤ 1000000) (hl : ∀ t ∈ l, t.length ≤ 1000000) (hs : -9223372036854775808 ≤ size ∧ size ≤ 9223372036854775807) :
    PutOk w0 80 [ptrV gn, ptrV gz, ptrV gf] (fun s => putAll (putW s (numR n size)) (l.map fun t => textR t 48)) := by
  intro g bv s w hold hB
  have hst : St w (wF g bv s) w (wP g bv s) := hold.selfF
  have kc0 := hid (hold.old_cell c0 (by simp))
  have nc0 := hid (hold.offOld c0)
  have kc1 := hid (hold.old_cell c1 (by simp))
  have nc1 := hid (hold.offOld c1)
  have kc2 := hid (hold.old_cell c2 (by simp))
  have nc2 := hid (hold.offOld c2)
  have kc3 := hid (hold.old_cell c3 (by simp))
  have nc3 := hid (hold.offOld c3)
  have HR := hid (Rd.old hold hr)
  have HO := hid (show Off (.slice ao n c) (wF g bv s) from Off.later hold hr (by decide))
  have HB := hid hB
  have HN := hid hn
  have HL := hid hl
  have hni : -9223372036854775808 ≤ (n : Int) ∧ (n : Int) ≤ 9223372036854775807 := by omega
  obtain ⟨R, hRR⟩ : ∃ R, R = putAll (putW s (numR n size)) (l.map fun t => textR t 48) := ⟨_, rfl⟩
  have HRR := hid hRR
  dsimp only
  rw [← hRR]
  obtain ⟨F, hF⟩ : ∃ F, F = wF g bv s := ⟨_, rfl⟩
  have HF := hid hF
  obtain ⟨W0, hW⟩ : ∃ W0, W0 = wP g bv s := ⟨_, rfl⟩
  have HW := hid hW
  rw [← hW] at hst
  rw [← hF] at hst ⊢
  clear hB hold hF hW hRR hn hl hr c0 c1 c2 c3
  show Calls Try.prog 80 #[.pointer (some ⟨g, 0, none⟩), .pointer (some ⟨gn, 0, none⟩), .pointer (some ⟨gz, 0, none⟩), .pointer (some ⟨gf, 0, none⟩)] w _
  go_enter Try.func80, Try.ntmps80
  go_wp2_with (first | go_big_skip | go_big_guard | fail)
  have hD := hst.drew
  clear hst
  refine wp_region_held_drew (S := (fun w' => (loadVarH 94 ⟨gn, 0, none⟩).run Try.prog w' = .ok (.pointer (some A)) w' ∧ (loadVarH 3 ⟨gz, 0, none⟩).run Try.prog w' = .ok (.int .i64 size) w' ∧ (loadVarH 22 A).run Try.prog w' = .ok (.slice ao n c) w' ∧ (loadVarH 91 ⟨gf, 0, none⟩).run Try.prog w' = .ok (.func (.func 57) #[] #[]) w')) (by kernel_rfl) (by exact ⟨ldOMx hD kc0.out (by rw [HF.out]; exact nc0.out), ldOMx hD kc1.out (by rw [HF.out]; exact nc1.out), ldOMx hD kc3.out (by rw [HF.out]; exact nc3.out), ldOMx hD kc2.out (by rw [HF.out]; exact nc2.out)⟩) (fun hHeld => ?_)
  refine wpAnyH_take (i := 0) (oi := ⟨some 6, _, _, _, _, _⟩) (v := ?_) rfl (by kernel_rfl) (by kernel_rfl) (by kernel_rfl) (fun _ _ _ h => h) (Or.inl ⟨by rfl, ?_⟩) (by assumption) ?_
  rotate_left
  · intro w hSw; (try dsimp only at hSw); go_simp; try with_reducible rfl
  (try simp only [Act.put, List.setIfInBounds_toArray, List.set_cons_zero, List.set_cons_succ])
  refine wpAnyH_take (i := 1) (oi := ⟨some 7, _, _, _, _, _⟩) (v := ?_) rfl (by kernel_rfl) (by kernel_rfl) (by kernel_rfl) (fun _ _ _ h => h) (Or.inl ⟨by rfl, ?_⟩) (by assumption) ?_
  rotate_left
  · intro w hSw; (try dsimp only at hSw); go_simp; try with_reducible rfl
  (try simp only [Act.put, List.setIfInBounds_toArray, List.set_cons_zero, List.set_cons_succ])
  refine wpAnyH_take (i := 5) (oi := ⟨some 11, _, _, _, _, _⟩) (v := ?_) rfl (by kernel_rfl) (by kernel_rfl) (by kernel_rfl) (fun _ _ _ h => h) (Or.inl ⟨by rfl, ?_⟩) (by assumption) ?_
  rotate_left
  · intro w hSw; (try dsimp only at hSw); go_simp; try with_reducible rfl
  (try simp only [Act.put, List.setIfInBounds_toArray, List.set_cons_zero, List.set_cons_succ])
  refine wpAnyH_take (i := 2) (oi := ⟨some 8, _, _, _, _, _⟩) (v := ?_) rfl (by kernel_rfl) (by kernel_rfl) (by kernel_rfl) (fun _ _ _ h => h) (Or.inl ⟨by rfl, ?_⟩) (by assumption) ?_
  rotate_left
  · intro w hSw; (try dsimp only at hSw); go_simp; try with_reducible rfl
  (try simp only [Act.put, List.setIfInBounds_toArray, List.set_cons_zero, List.set_cons_succ])
  refine wpAnyH_take (i := 3) (oi := ⟨some 9, _, _, _, _, _⟩) (v := ?_) rfl (by kernel_rfl) (by kernel_rfl) (by kernel_rfl) (fun _ _ _ h => h) (Or.inl ⟨by rfl, ?_⟩) (by assumption) ?_
  rotate_left
  · intro w hSw; (try dsimp only at hSw); go_simp; try with_reducible rfl
  (try simp only [Act.put, List.setIfInBounds_toArray, List.set_cons_zero, List.set_cons_succ])
  refine wpAnyH_take (i := 4) (oi := ⟨some 10, _, _, _, _, _⟩) (v := ?_) rfl (by kernel_rfl) (by kernel_rfl) (by kernel_rfl) (fun _ _ _ h => h) (Or.inl ⟨by rfl, ?_⟩) (by assumption) ?_
  rotate_left
  · intro w hSw; (try dsimp only at hSw); go_simp; try with_reducible rfl
  (try simp only [Act.put, List.setIfInBounds_toArray, List.set_cons_zero, List.set_cons_succ])
  refine wpAnyH_ready (rs := [6]) (by kernel_rfl) (by simp) ?_
  refine (AllReadyH.cons (o := ⟨some 12, _, _, _, _, _⟩) rfl (fun K hK => ?_) AllReadyH.nil)
  rw [if_pos (by rfl)]
  go_simp
  go_at_call 73
  have hE := hD
  rw [HW.out] at hE
  refine (wnum_any g bv s n size _ hE.selfF HB.out hs hni).mono ?_
  rintro _ w9 ⟨rfl, bv1, h4⟩
  have hF9 := St.thenF hE h4
  clear h4 hE
  refine hK.out _ _ ?_ (fun hHeld => ?_)
  · exact ⟨ldOMx hF9 kc0.out (by rw [HF.out]; exact nc0.out), ldOMx hF9 kc1.out (by rw [HF.out]; exact nc1.out), ldOMx hF9 kc3.out (by rw [HF.out]; exact nc3.out), ldOMx hF9 kc2.out (by rw [HF.out]; exact nc2.out)⟩
  clear hK K
  (try simp only [Act.put, List.setIfInBounds_toArray, List.set_cons_zero, List.set_cons_succ])
  refine wpAnyH_done (by kernel_rfl) ?_ _
  clear hHeld
  skip
  go_wp2_with (first | go_big_skip | go_big_guard | (refine wl_loadE rfl rfl rfl ?_; first | refine ⟨_, Loads.oldM hF9 kc0.out (by rw [HF.out]; exact nc0.out), ?_⟩ | refine ⟨_, Loads.oldM hF9 kc3.out (by rw [HF.out]; exact nc3.out), ?_⟩))
  go_loopw [17] (fun i wr => ∃ (j : Nat) (bv2 : Value), j ≤ n ∧ i = .int .i64 (j : Int) ∧ St w F wr (wP g bv2 (putAll (putW s (numR n size)) ((l.map fun t => textR t 48).take j)))) (fun i _ => n - (intOf i).toNat)
  case atStart => exact ⟨0, bv1, Nat.zero_le _, rfl, hF9⟩
  case round =>
    clear hF9
    obtain ⟨j, bv2, hj, rfl, hst⟩ := hrel
    by_cases hlt : j < n
    · have d1 : decide ((j : Int) < (n : Int)) = true := decide_eq_true (by omega)
      have z1 : IntKind.i64.wrap ((j : Int) + 1) = (j : Int) + 1 := IntWalk.i64_in _ (by omega)
      have hjl : j < l.length := by rw [HN.out]; exact hlt
      obtain ⟨t, ht⟩ : ∃ t, l[j]? = some t := ⟨_, List.getElem?_eq_getElem hjl⟩
      have HT := hid ht
      have HTL := hid (HL.out t (List.mem_of_getElem? ht))
      have HS := hid (putAll_succ (s := putW s (numR n size)) (show (l.map fun t => textR t 48)[j]? = some (textR t 48) by rw [List.getElem?_map, ht]; rfl))
      obtain ⟨b, off, rfl, hrg⟩ := Rd.at HR.out hlt
      have hcell := hid (hrg j _ (strsV_get ht))
      have ho := hid (show b ∉ F from by
        rw [HF.out]
        exact HO.out ⟨b, off, none⟩ n c rfl (by omega))
      have HB2 := hid (putAll_len (s := putW s (numR n size)) (rs := (l.map fun t => textR t 48).take j) (putW_len HB.out))
      obtain ⟨s2, hs2⟩ : ∃ s2, s2 = putAll (putW s (numR n size)) ((l.map fun t => textR t 48).take j) := ⟨_, rfl⟩
      rw [← hs2] at hst
      have HS2 := hid hs2
      obtain ⟨W2, hW2⟩ : ∃ W2, W2 = wP g bv2 s2 := ⟨_, rfl⟩
      have HW2 := hid hW2
      rw [← hW2] at hst
      have n1 : (j : Int).toNat = j := by omega
      have n2 : (0 : Int) ≤ (j : Int) := by omega
      have n3 : (j : Int) < (n : Int) := by omega
      clear ht hjl hrg hs2 hW2
      go_wp2_with (first | go_big_skip | go_big_guard | fail)
      have hD := hst.drew
      clear hst
      refine wp_region_held_drew (S := (fun w' => (loadVarH 94 ⟨gn, 0, none⟩).run Try.prog w' = .ok (.pointer (some A)) w' ∧ (loadVarH 3 ⟨gz, 0, none⟩).run Try.prog w' = .ok (.int .i64 size) w' ∧ (loadVarH 22 A).run Try.prog w' = .ok (.slice (some ⟨b, off, none⟩) n c) w' ∧ (loadVarH 91 ⟨gf, 0, none⟩).run Try.prog w' = .ok (.func (.func 57) #[] #[]) w')) (by kernel_rfl) (by exact ⟨ldOMx hD kc0.out (by rw [HF.out]; exact nc0.out), ldOMx hD kc1.out (by rw [HF.out]; exact nc1.out), ldOMx hD kc3.out (by rw [HF.out]; exact nc3.out), ldOMx hD kc2.out (by rw [HF.out]; exact nc2.out)⟩) (fun hHeld => ?_)
      refine wpAnyH_take (i := 0) (oi := ⟨some 20, _, _, _, _, _⟩) (v := ?_) rfl (by kernel_rfl) (by kernel_rfl) (by kernel_rfl) (fun _ _ _ h => h) (Or.inl ⟨by rfl, ?_⟩) (by assumption) ?_
      rotate_left
      · intro w hSw; (try dsimp only at hSw); go_simp; try with_reducible rfl
      (try simp only [Act.put, List.setIfInBounds_toArray, List.set_cons_zero, List.set_cons_succ])
      refine wpAnyH_take (i := 1) (oi := ⟨some 21, _, _, _, _, _⟩) (v := ?_) rfl (by kernel_rfl) (by kernel_rfl) (by kernel_rfl) (fun _ _ _ h => h) (Or.inl ⟨by rfl, ?_⟩) (by assumption) ?_
      rotate_left
      · intro w hSw; (try dsimp only at hSw); go_simp; try with_reducible rfl
      (try simp only [Act.put, List.setIfInBounds_toArray, List.set_cons_zero, List.set_cons_succ])
      refine wpAnyH_take (i := 4) (oi := ⟨some 24, _, _, _, _, _⟩) (v := ?_) rfl (by kernel_rfl) (by kernel_rfl) (by kernel_rfl) (fun _ _ _ h => h) (Or.inl ⟨by rfl, ?_⟩) (by assumption) ?_
      rotate_left
      · intro w hSw; (try dsimp only at hSw); go_simp; try with_reducible rfl
      (try simp only [Act.put, List.setIfInBounds_toArray, List.set_cons_zero, List.set_cons_succ])
      refine wpAnyH_take (i := 8) (oi := ⟨some 28, _, _, _, _, _⟩) (v := ?_) rfl (by kernel_rfl) (by kernel_rfl) (by kernel_rfl) (fun _ _ _ h => h) (Or.inl ⟨by rfl, ?_⟩) (by assumption) ?_
      rotate_left
      · intro w hSw; (try dsimp only at hSw); go_simp; try with_reducible rfl
      (try simp only [Act.put, List.setIfInBounds_toArray, List.set_cons_zero, List.set_cons_succ])
      refine wpAnyH_take (i := 2) (oi := ⟨some 22, _, _, _, _, _⟩) (v := ?_) rfl (by kernel_rfl) (by kernel_rfl) (by kernel_rfl) (fun _ _ _ h => h) (Or.inl ⟨by rfl, ?_⟩) (by assumption) ?_
      rotate_left
      · intro w hSw; (try dsimp only at hSw); go_simp; try with_reducible rfl
      (try simp only [Act.put, List.setIfInBounds_toArray, List.set_cons_zero, List.set_cons_succ])
      refine wpAnyH_take (i := 3) (oi := ⟨some 23, _, _, _, _, _⟩) (v := ?_) rfl (by kernel_rfl) (by kernel_rfl) (by kernel_rfl) (fun _ _ _ h => h) (Or.inl ⟨by rfl, ?_⟩) (by assumption) ?_
      rotate_left
      · intro w hSw; (try dsimp only at hSw); go_simp; try with_reducible rfl
      (try simp only [Act.put, List.setIfInBounds_toArray, List.set_cons_zero, List.set_cons_succ])
      refine wpAnyH_take (i := 5) (oi := ⟨some 25, _, _, _, _, _⟩) (v := ?_) rfl (by kernel_rfl) (by kernel_rfl) (by kernel_rfl) (fun _ _ _ h => h) (Or.inl ⟨by rfl, ?_⟩) (by assumption) ?_
      rotate_left
      · intro w hSw; (try dsimp only at hSw); go_simp; try with_reducible rfl
      (try simp only [Act.put, List.setIfInBounds_toArray, List.set_cons_zero, List.set_cons_succ])
      refine wpAnyH_ready (rs := [6]) (by kernel_rfl) (by simp) ?_
      refine (AllReadyH.cons (o := ⟨some 26, _, _, _, _, _⟩) rfl (fun K hK => ?_) AllReadyH.nil)
      rw [if_pos (by rfl)]
      go_simp
      go_at_call 57
      refine (text_any ⟨b, off + j, none⟩ _).mono ?_
      rintro _ w9 ⟨gb, rfl, h4⟩
      have hE := St.call hD h4
      clear h4
      refine hK.out _ _ ?_ (fun hHeld => ?_)
      · exact ⟨ldOMx hE kc0.out (by rw [HF.out]; exact nc0.out), ldOMx hE kc1.out (by rw [HF.out]; exact nc1.out), ldOMx hE kc3.out (by rw [HF.out]; exact nc3.out), ldOMx hE kc2.out (by rw [HF.out]; exact nc2.out)⟩
      clear hK K
      (try simp only [Act.put, List.setIfInBounds_toArray, List.set_cons_zero, List.set_cons_succ])
      refine wpAnyH_take (i := 7) (oi := ⟨some 27, _, _, _, _, _⟩) (v := ?_) rfl (by kernel_rfl) (by kernel_rfl) (by kernel_rfl) (fun _ _ _ h => h) (Or.inl ⟨by rfl, ?_⟩) (by assumption) ?_
      rotate_left
      · intro w hSw; (try dsimp only at hSw); go_simp; try with_reducible rfl
      (try simp only [Act.put, List.setIfInBounds_toArray, List.set_cons_zero, List.set_cons_succ])
      refine wpAnyH_ready (rs := [9]) (by kernel_rfl) (by simp) ?_
      refine (AllReadyH.cons (o := ⟨some 29, _, _, _, _, _⟩) rfl (fun K hK => ?_) AllReadyH.nil)
      rw [if_pos (by rfl)]
      unfold cloV ptrV
      go_simp
      go_at_call 76
      have hQ := St.sub hE ((.cons _ (List.Sublist.refl _)))
      rw [HW2.out] at hQ
      refine (text1_at g bv2 s2 _ hQ.selfF (by rw [HS2.out]; exact HB2.out) (hE.cell (off := 0) (.head _) rfl) (hE.old_cell hcell.out ho.out) (St.notFeet (C := wP g bv2 s2) (L1 := []) hE (fun x hx => Or.inr (by rw [HW2.out]; exact hx))) (elem_off hQ (World.block_lt_of_cell? w _ hcell.out) ho.out) HTL.out).mono ?_
      rintro _ w10 ⟨rfl, bv3, h4⟩
      have hG := St.thenF hQ h4
      clear h4 hQ hE
      refine hK.out _ _ ?_ (fun hHeld => ?_)
      · exact ⟨ldOMx hG kc0.out (by rw [HF.out]; exact nc0.out), ldOMx hG kc1.out (by rw [HF.out]; exact nc1.out), ldOMx hG kc3.out (by rw [HF.out]; exact nc3.out), ldOMx hG kc2.out (by rw [HF.out]; exact nc2.out)⟩
      clear hK K
      (try simp only [Act.put, List.setIfInBounds_toArray, List.set_cons_zero, List.set_cons_succ])
      refine wpAnyH_done (by kernel_rfl) ?_ _
      clear hHeld
      skip
      go_wp2_with (first | go_big_skip | go_big_guard | fail)
      go_roundw
      case rel =>
        refine ⟨j + 1, bv3, by omega, rfl, ?_⟩
        rw [HS.out, ← HS2.out]
        exact hG
      case measure => simp [intOf]; omega
    · have hjn : j = n := by omega
      have d1 : decide ((j : Int) < (n : Int)) = false := decide_eq_false (by omega)
      go_wp2_with (first | go_big_skip | go_big_guard | fail)
      go_end0
      refine ⟨rfl, bv2, ?_⟩
      rw [HRR.out]
      rw [List.take_of_length_le (by rw [List.length_map, HN.out]; omega)] at hst
      exact hst
theorem listI_put {w0 : World} {gn gz gf : Nat} {A : Addr} {size : Int} {ao : Option Addr} {n c : Nat} {l : List (Int)} (c0 : w0.cell? ⟨gn, 0, none⟩ = some (.pointer (some A))) (c1 : w0.cell? ⟨gz, 0, none⟩ = some (.int .i64 size)) (c2 : w0.cell? ⟨gf, 0, none⟩ = some (.func (.func 70) #[] #[]))
    (c3 : w0.cell? A = some (.slice ao n c)) (hr : Rd w0 (.slice ao n c) 1 n (intsV l)) (hn : l.length = n) (hb : n ≤ 1000000) (hl : ∀ t ∈ l, -9223372036854775808 ≤ t ∧ t ≤ 9223372036854775807) (hs : -9223372036854775808 ≤ size ∧ size ≤ 9223372036854775807) :
    PutOk w0 88 [ptrV gn, ptrV gz, ptrV gf] (fun s => putAll (putW s (numR n size)) (l.map fun t => numR t 5)) := by
  intro g bv s w hold hB
  have hst : St w (wF g bv s) w (wP g bv s) := hold.selfF
  have kc0 := hid (hold.old_cell c0 (by simp))
  have nc0 := hid (hold.offOld c0)
  have kc1 := hid (hold.old_cell c1 (by simp))
  have nc1 := hid (hold.offOld c1)
  have kc2 := hid (hold.old_cell c2 (by simp))
  have nc2 := hid (hold.offOld c2)
  have kc3 := hid (hold.old_cell c3 (by simp))
  have nc3 := hid (hold.offOld c3)
  have HR := hid (Rd.old hold hr)
  have HO := hid (show Off (.slice ao n c) (wF g bv s) from Off.later hold hr (by decide))
  have HB := hid hB
  have HN := hid hn
  have HL := hid hl
  have hni : -9223372036854775808 ≤ (n : Int) ∧ (n : Int) ≤ 9223372036854775807 := by omega
  obtain ⟨R, hRR⟩ : ∃ R, R = putAll (putW s (numR n size)) (l.map fun t => numR t 5) := ⟨_, rfl⟩
  have HRR := hid hRR
  dsimp only
  rw [← hRR]
  obtain ⟨F, hF⟩ : ∃ F, F = wF g bv s := ⟨_, rfl⟩
  have HF := hid hF
  obtain ⟨W0, hW⟩ : ∃ W0, W0 = wP g bv s := ⟨_, rfl⟩
  have HW := hid hW
  rw [← hW] at hst
  rw [← hF] at hst ⊢
  clear hB hold hF hW hRR hn hl hr c0 c1 c2 c3
  show Calls Try.prog 88 #[.pointer (some ⟨g, 0, none⟩), .pointer (some ⟨gn, 0, none⟩), .pointer (some ⟨gz, 0, none⟩), .pointer (some ⟨gf, 0, none⟩)] w _
  go_enter Try.func88, Try.ntmps88
  go_wp2_with (first | go_big_skip | go_big_guard | fail)
  have hD := hst.drew
  clear hst
  refine wp_region_held_drew (S := (fun w' => (loadVarH 106 ⟨gn, 0, none⟩).run Try.prog w' = .ok (.pointer (some A)) w' ∧ (loadVarH 3 ⟨gz, 0, none⟩).run Try.prog w' = .ok (.int .i64 size) w' ∧ (loadVarH 47 A).run Try.prog w' = .ok (.slice ao n c) w' ∧ (loadVarH 107 ⟨gf, 0, none⟩).run Try.prog w' = .ok (.func (.func 70) #[] #[]) w')) (by kernel_rfl) (by exact ⟨ldOMx hD kc0.out (by rw [HF.out]; exact nc0.out), ldOMx hD kc1.out (by rw [HF.out]; exact nc1.out), ldOMx hD kc3.out (by rw [HF.out]; exact nc3.out), ldOMx hD kc2.out (by rw [HF.out]; exact nc2.out)⟩) (fun hHeld => ?_)
  refine wpAnyH_take (i := 0) (oi := ⟨some 6, _, _, _, _, _⟩) (v := ?_) rfl (by kernel_rfl) (by kernel_rfl) (by kernel_rfl) (fun _ _ _ h => h) (Or.inl ⟨by rfl, ?_⟩) (by assumption) ?_
  rotate_left
  · intro w hSw; (try dsimp only at hSw); go_simp; try with_reducible rfl
  (try simp only [Act.put, List.setIfInBounds_toArray, List.set_cons_zero, List.set_cons_succ])
  refine wpAnyH_take (i := 1) (oi := ⟨some 7, _, _, _, _, _⟩) (v := ?_) rfl (by kernel_rfl) (by kernel_rfl) (by kernel_rfl) (fun _ _ _ h => h) (Or.inl ⟨by rfl, ?_⟩) (by assumption) ?_
  rotate_left
  · intro w hSw; (try dsimp only at hSw); go_simp; try with_reducible rfl
  (try simp only [Act.put, List.setIfInBounds_toArray, List.set_cons_zero, List.set_cons_succ])
  refine wpAnyH_take (i := 5) (oi := ⟨some 11, _, _, _, _, _⟩) (v := ?_) rfl (by kernel_rfl) (by kernel_rfl) (by kernel_rfl) (fun _ _ _ h => h) (Or.inl ⟨by rfl, ?_⟩) (by assumption) ?_
  rotate_left
  · intro w hSw; (try dsimp only at hSw); go_simp; try with_reducible rfl
  (try simp only [Act.put, List.setIfInBounds_toArray, List.set_cons_zero, List.set_cons_succ])
  refine wpAnyH_take (i := 2) (oi := ⟨some 8, _, _, _, _, _⟩) (v := ?_) rfl (by kernel_rfl) (by kernel_rfl) (by kernel_rfl) (fun _ _ _ h => h) (Or.inl ⟨by rfl, ?_⟩) (by assumption) ?_
  rotate_left
  · intro w hSw; (try dsimp only at hSw); go_simp; try with_reducible rfl
  (try simp only [Act.put, List.setIfInBounds_toArray, List.set_cons_zero, List.set_cons_succ])
  refine wpAnyH_take (i := 3) (oi := ⟨some 9, _, _, _, _, _⟩) (v := ?_) rfl (by kernel_rfl) (by kernel_rfl) (by kernel_rfl) (fun _ _ _ h => h) (Or.inl ⟨by rfl, ?_⟩) (by assumption) ?_
  rotate_left
  · intro w hSw; (try dsimp only at hSw); go_simp; try with_reducible rfl
  (try simp only [Act.put, List.setIfInBounds_toArray, List.set_cons_zero, List.set_cons_succ])
  refine wpAnyH_take (i := 4) (oi := ⟨some 10, _, _, _, _, _⟩) (v := ?_) rfl (by kernel_rfl) (by kernel_rfl) (by kernel_rfl) (fun _ _ _ h => h) (Or.inl ⟨by rfl, ?_⟩) (by assumption) ?_
  rotate_left
  · intro w hSw; (try dsimp only at hSw); go_simp; try with_reducible rfl
  (try simp only [Act.put, List.setIfInBounds_toArray, List.set_cons_zero, List.set_cons_succ])
  refine wpAnyH_ready (rs := [6]) (by kernel_rfl) (by simp) ?_
  refine (AllReadyH.cons (o := ⟨some 12, _, _, _, _, _⟩) rfl (fun K hK => ?_) AllReadyH.nil)
  rw [if_pos (by rfl)]
  go_simp
  go_at_call 73
  have hE := hD
  rw [HW.out] at hE
  refine (wnum_any g bv s n size _ hE.selfF HB.out hs hni).mono ?_
  rintro _ w9 ⟨rfl, bv1, h4⟩
  have hF9 := St.thenF hE h4
  clear h4 hE
  refine hK.out _ _ ?_ (fun hHeld => ?_)
  · exact ⟨ldOMx hF9 kc0.out (by rw [HF.out]; exact nc0.out), ldOMx hF9 kc1.out (by rw [HF.out]; exact nc1.out), ldOMx hF9 kc3.out (by rw [HF.out]; exact nc3.out), ldOMx hF9 kc2.out (by rw [HF.out]; exact nc2.out)⟩
  clear hK K
  (try simp only [Act.put, List.setIfInBounds_toArray, List.set_cons_zero, List.set_cons_succ])
  refine wpAnyH_done (by kernel_rfl) ?_ _
  clear hHeld
  skip
  go_wp2_with (first | go_big_skip | go_big_guard | (refine wl_loadE rfl rfl rfl ?_; first | refine ⟨_, Loads.oldM hF9 kc0.out (by rw [HF.out]; exact nc0.out), ?_⟩ | refine ⟨_, Loads.oldM hF9 kc3.out (by rw [HF.out]; exact nc3.out), ?_⟩))
  go_loopw [17] (fun i wr => ∃ (j : Nat) (bv2 : Value), j ≤ n ∧ i = .int .i64 (j : Int) ∧ St w F wr (wP g bv2 (putAll (putW s (numR n size)) ((l.map fun t => numR t 5).take j)))) (fun i _ => n - (intOf i).toNat)
  case atStart => exact ⟨0, bv1, Nat.zero_le _, rfl, hF9⟩
  case round =>
    clear hF9
    obtain ⟨j, bv2, hj, rfl, hst⟩ := hrel
    by_cases hlt : j < n
    · have d1 : decide ((j : Int) < (n : Int)) = true := decide_eq_true (by omega)
      have z1 : IntKind.i64.wrap ((j : Int) + 1) = (j : Int) + 1 := IntWalk.i64_in _ (by omega)
      have hjl : j < l.length := by rw [HN.out]; exact hlt
      obtain ⟨t, ht⟩ : ∃ t, l[j]? = some t := ⟨_, List.getElem?_eq_getElem hjl⟩
      have HT := hid ht
      have HTL := hid (HL.out t (List.mem_of_getElem? ht))
      have HS := hid (putAll_succ (s := putW s (numR n size)) (show (l.map fun t => numR t 5)[j]? = some (numR t 5) by rw [List.getElem?_map, ht]; rfl))
      obtain ⟨b, off, rfl, hrg⟩ := Rd.at HR.out hlt
      have hcell := hid (hrg j _ (intsV_get ht))
      have ho := hid (show b ∉ F from by
        rw [HF.out]
        exact HO.out ⟨b, off, none⟩ n c rfl (by omega))
      have HB2 := hid (putAll_len (s := putW s (numR n size)) (rs := (l.map fun t => numR t 5).take j) (putW_len HB.out))
      obtain ⟨s2, hs2⟩ : ∃ s2, s2 = putAll (putW s (numR n size)) ((l.map fun t => numR t 5).take j) := ⟨_, rfl⟩
      rw [← hs2] at hst
      have HS2 := hid hs2
      obtain ⟨W2, hW2⟩ : ∃ W2, W2 = wP g bv2 s2 := ⟨_, rfl⟩
      have HW2 := hid hW2
      rw [← hW2] at hst
      have n1 : (j : Int).toNat = j := by omega
      have n2 : (0 : Int) ≤ (j : Int) := by omega
      have n3 : (j : Int) < (n : Int) := by omega
      clear ht hjl hrg hs2 hW2
      go_wp2_with (first | go_big_skip | go_big_guard | fail)
      have hD := hst.drew
      clear hst
      refine wp_region_held_drew (S := (fun w' => (loadVarH 106 ⟨gn, 0, none⟩).run Try.prog w' = .ok (.pointer (some A)) w' ∧ (loadVarH 3 ⟨gz, 0, none⟩).run Try.prog w' = .ok (.int .i64 size) w' ∧ (loadVarH 47 A).run Try.prog w' = .ok (.slice (some ⟨b, off, none⟩) n c) w' ∧ (loadVarH 107 ⟨gf, 0, none⟩).run Try.prog w' = .ok (.func (.func 70) #[] #[]) w')) (by kernel_rfl) (by exact ⟨ldOMx hD kc0.out (by rw [HF.out]; exact nc0.out), ldOMx hD kc1.out (by rw [HF.out]; exact nc1.out), ldOMx hD kc3.out (by rw [HF.out]; exact nc3.out), ldOMx hD kc2.out (by rw [HF.out]; exact nc2.out)⟩) (fun hHeld => ?_)
      refine wpAnyH_take (i := 0) (oi := ⟨some 20, _, _, _, _, _⟩) (v := ?_) rfl (by kernel_rfl) (by kernel_rfl) (by kernel_rfl) (fun _ _ _ h => h) (Or.inl ⟨by rfl, ?_⟩) (by assumption) ?_
      rotate_left
      · intro w hSw; (try dsimp only at hSw); go_simp; try with_reducible rfl
      (try simp only [Act.put, List.setIfInBounds_toArray, List.set_cons_zero, List.set_cons_succ])
      refine wpAnyH_take (i := 1) (oi := ⟨some 21, _, _, _, _, _⟩) (v := ?_) rfl (by kernel_rfl) (by kernel_rfl) (by kernel_rfl) (fun _ _ _ h => h) (Or.inl ⟨by rfl, ?_⟩) (by assumption) ?_
      rotate_left
      · intro w hSw; (try dsimp only at hSw); go_simp; try with_reducible rfl
      (try simp only [Act.put, List.setIfInBounds_toArray, List.set_cons_zero, List.set_cons_succ])
      refine wpAnyH_take (i := 4) (oi := ⟨some 24, _, _, _, _, _⟩) (v := ?_) rfl (by kernel_rfl) (by kernel_rfl) (by kernel_rfl) (fun _ _ _ h => h) (Or.inl ⟨by rfl, ?_⟩) (by assumption) ?_
      rotate_left
      · intro w hSw; (try dsimp only at hSw); go_simp; try with_reducible rfl
      (try simp only [Act.put, List.setIfInBounds_toArray, List.set_cons_zero, List.set_cons_succ])
      refine wpAnyH_take (i := 8) (oi := ⟨some 28, _, _, _, _, _⟩) (v := ?_) rfl (by kernel_rfl) (by kernel_rfl) (by kernel_rfl) (fun _ _ _ h => h) (Or.inl ⟨by rfl, ?_⟩) (by assumption) ?_
      rotate_left
      · intro w hSw; (try dsimp only at hSw); go_simp; try with_reducible rfl
      (try simp only [Act.put, List.setIfInBounds_toArray, List.set_cons_zero, List.set_cons_succ])
      refine wpAnyH_take (i := 2) (oi := ⟨some 22, _, _, _, _, _⟩) (v := ?_) rfl (by kernel_rfl) (by kernel_rfl) (by kernel_rfl) (fun _ _ _ h => h) (Or.inl ⟨by rfl, ?_⟩) (by assumption) ?_
      rotate_left
      · intro w hSw; (try dsimp only at hSw); go_simp; try with_reducible rfl
      (try simp only [Act.put, List.setIfInBounds_toArray, List.set_cons_zero, List.set_cons_succ])
      refine wpAnyH_take (i := 3) (oi := ⟨some 23, _, _, _, _, _⟩) (v := ?_) rfl (by kernel_rfl) (by kernel_rfl) (by kernel_rfl) (fun _ _ _ h => h) (Or.inl ⟨by rfl, ?_⟩) (by assumption) ?_
      rotate_left
      · intro w hSw; (try dsimp only at hSw); go_simp; try with_reducible rfl
      (try simp only [Act.put, List.setIfInBounds_toArray, List.set_cons_zero, List.set_cons_succ])
      refine wpAnyH_take (i := 5) (oi := ⟨some 25, _, _, _, _, _⟩) (v := ?_) rfl (by kernel_rfl) (by kernel_rfl) (by kernel_rfl) (fun _ _ _ h => h) (Or.inl ⟨by rfl, ?_⟩) (by assumption) ?_
      rotate_left
      · intro w hSw; (try dsimp only at hSw); go_simp; try with_reducible rfl
      (try simp only [Act.put, List.setIfInBounds_toArray, List.set_cons_zero, List.set_cons_succ])
      refine wpAnyH_ready (rs := [6]) (by kernel_rfl) (by simp) ?_
      refine (AllReadyH.cons (o := ⟨some 26, _, _, _, _, _⟩) rfl (fun K hK => ?_) AllReadyH.nil)
      rw [if_pos (by rfl)]
      go_simp
      go_at_call 70
      refine (wide_any ⟨b, off + j, none⟩ _).mono ?_
      rintro _ w9 ⟨gb, gz2, gl2, gh2, rfl, h4⟩
      have hE := St.call hD h4
      clear h4
      refine hK.out _ _ ?_ (fun hHeld => ?_)
      · exact ⟨ldOMx hE kc0.out (by rw [HF.out]; exact nc0.out), ldOMx hE kc1.out (by rw [HF.out]; exact nc1.out), ldOMx hE kc3.out (by rw [HF.out]; exact nc3.out), ldOMx hE kc2.out (by rw [HF.out]; exact nc2.out)⟩
      clear hK K
      (try simp only [Act.put, List.setIfInBounds_toArray, List.set_cons_zero, List.set_cons_succ])
      refine wpAnyH_take (i := 7) (oi := ⟨some 27, _, _, _, _, _⟩) (v := ?_) rfl (by kernel_rfl) (by kernel_rfl) (by kernel_rfl) (fun _ _ _ h => h) (Or.inl ⟨by rfl, ?_⟩) (by assumption) ?_
      rotate_left
      · intro w hSw; (try dsimp only at hSw); go_simp; try with_reducible rfl
      (try simp only [Act.put, List.setIfInBounds_toArray, List.set_cons_zero, List.set_cons_succ])
      refine wpAnyH_ready (rs := [9]) (by kernel_rfl) (by simp) ?_
      refine (AllReadyH.cons (o := ⟨some 29, _, _, _, _, _⟩) rfl (fun K hK => ?_) AllReadyH.nil)
      rw [if_pos (by rfl)]
      unfold cloV ptrV
      go_simp
      go_at_call 72
      have hQ := St.sub hE ((.cons _ (.cons _ (.cons _ (.cons _ (List.Sublist.refl _))))))
      rw [HW2.out] at hQ
      refine (num1_at g bv2 s2 _ hQ.selfF (by rw [HS2.out]; exact HB2.out) (hE.cell (off := 0) (.tail _ (.tail _ (.tail _ (.head _)))) rfl) (hE.cell (off := 0) (.tail _ (.tail _ (.head _))) rfl) (hE.old_cell hcell.out ho.out) (St.notFeet (C := wP g bv2 s2) (L1 := [_, _, _]) hE (fun x hx => Or.inr (by rw [HW2.out]; exact hx))) (St.notFeet (C := wP g bv2 s2) (L1 := [_, _]) hE (fun x hx => Or.inr (List.mem_cons_of_mem _ (by rw [HW2.out]; exact hx)))) (elem_off hQ (World.block_lt_of_cell? w _ hcell.out) ho.out) (by decide) HTL.out).mono ?_
      rintro _ w10 ⟨rfl, bv3, h4⟩
      have hG := St.thenF hQ h4
      clear h4 hQ hE
      refine hK.out _ _ ?_ (fun hHeld => ?_)
      · exact ⟨ldOMx hG kc0.out (by rw [HF.out]; exact nc0.out), ldOMx hG kc1.out (by rw [HF.out]; exact nc1.out), ldOMx hG kc3.out (by rw [HF.out]; exact nc3.out), ldOMx hG kc2.out (by rw [HF.out]; exact nc2.out)⟩
      clear hK K
      (try simp only [Act.put, List.setIfInBounds_toArray, List.set_cons_zero, List.set_cons_succ])
      refine wpAnyH_done (by kernel_rfl) ?_ _
      clear hHeld
      skip
      go_wp2_with (first | go_big_skip | go_big_guard | fail)
      go_roundw
      case rel =>
        refine ⟨j + 1, bv3, by omega, rfl, ?_⟩
        rw [HS.out, ← HS2.out]
        exact hG
      case measure => simp [intOf]; omega
    · have hjn : j = n := by omega
      have d1 : decide ((j : Int) < (n : Int)) = false := decide_eq_false (by omega)
      go_wp2_with (first | go_big_skip | go_big_guard | fail)
      go_end0
      refine ⟨rfl, bv2, ?_⟩
      rw [HRR.out]
      rw [List.take_of_length_le (by rw [List.length_map, HN.out]; omega)] at hst
      exact hst
end
end Go.Proofs.Ytalfdcfcaamnbaa
namespace Go.Proofs.Ytalfdcfcaamnbaa
set_option linter.unusedVariables false
set_option linter.unusedSimpArgs false
open Go.RowKit Hp
attribute [local irreducible] Go.Calls Go.wpList
set_option maxRecDepth 100000
set_option maxHeartbeats 4000000
/-- A part: its closures. -/
structure PartV where
  (pf : Nat)
  (pc : List Value)
  (gf : Nat)
  (gc : List Value)
def partsC (l : List PartV) : List Value := l.flatMap fun p => [cloV p.pf p.pc, cloV p.gf p.gc]
theorem partsC_at {l : List PartV} {k : Nat} {p : PartV} (h : l[k]? = some p) : ((partsC l).drop (k * 2)).take 2 = [cloV p.pf p.pc, cloV p.gf p.gc] := by
  induction l generalizing k with
  | nil => simp at h
  | cons q l ih =>
    cases k with
    | zero =>
      simp at h
      subst h
      rfl
    | succ k =>
      have := ih (k := k) (by simpa using h)
      rw [show (k + 1) * 2 = k * 2 + 2 by omega]
      simpa [partsC, List.flatMap_cons] using this
theorem range_part {w : World} {b off n c : Nat} {l : List PartV} {k : Nat} {p : PartV} (hr : Rd w (.slice (some ⟨b, off, none⟩) n c) 2 n (partsC l)) (h : l[k]? = some p) : w.rangeAt b (off + k * 2) [cloV p.pf p.pc, cloV p.gf p.gc] := by
  have hg := hr.range
  intro j v hv
  have e := partsC_at h
  rw [← e, List.getElem?_take] at hv
  split at hv
  · rw [List.getElem?_drop] at hv
    have := hg (k * 2 + j) v hv
    rwa [← Nat.add_assoc] at this
  · cases hv
/-- What steps make, one behind the other. -/
def goAll {α : Type} (s : α) (fs : List (α → α)) : α := fs.foldl (fun s f => f s) s
theorem goAll_succ {α : Type} {s : α} {fs : List (α → α)} {k : Nat} {f : α → α} (h : fs[k]? = some f) : goAll s (fs.take (k + 1)) = f (goAll s (fs.take k)) := by
  simp [goAll, List.take_add_one, h]
theorem goAll_inv {α : Type} {P : α → Prop} {s : α} {fs : List (α → α)} (h0 : P s) (h : ∀ f ∈ fs, ∀ s, P s → P (f s)) : P (goAll s fs) := by
  induction fs generalizing s with
  | nil => exact h0
  | cons f fs ih => exact ih (h f (by simp) s h0) (fun g hg => h g (by simp [hg]))
theorem parts_put (ao : Option Addr) (n c : Nat) (l : List PartV) (fs : List (WR → WR)) (w : World) (hr : Rd w (.slice ao n c) 2 n (partsC l)) (hn : l.length = n) (hf : fs.length = n) (hb : n ≤ 1000)
    (hfn : ∀ p ∈ l, ∀ (a : Array Value) (w : World), (callFunc p.pf a).run Try.prog w = .ok (.enter p.pf a) w)
    (hok : ∀ (k : Nat) (p : PartV) (f : WR → WR), l[k]? = some p → fs[k]? = some f → PutOk w p.pf p.pc f) (hlen : ∀ f ∈ fs, ∀ s : WR, s.2.length ≤ 65536 → (f s).2.length ≤ 65536) :
    Calls Try.prog 33 #[.slice ao n c] w (OutP w (goAll (0, []) fs)) := by
  have hst := St.refl w
  have HN := hid hn
  have HF := hid hf
  have HOK := hid hok
  have HFN := hid hfn
  have HLEN := hid hlen
  obtain ⟨R, hR⟩ : ∃ R, R = goAll ((0, []) : WR) fs := ⟨_, rfl⟩
  have HR := hid hR
  rw [← hR]
  clear hn hf hok hfn hlen hR
  go_enter Try.func33, Try.ntmps33
  go_wp2_with (first | go_big_skip | go_big_guard | (go_at_call 54; refine (new_any _).mono ?_; rintro _ w2 ⟨g, rfl, h4⟩; have hst1 := St.call hst h4; clear h4 hst))
  go_loopw [10] (fun i wr => ∃ (j : Nat) (bv2 : Value), j ≤ n ∧ i = .int .i64 (j : Int) ∧ St w [] wr (wP g bv2 (goAll ((0, []) : WR) (fs.take j)))) (fun i _ => n - (intOf i).toNat)
  case atStart => exact ⟨0, _, Nat.zero_le _, rfl, hst1⟩
  case round =>
    clear hst1
    obtain ⟨j, bv2, hj, rfl, hst⟩ := hrel
    have HB := hid (goAll_inv (P := fun s : WR => s.2.length ≤ 65536) (s := (0, [])) (fs := fs.take j) (by simp) (fun f hf => HLEN.out f (List.mem_of_mem_take hf)))
    by_cases hlt : j < n
    · have d1 : decide ((j : Int) < (n : Int)) = true := decide_eq_true (by omega)
      have z1 : IntKind.i64.wrap ((j : Int) + 1) = (j : Int) + 1 := IntWalk.i64_in _ (by omega)
      have hjl : j < l.length := by rw [HN.out]; exact hlt
      have hjf : j < fs.length := by rw [HF.out]; exact hlt
      obtain ⟨p, hp⟩ : ∃ p, l[j]? = some p := ⟨_, List.getElem?_eq_getElem hjl⟩
      obtain ⟨f, hf⟩ : ∃ f, fs[j]? = some f := ⟨_, List.getElem?_eq_getElem hjf⟩
      have hfn := HFN.out p (List.mem_of_getElem? hp)
      have HO := hid (HOK.out j p f hp hf)
      have HS := hid (goAll_succ (s := ((0, []) : WR)) hf)
      obtain ⟨b, off, rfl, _⟩ := Rd.at hr hlt
      have hcell := hid (range_part hr hp)
      obtain ⟨pf, pc, gf, gc⟩ := p
      dsimp only at hfn HO hcell
      replace hcell := hid (show w.rangeAt b (off + j * 2) [Value.func (.func pf) #[] pc.toArray, Value.func (.func gf) #[] gc.toArray] from hcell.out)
      obtain ⟨s2, hs2⟩ : ∃ s2, s2 = goAll ((0, []) : WR) (fs.take j) := ⟨_, rfl⟩
      have HS2 := hid hs2
      rw [← hs2] at hst
      obtain ⟨W2, hW2⟩ : ∃ W2, W2 = wP g bv2 s2 := ⟨_, rfl⟩
      have HW2 := hid hW2
      rw [← hW2] at hst
      clear hp hf hjl hjf hs2 hW2
      go_wp2_with (first | go_big_skip | go_big_guard | (refine wl_index rfl rfl rfl rfl hlt ?_) | (refine wl_loadE rfl rfl rfl ?_; refine ⟨_, Loads.oldA (cs := [Value.func (.func pf) #[] pc.toArray, Value.func (.func gf) #[] gc.toArray]) (n := 2) hst rfl hcell.out, ?_⟩) | (refine wl_alloc hst rfl rfl ?_; intro g3 _ hst3; clear hst) | (refine wl_storeA [] hst3 rfl rfl rfl rfl rfl rfl rfl ?_; intro w6 hst4; clear hst3) | (refine wl_loadE rfl rfl rfl ?_; first | refine ⟨_, Loads.at [] hst4 rfl, ?_⟩) | (have hQ := St.sub hst4 (.cons _ (List.Sublist.refl _)); rw [HW2.out] at hQ; refine (HO.out g bv2 s2 _ hQ (by rw [HS2.out]; exact HB.out)).mono ?_; rintro _ w10 ⟨rfl, bv3, h4⟩; have hG := St.thenF hQ h4; clear h4 hQ hst4))
      go_roundw
      case rel =>
        refine ⟨j + 1, bv3, by omega, rfl, ?_⟩
        rw [HS.out, ← HS2.out]
        exact hG
      case measure => simp [intOf]; omega
    · have hjn : j = n := by omega
      have d1 : decide ((j : Int) < (n : Int)) = false := decide_eq_false (by omega)
      have eR : goAll ((0, []) : WR) (fs.take j) = R := by rw [HR.out, List.take_of_length_le (by rw [HF.out]; omega)]
      have HE := hid eR
      clear hjn eR
      go_wp2_with (first | go_big_skip | go_big_guard | (go_at_call 55; refine (wout_any g bv2 _ _ hst HB.out).mono ?_; rw [HE.out]; rintro _ w9 ⟨u, rfl, h4⟩; have hst5 := St.call hst h4; clear h4 hst))
      go_ret2
      exact ⟨u, rfl, St.sub hst5 (List.sublist_append_left _ _)⟩
end Go.Proofs.Ytalfdcfcaamnbaa
namespace Go.Proofs.Ytalfdcfcaamnbaa
set_option linter.unusedVariables false
set_option linter.unusedSimpArgs false
open Go.RowKit Hp
attribute [local irreducible] Go.Calls Go.wpList
set_option maxRecDepth 100000
set_option maxHeartbeats 4000000
def partsPs (n0 z0 l0 h0 n1 n2 n3 z3 l3 h3 n4 z4 l4 h4 n5 z5 m5 f5 n6 : Nat) : List PartV := [⟨72, [ptrV n0, ptrV z0], 74, [ptrV z0, ptrV l0, ptrV h0, ptrV n0]⟩, ⟨76, [ptrV n1], 78, [ptrV n1]⟩, ⟨76, [ptrV n2], 78, [ptrV n2]⟩, ⟨72, [ptrV n3, ptrV z3], 74, [ptrV z3, ptrV l3, ptrV h3, ptrV n3]⟩, ⟨72, [ptrV n4, ptrV z4], 74, [ptrV z4, ptrV l4, ptrV h4, ptrV n4]⟩, ⟨80, [ptrV n5, ptrV z5, ptrV f5], 81, [ptrV z5, ptrV m5, ptrV f5, ptrV n5]⟩, ⟨82, [ptrV n6], 84, [ptrV n6]⟩]
def partsBoxes (go n0 z0 l0 h0 n1 n2 n3 z3 l3 h3 n4 z4 l4 h4 n5 z5 m5 f5 n6 : Nat) : List HA := [.blk n6 96 [.pointer (some ⟨go, 6, none⟩)], .blk f5 91 [.func (.func 57) #[] #[]], .blk m5 3 [.int .i64 16], .blk z5 3 [.int .i64 1], .blk n5 94 [.pointer (some ⟨go, 5, none⟩)], .blk h4 3 [.int .i64 2147483647], .blk l4 3 [.int .i64 0], .blk z4 3 [.int .i64 4], .blk n4 83 [.pointer (some ⟨go, 4, none⟩)], .blk h3 3 [.int .i64 2147483647], .blk l3 3 [.int .i64 0], .blk z3 3 [.int .i64 4], .blk n3 83 [.pointer (some ⟨go, 3, none⟩)], .blk n2 92 [.pointer (some ⟨go, 2, none⟩)], .blk n1 92 [.pointer (some ⟨go, 1, none⟩)], .blk h0 3 [.int .i64 24], .blk l0 3 [.int .i64 1], .blk z0 3 [.int .i64 1], .blk n0 83 [.pointer (some ⟨go, 0, none⟩)]]
theorem parts_any (go : Nat) (w : World) : Calls Try.prog 34 #[.pointer (some ⟨go, 0, none⟩)] w fun e w' => ∃ gp n0 z0 l0 h0 n1 n2 n3 z3 l3 h3 n4 z4 l4 h4 n5 z5 m5 f5 n6, e = .returned (.slice (some ⟨gp, 0, none⟩) 7 7) ∧ St w [] w' (.blk gp 89 (partsC (partsPs n0 z0 l0 h0 n1 n2 n3 z3 l3 h3 n4 z4 l4 h4 n5 z5 m5 f5 n6)) :: partsBoxes go n0 z0 l0 h0 n1 n2 n3 z3 l3 h3 n4 z4 l4 h4 n5 z5 m5 f5 n6) := by
  have hst := St.refl w
  go_enter Try.func34, Try.ntmps34
  go_wp2_with (first | go_big_skip | go_big_guard | fail)
  have hD := hst.drew
  clear hst
  refine wp_region_held_drew (S := (fun w' => True)) (by kernel_rfl) (by exact trivial) (fun hHeld => ?_)
  refine wpAnyH_take (i := 0) (oi := ⟨some 3, _, _, _, _, _⟩) (v := ?_) rfl (by kernel_rfl) (by kernel_rfl) (by kernel_rfl) (fun _ _ _ h => h) (Or.inl ⟨by rfl, ?_⟩) (by assumption) ?_
  rotate_left
  · intro w hSw; (try dsimp only at hSw); go_simp; try with_reducible rfl
  (try simp only [Act.put, List.setIfInBounds_toArray, List.set_cons_zero, List.set_cons_succ])
  refine wpAnyH_take (i := 4) (oi := ⟨some 7, _, _, _, _, _⟩) (v := ?_) rfl (by kernel_rfl) (by kernel_rfl) (by kernel_rfl) (fun _ _ _ h => h) (Or.inl ⟨by rfl, ?_⟩) (by assumption) ?_
  rotate_left
  · intro w hSw; (try dsimp only at hSw); go_simp; try with_reducible rfl
  (try simp only [Act.put, List.setIfInBounds_toArray, List.set_cons_zero, List.set_cons_succ])
  refine wpAnyH_take (i := 8) (oi := ⟨some 11, _, _, _, _, _⟩) (v := ?_) rfl (by kernel_rfl) (by kernel_rfl) (by kernel_rfl) (fun _ _ _ h => h) (Or.inl ⟨by rfl, ?_⟩) (by assumption) ?_
  rotate_left
  · intro w hSw; (try dsimp only at hSw); go_simp; try with_reducible rfl
  (try simp only [Act.put, List.setIfInBounds_toArray, List.set_cons_zero, List.set_cons_succ])
  refine wpAnyH_take (i := 12) (oi := ⟨some 15, _, _, _, _, _⟩) (v := ?_) rfl (by kernel_rfl) (by kernel_rfl) (by kernel_rfl) (fun _ _ _ h => h) (Or.inl ⟨by rfl, ?_⟩) (by assumption) ?_
  rotate_left
  · intro w hSw; (try dsimp only at hSw); go_simp; try with_reducible rfl
  (try simp only [Act.put, List.setIfInBounds_toArray, List.set_cons_zero, List.set_cons_succ])
  refine wpAnyH_take (i := 16) (oi := ⟨some 19, _, _, _, _, _⟩) (v := ?_) rfl (by kernel_rfl) (by kernel_rfl) (by kernel_rfl) (fun _ _ _ h => h) (Or.inl ⟨by rfl, ?_⟩) (by assumption) ?_
  rotate_left
  · intro w hSw; (try dsimp only at hSw); go_simp; try with_reducible rfl
  (try simp only [Act.put, List.setIfInBounds_toArray, List.set_cons_zero, List.set_cons_succ])
  refine wpAnyH_take (i := 20) (oi := ⟨some 23, _, _, _, _, _⟩) (v := ?_) rfl (by kernel_rfl) (by kernel_rfl) (by kernel_rfl) (fun _ _ _ h => h) (Or.inl ⟨by rfl, ?_⟩) (by assumption) ?_
  rotate_left
  · intro w hSw; (try dsimp only at hSw); go_simp; try with_reducible rfl
  (try simp only [Act.put, List.setIfInBounds_toArray, List.set_cons_zero, List.set_cons_succ])
  refine wpAnyH_take (i := 24) (oi := ⟨some 27, _, _, _, _, _⟩) (v := ?_) rfl (by kernel_rfl) (by kernel_rfl) (by kernel_rfl) (fun _ _ _ h => h) (Or.inl ⟨by rfl, ?_⟩) (by assumption) ?_
  rotate_left
  · intro w hSw; (try dsimp only at hSw); go_simp; try with_reducible rfl
  (try simp only [Act.put, List.setIfInBounds_toArray, List.set_cons_zero, List.set_cons_succ])
  refine wpAnyH_take (i := 1) (oi := ⟨some 4, _, _, _, _, _⟩) (v := ?_) rfl (by kernel_rfl) (by kernel_rfl) (by kernel_rfl) (fun _ _ _ h => h) (Or.inl ⟨by rfl, ?_⟩) (by assumption) ?_
  rotate_left
  · intro w hSw; (try dsimp only at hSw); go_simp; try with_reducible rfl
  (try simp only [Act.put, List.setIfInBounds_toArray, List.set_cons_zero, List.set_cons_succ])
  refine wpAnyH_take (i := 5) (oi := ⟨some 8, _, _, _, _, _⟩) (v := ?_) rfl (by kernel_rfl) (by kernel_rfl) (by kernel_rfl) (fun _ _ _ h => h) (Or.inl ⟨by rfl, ?_⟩) (by assumption) ?_
  rotate_left
  · intro w hSw; (try dsimp only at hSw); go_simp; try with_reducible rfl
  (try simp only [Act.put, List.setIfInBounds_toArray, List.set_cons_zero, List.set_cons_succ])
  refine wpAnyH_take (i := 9) (oi := ⟨some 12, _, _, _, _, _⟩) (v := ?_) rfl (by kernel_rfl) (by kernel_rfl) (by kernel_rfl) (fun _ _ _ h => h) (Or.inl ⟨by rfl, ?_⟩) (by assumption) ?_
  rotate_left
  · intro w hSw; (try dsimp only at hSw); go_simp; try with_reducible rfl
  (try simp only [Act.put, List.setIfInBounds_toArray, List.set_cons_zero, List.set_cons_succ])
  refine wpAnyH_take (i := 13) (oi := ⟨some 16, _, _, _, _, _⟩) (v := ?_) rfl (by kernel_rfl) (by kernel_rfl) (by kernel_rfl) (fun _ _ _ h => h) (Or.inl ⟨by rfl, ?_⟩) (by assumption) ?_
  rotate_left
  · intro w hSw; (try dsimp only at hSw); go_simp; try with_reducible rfl
  (try simp only [Act.put, List.setIfInBounds_toArray, List.set_cons_zero, List.set_cons_succ])
  refine wpAnyH_take (i := 17) (oi := ⟨some 20, _, _, _, _, _⟩) (v := ?_) rfl (by kernel_rfl) (by kernel_rfl) (by kernel_rfl) (fun _ _ _ h => h) (Or.inl ⟨by rfl, ?_⟩) (by assumption) ?_
  rotate_left
  · intro w hSw; (try dsimp only at hSw); go_simp; try with_reducible rfl
  (try simp only [Act.put, List.setIfInBounds_toArray, List.set_cons_zero, List.set_cons_succ])
  refine wpAnyH_take (i := 21) (oi := ⟨some 24, _, _, _, _, _⟩) (v := ?_) rfl (by kernel_rfl) (by kernel_rfl) (by kernel_rfl) (fun _ _ _ h => h) (Or.inl ⟨by rfl, ?_⟩) (by assumption) ?_
  rotate_left
  · intro w hSw; (try dsimp only at hSw); go_simp; try with_reducible rfl
  (try simp only [Act.put, List.setIfInBounds_toArray, List.set_cons_zero, List.set_cons_succ])
  refine wpAnyH_take (i := 25) (oi := ⟨some 28, _, _, _, _, _⟩) (v := ?_) rfl (by kernel_rfl) (by kernel_rfl) (by kernel_rfl) (fun _ _ _ h => h) (Or.inl ⟨by rfl, ?_⟩) (by assumption) ?_
  rotate_left
  · intro w hSw; (try dsimp only at hSw); go_simp; try with_reducible rfl
  (try simp only [Act.put, List.setIfInBounds_toArray, List.set_cons_zero, List.set_cons_succ])
  refine wpAnyH_take (i := 2) (oi := ⟨some 5, _, _, _, _, _⟩) (v := ?_) rfl (by kernel_rfl) (by kernel_rfl) (by kernel_rfl) (fun _ _ _ h => h) (Or.inl ⟨by rfl, ?_⟩) (by assumption) ?_
  rotate_left
  · intro w hSw; (try dsimp only at hSw); go_simp; try with_reducible rfl
  (try simp only [Act.put, List.setIfInBounds_toArray, List.set_cons_zero, List.set_cons_succ])
  refine wpAnyH_take (i := 6) (oi := ⟨some 9, _, _, _, _, _⟩) (v := ?_) rfl (by kernel_rfl) (by kernel_rfl) (by kernel_rfl) (fun _ _ _ h => h) (Or.inl ⟨by rfl, ?_⟩) (by assumption) ?_
  rotate_left
  · intro w hSw; (try dsimp only at hSw); go_simp; try with_reducible rfl
  (try simp only [Act.put, List.setIfInBounds_toArray, List.set_cons_zero, List.set_cons_succ])
  refine wpAnyH_take (i := 10) (oi := ⟨some 13, _, _, _, _, _⟩) (v := ?_) rfl (by kernel_rfl) (by kernel_rfl) (by kernel_rfl) (fun _ _ _ h => h) (Or.inl ⟨by rfl, ?_⟩) (by assumption) ?_
  rotate_left
  · intro w hSw; (try dsimp only at hSw); go_simp; try with_reducible rfl
  (try simp only [Act.put, List.setIfInBounds_toArray, List.set_cons_zero, List.set_cons_succ])
  refine wpAnyH_take (i := 14) (oi := ⟨some 17, _, _, _, _, _⟩) (v := ?_) rfl (by kernel_rfl) (by kernel_rfl) (by kernel_rfl) (fun _ _ _ h => h) (Or.inl ⟨by rfl, ?_⟩) (by assumption) ?_
  rotate_left
  · intro w hSw; (try dsimp only at hSw); go_simp; try with_reducible rfl
  (try simp only [Act.put, List.setIfInBounds_toArray, List.set_cons_zero, List.set_cons_succ])
  refine wpAnyH_take (i := 18) (oi := ⟨some 21, _, _, _, _, _⟩) (v := ?_) rfl (by kernel_rfl) (by kernel_rfl) (by kernel_rfl) (fun _ _ _ h => h) (Or.inl ⟨by rfl, ?_⟩) (by assumption) ?_
  rotate_left
  · intro w hSw; (try dsimp only at hSw); go_simp; try with_reducible rfl
  (try simp only [Act.put, List.setIfInBounds_toArray, List.set_cons_zero, List.set_cons_succ])
  refine wpAnyH_take (i := 22) (oi := ⟨some 25, _, _, _, _, _⟩) (v := ?_) rfl (by kernel_rfl) (by kernel_rfl) (by kernel_rfl) (fun _ _ _ h => h) (Or.inl ⟨by rfl, ?_⟩) (by assumption) ?_
  rotate_left
  · intro w hSw; (try dsimp only at hSw); go_simp; try with_reducible rfl
  (try simp only [Act.put, List.setIfInBounds_toArray, List.set_cons_zero, List.set_cons_succ])
  refine wpAnyH_take (i := 26) (oi := ⟨some 29, _, _, _, _, _⟩) (v := ?_) rfl (by kernel_rfl) (by kernel_rfl) (by kernel_rfl) (fun _ _ _ h => h) (Or.inl ⟨by rfl, ?_⟩) (by assumption) ?_
  rotate_left
  · intro w hSw; (try dsimp only at hSw); go_simp; try with_reducible rfl
  (try simp only [Act.put, List.setIfInBounds_toArray, List.set_cons_zero, List.set_cons_succ])
  refine wpAnyH_ready (rs := [3]) (by kernel_rfl) (by simp) ?_
  refine (AllReadyH.cons (o := ⟨some 6, _, _, _, _, _⟩) rfl (fun K hK => ?_) AllReadyH.nil)
  rw [if_pos (by rfl)]
  go_simp
  go_at_call 56
  refine (num_any ⟨go, 0, none⟩ 1 1 24 _).mono ?_
  rintro _ w10 ⟨n0, z0, l0, h0, rfl, h4⟩
  have hE0 := St.call hD h4
  clear h4
  refine hK.out _ _ ?_ (fun hHeld => ?_)
  · exact trivial
  clear hK K
  (try simp only [Act.put, List.setIfInBounds_toArray, List.set_cons_zero, List.set_cons_succ])
  refine wpAnyH_ready (rs := [7]) (by kernel_rfl) (by simp) ?_
  refine (AllReadyH.cons (o := ⟨some 10, _, _, _, _, _⟩) rfl (fun K hK => ?_) AllReadyH.nil)
  rw [if_pos (by rfl)]
  go_simp
  go_at_call 57
  refine (text_any ⟨go, 1, none⟩ _).mono ?_
  rintro _ w11 ⟨n1, rfl, h4⟩
  have hE1 := St.call hE0 h4
  clear h4
  refine hK.out _ _ ?_ (fun hHeld => ?_)
  · exact trivial
  clear hK K
  (try simp only [Act.put, List.setIfInBounds_toArray, List.set_cons_zero, List.set_cons_succ])
  refine wpAnyH_ready (rs := [11]) (by kernel_rfl) (by simp) ?_
  refine (AllReadyH.cons (o := ⟨some 14, _, _, _, _, _⟩) rfl (fun K hK => ?_) AllReadyH.nil)
  rw [if_pos (by rfl)]
  go_simp
  go_at_call 57
  refine (text_any ⟨go, 2, none⟩ _).mono ?_
  rintro _ w12 ⟨n2, rfl, h4⟩
  have hE2 := St.call hE1 h4
  clear h4
  refine hK.out _ _ ?_ (fun hHeld => ?_)
  · exact trivial
  clear hK K
  (try simp only [Act.put, List.setIfInBounds_toArray, List.set_cons_zero, List.set_cons_succ])
  refine wpAnyH_ready (rs := [15]) (by kernel_rfl) (by simp) ?_
  refine (AllReadyH.cons (o := ⟨some 18, _, _, _, _, _⟩) rfl (fun K hK => ?_) AllReadyH.nil)
  rw [if_pos (by rfl)]
  go_simp
  go_at_call 56
  refine (num_any ⟨go, 3, none⟩ 4 0 2147483647 _).mono ?_
  rintro _ w13 ⟨n3, z3, l3, h3, rfl, h4⟩
  have hE3 := St.call hE2 h4
  clear h4
  refine hK.out _ _ ?_ (fun hHeld => ?_)
  · exact trivial
  clear hK K
  (try simp only [Act.put, List.setIfInBounds_toArray, List.set_cons_zero, List.set_cons_succ])
  refine wpAnyH_ready (rs := [19]) (by kernel_rfl) (by simp) ?_
  refine (AllReadyH.cons (o := ⟨some 22, _, _, _, _, _⟩) rfl (fun K hK => ?_) AllReadyH.nil)
  rw [if_pos (by rfl)]
  go_simp
  go_at_call 56
  refine (num_any ⟨go, 4, none⟩ 4 0 2147483647 _).mono ?_
  rintro _ w14 ⟨n4, z4, l4, h4, rfl, h4⟩
  have hE4 := St.call hE3 h4
  clear h4
  refine hK.out _ _ ?_ (fun hHeld => ?_)
  · exact trivial
  clear hK K
  (try simp only [Act.put, List.setIfInBounds_toArray, List.set_cons_zero, List.set_cons_succ])
  refine wpAnyH_ready (rs := [23]) (by kernel_rfl) (by simp) ?_
  refine (AllReadyH.cons (o := ⟨some 26, _, _, _, _, _⟩) rfl (fun K hK => ?_) AllReadyH.nil)
  rw [if_pos (by rfl)]
  go_simp
  go_at_call 58
  refine (listS_any ⟨go, 5, none⟩ 1 16 57 _).mono ?_
  rintro _ w15 ⟨n5, z5, m5, f5, rfl, h4⟩
  have hE5 := St.call hE4 h4
  clear h4
  refine hK.out _ _ ?_ (fun hHeld => ?_)
  · exact trivial
  clear hK K
  (try simp only [Act.put, List.setIfInBounds_toArray, List.set_cons_zero, List.set_cons_succ])
  refine wpAnyH_ready (rs := [27]) (by kernel_rfl) (by simp) ?_
  refine (AllReadyH.cons (o := ⟨some 30, _, _, _, _, _⟩) rfl (fun K hK => ?_) AllReadyH.nil)
  rw [if_pos (by rfl)]
  go_simp
  go_at_call 59
  refine (raw_any ⟨go, 6, none⟩ _).mono ?_
  rintro _ w16 ⟨n6, rfl, h4⟩
  have hE6 := St.call hE5 h4
  clear h4
  refine hK.out _ _ ?_ (fun hHeld => ?_)
  · exact trivial
  clear hK K
  (try simp only [Act.put, List.setIfInBounds_toArray, List.set_cons_zero, List.set_cons_succ])
  refine wpAnyH_ready (rs := [28]) (by kernel_rfl) (by simp) ?_
  refine (AllReadyH.cons (o := ⟨some 31, _, _, _, _, _⟩) rfl (fun K hK => ?_) AllReadyH.nil)
  rw [if_pos (by rfl)]
  refine ow_of_wl (ops := #[]) (by rfl) ?_
  apply wl_bsX ([.agg (List.toArray [cloV 72 [ptrV n0, ptrV z0], cloV 74 [ptrV z0, ptrV l0, ptrV h0, ptrV n0]]), .agg (List.toArray [cloV 76 [ptrV n1], cloV 78 [ptrV n1]]), .agg (List.toArray [cloV 76 [ptrV n2], cloV 78 [ptrV n2]]), .agg (List.toArray [cloV 72 [ptrV n3, ptrV z3], cloV 74 [ptrV z3, ptrV l3, ptrV h3, ptrV n3]]), .agg (List.toArray [cloV 72 [ptrV n4, ptrV z4], cloV 74 [ptrV z4, ptrV l4, ptrV h4, ptrV n4]]), .agg (List.toArray [cloV 80 [ptrV n5, ptrV z5, ptrV f5], cloV 81 [ptrV z5, ptrV m5, ptrV f5, ptrV n5]]), .agg (List.toArray [cloV 82 [ptrV n6], cloV 84 [ptrV n6]])]) (partsC (partsPs n0 z0 l0 h0 n1 n2 n3 z3 l3 h3 n4 z4 l4 h4 n5 z5 m5 f5 n6)) hE6
  rfl
  rfl
  (kernel_rfl)
  (kernel_rfl)
  infer_instance
  infer_instance
  rfl
  rfl
  rfl
  intro gp w9 hF
  refine q0_nil ?_
  refine hK.out _ _ ?_ (fun hHeld => ?_)
  · exact trivial
  clear hK K
  (try simp only [Act.put, List.setIfInBounds_toArray, List.set_cons_zero, List.set_cons_succ])
  refine wpAnyH_take (i := 29) (oi := ⟨some 2, _, _, _, _, _⟩) (v := ?_) rfl (by kernel_rfl) (by kernel_rfl) (by kernel_rfl) (fun _ _ _ h => h) (Or.inl ⟨by rfl, ?_⟩) (by assumption) ?_
  rotate_left
  · intro w hSw; (try dsimp only at hSw); go_simp; try with_reducible rfl
  (try simp only [Act.put, List.setIfInBounds_toArray, List.set_cons_zero, List.set_cons_succ])
  refine wpAnyH_done (by kernel_rfl) ?_ _
  clear hHeld
  skip
  go_wp2_with (first | go_big_skip | go_big_guard | fail)
  go_ret
  exact ⟨gp, n0, z0, l0, h0, n1, n2, n3, z3, l3, h3, n4, z4, l4, h4, n5, z5, m5, f5, n6, rfl, hF⟩
def repliesPs (n0 z0 l0 h0 n1 z1 m1 f1 n2 : Nat) : List PartV := [⟨72, [ptrV n0, ptrV z0], 74, [ptrV z0, ptrV l0, ptrV h0, ptrV n0]⟩, ⟨88, [ptrV n1, ptrV z1, ptrV f1], 89, [ptrV z1, ptrV m1, ptrV f1, ptrV n1]⟩, ⟨82, [ptrV n2], 84, [ptrV n2]⟩]
def repliesBoxes (go ge n0 z0 l0 h0 n1 z1 m1 f1 n2 : Nat) : List HA := [.blk n2 96 [.pointer (some ⟨go, 2, none⟩)], .blk f1 107 [.func (.func 70) #[] #[]], .blk m1 3 [.int .i64 2000], .blk z1 3 [.int .i64 2], .blk n1 106 [.pointer (some ⟨go, 1, none⟩)], .blk h0 3 [.int .i64 999], .blk l0 3 [.int .i64 0], .blk z0 3 [.int .i64 2], .blk n0 83 [.pointer (some ⟨ge, 0, none⟩)]]
theorem replies_any (go ge : Nat) (w : World) : Calls Try.prog 51 #[.pointer (some ⟨go, 0, none⟩), .pointer (some ⟨ge, 0, none⟩)] w fun e w' => ∃ gp n0 z0 l0 h0 n1 z1 m1 f1 n2, e = .returned (.slice (some ⟨gp, 0, none⟩) 3 3) ∧ St w [] w' (.blk gp 89 (partsC (repliesPs n0 z0 l0 h0 n1 z1 m1 f1 n2)) :: repliesBoxes go ge n0 z0 l0 h0 n1 z1 m1 f1 n2) := by
  have hst := St.refl w
  go_enter Try.func51, Try.ntmps51
  go_wp2_with (first | go_big_skip | go_big_guard | fail)
  have hD := hst.drew
  clear hst
  refine wp_region_held_drew (S := (fun w' => True)) (by kernel_rfl) (by exact trivial) (fun hHeld => ?_)
  refine wpAnyH_take (i := 0) (oi := ⟨some 5, _, _, _, _, _⟩) (v := ?_) rfl (by kernel_rfl) (by kernel_rfl) (by kernel_rfl) (fun _ _ _ h => h) (Or.inl ⟨by rfl, ?_⟩) (by assumption) ?_
  rotate_left
  · intro w hSw; (try dsimp only at hSw); go_simp; try with_reducible rfl
  (try simp only [Act.put, List.setIfInBounds_toArray, List.set_cons_zero, List.set_cons_succ])
  refine wpAnyH_take (i := 2) (oi := ⟨some 7, _, _, _, _, _⟩) (v := ?_) rfl (by kernel_rfl) (by kernel_rfl) (by kernel_rfl) (fun _ _ _ h => h) (Or.inl ⟨by rfl, ?_⟩) (by assumption) ?_
  rotate_left
  · intro w hSw; (try dsimp only at hSw); go_simp; try with_reducible rfl
  (try simp only [Act.put, List.setIfInBounds_toArray, List.set_cons_zero, List.set_cons_succ])
  refine wpAnyH_take (i := 6) (oi := ⟨some 11, _, _, _, _, _⟩) (v := ?_) rfl (by kernel_rfl) (by kernel_rfl) (by kernel_rfl) (fun _ _ _ h => h) (Or.inl ⟨by rfl, ?_⟩) (by assumption) ?_
  rotate_left
  · intro w hSw; (try dsimp only at hSw); go_simp; try with_reducible rfl
  (try simp only [Act.put, List.setIfInBounds_toArray, List.set_cons_zero, List.set_cons_succ])
  refine wpAnyH_take (i := 3) (oi := ⟨some 8, _, _, _, _, _⟩) (v := ?_) rfl (by kernel_rfl) (by kernel_rfl) (by kernel_rfl) (fun _ _ _ h => h) (Or.inl ⟨by rfl, ?_⟩) (by assumption) ?_
  rotate_left
  · intro w hSw; (try dsimp only at hSw); go_simp; try with_reducible rfl
  (try simp only [Act.put, List.setIfInBounds_toArray, List.set_cons_zero, List.set_cons_succ])
  refine wpAnyH_take (i := 7) (oi := ⟨some 12, _, _, _, _, _⟩) (v := ?_) rfl (by kernel_rfl) (by kernel_rfl) (by kernel_rfl) (fun _ _ _ h => h) (Or.inl ⟨by rfl, ?_⟩) (by assumption) ?_
  rotate_left
  · intro w hSw; (try dsimp only at hSw); go_simp; try with_reducible rfl
  (try simp only [Act.put, List.setIfInBounds_toArray, List.set_cons_zero, List.set_cons_succ])
  refine wpAnyH_take (i := 4) (oi := ⟨some 9, _, _, _, _, _⟩) (v := ?_) rfl (by kernel_rfl) (by kernel_rfl) (by kernel_rfl) (fun _ _ _ h => h) (Or.inl ⟨by rfl, ?_⟩) (by assumption) ?_
  rotate_left
  · intro w hSw; (try dsimp only at hSw); go_simp; try with_reducible rfl
  (try simp only [Act.put, List.setIfInBounds_toArray, List.set_cons_zero, List.set_cons_succ])
  refine wpAnyH_take (i := 8) (oi := ⟨some 13, _, _, _, _, _⟩) (v := ?_) rfl (by kernel_rfl) (by kernel_rfl) (by kernel_rfl) (fun _ _ _ h => h) (Or.inl ⟨by rfl, ?_⟩) (by assumption) ?_
  rotate_left
  · intro w hSw; (try dsimp only at hSw); go_simp; try with_reducible rfl
  (try simp only [Act.put, List.setIfInBounds_toArray, List.set_cons_zero, List.set_cons_succ])
  refine wpAnyH_ready (rs := [1]) (by kernel_rfl) (by simp) ?_
  refine (AllReadyH.cons (o := ⟨some 6, _, _, _, _, _⟩) rfl (fun K hK => ?_) AllReadyH.nil)
  rw [if_pos (by rfl)]
  go_simp
  go_at_call 56
  refine (num_any ⟨ge, 0, none⟩ 2 0 999 _).mono ?_
  rintro _ w10 ⟨n0, z0, l0, h0, rfl, h4⟩
  have hE0 := St.call hD h4
  clear h4
  refine hK.out _ _ ?_ (fun hHeld => ?_)
  · exact trivial
  clear hK K
  (try simp only [Act.put, List.setIfInBounds_toArray, List.set_cons_zero, List.set_cons_succ])
  refine wpAnyH_ready (rs := [5]) (by kernel_rfl) (by simp) ?_
  refine (AllReadyH.cons (o := ⟨some 10, _, _, _, _, _⟩) rfl (fun K hK => ?_) AllReadyH.nil)
  rw [if_pos (by rfl)]
  go_simp
  go_at_call 69
  refine (listI_any ⟨go, 1, none⟩ 2 2000 70 _).mono ?_
  rintro _ w11 ⟨n1, z1, m1, f1, rfl, h4⟩
  have hE1 := St.call hE0 h4
  clear h4
  refine hK.out _ _ ?_ (fun hHeld => ?_)
  · exact trivial
  clear hK K
  (try simp only [Act.put, List.setIfInBounds_toArray, List.set_cons_zero, List.set_cons_succ])
  refine wpAnyH_ready (rs := [9]) (by kernel_rfl) (by simp) ?_
  refine (AllReadyH.cons (o := ⟨some 14, _, _, _, _, _⟩) rfl (fun K hK => ?_) AllReadyH.nil)
  rw [if_pos (by rfl)]
  go_simp
  go_at_call 59
  refine (raw_any ⟨go, 2, none⟩ _).mono ?_
  rintro _ w12 ⟨n2, rfl, h4⟩
  have hE2 := St.call hE1 h4
  clear h4
  refine hK.out _ _ ?_ (fun hHeld => ?_)
  · exact trivial
  clear hK K
  (try simp only [Act.put, List.setIfInBounds_toArray, List.set_cons_zero, List.set_cons_succ])
  refine wpAnyH_ready (rs := [10]) (by kernel_rfl) (by simp) ?_
  refine (AllReadyH.cons (o := ⟨some 15, _, _, _, _, _⟩) rfl (fun K hK => ?_) AllReadyH.nil)
  rw [if_pos (by rfl)]
  refine ow_of_wl (ops := #[]) (by rfl) ?_
  apply wl_bsX ([.agg (List.toArray [cloV 72 [ptrV n0, ptrV z0], cloV 74 [ptrV z0, ptrV l0, ptrV h0, ptrV n0]]), .agg (List.toArray [cloV 88 [ptrV n1, ptrV z1, ptrV f1], cloV 89 [ptrV z1, ptrV m1, ptrV f1, ptrV n1]]), .agg (List.toArray [cloV 82 [ptrV n2], cloV 84 [ptrV n2]])]) (partsC (repliesPs n0 z0 l0 h0 n1 z1 m1 f1 n2)) hE2
  rfl
  rfl
  (kernel_rfl)
  (kernel_rfl)
  infer_instance
  infer_instance
  rfl
  rfl
  rfl
  intro gp w9 hF
  refine q0_nil ?_
  refine hK.out _ _ ?_ (fun hHeld => ?_)
  · exact trivial
  clear hK K
  (try simp only [Act.put, List.setIfInBounds_toArray, List.set_cons_zero, List.set_cons_succ])
  refine wpAnyH_take (i := 11) (oi := ⟨some 4, _, _, _, _, _⟩) (v := ?_) rfl (by kernel_rfl) (by kernel_rfl) (by kernel_rfl) (fun _ _ _ h => h) (Or.inl ⟨by rfl, ?_⟩) (by assumption) ?_
  rotate_left
  · intro w hSw; (try dsimp only at hSw); go_simp; try with_reducible rfl
  (try simp only [Act.put, List.setIfInBounds_toArray, List.set_cons_zero, List.set_cons_succ])
  refine wpAnyH_done (by kernel_rfl) ?_ _
  clear hHeld
  skip
  go_wp2_with (first | go_big_skip | go_big_guard | fail)
  go_ret
  exact ⟨gp, n0, z0, l0, h0, n1, z1, m1, f1, n2, rfl, hF⟩
end Go.Proofs.Ytalfdcfcaamnbaa
namespace Go.Proofs.Ytalfdcfcaamnbaa
set_option linter.unusedVariables false
set_option linter.unusedSimpArgs false
open Go.RowKit Hp
attribute [local irreducible] Go.Calls
set_option maxRecDepth 100000
set_option maxHeartbeats 4000000
attribute [local irreducible] usesAll
theorem uses_off (op : Int) (h0 : op < 0 ∨ 25 ≤ op) (w : World) : Calls Try.prog 17 #[.int .i64 op] w fun e w' => e = .returned (.agg (usesC op).toArray) ∧ St w [] w' [] := by
  have hst := St.refl w
  rw [usesC_none h0]
  rcases h0 with h0 | h0
  · have d1 : decide (op < 0) = true := decide_eq_true h0
    clear h0
    go_enter Try.func17, Try.ntmps17
    go_wp2_with (first | go_big_skip | go_big_guard | (refine wl_alloc hst rfl rfl ?_; intro g2 _ hst1; clear hst) | (refine wl_buildX (T := 71) (cs := usesAll) [(1, .agg (List.toArray [.bool true, .bool false, .bool true, .bool false, .bool false, .bool false])), (2, .agg (List.toArray [.bool true, .bool false, .bool false, .bool false, .bool false, .bool false])), (3, .agg (List.toArray [.bool true, .bool true, .bool false, .bool false, .bool false, .bool false])), (4, .agg (List.toArray [.bool true, .bool false, .bool false, .bool false, .bool false, .bool false])), (5, .agg (List.toArray [.bool true, .bool false, .bool false, .bool false, .bool false, .bool false])), (6, .agg (List.toArray [.bool true, .bool true, .bool false, .bool false, .bool false, .bool false])), (7, .agg (List.toArray [.bool true, .bool false, .bool true, .bool false, .bool false, .bool false])), (8, .agg (List.toArray [.bool true, .bool false, .bool true, .bool true, .bool false, .bool false])), (9, .agg (List.toArray [.bool true, .bool false, .bool false, .bool false, .bool false, .bool false])), (10, .agg (List.toArray [.bool true, .bool true, .bool false, .bool false, .bool false, .bool false])), (11, .agg (List.toArray [.bool false, .bool false, .bool false, .bool false, .bool true, .bool false])), (12, .agg (List.toArray [.bool true, .bool false, .bool true, .bool true, .bool false, .bool false])), (13, .agg (List.toArray [.bool true, .bool false, .bool true, .bool false, .bool false, .bool true])), (14, .agg (List.toArray [.bool true, .bool false, .bool true, .bool true, .bool false, .bool false])), (15, .agg (List.toArray [.bool true, .bool false, .bool false, .bool false, .bool false, .bool false])), (16, .agg (List.toArray [.bool true, .bool false, .bool false, .bool false, .bool false, .bool false])), (18, .agg (List.toArray [.bool false, .bool false, .bool true, .bool false, .bool false, .bool false])), (20, .agg (List.toArray [.bool false, .bool false, .bool true, .bool false, .bool false, .bool false])), (21, .agg (List.toArray [.bool false, .bool false, .bool true, .bool false, .bool false, .bool false])), (24, .agg (List.toArray [.bool false, .bool false, .bool false, .bool false, .bool false, .bool false]))] rfl rfl (by kernel_rfl) (by kernel_rfl) ?_) | (refine wl_buildX (T := 35) (cs := [.bool true, .bool false, .bool true, .bool false, .bool false, .bool false]) [(0, .bool true), (2, .bool true)] rfl rfl (by exact rfl) (by kernel_rfl) ?_) | (refine wl_buildX (T := 35) (cs := [.bool true, .bool false, .bool false, .bool false, .bool false, .bool false]) [(0, .bool true)] rfl rfl (by exact rfl) (by kernel_rfl) ?_) | (refine wl_buildX (T := 35) (cs := [.bool true, .bool true, .bool false, .bool false, .bool false, .bool false]) [(0, .bool true), (1, .bool true)] rfl rfl (by exact rfl) (by kernel_rfl) ?_) | (refine wl_buildX (T := 35) (cs := [.bool true, .bool false, .bool true, .bool true, .bool false, .bool false]) [(0, .bool true), (2, .bool true), (3, .bool true)] rfl rfl (by exact rfl) (by kernel_rfl) ?_) | (refine wl_buildX (T := 35) (cs := [.bool false, .bool false, .bool false, .bool false, .bool true, .bool false]) [(4, .bool true)] rfl rfl (by exact rfl) (by kernel_rfl) ?_) | (refine wl_buildX (T := 35) (cs := [.bool true, .bool false, .bool true, .bool false, .bool false, .bool true]) [(0, .bool true), (2, .bool true), (5, .bool true)] rfl rfl (by exact rfl) (by kernel_rfl) ?_) | (refine wl_buildX (T := 35) (cs := [.bool false, .bool false, .bool true, .bool false, .bool false, .bool false]) [(2, .bool true)] rfl rfl (by exact rfl) (by kernel_rfl) ?_) | (refine wl_build0 rfl rfl ?_) | (refine wl_alloc (cs := List.replicate 150 (.bool false)) hst1 rfl rfl ?_; intro g3 _ hst2; clear hst1) | (refine wl_storeA (T := 71) (vs := usesAll) (n := 150) [] hst2 rfl rfl (by kernel_rfl) (by kernel_rfl) (by kernel_rfl) (by kernel_rfl) (by kernel_rfl) ?_; intro w6 hst3; clear hst2) | (refine wl_storeA [_] hst3 rfl rfl rfl rfl rfl rfl rfl ?_; intro w7 hst4; clear hst3))
    have hl := Loads.atA (P := Try.prog) (off := 0) (T := 35) [.bool false, .bool false, .bool false, .bool false, .bool false, .bool false] [_] hst4 rfl rfl
    exact bodyPost_ret (results_cellL rfl rfl hl) rfl ⟨rfl, hst4.nil⟩
  · have d1 : decide (op < 0) = false := decide_eq_false (by omega)
    have d2 : decide (25 ≤ op) = true := decide_eq_true h0
    have d3 : decide (op ≥ 25) = true := decide_eq_true h0
    clear h0
    go_enter Try.func17, Try.ntmps17
    go_wp2_with (first | go_big_skip | go_big_guard | (refine wl_alloc hst rfl rfl ?_; intro g2 _ hst1; clear hst) | (refine wl_buildX (T := 71) (cs := usesAll) [(1, .agg (List.toArray [.bool true, .bool false, .bool true, .bool false, .bool false, .bool false])), (2, .agg (List.toArray [.bool true, .bool false, .bool false, .bool false, .bool false, .bool false])), (3, .agg (List.toArray [.bool true, .bool true, .bool false, .bool false, .bool false, .bool false])), (4, .agg (List.toArray [.bool true, .bool false, .bool false, .bool false, .bool false, .bool false])), (5, .agg (List.toArray [.bool true, .bool false, .bool false, .bool false, .bool false, .bool false])), (6, .agg (List.toArray [.bool true, .bool true, .bool false, .bool false, .bool false, .bool false])), (7, .agg (List.toArray [.bool true, .bool false, .bool true, .bool false, .bool false, .bool false])), (8, .agg (List.toArray [.bool true, .bool false, .bool true, .bool true, .bool false, .bool false])), (9, .agg (List.toArray [.bool true, .bool false, .bool false, .bool false, .bool false, .bool false])), (10, .agg (List.toArray [.bool true, .bool true, .bool false, .bool false, .bool false, .bool false])), (11, .agg (List.toArray [.bool false, .bool false, .bool false, .bool false, .bool true, .bool false])), (12, .agg (List.toArray [.bool true, .bool false, .bool true, .bool true, .bool false, .bool false])), (13, .agg (List.toArray [.bool true, .bool false, .bool true, .bool false, .bool false, .bool true])), (14, .agg (List.toArray [.bool true, .bool false, .bool true, .bool true, .bool false, .bool false])), (15, .agg (List.toArray [.bool true, .bool false, .bool false, .bool false, .bool false, .bool false])), (16, .agg (List.toArray [.bool true, .bool false, .bool false, .bool false, .bool false, .bool false])), (18, .agg (List.toArray [.bool false, .bool false, .bool true, .bool false, .bool false, .bool false])), (20, .agg (List.toArray [.bool false, .bool false, .bool true, .bool false, .bool false, .bool false])), (21, .agg (List.toArray [.bool false, .bool false, .bool true, .bool false, .bool false, .bool false])), (24, .agg (List.toArray [.bool false, .bool false, .bool false, .bool false, .bool false, .bool false]))] rfl rfl (by kernel_rfl) (by kernel_rfl) ?_) | (refine wl_buildX (T := 35) (cs := [.bool true, .bool false, .bool true, .bool false, .bool false, .bool false]) [(0, .bool true), (2, .bool true)] rfl rfl (by exact rfl) (by kernel_rfl) ?_) | (refine wl_buildX (T := 35) (cs := [.bool true, .bool false, .bool false, .bool false, .bool false, .bool false]) [(0, .bool true)] rfl rfl (by exact rfl) (by kernel_rfl) ?_) | (refine wl_buildX (T := 35) (cs := [.bool true, .bool true, .bool false, .bool false, .bool false, .bool false]) [(0, .bool true), (1, .bool true)] rfl rfl (by exact rfl) (by kernel_rfl) ?_) | (refine wl_buildX (T := 35) (cs := [.bool true, .bool false, .bool true, .bool true, .bool false, .bool false]) [(0, .bool true), (2, .bool true), (3, .bool true)] rfl rfl (by exact rfl) (by kernel_rfl) ?_) | (refine wl_buildX (T := 35) (cs := [.bool false, .bool false, .bool false, .bool false, .bool true, .bool false]) [(4, .bool true)] rfl rfl (by exact rfl) (by kernel_rfl) ?_) | (refine wl_buildX (T := 35) (cs := [.bool true, .bool false, .bool true, .bool false, .bool false, .bool true]) [(0, .bool true), (2, .bool true), (5, .bool true)] rfl rfl (by exact rfl) (by kernel_rfl) ?_) | (refine wl_buildX (T := 35) (cs := [.bool false, .bool false, .bool true, .bool false, .bool false, .bool false]) [(2, .bool true)] rfl rfl (by exact rfl) (by kernel_rfl) ?_) | (refine wl_build0 rfl rfl ?_) | (refine wl_alloc (cs := List.replicate 150 (.bool false)) hst1 rfl rfl ?_; intro g3 _ hst2; clear hst1) | (refine wl_storeA (T := 71) (vs := usesAll) (n := 150) [] hst2 rfl rfl (by kernel_rfl) (by kernel_rfl) (by kernel_rfl) (by kernel_rfl) (by kernel_rfl) ?_; intro w6 hst3; clear hst2) | (refine wl_storeA [_] hst3 rfl rfl rfl rfl rfl rfl rfl ?_; intro w7 hst4; clear hst3))
    have hl := Loads.atA (P := Try.prog) (off := 0) (T := 35) [.bool false, .bool false, .bool false, .bool false, .bool false, .bool false] [_] hst4 rfl rfl
    exact bodyPost_ret (results_cellL rfl rfl hl) rfl ⟨rfl, hst4.nil⟩
theorem uses_in (op : Int) (h0 : 0 ≤ op) (h1 : op < 25) (w : World) : Calls Try.prog 17 #[.int .i64 op] w fun e w' => e = .returned (.agg (usesC op).toArray) ∧ St w [] w' [] := by
  have hst := St.refl w
  obtain ⟨k, rfl⟩ : ∃ k : Nat, op = (k : Int) := ⟨op.toNat, by omega⟩
  have hk : k < 25 := by omega
  have d1 : decide ((k : Int) < 0) = false := decide_eq_false (by omega)
  have d2 : decide (25 ≤ (k : Int)) = false := decide_eq_false (by omega)
  have d3 : decide ((k : Int) ≥ 25) = false := d2
  have HU := hid (usesAll_at hk)
  go_enter Try.func17, Try.ntmps17
  go_wp2_with (first | go_big_skip | go_big_guard | (refine wl_alloc hst rfl rfl ?_; intro g2 _ hst1; clear hst) | (refine wl_buildX (T := 71) (cs := usesAll) [(1, .agg (List.toArray [.bool true, .bool false, .bool true, .bool false, .bool false, .bool false])), (2, .agg (List.toArray [.bool true, .bool false, .bool false, .bool false, .bool false, .bool false])), (3, .agg (List.toArray [.bool true, .bool true, .bool false, .bool false, .bool false, .bool false])), (4, .agg (List.toArray [.bool true, .bool false, .bool false, .bool false, .bool false, .bool false])), (5, .agg (List.toArray [.bool true, .bool false, .bool false, .bool false, .bool false, .bool false])), (6, .agg (List.toArray [.bool true, .bool true, .bool false, .bool false, .bool false, .bool false])), (7, .agg (List.toArray [.bool true, .bool false, .bool true, .bool false, .bool false, .bool false])), (8, .agg (List.toArray [.bool true, .bool false, .bool true, .bool true, .bool false, .bool false])), (9, .agg (List.toArray [.bool true, .bool false, .bool false, .bool false, .bool false, .bool false])), (10, .agg (List.toArray [.bool true, .bool true, .bool false, .bool false, .bool false, .bool false])), (11, .agg (List.toArray [.bool false, .bool false, .bool false, .bool false, .bool true, .bool false])), (12, .agg (List.toArray [.bool true, .bool false, .bool true, .bool true, .bool false, .bool false])), (13, .agg (List.toArray [.bool true, .bool false, .bool true, .bool false, .bool false, .bool true])), (14, .agg (List.toArray [.bool true, .bool false, .bool true, .bool true, .bool false, .bool false])), (15, .agg (List.toArray [.bool true, .bool false, .bool false, .bool false, .bool false, .bool false])), (16, .agg (List.toArray [.bool true, .bool false, .bool false, .bool false, .bool false, .bool false])), (18, .agg (List.toArray [.bool false, .bool false, .bool true, .bool false, .bool false, .bool false])), (20, .agg (List.toArray [.bool false, .bool false, .bool true, .bool false, .bool false, .bool false])), (21, .agg (List.toArray [.bool false, .bool false, .bool true, .bool false, .bool false, .bool false])), (24, .agg (List.toArray [.bool false, .bool false, .bool false, .bool false, .bool false, .bool false]))] rfl rfl (by kernel_rfl) (by kernel_rfl) ?_) | (refine wl_buildX (T := 35) (cs := [.bool true, .bool false, .bool true, .bool false, .bool false, .bool false]) [(0, .bool true), (2, .bool true)] rfl rfl (by exact rfl) (by kernel_rfl) ?_) | (refine wl_buildX (T := 35) (cs := [.bool true, .bool false, .bool false, .bool false, .bool false, .bool false]) [(0, .bool true)] rfl rfl (by exact rfl) (by kernel_rfl) ?_) | (refine wl_buildX (T := 35) (cs := [.bool true, .bool true, .bool false, .bool false, .bool false, .bool false]) [(0, .bool true), (1, .bool true)] rfl rfl (by exact rfl) (by kernel_rfl) ?_) | (refine wl_buildX (T := 35) (cs := [.bool true, .bool false, .bool true, .bool true, .bool false, .bool false]) [(0, .bool true), (2, .bool true), (3, .bool true)] rfl rfl (by exact rfl) (by kernel_rfl) ?_) | (refine wl_buildX (T := 35) (cs := [.bool false, .bool false, .bool false, .bool false, .bool true, .bool false]) [(4, .bool true)] rfl rfl (by exact rfl) (by kernel_rfl) ?_) | (refine wl_buildX (T := 35) (cs := [.bool true, .bool false, .bool true, .bool false, .bool false, .bool true]) [(0, .bool true), (2, .bool true), (5, .bool true)] rfl rfl (by exact rfl) (by kernel_rfl) ?_) | (refine wl_buildX (T := 35) (cs := [.bool false, .bool false, .bool true, .bool false, .bool false, .bool false]) [(2, .bool true)] rfl rfl (by exact rfl) (by kernel_rfl) ?_) | (refine wl_build0 rfl rfl ?_) | (refine wl_alloc (cs := List.replicate 150 (.bool false)) hst1 rfl rfl ?_; intro g3 _ hst2; clear hst1) | (refine wl_storeA (T := 71) (vs := usesAll) (n := 150) [] hst2 rfl rfl (by kernel_rfl) (by kernel_rfl) (by kernel_rfl) (by kernel_rfl) (by kernel_rfl) ?_; intro w6 hst3; clear hst2) | (refine wl_loadE rfl rfl rfl ?_; refine ⟨_, Loads.atA (usesC (k : Int)) [] hst3 rfl (by rw [show (usesC (k : Int)).length = 6 from rfl]; simpa using HU.out), ?_⟩) | (refine wl_storeA [_] hst3 rfl rfl rfl rfl rfl rfl rfl ?_; intro w7 hst4; clear hst3))
  have hl := Loads.atA (P := Try.prog) (off := 0) (T := 35) (usesC (k : Int)) [_] hst4 rfl rfl
  exact bodyPost_ret (results_cellL rfl rfl hl) rfl ⟨rfl, hst4.nil⟩
theorem uses_any (op : Int)  (w : World) : Calls Try.prog 17 #[.int .i64 op] w fun e w' => e = .returned (.agg (usesC op).toArray) ∧ St w [] w' [] := by
  by_cases h0 : op < 0 ∨ 25 ≤ op
  · exact uses_off op h0 w
  · exact uses_in op (by omega) (by omega) w
end Go.Proofs.Ytalfdcfcaamnbaa
