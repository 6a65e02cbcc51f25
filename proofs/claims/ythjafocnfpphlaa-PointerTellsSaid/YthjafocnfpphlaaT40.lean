import Derived.Test.YthjafocnfpphlaaT32
import Derived.Test.YthjafocnfpphlaaT8
import Derived.Test.YthjafocnfpphlaaSepP
namespace Go.Proofs.Ythjafocnfpphlaa
open Go.RowKit Hp
attribute [local irreducible] Go.Calls
set_option maxHeartbeats 4000000
set_option maxRecDepth 100000
theorem xor_u8 (x y : UInt8) : bits .xor .u8 (x.toNat : Int) (y.toNat : Int) = ((x ^^^ y).toNat : Int) := by
  have hx := x.toNat_lt
  have hy := y.toNat_lt
  have h : x.toNat ^^^ y.toNat < 2 ^ 8 := Nat.xor_lt_two_pow hx hy
  have e : (BitVec.ofInt 8 (x.toNat : Int) ^^^ BitVec.ofInt 8 (y.toNat : Int)).toNat = x.toNat ^^^ y.toNat := by
    rw [BitVec.toNat_xor, BitVec.ofInt_natCast, BitVec.ofInt_natCast, BitVec.toNat_ofNat, BitVec.toNat_ofNat, Nat.mod_eq_of_lt (by omega), Nat.mod_eq_of_lt (by omega)]
  show IntKind.u8.wrap ((BitVec.ofInt 8 (x.toNat : Int) ^^^ BitVec.ofInt 8 (y.toNat : Int)).toNat : Int) = _
  rw [e, UInt8.toNat_xor]
  show ((x.toNat ^^^ y.toNat : Nat) : Int) % 256 = _
  omega
/-- p with other addresses' slice. -/
abbrev PV.re (p : PV) (s : Value) : PV := ⟨s, p.l, p.b, p.v, p.S⟩
theorem copyPtr_any (p : PV) (w : World) (hp : p.In w) (hl : p.l.length ≤ 100000) : Calls Try.prog 24 #[.agg p.cells.toArray] w fun e w' =>
    ∃ ao n c, e = .returned (.agg (PV.cells (p.re (.slice ao n c))).toArray) ∧ St w [] w' [.row (.slice ao n c) 42 2 n (addrsV p.l)] ∧ p.l.length = n := by
  have hst := St.refl w
  have hS := hp.1
  obtain ⟨_, ao, n, c, h2, h3, h4⟩ := hp
  have hPL := hid (PV.len (p := p) hS)
  have H2 := hid h2
  have hn : n ≤ 100000 := by rw [← h4]; exact hl
  have H4 := hid h4
  have hRd := hid h3
  have hat := hid (show p.cells[0]? = some (.slice ao n c) by rw [PV.cells, h2]; rfl)
  clear h2 h3 h4 hl
  go_enter Try.func24, Try.ntmps24
  go_wp2_with (first | go_big_skip | go_big_guard | (refine wl_boxA hst rfl rfl rfl ?_; intro g w1 hst1; clear hst) | (refine wl_alloc hst1 rfl rfl ?_; intro g2 w2 hst2; clear hst1) | (apply wl_bsX [] [] hst2; rfl; rfl; exact rfl; exact rfl; infer_instance; infer_instance; rfl; rfl; rfl; intro g3 w3 hst3; clear hst2; have hst4 := St.toRow (n := 0) (cap := 0) (sz := 2) hst3 rfl (by decide) (by decide); clear hst3) | (refine wl_loadE rfl rfl rfl ?_; refine ⟨_, Loads.at (off := 0) [_, _] hst4 hat.out, ?_⟩) | (apply wl_appX [] hst4; rfl; rfl; exact rfl; exact rfl; infer_instance; infer_instance; infer_instance; exact Rd.old hst4 hRd.out; exact addrs_ones _; (unfold maxLen; omega); intro v9 w9 hst9 _; clear hst4; obtain ⟨ao9, c9, rfl⟩ := St.rowSliceAt [] hst9; rw [Nat.zero_add] at hst9) | (refine wl_store [_, _] hst9 rfl rfl rfl (v := .slice _ _ _) rfl rfl rfl (by show _ + 1 ≤ _; rw [hPL.out]; omega) ?_; intro w10 hst10; clear hst9; have hst11 : St w [] w10 [.row (.slice ao9 n c9) 42 2 n (addrsV p.l), .blk g2 29 (ptrCells (.slice none 0 0) 0 0 nones), .blk g 29 (PV.cells (p.re (.slice ao9 n c9)))] := hst10; clear hst10) | (refine wl_loadE rfl rfl rfl ?_; first | refine ⟨_, Loads.atA (PV.cells (p.re (.slice ao9 n c9))) [_, _] hst11 (PV.len (p := p.re (.slice ao9 n c9)) hS) (by simp), ?_⟩) | (refine wl_storeA [_] hst11 rfl rfl rfl rfl (PV.len (p := p.re (.slice ao9 n c9)) hS) (PV.ones_of (p := p.re (.slice ao9 n c9)) rfl) rfl ?_; intro w12 hst12; clear hst11))
  have hl := Loads.atA (P := Try.prog) (off := 0) (T := 29) (PV.cells (p.re (.slice ao9 n c9))) [_] hst12 (PV.len (p := p.re (.slice ao9 n c9)) hS) (by simp)
  refine bodyPost_ret (results_cellL rfl rfl hl) rfl ?_
  exact ⟨ao9, n, c9, rfl, hst12.sub (.cons_cons _ (List.nil_sublist _)), H4.out⟩
def overB (l : List UInt8) : List UInt8 := l.map (· ^^^ 90)
theorem over_none (w : World) : Calls Try.prog 29 #[.slice none 0 0] w fun e w' => e = .returned (.tuple #[]) ∧ St w [] w' [] := by
  have hst := St.refl w
  go_enter Try.func29, Try.ntmps29
  go_wp2_with (first | go_big_skip | go_big_guard | fail)
  go_loopw [3] (fun i wr => i = .int .i64 0 ∧ St w [] wr []) (fun i _ => 0)
  case atStart => exact ⟨rfl, hst⟩
  case round =>
    clear hst
    obtain ⟨rfl, hst⟩ := hrel
    go_wp2_with (first | go_big_skip | go_big_guard | fail)
    go_end0
    exact ⟨rfl, hst⟩
theorem over_step (bs : List UInt8) {k : Nat} (hk : k < bs.length) (x : UInt8) (hx : x = bs.getD k 0) : putAt (bytesV (overB (bs.take k) ++ bs.drop k)) k [.int .u8 ((x ^^^ 90).toNat : Int)] = bytesV (overB (bs.take (k + 1)) ++ bs.drop (k + 1)) := by
  have e : bs.drop k = bs.getD k 0 :: bs.drop (k + 1) := by rw [List.drop_eq_getElem_cons hk]; simp [List.getD, hk]
  have e2 : bs.take (k + 1) = bs.take k ++ [bs.getD k 0] := by rw [List.take_succ_eq_append_getElem hk]; simp [List.getD, hk]
  have hl : (bytesV (overB (bs.take k))).length = k := by simp [overB]; omega
  rw [e2, bytesV_append]
  have := put_at (bytesV (overB (bs.take k))) (bytesV [bs.getD k 0]) (bytesV (bs.drop (k + 1))) [.int .u8 ((x ^^^ 90).toNat : Int)] rfl hl.symm
  rw [e]
  have h3 : bytesV (bs.getD k 0 :: bs.drop (k + 1)) = bytesV [bs.getD k 0] ++ bytesV (bs.drop (k + 1)) := by simp [bytesV]
  rw [h3, this]
  simp [overB, bytesV, hx]
theorem over_get (bs : List UInt8) {k : Nat} (hk : k < bs.length) : (bytesV (overB (bs.take k) ++ bs.drop k))[k]? = some (.int .u8 ((bs.getD k 0).toNat : Int)) := by
  have hl : (overB (bs.take k)).length = k := by simp [overB]; omega
  rw [bytesV, List.getElem?_map, List.getElem?_append_right (by omega), hl, Nat.sub_self, List.getElem?_drop]
  simp [List.getD, hk]
theorem over_blk (g n : Nat) (bs : List UInt8) (w : World) (hg : w.heap[g]? = some (.cells (bytesV bs).toArray 5 (0, 0))) (hn : n ≤ bs.length) (hb : bs.length ≤ 9223372036854775807) :
    Calls Try.prog 29 #[.slice (some ⟨g, 0, none⟩) n bs.length] w fun e w' => e = .returned (.tuple #[]) ∧ St w [g] w' [.blk g 5 (bytesV (overB bs))] := by
  have hst := St.one w g _ _ hg
  go_enter Try.func29, Try.ntmps29
  go_wp2_with (first | go_big_skip | go_big_guard | fail)
  go_loopw [3] (fun i wr => ∃ k : Nat, k ≤ bs.length ∧ i = .int .i64 k ∧ St w [g] wr [.blk g 5 (bytesV (overB (bs.take k) ++ bs.drop k))]) (fun i _ => bs.length - (intOf i).toNat)
  case atStart => exact ⟨0, by omega, rfl, hst⟩
  case round =>
    clear hst
    obtain ⟨k, hk, rfl, hst⟩ := hrel
    by_cases hlt : k < bs.length
    · obtain ⟨x, hx⟩ : ∃ x, x = bs.getD k 0 := ⟨_, rfl⟩
      have hget := hid (over_get bs hlt)
      rw [← hx] at hget
      have hput := hid (over_step bs hlt x hx)
      have hxor : bits .xor .u8 (x.toNat : Int) 90 = ((x ^^^ 90).toNat : Int) := xor_u8 x 90
      have hlen := hid (show (bytesV (overB (bs.take k) ++ bs.drop k)).length = bs.length by simp [overB]; omega)
      clear hx
      go_wp2_with (first | go_big_skip | go_big_guard | (refine wl_index rfl rfl rfl rfl hlt ?_) | (refine wl_loadE rfl rfl rfl ?_; refine ⟨_, Loads.at [] hst (by simpa using hget.out), ?_⟩) | (refine wl_store [] hst rfl rfl rfl (v := .int _ _) rfl rfl rfl (by rw [hlen.out]; simp [Value.cells]; omega) ?_; intro w5 hst4; clear hst))
      have hst5 : St w [g] w5 [.blk g 5 (bytesV (overB (bs.take (k + 1)) ++ bs.drop (k + 1)))] := by
        rw [← hput.out]
        simpa [Value.cells] using hst4
      clear hst4
      go_roundw
      case rel => exact ⟨k + 1, by omega, by go_num, hst5⟩
      case measure => simp [intOf]; omega
    · have e : k = bs.length := by omega
      subst e
      go_wp2_with (first | go_big_skip | go_big_guard | fail)
      go_end0
      refine ⟨rfl, ?_⟩
      rw [List.take_length, List.drop_length, List.append_nil] at hst
      exact hst
theorem over_addrs (ao : Option Addr) (n c : Nat) (xs : List Value) (w : World) (hv : w.ownsRow 0 42 2 (.slice ao n c) n xs) :
    Calls Try.prog 62 #[.slice ao n c] w fun e w' => ∃ ys, e = .returned (.tuple #[]) ∧ St w (Value.slice ao n c).ownBlock.toList w' [.row (.slice ao n c) 42 2 n ys] := by
  have hst := St.ofRow w hv
  obtain ⟨hl, ho⟩ := hv
  rcases ho with ⟨he, rfl⟩ | ⟨g, cap, cur, he, hg0, hg, hnc, hcm, hcs, htake⟩
  · cases he
    go_enter Try.func62, Try.ntmps62
    go_wp2_with (first | go_big_skip | go_big_guard | fail)
    go_loopw [2] (fun i wr => i = .int .i64 0 ∧ St w (Value.slice none 0 0).ownBlock.toList wr [.row (.slice none 0 0) 42 2 0 xs]) (fun i _ => 0)
    case atStart => exact ⟨rfl, hst⟩
    case round =>
      clear hst
      obtain ⟨rfl, hst⟩ := hrel
      go_wp2_with (first | go_big_skip | go_big_guard | fail)
      go_end0
      exact ⟨xs, rfl, hst⟩
  · cases he
    have hst2 := St.one w g 42 cur.toList hg
    have hc2 : cur.toList.length = c * 2 := by simpa using hcs
    have hcb : c ≤ 9223372036854775807 := hcm
    clear hg hl htake hst hcs hcm
    have Hc2 := hid hc2; clear hc2
    go_enter Try.func62, Try.ntmps62
    go_wp2_with (first | go_big_skip | go_big_guard | fail)
    go_loopw [2] (fun i wr => ∃ k : Nat, k ≤ n ∧ i = .int .i64 k ∧ ∃ cs : List Value, Hid (cs.length = c * 2) ∧ St w [g] wr [.blk g 42 cs]) (fun i _ => n - (intOf i).toNat)
    case atStart => exact ⟨0, by omega, rfl, _, Hc2, hst2⟩
    case round =>
      clear hst2 Hc2
      obtain ⟨k, hk, rfl, cs, hcl, hst⟩ := hrel
      by_cases hlt : k < n
      · go_wp2_with (first | go_big_skip | go_big_guard | (refine wl_buildS (cs := [.int .i64 (-7), .int .i64 (-7)]) rfl rfl (by kernel_rfl) ?_) | (refine wl_index rfl rfl rfl rfl hlt ?_) | (refine wl_store [] hst rfl rfl rfl (v := .agg (List.toArray _)) rfl rfl rfl (by rw [hcl.out]; simp [Value.cells]; omega) ?_; intro w5 hst4; clear hst))
        have hl4 := hid (show (putAt cs (0 + k * 2) [.int .i64 (-7), .int .i64 (-7)]).length = c * 2 by
          have := hcl.out
          simp [putAt]; omega)
        have hst5 : St w [g] w5 [.blk g 42 (putAt cs (0 + k * 2) [.int .i64 (-7), .int .i64 (-7)])] := hst4
        clear hst4
        go_roundw
        case rel => exact ⟨k + 1, by omega, by go_num, _, hl4, hst5⟩
        case measure => simp [intOf]; omega
      · have e : k = n := by omega
        subst e
        go_wp2_with (first | go_big_skip | go_big_guard | fail)
        go_end0
        exact ⟨_, rfl, hst.toRow hcl.out hnc hcb⟩
end Go.Proofs.Ythjafocnfpphlaa
