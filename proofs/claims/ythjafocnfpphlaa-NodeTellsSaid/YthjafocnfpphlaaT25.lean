import Derived.Test.YthjafocnfpphlaaNodeU
namespace Go.Proofs.Ythjafocnfpphlaa
open Go.RowKit Hp
attribute [local irreducible] Go.Calls
set_option maxHeartbeats 4000000
instance tyZ51 : TyZ Try.prog 51 (zN 0).cells := ⟨by kernel_rfl⟩
instance tyB51 : TyB Try.prog 51 (zN 0).cells := ⟨by kernel_rfl⟩
theorem beq_any (v u : Value) (n m : Nat) (l k : List UInt8) (w : World) (hv : Rd w v 1 n (bytesV l)) (hu : Rd w u 1 m (bytesV k)) :
    Calls Try.prog 58 #[v, u] w fun e w' => e = .returned (.bool (l == k)) ∧ St w [] w' [] := by
  go_enter Try.func58, Try.ntmps58
  go_wp2_with (first | go_big_skip | go_big_guard | (refine wl_bytes_string rfl rfl rfl hv ?_) | (refine wl_bytes_string rfl rfl rfl hu ?_))
  go_ret
  exact ⟨rfl, St.refl w⟩
theorem results_cellTmp {fn : Func} {p q : Tmp} {ty : TypeId} {tmps : Array Value} {P : Program} {w : World} {A : Addr} {v : Value} (h : fn.results = #[.cell p ty, .tmp q]) (hp : tmps.getD p undef = .pointer (some A)) (hl : Loads P w ty A v) :
    (results fn tmps).run P w = .ok (.tuple #[v, tmps.getD q undef]) w := by
  have hl' : (loadVar ty A).run P w = .ok v w := hl
  have hp' : tmps[p]?.getD undef = .pointer (some A) := by simpa using hp
  simp [results, h, hp', asAddr, hl', Sem.run_bind]
theorem zN_ln (lv : Int) : (zN lv).Ln := (zN_in lv default).ln
theorem zN_ones (lv : Int) : (zN lv).cells.all (·.oneCell') = true := by
  have : (zN lv).cells = .int .i64 lv :: (zN 0).cells.tail := rfl
  rw [this, List.all_cons]
  rfl
theorem unpack_short (ao : Option Addr) (n c : Nat) (bs : List UInt8) (w : World) (hA : Rd w (.slice ao n c) 1 n (bytesV bs)) (hn : bs.length = n) (h : n ≠ 256) :
    Calls Try.prog 35 #[.slice ao n c] w (unOut bs w 42) := by
  have hst := St.refl w
  have Hn := hid hn; clear hn
  have d1 : ((n : Int) != 256) = true := by simp; omega
  have H := hid h; clear h
  go_enter Try.func35, Try.ntmps35
  go_wp2_with (first | go_big_skip | go_big_guard | (refine wl_alloc hst rfl rfl ?_; intro g w1 hst1; clear hst) | (refine wl_build0 rfl rfl ?_) | (refine wl_storeA [] hst1 rfl rfl rfl rfl (NV.len (zN_ln 0)) (zN_ones 0) (NV.len (zN_ln 0)) ?_; intro w2 hst2; clear hst1))
  have hl := Loads.atA (P := Try.prog) (off := 0) (T := 51) (zN 0).cells [] hst2 (NV.len (zN_ln 0)) (NV.all _)
  refine bodyPost_ret (results_cellTmp rfl rfl hl) rfl ?_
  unfold unOut
  rw [if_neg (by simp [uOK, Hn.out, H.out]), if_neg (by rw [Hn.out]; exact H.out)]
  exact ⟨rfl, hst2.nil⟩
theorem bld51 (z : Int) : Try.prog.built 51 [(0, .int .i64 z)] = some (zN z).cells.toArray := by kernel_rfl
theorem zN_get (lv : Int) : ∀ j, (zN lv).get j = zP
  | 0 => rfl
  | 1 => rfl
  | 2 => rfl
  | _ + 3 => rfl
set_option maxRecDepth 100000 in
theorem unpack_full (ao : Option Addr) (n c : Nat) (bs : List UInt8) (w : World) (hA : Rd w (.slice ao n c) 1 n (bytesV bs)) (hn : bs.length = n) (h : n = 256) :
    Calls Try.prog 35 #[.slice ao n c] w (unOut bs w 42) := by
  have hst := St.refl w
  have hbd1 := hA.bd.1
  have hbd2 := hA.bd.2.1
  obtain ⟨b0, off0, rfl, hr0⟩ := hA.at (k := 0) (by omega)
  have Hn := hid hn; clear hn
  subst h
  have k0 := byte_cell hr0 (k := 0) (by rw [Hn.out]; decide)
  rw [Nat.add_zero] at k0
  obtain ⟨y, hy⟩ : ∃ y, y = bs.getD 0 0 := ⟨_, rfl⟩
  rw [← hy] at k0
  have K0 := hid k0
  have Hy := hid hy
  clear k0 hy
  have hy2 := y.toNat_lt
  go_enter Try.func35, Try.ntmps35
  go_wp2_with (first | go_big_skip | go_big_guard | (refine wl_alloc hst rfl rfl ?_; intro g w1 hst1; clear hst) | (refine wl_loadE rfl rfl rfl ?_; refine ⟨_, Loads.old hst1 K0.out, ?_⟩) | (refine wl_buildS rfl rfl (bld51 _) ?_) | (refine wl_alloc hst1 rfl rfl ?_; intro gn w2 hst2; clear hst1) | (refine wl_storeA [] hst2 rfl rfl rfl rfl (NV.len (zN_ln _)) (zN_ones _) (NV.len (zN_ln 0)) ?_; intro w3 hst3; clear hst2))
  have hst4 : St w [] w3 (.blk gn 51 (zN (y.toNat : Int)).cells :: .blk g 51 (zN 0).cells :: []) := hst3
  clear hst3
  go_loopw [19] (fun i wr => ∃ k : Nat, k ≤ 4 ∧ i = .int .i64 k ∧ ∃ (x : NV) (R : List HA), Hid (x.lv = (y.toNat : Int)) ∧ Hid (x.isU 42 bs R k) ∧ Hid (∀ j, k ≤ j → j < 4 → x.get j = zP) ∧ Hid (∀ j, j < k → rOK (uP bs j) = true) ∧ St w [] wr (.blk gn 51 x.cells :: .blk g 51 (zN 0).cells :: R)) (fun i _ => 4 - (intOf i).toNat)
  case atStart => exact ⟨0, by omega, rfl, zN (y.toNat : Int), [], hid rfl, hid (fun j h => absurd h (by omega)), hid (fun j _ _ => zN_get _ j), hid (fun j h => absurd h (by omega)), hst4⟩
  case round =>
    clear hst4
    obtain ⟨k, hk, rfl, x, R, hlv, hU, hz, hok, hst⟩ := hrel
    have hS : ∀ j, j < k → L32 (uPV bs j).S := fun j hj => rSum_len (length_uP Hn.out (by omega))
    have hin := hid (hU.out.in (L := .blk gn 51 x.cells :: .blk g 51 (zN 0).cells :: R) hst (fun y hy => .tail _ (.tail _ hy)) hS hz.out)
    have hL := hid hin.out.ln
    clear hS
    by_cases hk4 : k < 4
    · have hcut := Rd.cut (1 + 47 * k) (1 + 47 * (k + 1)) hA (by omega) (by omega) Hn.out
      have z1 : IntKind.i64.wrap (47 * (k : Int)) = 47 * (k : Int) := IntWalk.i64_in _ (by omega)
      have b1 : (0 : Int) ≤ 1 + 47 * (k : Int) := by omega
      have b2 : (1 + 47 * (k : Int)) ≤ 1 + 47 * ((k : Int) + 1) := by omega
      have b3 : 1 + 47 * ((k : Int) + 1) ≤ 256 := by omega
      have hlen := hid (show (uP bs k).length = 1 + 47 * (k + 1) - (1 + 47 * k) by rw [length_uP Hn.out hk4]; omega)
      by_cases hr : rOK (uP bs k) = true
      · have hR := rSum_len (length_uP Hn.out hk4)
        go_wp2_with (first | go_big_skip | go_big_guard | (go_at_call 15; refine (Read_any _ _ _ (uP bs k) _ (Rd.old hst hcut) hlen.out).mono ?_; rintro _ _ hq; obtain ⟨ao3, n3, c3, rfl, h4, hl3⟩ := readOut.ok hr hq; clear hq; have Hl3 := hid hl3; clear hl3; have hst5 := St.call hst h4; clear h4 hst) | (refine wl_alloc hst5 rfl rfl ?_; intro g6 w6 hst6; clear hst5) | (refine wl_alloc hst6 rfl rfl ?_; intro g7 w7 hst7; clear hst6) | (refine wl_storeA [_] hst7 rfl rfl rfl rfl (ptr_len hR _ _ _) (ptr_ones _ _ _ _ _ _) rfl ?_; intro w8 hst8; clear hst7) | (refine wl_storeA [] hst8 rfl rfl rfl rfl rfl rfl rfl ?_; intro w9 hst9; clear hst8) | (refine wl_loadE rfl rfl rfl ?_; first | refine ⟨_, Loads.at [] hst9 rfl, ?_⟩ | refine ⟨_, Loads.atA (ptrCells _ _ _ _) [_] hst9 (ptr_len hR _ _ _) (ptr_all _ _ _ _), ?_⟩) | (refine wl_store [_, _, _] hst9 rfl rfl rfl (v := .agg (List.toArray _)) rfl (ptr_len hR _ _ _) (ptr_ones _ _ _ _ _ _) (by rw [NV.len hL.out]; show _ + (ptrCells _ _ _ _).length ≤ _; rw [ptr_len hR]; omega) ?_; intro w10 hst10; clear hst9))
        obtain ⟨p, hp⟩ : ∃ p : PV, p = ⟨.slice ao3 n3 c3, rAddrs (uP bs k) 3, rBirth (uP bs k), rLevel (uP bs k), rSum (uP bs k)⟩ := ⟨_, rfl⟩
        have hpS : L32 p.S := by rw [hp]; exact hR
        have hput := put_node hL.out hk4 hpS
        have ec : p.cells = ptrCells (.slice ao3 n3 c3) (rBirth (uP bs k)) (rLevel (uP bs k)) (rSum (uP bs k)) := by rw [hp]; rfl
        rw [ec] at hput
        have hst11 : St w [] w10 (.blk g7 32 [.int .i64 0, .int .i64 0] :: .blk g6 29 (ptrCells (.slice ao3 n3 c3) (rBirth (uP bs k)) (rLevel (uP bs k)) (rSum (uP bs k))) :: .row (.slice ao3 n3 c3) 42 2 n3 (addrsV (rAddrs (uP bs k) 3)) :: .blk gn 51 (x.set k p).cells :: .blk g 51 (zN 0).cells :: R) := by rw [← hput]; exact hst10
        have hst12 := (hst11.drop (L1 := [])).drop (L1 := [])
        have hst13 : St w [] w10 (.blk gn 51 (x.set k p).cells :: .blk g 51 (zN 0).cells :: .row (.slice ao3 n3 c3) 42 2 n3 (addrsV (rAddrs (uP bs k) 3)) :: R) := hst12.perm ((List.Perm.swap _ _ _).trans (List.Perm.cons _ (List.Perm.swap _ _ _)))
        clear hst10 hst11 hst12 hput ec
        have hU2 : (x.set k p).isU 42 bs (.row (.slice ao3 n3 c3) 42 2 n3 (addrsV (rAddrs (uP bs k) 3)) :: R) (k + 1) := by
          intro j hj
          by_cases e : j = k
          · subst e
            rw [NV.get_set_same x hk4, hp]
            exact ⟨⟨rfl, rfl, rfl, rfl⟩, ao3, n3, c3, rfl, .head _, Hl3.out⟩
          · rw [NV.get_set_other x hk4 (by omega) e]
            obtain ⟨q1, ao, n, c, q2, q3, q4⟩ := hU.out j (by omega)
            exact ⟨q1, ao, n, c, q2, .tail _ q3, q4⟩
        have HU2 := hid hU2
        have Hz2 := hid (show ∀ j, k + 1 ≤ j → j < 4 → (x.set k p).get j = zP from fun j h1 h2 => by rw [NV.get_set_other x hk4 h2 (by omega)]; exact hz.out j (by omega) h2)
        have Hlv2 := hid (show (x.set k p).lv = (y.toNat : Int) by rw [NV.lv_set]; exact hlv.out)
        have Hok2 := hid (all_step (f := fun j => rOK (uP bs j)) hok.out hr)
        clear hU2 hp hcut z1
        go_roundw
        case rel => exact ⟨k + 1, by omega, by go_num, x.set k p, _, Hlv2, HU2, Hz2, Hok2, hst13⟩
        case measure => simp [intOf]; omega
      · replace hr : rOK (uP bs k) = false := by simpa using hr
        have e1 : (rErr (uP bs k) != 0) = true := by simp [rErr_ne]
        have e2 : (!(rErr (uP bs k) == 0)) = true := by simp [rErr_ne]
        go_wp2_with (first | go_big_skip | go_big_guard | (go_at_call 15; refine (Read_any _ _ _ (uP bs k) _ (Rd.old hst hcut) hlen.out).mono ?_; rintro _ _ hq; obtain ⟨rfl, h4⟩ := readOut.no hr hq; clear hq; have hst5 := St.call0 hst h4; clear h4 hst) | (refine wl_alloc hst5 rfl rfl ?_; intro g6 w6 hst6; clear hst5) | (refine wl_alloc hst6 rfl rfl ?_; intro g7 w7 hst7; clear hst6) | (refine wl_storeA [_] hst7 rfl rfl rfl rfl rfl rfl rfl ?_; intro w8 hst8; clear hst7) | (refine wl_storeA [] hst8 rfl rfl rfl rfl rfl rfl rfl ?_; intro w9 hst9; clear hst8) | (refine wl_loadE rfl rfl rfl ?_; first | refine ⟨_, Loads.at [] hst9 rfl, ?_⟩) | (refine wl_build0 rfl rfl ?_) | (refine wl_storeA [_, _, _] hst9 rfl rfl rfl rfl (NV.len (zN_ln 0)) (zN_ones 0) (NV.len (zN_ln 0)) ?_; intro w10 hst10; clear hst9))
        have hl := Loads.atA (P := Try.prog) (off := 0) (T := 51) (zN 0).cells [_, _, _] hst10 (NV.len (zN_ln 0)) (NV.all _)
        refine bodyPost_ret (results_cellTmp rfl rfl hl) rfl ?_
        unfold unOut
        rw [if_neg (by rw [uOK_rd hk4 hr]; exact Bool.false_ne_true), if_pos Hn.out]
        exact ⟨rfl, hst10.nil⟩
    · have ek : k = 4 := by omega
      subst ek
      have hrd : uRd bs = true := uRd_at.2 hok.out
      have heq := NV.eqd (x := x) (y := uNV bs) (by rw [hlv.out, Hy.out]; rfl) (fun j hj => by
        have := (hU.out j hj).1
        obtain rfl | rfl | rfl | rfl : j = 0 ∨ j = 1 ∨ j = 2 ∨ j = 3 := by omega
        all_goals exact this)
      have hlv2 := hid (show x.lv = (uNV bs).lv by rw [hlv.out, Hy.out]; rfl)
      clear hz hok hk hk4 hlv
      obtain ⟨hq1, hq2⟩ := heq
      by_cases hc : x.ok = true
      · by_cases hb : (x.bytes == bs) = true
        · have hu : uOK bs = true := by rw [uOK, hrd, ← hq1, hc, ← hq2, hb, Hn.out]; rfl
          have Hu := hid hu
          clear hu hq1 hq2 hrd
          go_wp2_with (first | go_big_skip | go_big_guard | (refine wl_loadE rfl rfl rfl ?_; first | refine ⟨_, Loads.atA (x.cells) [] hst (NV.len hL.out) (NV.all x), ?_⟩ | refine ⟨_, Loads.atA (x.cells) [_] hst2 (NV.len hL.out) (NV.all x), ?_⟩) | (go_at_call 40; refine (pack_ok x _ hin.out hc).mono ?_; rintro _ _ ⟨gb, rfl, h4⟩; have hst2 := St.call hst h4; clear h4 hst) | (go_at_call 58; refine (beq_any _ _ 256 256 x.bytes bs _ (Rd.blk0 hst2 (by rw [length_bytesV]; exact length_packTo hL.out (Nat.le_refl 4)) (by decide)) (Rd.old hst2 hA)).mono ?_; rw [hb]; rintro _ _ ⟨rfl, h4⟩; replace hst2 := St.call0 hst2 h4; clear h4) | (refine wl_storeA [_, _] hst2 rfl rfl rfl rfl (NV.len hL.out) (NV.ones hin.out) (NV.len (zN_ln 0)) ?_; intro w10 hst10; clear hst2))
          have hl := Loads.atA (P := Try.prog) (off := 0) (T := 51) x.cells [_, _] hst10 (NV.len hL.out) (NV.all _)
          refine bodyPost_ret (results_cellTmp rfl rfl hl) rfl ?_
          unfold unOut
          rw [if_pos Hu.out]
          exact ⟨x, R, rfl, hst10.sub (.cons _ (.cons _ (.cons _ (List.Sublist.refl _)))), hlv2.out, hU.out⟩
        · replace hb : (x.bytes == bs) = false := by simpa using hb
          have hu : uOK bs = false := by rw [uOK, ← hq2, hb]; simp
          have Hu := hid hu
          clear hu hq1 hq2 hrd
          go_wp2_with (first | go_big_skip | go_big_guard | (refine wl_loadE rfl rfl rfl ?_; first | refine ⟨_, Loads.atA (x.cells) [] hst (NV.len hL.out) (NV.all x), ?_⟩) | (go_at_call 40; refine (pack_ok x _ hin.out hc).mono ?_; rintro _ _ ⟨gb, rfl, h4⟩; have hst2 := St.call hst h4; clear h4 hst) | (go_at_call 58; refine (beq_any _ _ 256 256 x.bytes bs _ (Rd.blk0 hst2 (by rw [length_bytesV]; exact length_packTo hL.out (Nat.le_refl 4)) (by decide)) (Rd.old hst2 hA)).mono ?_; rw [hb]; rintro _ _ ⟨rfl, h4⟩; replace hst2 := St.call0 hst2 h4; clear h4) | (refine wl_build0 rfl rfl ?_) | (refine wl_storeA [_, _] hst2 rfl rfl rfl rfl (NV.len (zN_ln 0)) (zN_ones 0) (NV.len (zN_ln 0)) ?_; intro w10 hst10; clear hst2))
          have hl := Loads.atA (P := Try.prog) (off := 0) (T := 51) (zN 0).cells [_, _] hst10 (NV.len (zN_ln 0)) (NV.all _)
          refine bodyPost_ret (results_cellTmp rfl rfl hl) rfl ?_
          unfold unOut
          rw [if_neg (by rw [Hu.out]; exact Bool.false_ne_true), if_pos Hn.out]
          exact ⟨rfl, hst10.nil⟩
      · replace hc : x.ok = false := by simpa using hc
        have hu : uOK bs = false := by rw [uOK, ← hq1, hc]; simp
        have Hu := hid hu
        clear hu hq1 hq2 hrd
        go_wp2_with (first | go_big_skip | go_big_guard | (refine wl_loadE rfl rfl rfl ?_; first | refine ⟨_, Loads.atA (x.cells) [] hst (NV.len hL.out) (NV.all x), ?_⟩) | (go_at_call 40; refine (pack_no x _ hin.out hc).mono ?_; rintro _ _ ⟨rfl, h4⟩; replace hst := St.call0 hst h4; clear h4) | (refine wl_build0 rfl rfl ?_) | (refine wl_storeA [_] hst rfl rfl rfl rfl (NV.len (zN_ln 0)) (zN_ones 0) (NV.len (zN_ln 0)) ?_; intro w10 hst10; clear hst))
        have hl := Loads.atA (P := Try.prog) (off := 0) (T := 51) (zN 0).cells [_] hst10 (NV.len (zN_ln 0)) (NV.all _)
        refine bodyPost_ret (results_cellTmp rfl rfl hl) rfl ?_
        unfold unOut
        rw [if_neg (by rw [Hu.out]; exact Bool.false_ne_true), if_pos Hn.out]
        exact ⟨rfl, hst10.nil⟩
theorem unpack_any (ao : Option Addr) (n c : Nat) (bs : List UInt8) (w : World) (hA : Rd w (.slice ao n c) 1 n (bytesV bs)) (hn : bs.length = n) :
    Calls Try.prog 35 #[.slice ao n c] w (unOut bs w 42) := by
  by_cases h : n = 256
  · exact unpack_full ao n c bs w hA hn h
  · exact unpack_short ao n c bs w hA hn h
end Go.Proofs.Ythjafocnfpphlaa
