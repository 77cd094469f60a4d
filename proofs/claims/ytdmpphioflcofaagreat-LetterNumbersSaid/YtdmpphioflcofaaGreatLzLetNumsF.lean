/- The law LetterNumbers answers true. -/
import Derived.Test.YtdmpphioflcofaaGreatLzLetNumsS
import Derived.Test.YtdmpphioflcofaaGreatLzHeldL
import Derived.Test.YtdmpphioflcofaaGreatLz9
import Derived.Test.YtdmpphioflcofaaGreatLzKitCopyD
import Derived.Test.YtdmpphioflcofaaGreatLzLetPutsF
import Derived.Deep.RegionHeld3
import Derived.Deep.DeepCutAuto
import Derived.Deep.CutBlock
namespace Go.Proofs.YtdmpphioflcofaaGreat.K
open Go Go.RowKit

def lnN : List Int := [-9223372036854775808, -1, 0, 1, 2, 6, 7, 8, 255, 256, 1073741823, 1073741824, 1073741825, 1099511627776, 1099511627777, 9223372036854775807]

set_option maxHeartbeats 5000000 in
set_option maxRecDepth 100000 in
theorem LetterNumbers_any (w : World) :
    Calls Tryz.prog 4 #[] w (SaidB w true) := by
  obtain ⟨i0, hi, hz0, hz1, hz2⟩ := info_parts infoEntry
  have BK0 := Lib.hid ((Bank.nil (Below.refl w.heap.size w)).box #[.int .i64 (-9223372036854775808), .int .i64 (-1), .int .i64 0, .int .i64 1, .int .i64 2, .int .i64 6, .int .i64 7, .int .i64 8, .int .i64 255, .int .i64 256, .int .i64 1073741823, .int .i64 1073741824, .int .i64 1073741825, .int .i64 1099511627776, .int .i64 1099511627777, .int .i64 9223372036854775807] 3 (by simp))
  go_enter Tryz.func4, Tryz.ntmps4
  go_wp2_with fail
  generalize hX : w.heap.size = X at *
  generalize w.alloc (.cells #[.int .i64 (-9223372036854775808), .int .i64 (-1), .int .i64 0, .int .i64 1, .int .i64 2, .int .i64 6, .int .i64 7, .int .i64 8, .int .i64 255, .int .i64 256, .int .i64 1073741823, .int .i64 1073741824, .int .i64 1073741825, .int .i64 1099511627776, .int .i64 1099511627777, .int .i64 9223372036854775807] 3) = w1 at *
  have BK1 := Lib.hid (show Bank w w1 [boxAcc X 3 (lnN.map (Value.int .i64))] from BK0.out)
  clear BK0 hX
  have HN : Hid (∀ (k : Nat), k < 16 → ∃ z : Int, w1.cell? ⟨X, k, none⟩ = some (.int .i64 z)) := Lib.hid (fun k hk => ⟨lnN[k]'hk, BK1.out.cell 0 rfl k (by rw [List.getElem?_map, List.getElem?_eq_getElem (show k < lnN.length from hk)]; rfl)⟩)
  go_loopw [2] (fun i wr => ∃ k : Nat, k ≤ 8 ∧ i = .int .u8 (k : Int) ∧ Since w1 wr) (fun i _ => 8 - (intOf i).toNat)
  case atStart => exact ⟨0, Nat.zero_le _, rfl, Below.refl _ _⟩
  case round =>
    obtain ⟨kind, hk, rfl, hs⟩ := hrel
    have S := Lib.hid hs
    clear hs
    have hcv : IntKind.u8.wrap ((kind : Int) + 1) = (kind : Int) + 1 := by rw [show IntKind.u8.wrap = fun x : Int => x % 256 from rfl]; show _ % _ = _; omega
    rcases Nat.lt_or_ge kind 8 with h1 | h1
    · have i1 : (kind : Int) < 8 := by omega
      go_wp2_with fail
      go_loopw [3] (fun i wr => ∃ n : Nat, n ≤ 16 ∧ i = .int .i64 (n : Int) ∧ Since w1 wr) (fun i _ => 16 - (intOf i).toNat)
      case atStart => exact ⟨0, Nat.zero_le _, rfl, S.out⟩
      case round =>
        clear S
        obtain ⟨n, hn, rfl, hs⟩ := hrel
        have S := Lib.hid hs
        clear hs
        have n0 : (0 : Int) ≤ (n : Int) := by omega
        rcases Nat.lt_or_ge n 16 with h2 | h2
        · have i2 : (n : Int) < 16 := by omega
          go_wp2_with fail
          go_loopw [4] (fun i wr => ∃ k : Nat, k ≤ 10 ∧ i = .int .i64 (k : Int) ∧ Since w1 wr) (fun i _ => 10 - (intOf i).toNat)
          case atStart => exact ⟨0, Nat.zero_le _, rfl, S.out⟩
          case round =>
            clear S
            obtain ⟨k, hk3, rfl, hs⟩ := hrel
            have S := Lib.hid hs
            clear hs
            have k0 : (0 : Int) ≤ (k : Int) := by omega
            rcases Nat.lt_or_ge k 10 with h3 | h3
            · have i3 : (k : Int) < 10 := by omega
              go_wp2_with fail
              refine (full_any kind h1 wr).mono ?_
              rintro e w2 ⟨l, A, m, c, evs, rfl, hle, hev, hm3, hdat, hB⟩
              have BK2 := Lib.hid (hB.box #[B8 l.kind, .int .i64 l.src, .int .i64 l.dst, .int .i64 l.term, .int .i64 l.index, .int .i64 l.was, .bool l.ok, .int .i64 l.commit, .int .i64 l.version, .slice A m c] 28 (by simp))
              go_upto_block 6 with fail
              generalize w2.heap.size = B5 at *
              generalize w2.alloc (.cells #[B8 l.kind, .int .i64 l.src, .int .i64 l.dst, .int .i64 l.term, .int .i64 l.index, .int .i64 l.was, .bool l.ok, .int .i64 l.commit, .int .i64 l.version, .slice A m c] 28) = w3 at *
              have BK3 := Lib.hid (show LnB wr w3 B5 l A m c evs from ⟨BK2.out, hle, hev, by omega, hdat⟩)
              have S3 := Lib.hid (S.out.add BK2.out.since)
              obtain ⟨z, hz⟩ := HN.out n h2
              have HZ := Lib.hid (show w3.cell? ⟨X, n, none⟩ = some (.int .i64 z) from (S3.out.cell (block_lt_of_cell hz)).trans hz)
              have HM3 := Lib.hid hm3
              clear hB BK2 hle hev hdat hz hm3
              go_cut [] (fun wx => LnMid wr wx B5)
              case first =>
                have cz := HZ.out
                generalize (k : Int) = κ at *
                have hκ : κ = 0 ∨ κ = 1 ∨ κ = 2 ∨ κ = 3 ∨ κ = 4 ∨ κ = 5 ∨ κ = 6 ∨ κ = 7 ∨ κ = 8 ∨ κ = 9 := by omega
                clear i3 k0
                rcases hκ with rfl | rfl | rfl | rfl | rfl | rfl | rfl | rfl | rfl | rfl
                · as_aux_lemma =>
                  have e := BK3.out.1.cell 0 rfl 1 rfl
                  have f := BK3.out.1.free 0 rfl 1
                  have HFIN := Lib.hid (BK3.out.set ⟨l.kind, z, l.dst, l.term, l.index, l.was, l.ok, l.commit, l.version, l.ents⟩ 1 (.int .i64 z) rfl rfl)
                  go_wp2_with fail
                  go_meet
                  exact HFIN.out
                · as_aux_lemma =>
                  have e := BK3.out.1.cell 0 rfl 2 rfl
                  have f := BK3.out.1.free 0 rfl 2
                  have HFIN := Lib.hid (BK3.out.set ⟨l.kind, l.src, z, l.term, l.index, l.was, l.ok, l.commit, l.version, l.ents⟩ 2 (.int .i64 z) rfl rfl)
                  go_wp2_with fail
                  go_meet
                  exact HFIN.out
                · as_aux_lemma =>
                  have e := BK3.out.1.cell 0 rfl 3 rfl
                  have f := BK3.out.1.free 0 rfl 3
                  have HFIN := Lib.hid (BK3.out.set ⟨l.kind, l.src, l.dst, z, l.index, l.was, l.ok, l.commit, l.version, l.ents⟩ 3 (.int .i64 z) rfl rfl)
                  go_wp2_with fail
                  go_meet
                  exact HFIN.out
                · as_aux_lemma =>
                  have e := BK3.out.1.cell 0 rfl 4 rfl
                  have f := BK3.out.1.free 0 rfl 4
                  have HFIN := Lib.hid (BK3.out.set ⟨l.kind, l.src, l.dst, l.term, z, l.was, l.ok, l.commit, l.version, l.ents⟩ 4 (.int .i64 z) rfl rfl)
                  go_wp2_with fail
                  go_meet
                  exact HFIN.out
                · as_aux_lemma =>
                  have e := BK3.out.1.cell 0 rfl 5 rfl
                  have f := BK3.out.1.free 0 rfl 5
                  have HFIN := Lib.hid (BK3.out.set ⟨l.kind, l.src, l.dst, l.term, l.index, z, l.ok, l.commit, l.version, l.ents⟩ 5 (.int .i64 z) rfl rfl)
                  go_wp2_with fail
                  go_meet
                  exact HFIN.out
                · as_aux_lemma =>
                  have e := BK3.out.1.cell 0 rfl 7 rfl
                  have f := BK3.out.1.free 0 rfl 7
                  have HFIN := Lib.hid (BK3.out.set ⟨l.kind, l.src, l.dst, l.term, l.index, l.was, l.ok, z, l.version, l.ents⟩ 7 (.int .i64 z) rfl rfl)
                  go_wp2_with fail
                  go_meet
                  exact HFIN.out
                · as_aux_lemma =>
                  have e := BK3.out.1.cell 0 rfl 8 rfl
                  have f := BK3.out.1.free 0 rfl 8
                  have HFIN := Lib.hid (BK3.out.set ⟨l.kind, l.src, l.dst, l.term, l.index, l.was, l.ok, l.commit, z, l.ents⟩ 8 (.int .i64 z) rfl rfl)
                  go_wp2_with fail
                  go_meet
                  exact HFIN.out
                · as_aux_lemma =>
                  have e := BK3.out.1.cell 0 rfl 6 rfl
                  have f := BK3.out.1.free 0 rfl 6
                  have HFIN := Lib.hid (BK3.out.set ⟨l.kind, l.src, l.dst, l.term, l.index, l.was, !l.ok, l.commit, l.version, l.ents⟩ 6 (.bool !l.ok) rfl rfl)
                  go_wp2_with fail
                  go_meet
                  exact HFIN.out
                · obtain ⟨hB, hle, hev, hm6, hdat⟩ := BK3.out
                  have HLE := Lib.hid hle; have HEV := Lib.hid hev; have HDT := Lib.hid hdat; have HM := Lib.hid HM3.out
                  have HZR := Lib.hid (show wr.cell? ⟨X, n, none⟩ = some (.int .i64 z) by obtain ⟨z', hz'⟩ := HN.out n h2; have h5 := (S.out.cell (block_lt_of_cell hz')).trans hz'; have h6 := (hB.since.cell (block_lt_of_cell h5)).trans h5; rw [cz] at h6; rw [h5, h6])
                  clear hle hev hdat cz
                  have hmm : m ≤ 6 := hm6
                  clear hm6
                  go_upto_region 31 with fail
                  have cs := keepL2 hB 0 rfl HZR.out
                  refine wp_region_noPanic ?_
                  refine WL.region (SApp 8 (fun w' => w'.cell? ⟨B5, 9, none⟩ = some (.slice A m c)) (fun w' => w'.cell? ⟨X, n, none⟩ = some (.int .i64 z))) (by kernel_rfl) ?_
                  intro hsh
                  have hS : SApp 8 (fun w' => w'.cell? ⟨B5, 9, none⟩ = some (.slice A m c)) (fun w' => w'.cell? ⟨X, n, none⟩ = some (.int .i64 z)) (Array.replicate 11 false) w3.drew := ⟨fun _ => cs.1, cs.2⟩
                  clear cs
                  refine WL.take (i := 0) (v := ?_) (S0 := fun _ => True) rfl (by kernel_rfl) (by kernel_rfl) (by kernel_rfl) (fun _ _ _ h => h) (SApp.hm (by decide)) (SApp.any) hsh (Or.inl ⟨by rfl, ?_⟩) hS ?_
                  rotate_left
                  · intro w hSw; clear hSw; go_simp <;> rfl
                  clear hsh hS; intro hsh hS
                  try simp only [Act.put, List.setIfInBounds_toArray, List.set_cons_zero, List.set_cons_succ]
                  refine WL.take (i := 1) (v := ?_) rfl (by kernel_rfl) (by kernel_rfl) (by kernel_rfl) (fun _ _ _ h => h) (SApp.hm (by decide)) (SApp.both (by kernel_rfl)) hsh (Or.inl ⟨by rfl, ?_⟩) hS ?_
                  rotate_left
                  · intro w hSw; (have hc := hSw.1); clear hSw; go_simp <;> rfl
                  clear hsh hS; intro hsh hS
                  try simp only [Act.put, List.setIfInBounds_toArray, List.set_cons_zero, List.set_cons_succ]
                  refine WL.take (i := 2) (v := ?_) (S0 := fun _ => True) rfl (by kernel_rfl) (by kernel_rfl) (by kernel_rfl) (fun _ _ _ h => h) (SApp.hm (by decide)) (SApp.any) hsh (Or.inl ⟨by rfl, ?_⟩) hS ?_
                  rotate_left
                  · intro w hSw; clear hSw; go_simp <;> rfl
                  clear hsh hS; intro hsh hS
                  try simp only [Act.put, List.setIfInBounds_toArray, List.set_cons_zero, List.set_cons_succ]
                  refine WL.take (i := 3) (v := ?_) (S0 := fun _ => True) rfl (by kernel_rfl) (by kernel_rfl) (by kernel_rfl) (fun _ _ _ h => h) (SApp.hm (by decide)) (SApp.any) hsh (Or.inl ⟨by rfl, ?_⟩) hS ?_
                  rotate_left
                  · intro w hSw; clear hSw; go_simp <;> rfl
                  clear hsh hS; intro hsh hS
                  try simp only [Act.put, List.setIfInBounds_toArray, List.set_cons_zero, List.set_cons_succ]
                  refine WL.take (i := 4) (v := ?_) (S0 := fun _ => True) rfl (by kernel_rfl) (by kernel_rfl) (by kernel_rfl) (fun _ _ _ h => h) (SApp.hm (by decide)) (SApp.any) hsh (Or.inl ⟨by rfl, ?_⟩) hS ?_
                  rotate_left
                  · intro w hSw; clear hSw; go_simp <;> rfl
                  clear hsh hS; intro hsh hS
                  try simp only [Act.put, List.setIfInBounds_toArray, List.set_cons_zero, List.set_cons_succ]
                  refine WL.take (i := 5) (v := ?_) rfl (by kernel_rfl) (by kernel_rfl) (by kernel_rfl) (fun _ _ _ h => h) (SApp.hm (by decide)) (SApp.right) hsh (Or.inl ⟨by rfl, ?_⟩) hS ?_
                  rotate_left
                  · intro w hSw; skip; go_simp <;> rfl
                  clear hsh hS; intro hsh hS
                  try simp only [Act.put, List.setIfInBounds_toArray, List.set_cons_zero, List.set_cons_succ]
                  refine WL.take (i := 6) (v := ?_) (S0 := fun _ => True) rfl (by kernel_rfl) (by kernel_rfl) (by kernel_rfl) (fun _ _ _ h => h) (SApp.hm (by decide)) (SApp.any) hsh (Or.inl ⟨by rfl, ?_⟩) hS ?_
                  rotate_left
                  · intro w hSw; clear hSw; go_simp <;> rfl
                  clear hsh hS; intro hsh hS
                  try simp only [Act.put, List.setIfInBounds_toArray, List.set_cons_zero, List.set_cons_succ]
                  have HSH := Lib.hid hsh
                  clear hsh hS
                  refine WL.one (i := 7) HSH.out (by kernel_rfl) rfl ?_
                  intro K hK
                  go_simp
                  have hB := Bank.drew (Bank.litEs hB #[.int .i64 z, .int .u8 3, .int .i64 0, .int .i64 0, .bool false, .slice none 0 0] 1 rfl (by omega))
                  refine hK.out _ _ (SApp.intro (fun _ => (keepL2 hB 1 rfl HZR.out).1) (keepL2 hB 1 rfl HZR.out).2) ?_
                  clear hK K HSH
                  intro hsh hS
                  try simp only [Act.put, List.setIfInBounds_toArray, List.set_cons_zero, List.set_cons_succ]
                  refine WL.one (i := 8) hsh (by kernel_rfl) rfl ?_
                  clear hsh hS
                  intro K hK
                  refine step_append_bankG hB rfl (.tmp 98) (.tmp 104) 26 rfl 42 (.agg #[.int .i64 0, .int .u8 0, .int .i64 0, .int .i64 0, .bool false, .slice none 0 0]) 6 64 infoEntry Tryz.underlying26 rfl (by decide) 2 A m c (evs.flatMap EV.cells) rfl rfl ⟨w3.heap.size, 0, none⟩ 1 1 [.int .i64 z, .int .u8 3, .int .i64 0, .int .i64 0, .bool false, .slice none 0 0] rfl rfl (cells_lit1 w3 [.int .i64 z, .int .u8 3, .int .i64 0, .int .i64 0, .bool false, .slice none 0 0] _) (by intro u hu; simp at hu; rcases hu with rfl | rfl | rfl | rfl | rfl <;> rfl) (by unfold maxLen; omega) (by omega) ?_
                  intro A' n' c' w9 hn' hB9
                  have e9 := hB9.cell 1 rfl 9 rfl
                  have f9 := hB9.free 1 rfl 9
                  have HB9 := Lib.hid (hB9.boxSet 1 rfl 9 (.slice A' n' c'))
                  have HN9 := Lib.hid hn'
                  refine hK.out _ _ (SApp.intro (fun h => (by cases h)) (cellS HZR.out hB9.since)) ?_
                  clear hK K hn' hB9 hB
                  intro hsh hS
                  try simp only [Act.put, List.setIfInBounds_toArray, List.set_cons_zero, List.set_cons_succ]
                  refine WL.take (i := 9) (v := ?_) (S0 := fun _ => True) rfl (by kernel_rfl) (by kernel_rfl) (by kernel_rfl) (fun _ _ _ h => h) (SApp.hm (by decide)) (SApp.any) hsh (Or.inl ⟨by rfl, ?_⟩) hS ?_
                  rotate_left
                  · intro w hSw; clear hSw; go_simp <;> rfl
                  clear hsh hS; intro hsh hS
                  try simp only [Act.put, List.setIfInBounds_toArray, List.set_cons_zero, List.set_cons_succ]
                  refine WL.one (i := 10) hsh (by kernel_rfl) rfl ?_
                  clear hsh hS
                  intro K hK
                  go_simp
                  refine hK.out _ _ (SApp.intro (fun h => (by cases h)) (cellS HZR.out HB9.out.since)) ?_
                  clear hK K e9 f9
                  intro _ _
                  try simp only [Act.put, List.setIfInBounds_toArray, List.set_cons_zero, List.set_cons_succ]
                  refine WL.done (by kernel_rfl) ?_ _
                  refine NoPanic.normal ?_
                  simp only [Exit.then, Exit.inBlock]
                  go_wp2_with fail
                  go_meet
                  exact LnMid.app HLE.out HEV.out HM.out HDT.out HN9.out HB9.out
                · as_aux_lemma =>
                  obtain ⟨hB, hle, hev, hm6, hdat⟩ := BK3.out
                  have HB := Lib.hid hB
                  clear hB hle hev hm6 hdat cz
                  obtain ⟨q, hq⟩ : ∃ q : Nat, q = n % 7 := ⟨_, rfl⟩
                  have hq6 : q ≤ 6 := by omega
                  have hqn : (n : Int) % 7 = (q : Int) := by omega
                  clear hq
                  go_wp2_with (at_make; refine wpList_make_full _ rfl _ _ 26 rfl w3.heap.size 42 i0 zeroEV 6 Tryz.underlying26 hi hz0 hz1 _ _ _ _ q rfl rfl (by first | exact hqn | rfl) (by first | exact hqn | rfl) (by rw [hz2]; omega) (by unfold maxLen; omega) (Nat.le_refl _) ?_; intro w9 hown9 hgrow9; have hB2 := Bank.madeE HB.out hown9 hgrow9; have e9 := hB2.cell 1 rfl 9 rfl; have f9 := hB2.free 1 rfl 9; have HB9 := Lib.hid (hB2.boxSet 1 rfl 9 (.slice (some ⟨w3.heap.size, 0, none⟩) q q)); clear hown9 hgrow9 hB2)
                  go_meet
                  exact LnMid.mk hq6 HB9.out
              case rest => as_aux_lemma =>
                obtain ⟨l, A, m, c, evs, hL2⟩ := hcut
                obtain ⟨hbx, hE, hln, hm6, hd2, hs⟩ := hL2.out
                have HX := Lib.hid hbx; have HE := Lib.hid hE; have HL := Lib.hid hln; have SC := Lib.hid hs
                have HD := Lib.hid (fun e he => Nat.le_trans (hd2 e he) (show 2 ≤ 1000000000000 by omega))
                have HLEN := Lib.hid (show (M.lput l).length ≤ 1000 from Nat.le_trans (lput_len l 2 hd2) (by omega))
                clear hbx hE hln hd2 hs hL2 HZ
                obtain ⟨x0, x1, x2, x3, x4, x5, x6, x7, x8, x9⟩ := box10 HX.out
                go_wp2_with fail
                clear x0 x1 x2 x3 x4 x5 x6 x7 x8 x9
                refine (lPut_any l A m c wc HL.out (by omega) HE.out HD.out).mono ?_
                rintro e w6 ⟨A6, N6, c6, rfl, hN6, hB⟩
                have HN6 := Lib.hid (show N6 ≤ 1000 by rw [hN6]; exact HLEN.out)
                have BK6 := Lib.hid hB
                clear hN6 hB
                obtain ⟨x0, x1, x2, x3, x4, x5, x6, x7, x8, x9⟩ := box10 (Since.at BK6.out.since HX.out)
                go_wp2_with fail
                clear x0 x1 x2 x3 x4 x5 x6 x7 x8 x9
                refine (rLPut_any l A m c w6 HL.out (HE.out.since BK6.out.since) HD.out).mono ?_
                rintro e w7 ⟨A7, N7, c7, rfl, hN7, hB⟩
                have BK7 := Lib.hid (show Bank wc w7 [rowAcc A7 N7 c7 (M.lput l), rowAcc A6 N6 c6 (M.lput l)] from bank_under' BK6.out hB)
                clear hN7 hB BK6
                obtain ⟨ee, hee⟩ : ∃ ee : Int, ee = (M.lputE l : Int) := ⟨_, rfl⟩
                rw [← hee]
                clear hee
                obtain ⟨rr, hrr⟩ : ∃ rr : Bool, rr = M.lright l := ⟨_, rfl⟩
                have HRR := Lib.hid hrr
                clear hrr
                go_wp2_with fail
                have hB := BK7.out.drew
                obtain ⟨x0, x1, x2, x3, x4, x5, x6, x7, x8, x9⟩ := box10 (Since.at hB.since HX.out)
                go_region_held3 (fun w' => w'.cell? ⟨B5, 0, none⟩ = some (B8 l.kind) ∧ w'.cell? ⟨B5, 1, none⟩ = some (.int .i64 l.src) ∧ w'.cell? ⟨B5, 2, none⟩ = some (.int .i64 l.dst) ∧ w'.cell? ⟨B5, 3, none⟩ = some (.int .i64 l.term) ∧ w'.cell? ⟨B5, 4, none⟩ = some (.int .i64 l.index) ∧ w'.cell? ⟨B5, 5, none⟩ = some (.int .i64 l.was) ∧ w'.cell? ⟨B5, 6, none⟩ = some (.bool l.ok) ∧ w'.cell? ⟨B5, 7, none⟩ = some (.int .i64 l.commit) ∧ w'.cell? ⟨B5, 8, none⟩ = some (.int .i64 l.version) ∧ w'.cell? ⟨B5, 9, none⟩ = some (.slice A m c))
                  (first
                    | with_reducible exact box10 (Since.at hB.since HX.out)
                    | fail "keep")
                  (first
                    | (go_at_call 16; refine (lRight_any l A m c _ HL.out (by omega) (HE.out.since hB.since)).mono ?_; rintro e w9 ⟨rfl, hs9⟩; rw [← HRR.out]; have hB := hB.call hs9; clear hs9)
                    | (go_at_call 17; refine (rRight_any l A m c _ HL.out (HE.out.since hB.since) (fun e he => Nat.le_trans (HD.out e he) (by omega))).mono ?_; rintro e w10 ⟨rfl, hs10⟩; rw [← HRR.out]; have hB := hB.call hs10; clear hs10)
                    | (go_at_call 15; refine (same_made (hB.row 1 rfl) (hB.row 0 rfl) (by have := HN6.out; omega) (Below.refl _ _)).mono ?_; rintro e w11 ⟨rfl, hs11⟩; have hB := hB.call hs11; clear hs11)
                    | fail "arm")
                all_goals
                  have HFIN := Lib.hid ((S.out.add SC.out).add hB.since)
                  clear hB
                  go_wp2_with fail
                  go_roundw
                  case rel => exact ⟨k + 1, by omega, by go_num, HFIN.out⟩
                  case measure => simp [intOf]; omega
            · as_aux_lemma =>
              have i3 : ¬ (k : Int) < 10 := by omega
              go_wp2_with fail
              refine (full_any kind h1 wr).mono ?_
              rintro e w2 ⟨l, A, m, c, evs, rfl, hle, hev, hm3, hdat, hB⟩
              obtain ⟨hE, hln, hd2⟩ := full_rd hle hev hdat hB
              have SB := Lib.hid (S.out.add hB.since)
              have HE := Lib.hid hE; have HL := Lib.hid hln
              have HD := Lib.hid (fun e he => Nat.le_trans (hd2 e he) (show 2 ≤ 1000000000000 by omega))
              have HLEN := Lib.hid (show (M.lput l).length ≤ 1000 from Nat.le_trans (lput_len l 2 hd2) (by omega))
              clear hle hev hdat hB hE hln hd2
              go_wp2_with fail
              refine (rLPut_any l A m c w2 HL.out HE.out HD.out).mono ?_
              rintro e w3 ⟨A3, N, c3, rfl, hN, hB⟩
              obtain ⟨bp, hbp⟩ : ∃ bp, bp = M.lput l := ⟨_, rfl⟩
              have HN8 : N = 0 ∨ 80 ≤ N := by rw [hN]; exact lput_zero l
              have hN1 : N ≤ 1000 := by rw [hN]; exact HLEN.out
              rw [← hbp] at hB
              obtain ⟨ee, hee⟩ : ∃ ee : Int, ee = (M.lputE l : Int) := ⟨_, rfl⟩
              rw [← hee]
              have BK3 := Lib.hid (show Bank w1 w3 [rowAcc A3 N c3 bp] from bank_under' (Bank.nil SB.out) hB)
              clear hee hbp hB hN HE HL HD HLEN SB
              go_wp2_with fail
              go_loopw [12] (fun i wr => ∃ k : Nat, k ≤ 10 ∧ i = .int .i64 (k : Int) ∧ Bank w1 wr [rowAcc A3 N c3 bp]) (fun i _ => 10 - (intOf i).toNat)
              case atStart => exact ⟨0, Nat.zero_le _, rfl, BK3.out⟩
              case round =>
                clear BK3
                obtain ⟨k, hk4, rfl, hB⟩ := hrel
                have BK := Lib.hid hB
                clear hB
                have k0 : (0 : Int) ≤ (k : Int) := by omega
                by_cases h4 : k < 10 ∧ 0 < N
                · obtain ⟨h4, h5⟩ := h4
                  have i4 : (k : Int) < 10 := by omega
                  have i5 : (0 : Int) < (N : Int) := by omega
                  have h80 : 80 ≤ N := by omega
                  obtain ⟨gP, rfl⟩ := own_someB (BK.out.at 0 rfl) (by show 0 < N; omega)
                  go_wp2_with fail
                  refine (CopyBytes_any (some ⟨gP, 0, none⟩) N c3 bp wr (BK.out.row 0 rfl) (by omega)).mono ?_
                  rintro e w4 ⟨BC, cC, rfl, ho, hs⟩
                  obtain ⟨gC, rfl⟩ := own_someB ho (by omega)
                  obtain ⟨cur, hcur, hBg, hnc, hcm, hcl, htk⟩ := own_parts ho
                  obtain ⟨z, hz⟩ := HN.out n h2
                  have S4 := Lib.hid (BK.out.since.add hs)
                  have HZR := Lib.hid (show wr.cell? ⟨X, n, none⟩ = some (.int .i64 z) from (BK.out.since.cell (block_lt_of_cell hz)).trans hz)
                  have HZ := Lib.hid (show w4.cell? ⟨X, n, none⟩ = some (.int .i64 z) from (S4.out.cell (block_lt_of_cell hz)).trans hz)
                  have HBL := Lib.hid (show bp.length = N from (RowRd.of_row ho).len)
                  have HCUR := Lib.hid hcur; have HTK := Lib.hid htk; have HCL := Lib.hid hcl; have HCM := Lib.hid hcm
                  have HS := Lib.hid hs
                  have hcm' : cC ≤ 9223372036854775807 := by unfold maxLen at hcm; omega
                  clear ho hcur htk hcl hz hcm hs
                  have p0 : (0 : Int) ≤ 8 * (k : Int) := by omega
                  have p1 : 8 * (k : Int) ≤ (N : Int) := by omega
                  have p2 : 8 * (k : Int) ≤ (cC : Int) := by omega
                  have p3 : (8 * (k : Int)).toNat = 8 * k := by omega
                  have p4 : ¬ cC = 8 * k := by omega
                  have p5 : IntKind.i64.wrap (8 * (k : Int)) = 8 * (k : Int) := IntWalk.i64_in _ (by omega)
                  go_upto_region 41 with fail
                  have hc0 := HZ.out
                  have hB0 := Since.drew (Below.refl w4.heap.size w4)
                  go_region_held3 (fun w' => w'.cell? ⟨X, n, none⟩ = some (.int .i64 z))
                    (first
                      | with_reducible exact cellS HZ.out hB0
                      | with_reducible exact cellS HZ.out hB6
                      | with_reducible exact cellS HZR.out hB9
                      | fail "keep")
                    (first
                      | (go_at_call 19; refine (rnum_made z _).mono ?_; rintro e w6 ⟨g6, N6, c6, rfl, hN6, ho6, hs6⟩; (obtain rfl : N6 = 8 := hN6); have hB6 := Since.add hB0 hs6; have HR6 := Lib.hid (RowRd.of_row ho6); clear ho6 hs6)
                      | (refine step_copy_splice rfl (.tmp 153) (.tmp 158) 22 22 rfl 5 Tryz.underlying22 infoByteSz _ _ (N - 8 * k) (cC - 8 * k) 8 c6 rfl rfl gC (8 * k) cur 5 (Since.at hB6 HCUR.out) (bv (M.num z)) (by rw [bv_length, M.num_length]; exact (Nat.min_eq_left (by omega)).symm) (fun _ => ⟨rfl, _, rfl, HR6.out.rd.cells _ rfl⟩) (by rw [bv_length, M.num_length, HCL.out]; omega) (bv_one _) wr.heap.size wr (HS.out.trans (hB6.mono HS.out.size)) hBg ?_; intro w9 hg9 hb9; have HO9 := Lib.hid (own_copied (B := wr.heap.size) hBg hnc HCM.out HCL.out HTK.out hg9 (by rw [M.num_length]; omega) HBL.out); have hB9 : Since wr w9 := hb9; have HB9 := Lib.hid hB9; clear hg9 hb9)
                      | fail "arm")
                  all_goals
                    have BKA := Lib.hid (BK.out.call HB9.out)
                    clear hB0 hB6 hc0 p0 p1 p2 p3 p4 p5 HCUR HTK HCL HCM HS HZ HZR HBL BK S4
                    go_wp2_with fail
                    refine (gets_any (some ⟨gC, 0, none⟩) N cC _ w9 (RowRd.of_row HO9.out) (by omega)).mono ?_
                    rintro e w10 ⟨rfl, hs⟩
                    have BKB := Lib.hid (BKA.out.call hs)
                    clear hs BKA hB9
                    go_wp2_with fail
                    go_roundw
                    case rel => exact ⟨k + 1, by omega, by go_num, BKB.out⟩
                    case measure => simp [intOf]; omega
                · have hout : ¬ k < 10 ∨ (k < 10 ∧ ¬ 0 < N) := by omega
                  rcases hout with h5 | ⟨h5, h6⟩
                  · have i4 : ¬ (k : Int) < 10 := by omega
                    go_wp2_with fail
                    go_roundw
                    case rel => exact ⟨n + 1, by omega, by go_num, BK.out.since⟩
                    case measure => simp [intOf]; omega
                  · have i4 : (k : Int) < 10 := by omega
                    have i5 : ¬ (0 : Int) < (N : Int) := by omega
                    go_wp2_with fail
                    go_roundw
                    case rel => exact ⟨n + 1, by omega, by go_num, BK.out.since⟩
                    case measure => simp [intOf]; omega
        · as_aux_lemma =>
          have i2 : ¬ (n : Int) < 16 := by omega
          go_wp2_with fail
          refine (full_any kind h1 wr).mono ?_
          rintro e w2 ⟨l, A, m, c, evs, rfl, hle, hev, hm3, hdat, hB⟩
          obtain ⟨hE, hln, hd2⟩ := full_rd hle hev hdat hB
          have SB := Lib.hid (S.out.add hB.since)
          have HE := Lib.hid hE; have HL := Lib.hid hln
          have HD := Lib.hid (fun e he => Nat.le_trans (hd2 e he) (show 2 ≤ 1000000000000 by omega))
          have HLEN := Lib.hid (show (M.lput l).length ≤ 1000 from Nat.le_trans (lput_len l 2 hd2) (by omega))
          clear hle hev hdat hB hE hln hd2
          go_wp2_with fail
          refine (rLPut_any l A m c w2 HL.out HE.out HD.out).mono ?_
          rintro e w3 ⟨A3, N, c3, rfl, hN, hB⟩
          obtain ⟨bp, hbp⟩ : ∃ bp, bp = M.lput l := ⟨_, rfl⟩
          have HN8 : N = 0 ∨ 80 ≤ N := by rw [hN]; exact lput_zero l
          have hN1 : N ≤ 1000 := by rw [hN]; exact HLEN.out
          rw [← hbp] at hB
          obtain ⟨ee, hee⟩ : ∃ ee : Int, ee = (M.lputE l : Int) := ⟨_, rfl⟩
          rw [← hee]
          have BK3 := Lib.hid (show Bank w1 w3 [rowAcc A3 N c3 bp] from bank_under' (Bank.nil SB.out) hB)
          clear hee hbp hB hN HE HL HD HLEN SB
          go_wp2_with fail
          have hxor : ∀ t (x : BitVec 8), binOp .xor t (B8 x) (.int .u8 1) = pure (B8 (x ^^^ 1#8)) := fun t x => B8_xor t x 1#8
          go_loopw [16] (fun i wr => ∃ k : Nat, k ≤ N ∧ i = .int .i64 (k : Int) ∧ Bank w1 wr [rowAcc A3 N c3 bp]) (fun i _ => N - (intOf i).toNat)
          case atStart => exact ⟨0, Nat.zero_le _, rfl, BK3.out⟩
          case round =>
            clear BK3
            obtain ⟨k, hk5, rfl, hB⟩ := hrel
            have BK := Lib.hid hB
            clear hB
            have k0 : (0 : Int) ≤ (k : Int) := by omega
            rcases Nat.lt_or_ge k N with h3 | h3
            · have i3 : (k : Int) < (N : Int) := by omega
              obtain ⟨gP, rfl⟩ := own_someB (BK.out.at 0 rfl) (by show 0 < N; omega)
              have hcap := (row_room (BK.out.at 0 rfl)).1
              have j1 : k ≤ c3 := by omega
              have j2 : (k : Int) ≤ (c3 : Int) := by omega
              have j3 : (N : Int) ≤ (c3 : Int) := by omega
              have j4 : ¬ c3 = k := by omega
              clear hcap
              go_wp2_with fail
              refine (CopyBytes_any (some ⟨gP, 0, none⟩) N c3 bp wr (BK.out.row 0 rfl) (by omega)).mono ?_
              rintro e w4 ⟨BC, cC, rfl, ho, hs⟩
              have BKI := Lib.hid (BK.out.madeB hs ho)
              obtain ⟨gC, rfl⟩ := own_someB ho (by omega)
              obtain ⟨y0, y1⟩ := BKI.out.byteL 0 (g := gC) (N := N) (c := cC) (bs := bp) rfl k h3
              obtain ⟨y, hy⟩ : ∃ y, y = bp.getD k 0 := ⟨_, rfl⟩
              rw [← hy] at y0
              have BKJ := Lib.hid (BKI.out.rowSetL 0 (g := gC) (N := N) (c := cC) (bs := bp) rfl k (y ^^^ 1#8))
              have hnc : N ≤ cC := (row_room ho).1
              have hcC : cC ≤ 9223372036854775807 := (row_room ho).2.1
              clear hs ho BK hy
              go_wp2_with (with_reducible refine wpList_store_one rfl 5 (.tmp 184) (.tmp 183) rfl ⟨gC, k, none⟩ (B8 (y ^^^ 1#8)) _ rfl rfl rfl (by kernel_rfl) y0 y1 ?_)
              clear y0 y1 BKI
              have BKK := Lib.hid (show Bank w1 (w4.setCell ⟨gC, k, none⟩ (B8 (y ^^^ 1#8))) (rowAcc (some ⟨gC, 0, none⟩) N cC (bp.set k (y ^^^ 1#8)) :: [rowAcc (some ⟨gP, 0, none⟩) N c3 bp]) from BKJ.out)
              clear BKJ
              generalize w4.setCell ⟨gC, k, none⟩ (B8 (y ^^^ 1#8)) = w5 at *
              refine (gets_any (some ⟨gC, 0, none⟩) N cC (bp.set k (y ^^^ 1#8)) w5 (BKK.out.row 0 rfl) (by omega)).mono ?_
              rintro e w6 ⟨rfl, hs⟩
              have BKL := Lib.hid (BKK.out.call hs)
              clear hs BKK
              go_wp2_with fail
              refine (gets_any (some ⟨gP, 0, none⟩) k c3 ((bp.drop 0).take k) w6 (by have h := rowRd_cutZ (BKL.out.row 1 rfl) 0 k c3 (by omega); simpa using h) (by omega)).mono ?_
              rintro e w7 ⟨rfl, hs⟩
              have BKM := Lib.hid (BKL.out.call hs)
              clear hs BKL
              go_wp2_with fail
              refine (gets_any (some ⟨gP, k, none⟩) (N - k) (c3 - k) ((bp.drop k).take (N - k)) w7 (by have h := rowRd_cutZ (BKM.out.row 1 rfl) k (N - k) (c3 - k) (by omega); simpa using h) (by omega)).mono ?_
              rintro e w8 ⟨rfl, hs⟩
              have BKN := Lib.hid (show Bank w1 w8 [rowAcc (some ⟨gP, 0, none⟩) N c3 bp] from (BKM.out.call hs).drop)
              clear hs BKM
              go_wp2_with fail
              go_roundw
              case rel => exact ⟨k + 1, by omega, by go_num, BKN.out⟩
              case measure => simp [intOf]; omega
            · have i3 : ¬ (k : Int) < (N : Int) := by omega
              obtain rfl : k = N := by omega
              have BKI := Lib.hid (BK.out.litV #[.int .u8 0] 5 (by decide))
              clear BK
              go_wp2_with (at_builtin; refine wpList_append_bytes BKI.out rfl _ _ 22 rfl 5 infoByte Tryz.underlying22 1 A3 k c3 bp rfl rfl _ _ _ [0#8] rfl (RowRd.of_row (bs := [0#8]) (BKI.out.at 0 rfl)) (by omega) ?_; intro A' n' c' w4 hn' hB; subst hn'; have BKJ := Lib.hid hB; clear hB)
              clear BKI
              refine (gets_any A' (k + 1) c' (bp ++ [0#8]) w4 (BKJ.out.row 1 rfl) (by omega)).mono ?_
              rintro e w5 ⟨rfl, hs⟩
              have S5 := Lib.hid (BKJ.out.call hs).since
              clear hs BKJ
              go_wp2_with fail
              refine (full_any kind h1 w5).mono ?_
              rintro e w6 ⟨l, A, m, c, evs, rfl, hle, hev, hm3, hdat, hB⟩
              obtain ⟨hE, hln, hd2⟩ := full_rd hle hev hdat hB
              have S6 := Lib.hid (S5.out.add hB.since)
              have HE := Lib.hid hE; have HL := Lib.hid hln; have HD := Lib.hid hd2
              clear hle hev hdat hB hE hln hd2 S5
              go_wp2_with fail
              refine (LetterPuts_any l A m c w6 HE.out HL.out (by omega) (fun e he => Nat.le_trans (HD.out e he) (by omega))).mono ?_
              rintro e w7 ⟨rfl, hs⟩
              have S7 := Lib.hid (S6.out.add hs)
              clear hs S6 HE HL HD
              go_wp2_with fail
              go_roundw
              case rel => exact ⟨kind + 1, by omega, by go_num, S7.out⟩
              case measure => simp [intOf]; omega
    · have i1 : ¬ (kind : Int) < 8 := by omega
      go_wp2_with fail
      refine (awake24_any wr).mono ?_
      rintro e w2 ⟨rfl, hs⟩
      have HFIN := Lib.hid (show SaidB w true (.returned (.bool true)) w2 from ⟨rfl, (BK1.out.since.add S.out).add hs⟩)
      clear hs
      go_wp2_with fail
      go_ret
      exact HFIN.out
end Go.Proofs.YtdmpphioflcofaaGreat.K
