/- The law BundleNumbers answers true. -/
import Derived.Test.YtidcfjmibljkeaaGreatDoorBqBunMakesF
import Derived.Test.YtidcfjmibljkeaaGreatDoorBqBunNumsMath
import Derived.Test.YtidcfjmibljkeaaGreatDoorBqBunCopies2
import Derived.Deep.RegionHeld3
import Derived.Deep.DeepCutAuto
namespace Go.Proofs.YtidcfjmibljkeaaGreatDoor.K
open Go Go.RowKit

def nmK : List (BitVec 8) := [1#8, 2#8, 3#8]
def nmC : List (BitVec 8) := [9#8, 8#8, 7#8]
def nmN : List Int := [-9223372036854775808, -1, 0, 1, 1073741823, 1073741824, 1073741825, 4294967297, 9223372036854775807]
def nmRaw (z : Int) (b : M.Bun) : List (BitVec 8) := M.num z ++ M.blob [] ++ (M.blob b.dig ++ M.blob b.tag)
theorem keep3n {w w1 : World} {a0 a1 a2 : Addr} {v0 v1 v2 : Value} (h : w.cell? a0 = some v0 ∧ w.cell? a1 = some v1 ∧ w.cell? a2 = some v2) (hs : Since w w1) : w1.cell? a0 = some v0 ∧ w1.cell? a1 = some v1 ∧ w1.cell? a2 = some v2 :=
  ⟨(hs.cell (block_lt_of_cell h.1)).trans h.1, (hs.cell (block_lt_of_cell h.2.1)).trans h.2.1, (hs.cell (block_lt_of_cell h.2.2)).trans h.2.2⟩
theorem four_cells {w : World} {g : Nat} {t : TypeId} {a b c d : Value} (h : w.heap[g]? = some (.cells #[a, b, c, d] t (0, 0))) : w.cell? ⟨g, 0, none⟩ = some a ∧ w.cell? ⟨g, 1, none⟩ = some b ∧ w.cell? ⟨g, 2, none⟩ = some c ∧ w.cell? ⟨g, 3, none⟩ = some d :=
  ⟨block_cell (xs := [a, b, c, d]) h rfl, block_cell (xs := [a, b, c, d]) h rfl, block_cell (xs := [a, b, c, d]) h rfl, block_cell (xs := [a, b, c, d]) h rfl⟩
theorem rowRd_cutN {w : World} {b o n c : Nat} {bs : List (BitVec 8)} (h : RowRd w ⟨some ⟨b, o, none⟩, n, c⟩ bs) (lo len c' : Nat) (hl : lo + len ≤ n) : RowRd w ⟨some ⟨b, o + lo, none⟩, len, c'⟩ ((bs.drop lo).take len) := by
  have hN : bs.length = n := h.len
  refine ⟨fun j hj => ?_, by show _ = len; rw [List.length_take, List.length_drop]; omega, fun h => by cases h⟩
  rw [List.length_take, List.length_drop] at hj
  obtain ⟨b', o', e, hc⟩ := h.rd (lo + j) (by omega)
  obtain ⟨rfl, rfl⟩ : b = b' ∧ o = o' := by simpa using e
  refine ⟨b, o + lo, rfl, ?_⟩
  rw [Nat.add_assoc, hc, List.getElem_take, List.getElem_drop]
theorem Bank.rdrop {w0 w : World} {L : List Acc} (h : Bank w0 w L) (k : Nat) : Bank w0 w (L.drop k) := h.sub (List.drop_sublist _ _)
theorem Bank.madeZ {w0 w w' : World} {L : List Acc} (h : Bank w0 w L) {n g : Nat} (ho : w'.ownsRow w.heap.size 5 1 (.slice (some ⟨g, 0, Option.none⟩) n n) n (madeCells (Value.int .u8 0).cells (n * 1)).toList) (hg : w.grownBy w' Option.none) : Bank w0 w' (rowAcc (some ⟨g, 0, Option.none⟩) n n (List.replicate n 0#8) :: L) := h.made (below_none hg) (made8 ho)
set_option maxHeartbeats 16000000 in
set_option maxRecDepth 100000 in
theorem BundleNumbers_any (w : World) (hK : HasK w) (hF : HasF w) :
    Calls Tryz.prog 6 #[] w fun e w' => e = .returned (.bool true) ∧ Since w w' := by
  obtain ⟨i0, hi, hz0, hz1, hz2⟩ := info_parts infoByte
  have HK := Lib.hid hK; have HF := Lib.hid hF
  clear hK hF
  have BK0 := Lib.hid (((Bank.nil (Below.refl w.heap.size w)).litV #[.int .u8 1, .int .u8 2, .int .u8 3] 5 (by simp)).litV #[.int .u8 9, .int .u8 8, .int .u8 7] 5 (by simp))
  rw [World.size_alloc] at BK0
  go_enter Tryz.func6, Tryz.ntmps6
  go_wp2_with fail
  generalize hX : w.heap.size = X at *
  generalize (w.alloc (.cells #[.int .u8 1, .int .u8 2, .int .u8 3] 5)).alloc (.cells #[.int .u8 9, .int .u8 8, .int .u8 7] 5) = w1 at *
  have BK1 := Lib.hid (show Bank w w1 [rowAcc (some ⟨X + 1, 0, none⟩) 3 3 nmC, rowAcc (some ⟨X, 0, none⟩) 3 3 nmK] from BK0.out)
  clear BK0 hX
  refine (rmake_any nmK nmC 5 (some ⟨X, 0, none⟩) (some ⟨X + 1, 0, none⟩) 3 3 3 3 w1 (BK1.out.row 1 rfl) (BK1.out.row 0 rfl) (by omega) (by omega)).mono ?_
  rw [show M.bmakeE 5 nmC = 0 from M.nm_make, show M.bmake nmK 5 nmC = M.bseal nmK 5 nmC from if_pos M.nm_make]
  obtain ⟨b, hb⟩ : ∃ b, b = M.bseal nmK 5 nmC := ⟨_, rfl⟩
  have HBD := Lib.hid hb
  rw [← hb]
  clear hb
  rintro e w2 ⟨x, rfl, A2, n2, c2, B2, m2, d2, C2, k2, l2, rfl, hn2, hm2, hk2, hB⟩
  rw [HBD.out] at hn2 hm2 hk2
  obtain rfl : n2 = 3 := hn2
  obtain rfl : m2 = 32 := hm2
  obtain rfl : k2 = 32 := hk2
  have BK2 := Lib.hid ((bank_under BK1.out hB).box #[.int .i64 b.ver, .slice A2 3 c2, .slice B2 32 d2, .slice C2 32 l2] 26 (by simp))
  clear hB BK1
  go_wp2_with fail
  generalize hX2 : w2.heap.size = X2 at *
  generalize hwz : (w2.alloc (.cells #[.int .i64 b.ver, .slice A2 3 c2, .slice B2 32 d2, .slice C2 32 l2] 26)).alloc (.cells #[.int .i64 (-9223372036854775808), .int .i64 (-1), .int .i64 0, .int .i64 1, .int .i64 1073741823, .int .i64 1073741824, .int .i64 1073741825, .int .i64 4294967297, .int .i64 9223372036854775807] 3) = w3 at *
  have BK3 := Lib.hid (show Bank w w3 [boxAcc (X2 + 1) 3 (nmN.map (Value.int .i64)), boxAcc X2 26 (bunL b.ver A2 3 c2 B2 32 d2 C2 32 l2), rowAcc C2 32 l2 b.tag, rowAcc B2 32 d2 b.dig, rowAcc A2 3 c2 b.code, rowAcc (some ⟨X + 1, 0, none⟩) 3 3 nmC, rowAcc (some ⟨X, 0, none⟩) 3 3 nmK] from by
    have h := BK2.out.box #[.int .i64 (-9223372036854775808), .int .i64 (-1), .int .i64 0, .int .i64 1, .int .i64 1073741823, .int .i64 1073741824, .int .i64 1073741825, .int .i64 4294967297, .int .i64 9223372036854775807] 3 (by simp)
    rw [World.size_alloc, hX2, hwz] at h
    exact h)
  clear BK2 hX2 hwz
  have HBX := Lib.hid (BK3.out.boxAt 1 rfl).2
  have HKW : Hid (∀ w', Since w3 w' → HasK w') := Lib.hid (fun w' hw => HK.out.below (BK3.out.since.add hw))
  have HFW : Hid (∀ w', Since w3 w' → HasF w') := Lib.hid (fun w' hw => HF.out.below (BK3.out.since.add hw))
  have HKEY : Hid (∀ w', Since w3 w' → RowRd w' ⟨some ⟨X, 0, none⟩, 3, 3⟩ nmK) := Lib.hid (fun w' hw => Since.row hw (BK3.out.row 6 rfl))
  have HBUN : Hid (∀ w', Since w3 w' → BunIn w' b A2 3 c2 B2 32 d2 C2 32 l2) := Lib.hid (fun w' hw => BunIn.since ⟨BK3.out.row 4 rfl, BK3.out.row 3 rfl, BK3.out.row 2 rfl⟩ hw)
  go_loopw [5] (fun i wr => ∃ k : Nat, k ≤ 9 ∧ i = .int .i64 (k : Int) ∧ Since w3 wr) (fun i _ => 9 - (intOf i).toNat)
  case atStart => exact ⟨0, Nat.zero_le _, rfl, Below.refl _ _⟩
  case round =>
    obtain ⟨k, hk, rfl, hs⟩ := hrel
    have S := Lib.hid hs
    clear hs
    have k0 : (0 : Int) ≤ (k : Int) := by omega
    rcases Nat.lt_or_ge k 9 with h1 | h1
    · have i1 : (k : Int) < 9 := by omega
      obtain ⟨z, hz⟩ : ∃ z, z = nmN[k]'h1 := ⟨_, rfl⟩
      have hzc : w3.cell? ⟨X2 + 1, k, none⟩ = some (.int .i64 z) := BK3.out.cell 0 rfl k (by rw [hz, List.getElem?_map, List.getElem?_eq_getElem h1]; rfl)
      have HZ := Lib.hid hzc
      clear hz hzc
      obtain ⟨x0, x1, x2, x3⟩ := four_cells (Since.at S.out HBX.out)
      go_wp2_with fail
      clear x0 x1 x2 x3
      refine (CopyBundle_any b A2 3 c2 B2 32 d2 C2 32 l2 wr (HBUN.out wr S.out) (by omega) (by omega) (by omega)).mono ?_
      rintro e w4 ⟨A4, c4, B4, d4, C4, l4, rfl, hB4⟩
      have BK4 := Lib.hid (hB4.box #[.int .i64 z, .slice A4 3 c4, .slice B4 32 d4, .slice C4 32 l4] 26 (by simp))
      have S4 := Lib.hid (S.out.add hB4.since)
      have hcn := (hB4.since.cell (block_lt_of_cell ((S.out.cell (block_lt_of_cell HZ.out)).trans HZ.out))).trans ((S.out.cell (block_lt_of_cell HZ.out)).trans HZ.out)
      have q1 : X2 + 1 < w4.heap.size := block_lt_of_cell hcn
      have q2 := Nat.ne_of_lt q1
      have q3 := Ne.symm q2
      clear hB4
      go_upto_region 11 with fail
      generalize hX4 : w4.heap.size = X4 at *
      generalize hw5 : w4.alloc (.cells #[.int .i64 z, .slice A4 3 c4, .slice B4 32 d4, .slice C4 32 l4] 26) = w5 at *
      have S5 := Lib.hid (S.out.add BK4.out.since)
      have HB6 := Lib.hid (BK4.out.boxAt 0 rfl).2
      have HBN : Hid (∀ w', Since w5 w' → BunIn w' ⟨z, b.code, b.dig, b.tag⟩ A4 3 c4 B4 32 d4 C4 32 l4) := Lib.hid (fun w' hw => BunIn.since ⟨BK4.out.row 3 rfl, BK4.out.row 2 rfl, BK4.out.row 1 rfl⟩ hw)
      have HTR := Lib.hid (show w5.cell? ⟨X2 + 1, k, none⟩ = some (.int .i64 z) ∧ w5.cell? ⟨X2, 2, none⟩ = some (.slice B2 32 d2) ∧ w5.cell? ⟨X2, 3, none⟩ = some (.slice C2 32 l2) from ⟨(S5.out.cell (block_lt_of_cell HZ.out)).trans HZ.out, (four_cells (Since.at S5.out HBX.out)).2.2.1, (four_cells (Since.at S5.out HBX.out)).2.2.2⟩)
      have HDG : Hid (∀ w', Since w5 w' → RowRd w' ⟨B2, 32, d2⟩ b.dig) := Lib.hid (fun w' hw => (HBUN.out w' (S5.out.add hw)).dig)
      have HTG : Hid (∀ w', Since w5 w' → RowRd w' ⟨C2, 32, l2⟩ b.tag) := Lib.hid (fun w' hw => (HBUN.out w' (S5.out.add hw)).tag)
      have HLD := Lib.hid (show b.dig.length = 32 from (HDG.out w5 (Below.refl _ _)).len)
      have HLT := Lib.hid (show b.tag.length = 32 from (HTG.out w5 (Below.refl _ _)).len)
      clear hX4 hw5 hcn q1 q2 q3 BK4 S4
      go_cut [7] (fun s7 wx => ∃ A N c, s7 = .slice A N c ∧ N ≤ 3000 ∧ RowRd wx ⟨A, N, c⟩ (nmRaw z b) ∧ Since w5 wx)
      case first => as_aux_lemma =>
        have hB := Bank.nil (Below.refl w5.heap.size w5)
        obtain ⟨y0, y1, y2⟩ := keep3n HTR.out hB.since
        go_region_held3 (fun w' => w'.cell? ⟨X2 + 1, k, none⟩ = some (.int .i64 z) ∧ w'.cell? ⟨X2, 2, none⟩ = some (.slice B2 32 d2) ∧ w'.cell? ⟨X2, 3, none⟩ = some (.slice C2 32 l2))
          (first
            | with_reducible exact keep3n HTR.out hB.since
            | with_reducible exact keep3n HTR.out (Bank.drew hB).since
            | with_reducible exact keep3n HTR.out (Bank.drew (Bank.litV hB _ _ (by decide))).since
            | with_reducible exact keep3n HTR.out (Bank.litV hB _ _ (by decide)).since
            | fail "keep")
          (first
            | (go_at_call 27; (first | ((with_reducible refine calls_bank (hB) ?_); intro hB) | ((with_reducible refine calls_bank (Bank.drew hB) ?_); intro hB) | ((with_reducible refine calls_bank (Bank.drew (Bank.litV hB _ _ (by decide))) ?_); intro hB) | ((with_reducible refine calls_bank (Bank.litV hB _ _ (by decide)) ?_); intro hB)); (with_reducible refine (rnum_made z _).mono ?_); rintro e w6 ⟨g6, N6, c6, rfl, hN6, ho6, hs6⟩; have hN6' : N6 ≤ 8 := (by rw [hN6]; exact Nat.le_refl _); have hB := hB.madeB hs6 ho6; clear hN6 ho6 hs6)
            | (go_at_call 28; (with_reducible refine (rbytes_made (A := none) (n := 0) (c := 0) (bs := []) (rowRd_none0 w5) (by omega) hB.since).mono ?_); rintro e w7 ⟨g7, N7, c7, rfl, hN7, ho7, hs7⟩; have hN7' : N7 ≤ 8 := (by rw [hN7]; exact Nat.le_refl _); have hB := hB.madeB hs7 ho7; clear hN7 ho7 hs7)
            | (go_at_call 28; (with_reducible refine (rbytes_made (HDG.out w5 (Below.refl _ _)) (by omega) hB.since).mono ?_); rintro e w8 ⟨g8, N8, c8, rfl, hN8, ho8, hs8⟩; have hN8' : N8 ≤ 40 := (by rw [hN8, M.blob_length, HLD.out]; exact Nat.le_refl _); have hB := hB.madeB hs8 ho8; clear hN8 ho8 hs8)
            | (go_at_call 28; (with_reducible refine (rbytes_made (HTG.out w5 (Below.refl _ _)) (by omega) hB.since).mono ?_); rintro e w9 ⟨g9, N9, c9, rfl, hN9, ho9, hs9⟩; have hN9' : N9 ≤ 40 := (by rw [hN9, M.blob_length, HLT.out]; exact Nat.le_refl _); have hB := hB.madeB hs9 ho9; clear hN9 ho9 hs9)
            | ((first | ((with_reducible refine step_bank (hB) ?_); intro hB) | ((with_reducible refine step_bank (Bank.drew hB) ?_); intro hB) | ((with_reducible refine step_bank (Bank.drew (Bank.litV hB _ _ (by decide))) ?_); intro hB) | ((with_reducible refine step_bank (Bank.litV hB _ _ (by decide)) ?_); intro hB)); refine step_append_bytes hB rfl _ _ 22 rfl 5 infoByte Tryz.underlying22 4 A11 n11 c11 (([] ++ M.num z) ++ M.blob []) rfl rfl _ _ _ (M.blob b.dig ++ M.blob b.tag) rfl (hB.row 1 rfl) (by omega) ?_; intro A13 n13 c13 w13 hn13 hB; have hn13' := Nat.le_of_eq hn13; clear hn13)
            | ((first | ((with_reducible refine step_bank (hB) ?_); intro hB) | ((with_reducible refine step_bank (Bank.drew hB) ?_); intro hB) | ((with_reducible refine step_bank (Bank.drew (Bank.litV hB _ _ (by decide))) ?_); intro hB) | ((with_reducible refine step_bank (Bank.litV hB _ _ (by decide)) ?_); intro hB)); refine step_append_bytes hB rfl _ _ 22 rfl 5 infoByte Tryz.underlying22 3 A11 n11 c11 (([] ++ M.num z) ++ M.blob []) rfl rfl _ _ _ (M.blob b.dig ++ M.blob b.tag) rfl (hB.row 1 rfl) (by omega) ?_; intro A13 n13 c13 w13 hn13 hB; have hn13' := Nat.le_of_eq hn13; clear hn13)
            | ((first | ((with_reducible refine step_bank (hB) ?_); intro hB) | ((with_reducible refine step_bank (Bank.drew hB) ?_); intro hB) | ((with_reducible refine step_bank (Bank.drew (Bank.litV hB _ _ (by decide))) ?_); intro hB) | ((with_reducible refine step_bank (Bank.litV hB _ _ (by decide)) ?_); intro hB)); refine step_append_bytes hB rfl _ _ 22 rfl 5 infoByte Tryz.underlying22 1 (some ⟨g8, 0, none⟩) N8 c8 (M.blob b.dig) rfl rfl _ _ _ (M.blob b.tag) rfl (hB.row 0 rfl) (by omega) ?_; intro A12 n12 c12 w12 hn12 hB; have hn12' := Nat.le_of_eq hn12; clear hn12)
            | ((first | ((with_reducible refine step_bank (hB) ?_); intro hB) | ((with_reducible refine step_bank (Bank.drew hB) ?_); intro hB) | ((with_reducible refine step_bank (Bank.drew (Bank.litV hB _ _ (by decide))) ?_); intro hB) | ((with_reducible refine step_bank (Bank.litV hB _ _ (by decide)) ?_); intro hB)); refine step_append_bytes hB rfl _ _ 22 rfl 5 infoByte Tryz.underlying22 2 A10 n10 c10 ([] ++ M.num z) rfl rfl _ _ _ (M.blob []) rfl (hB.row 0 rfl) (by omega) ?_; intro A11 n11 c11 w11 hn11 hB; have hn11' := Nat.le_of_eq hn11; clear hn11)
            | ((first | ((with_reducible refine step_bank (hB) ?_); intro hB) | ((with_reducible refine step_bank (Bank.drew hB) ?_); intro hB) | ((with_reducible refine step_bank (Bank.drew (Bank.litV hB _ _ (by decide))) ?_); intro hB) | ((with_reducible refine step_bank (Bank.litV hB _ _ (by decide)) ?_); intro hB)); refine step_append_bytes hB rfl _ _ 22 rfl 5 infoByte Tryz.underlying22 1 A10 n10 c10 ([] ++ M.num z) rfl rfl _ _ _ (M.blob []) rfl (hB.row 0 rfl) (by omega) ?_; intro A11 n11 c11 w11 hn11 hB; have hn11' := Nat.le_of_eq hn11; clear hn11)
            | ((first | ((with_reducible refine step_bank (hB) ?_); intro hB) | ((with_reducible refine step_bank (Bank.drew hB) ?_); intro hB) | ((with_reducible refine step_bank (Bank.drew (Bank.litV hB _ _ (by decide))) ?_); intro hB) | ((with_reducible refine step_bank (Bank.litV hB _ _ (by decide)) ?_); intro hB)); refine step_append_bytes hB rfl _ _ 22 rfl 5 infoByte Tryz.underlying22 1 _ 0 _ ([]) rfl rfl _ _ _ (M.num z) rfl (hB.row 0 rfl) (by omega) ?_; intro A10 n10 c10 w10 hn10 hB; have hn10' := Nat.le_of_eq hn10; clear hn10)
            | ((first | ((with_reducible refine step_bank (hB) ?_); intro hB) | ((with_reducible refine step_bank (Bank.drew hB) ?_); intro hB) | ((with_reducible refine step_bank (Bank.drew (Bank.litV hB _ _ (by decide))) ?_); intro hB) | ((with_reducible refine step_bank (Bank.litV hB _ _ (by decide)) ?_); intro hB)); refine step_append_bytes hB rfl _ _ 22 rfl 5 infoByte Tryz.underlying22 0 _ 0 _ ([]) rfl rfl _ _ _ (M.num z) rfl (hB.row 1 rfl) (by omega) ?_; intro A10 n10 c10 w10 hn10 hB; have hn10' := Nat.le_of_eq hn10; clear hn10)
            | fail "arm")
        all_goals
          have HFIN := Lib.hid hB.since
          have HR := Lib.hid (show RowRd _ ⟨A13, n13, c13⟩ (nmRaw z b) from by first | exact hB.row 4 rfl | exact hB.row 3 rfl)
          clear hB
          go_wp2_with fail
          go_meet
          exact ⟨_, _, _, rfl, by omega, HR.out, HFIN.out⟩
      case rest =>
        obtain ⟨AR, NR, cR, rfl, hNR, hRR, hSR⟩ := hcut
        have HRR := Lib.hid hRR; have SR := Lib.hid hSR
        have hcN := (keep3n HTR.out SR.out).1
        clear hRR hSR
        go_wp2_with fail
        clear hcN
        have SA := Lib.hid (Since.alloc (Below.refl wc.heap.size wc) (.cells #[.int .u8 4] 5))
        have HL4 := Lib.hid (row_lit wc #[.int .u8 4] 5 [4#8] 1 1 rfl rfl)
        generalize hXc : wc.heap.size = Xc at *
        generalize wc.alloc (.cells #[.int .u8 4] 5) = wd at *
        clear hXc
        refine (BundleMakes_any nmK [4#8] z (some ⟨X, 0, none⟩) 3 3 (some ⟨Xc, 0, none⟩) 1 1 wd (HKEY.out wd (S5.out.add (SR.out.add SA.out))) HL4.out (HKW.out wd (S5.out.add (SR.out.add SA.out))) (HFW.out wd (S5.out.add (SR.out.add SA.out)))).mono ?_
        rintro e we ⟨rfl, hs⟩
        have SE := Lib.hid (show Since w5 we from SR.out.add (SA.out.add hs))
        have SCE := Lib.hid (show Since wc we from SA.out.add hs)
        obtain ⟨y0, y1, y2, y3⟩ := four_cells (Since.at SE.out HB6.out)
        clear hs
        go_wp2_with fail
        clear y0 y1 y2 y3
        refine (BundleChecks_any nmK ⟨z, b.code, b.dig, b.tag⟩ (some ⟨X, 0, none⟩) 3 3 A4 3 c4 B4 32 d4 C4 32 l4 we (HKEY.out we (S5.out.add SE.out)) (HBN.out we SE.out) (by omega) (by omega) (by omega) (by omega) (HKW.out we (S5.out.add SE.out)) (HFW.out we (S5.out.add SE.out))).mono ?_
        rintro e wf ⟨rfl, hs⟩
        have SF := Lib.hid (SE.out.add hs)
        have SFR := Lib.hid (show Since wc wf from SCE.out.add hs)
        clear hs
        go_wp2_with fail
        refine (BundleGets_any (nmRaw z b) AR NR cR wf (Since.row SFR.out HRR.out) (HKW.out wf (S5.out.add SF.out)) (HFW.out wf (S5.out.add SF.out))).mono ?_
        rintro e wg ⟨rfl, hs⟩
        have SG := Lib.hid (S5.out.add (SF.out.add hs))
        clear hs
        go_wp2_with fail
        go_roundw
        case rel => exact ⟨k + 1, by omega, by go_num, SG.out⟩
        case measure => simp [intOf]; omega
    · have i1 : ¬ (k : Int) < 9 := by omega
      have BKS := Lib.hid (show Bank w wr [boxAcc X2 26 (bunL b.ver A2 3 c2 B2 32 d2 C2 32 l2), rowAcc C2 32 l2 b.tag, rowAcc B2 32 d2 b.dig, rowAcc A2 3 c2 b.code, boxAcc (X2 + 1) 3 (nmN.map (Value.int .i64)), rowAcc (some ⟨X + 1, 0, none⟩) 3 3 nmC, rowAcc (some ⟨X, 0, none⟩) 3 3 nmK] from (BK3.out.call S.out).pick [1, 2, 3, 4, 0, 5, 6] (by decide) _ rfl)
      clear S BK3 HBX HKW HFW HKEY HBUN
      go_wp2_with fail
      clear i1 h1
      go_loopw [8] (fun i wr => ∃ n : Nat, 30 ≤ n ∧ n ≤ 35 ∧ i = .int .i64 (n : Int) ∧ Bank w wr [boxAcc X2 26 (bunL b.ver A2 3 c2 B2 32 d2 C2 32 l2), rowAcc C2 32 l2 b.tag, rowAcc B2 32 d2 b.dig, rowAcc A2 3 c2 b.code, boxAcc (X2 + 1) 3 (nmN.map (Value.int .i64)), rowAcc (some ⟨X + 1, 0, none⟩) 3 3 nmC, rowAcc (some ⟨X, 0, none⟩) 3 3 nmK]) (fun i _ => 35 - (intOf i).toNat)
      case atStart => exact ⟨30, by omega, by omega, rfl, BKS.out⟩
      case round =>
        clear BKS
        obtain ⟨n, hn30, hn35, rfl, hBn⟩ := hrel
        have BKL := Lib.hid hBn
        clear hBn
        rcases Nat.lt_or_ge n 35 with h2 | h2
        · have i2 : (n : Int) < 35 := by omega
          go_upto_region 17 with fail
          go_cut [9, 10] (fun s5 s6 wx => CopyCut w [boxAcc X2 26 (bunL b.ver A2 3 c2 B2 32 d2 C2 32 l2), rowAcc C2 32 l2 b.tag, rowAcc B2 32 d2 b.dig, rowAcc A2 3 c2 b.code, boxAcc (X2 + 1) 3 (nmN.map (Value.int .i64)), rowAcc (some ⟨X + 1, 0, none⟩) 3 3 nmC, rowAcc (some ⟨X, 0, none⟩) 3 3 nmK] b b.ver 3 s5 s6 wx)
          case first => as_aux_lemma =>
            refine wp_gen (fun a0 => a0.eval (.tmp 2) = .pointer (some ⟨X2, 0, none⟩) ∧ 200 < a0.tmps.size) ⟨rfl, of_decide_eq_true (by kernel_rfl)⟩ ?_
            rintro a0 ⟨ha17, hsz⟩ HA0
            refine wp_region_setsA (CpI2 w [boxAcc X2 26 (bunL b.ver A2 3 c2 B2 32 d2 C2 32 l2), rowAcc C2 32 l2 b.tag, rowAcc B2 32 d2 b.dig, rowAcc A2 3 c2 b.code, boxAcc (X2 + 1) 3 (nmN.map (Value.int .i64)), rowAcc (some ⟨X + 1, 0, none⟩) 3 3 nmC, rowAcc (some ⟨X, 0, none⟩) 3 3 nmK] b b.ver 3 (.agg #[.int .i64 b.ver, .slice A2 3 c2, .slice B2 32 d2, .slice C2 32 l2])) (by kernel_rfl) ?_ ?_ ?_
            · refine ⟨false, false, false, false, false, false, false, false, _, _, _, _, _, _, 0, 0, ⟨none, 0, none, 0, none, 0⟩, ⟨none, 0, none, 0, none, 0⟩, [], [], [], [], rfl, (ch2_start _).symm, ?_⟩
              constructor <;> first | (intro h; cases h; done) | (intro _; rfl) | exact BKL.out.drew
            · intro listed a' wx i hI hi
              obtain ⟨m0, m1, m2, m3, m4, m5, m6, m7, s1, s2, s3, s4, s5, s6, g4, g5, q1, q3, L1, L3, L4, L5, rfl, ha, h⟩ := hI
              have hlt := ready_lt hi
              rcases i with _ | _ | _ | _ | _ | _ | _ | _ | i
              all_goals first | (have hr := ready_after hi rfl; simp [Region.binds] at hr) | exact absurd hlt (by simp)
              · subst hr
                refine wpOp_step (o := _) rfl (fun K' hK => ?_)
                refine step_load_bun h.base rfl (.tmp 2) rfl 0 X2 (by rw [ha]; exact (ch2_pt _ _ _ _ _ _ _).trans ha17) b.ver A2 3 c2 B2 32 d2 C2 32 l2 rfl ?_
                exact hK _ _ ⟨true, m1, m2, m3, m4, m5, m6, m7, .agg #[.int .i64 b.ver, .slice A2 3 c2, .slice B2 32 d2, .slice C2 32 l2], s2, s3, s4, s5, s6, g4, g5, q1, q3, L1, L3, L4, L5, rfl, by rw [ha]; exact ch2_put89 _ _ _ _ _ _ _ _, { h with a0 := fun _ => rfl }⟩
              · obtain ⟨rfl, hm0⟩ := hr
                obtain rfl := h.a0 hm0
                obtain rfl := h.n1 rfl
                obtain rfl := off_of (fun h3 => (h.a3 h3).1) rfl
                obtain rfl := off_of (fun h3 => (h.a6 h3).1) rfl
                refine wpOp_step (o := _) rfl (fun K' hK => ?_)
                refine step_call1 rfl 26 (.tmp 89) 26 callCopy rfl (by rw [ha, ch2_at89 _ _ _ _ _ _ _ hsz]; exact copy_cpy b A2 3 c2 B2 d2 C2 l2 wx (cpy_in h.base) (by omega) b.ver rfl) ?_
                rintro e w' ⟨q, rfl, hBq⟩
                exact ⟨_, rfl, hK _ _ ⟨m0, true, m2, false, m4, m5, false, m7, .agg #[.int .i64 b.ver, .slice A2 3 c2, .slice B2 32 d2, .slice C2 32 l2], q.val b.ver 3, s3, s4, s5, s6, g4, g5, q, q3, q.rows b 3, L3, L4, L5, rfl, by rw [ha]; exact ch2_put90 _ _ _ _ _ _ _ _, { h with a1 := fun _ => ⟨rfl, rfl⟩, n1 := nofun, a3 := nofun, a6 := nofun, bank := bank_under h.bank hBq }⟩⟩
              · subst hr
                refine wpOp_step (o := _) rfl (fun K' hK => ?_)
                refine step_load_bun h.base rfl (.tmp 2) rfl 0 X2 (by rw [ha]; exact (ch2_pt _ _ _ _ _ _ _).trans ha17) b.ver A2 3 c2 B2 32 d2 C2 32 l2 rfl ?_
                exact hK _ _ ⟨m0, m1, true, m3, m4, m5, m6, m7, s1, s2, .agg #[.int .i64 b.ver, .slice A2 3 c2, .slice B2 32 d2, .slice C2 32 l2], s4, s5, s6, g4, g5, q1, q3, L1, L3, L4, L5, rfl, by rw [ha]; exact ch2_put91 _ _ _ _ _ _ _ _, { h with a2 := fun _ => rfl }⟩
              · obtain ⟨rfl, hr⟩ := hr
                have hm1 : m1 = true := by simp [hr]
                have hm2 : m2 = true := by simp [hr]
                obtain rfl := h.a2 hm2
                obtain rfl := h.n3 rfl
                obtain rfl := off_of (fun h3 => (h.a7 h3).1) rfl
                refine wpOp_step (o := _) rfl (fun K' hK => ?_)
                refine step_call1 rfl 26 (.tmp 91) 26 callCopy rfl (by rw [ha, ch2_at91 _ _ _ _ _ _ _ hsz]; exact copy_cpy b A2 3 c2 B2 d2 C2 l2 wx (cpy_in h.base) (by omega) b.ver rfl) ?_
                rintro e w' ⟨q, rfl, hBq⟩
                exact ⟨_, rfl, hK _ _ ⟨m0, m1, m2, true, m4, m5, m6, false, s1, s2, .agg #[.int .i64 b.ver, .slice A2 3 c2, .slice B2 32 d2, .slice C2 32 l2], q.val b.ver 3, s5, s6, g4, g5, q1, q, L1, q.rows b 3, L4, L5, rfl, by rw [ha]; exact ch2_put92 _ _ _ _ _ _ _ _, { h with a3 := fun _ => ⟨hm1, rfl, rfl⟩, n3 := nofun, a7 := nofun, bank := (bank_under h.bank hBq).ins }⟩⟩
              · subst hr
                obtain rfl := h.n4 rfl
                obtain rfl := off_of (fun h3 => (h.a6 h3).2) rfl
                refine wpOp_step (o := _) rfl (fun K' hK => ?_)
                refine step_alloc_bun h.bank rfl rfl fun g w' hB => ?_
                exact hK _ _ ⟨m0, m1, m2, m3, true, m5, false, m7, s1, s2, s3, s4, .pointer (some ⟨g, 0, none⟩), s6, g, g5, q1, q3, L1, L3, [boxAcc g 26 zeroV], L5, rfl, by rw [ha]; exact ch2_put9 _ _ _ _ _ _ _ _, { h with a4 := fun _ => ⟨rfl, rfl⟩, n4 := nofun, a6 := nofun, bank := Bank.ins2 (X := [boxAcc g 26 zeroV]) hB }⟩
              · subst hr
                obtain rfl := h.n5 rfl
                obtain rfl := off_of (fun h3 => (h.a7 h3).2) rfl
                refine wpOp_step (o := _) rfl (fun K' hK => ?_)
                refine step_alloc_bun h.bank rfl rfl fun g w' hB => ?_
                exact hK _ _ ⟨m0, m1, m2, m3, m4, true, m6, false, s1, s2, s3, s4, s5, .pointer (some ⟨g, 0, none⟩), g4, g, q1, q3, L1, L3, L4, [boxAcc g 26 zeroV], rfl, by rw [ha]; exact ch2_put10 _ _ _ _ _ _ _ _, { h with a5 := fun _ => ⟨rfl, rfl⟩, n5 := nofun, a7 := nofun, bank := Bank.ins3 (X := [boxAcc g 26 zeroV]) hB }⟩
              · obtain ⟨rfl, hr⟩ := hr
                have hm1 : m1 = true := by simp [hr]
                have hm3 : m3 = true := by simp [hr]
                have hm4 : m4 = true := by simp [hr]
                obtain ⟨rfl, rfl⟩ := h.a1 hm1
                obtain ⟨_, rfl, rfl⟩ := h.a3 hm3
                obtain ⟨rfl, rfl⟩ := h.a4 hm4
                refine wpOp_step (o := _) rfl (fun K' hK => ?_)
                refine step_store_mid2 g4 zeroV h.bank rfl rfl (.tmp 9) (.tmp 90) rfl (by rw [ha]; exact ch2_at9 _ _ _ _ _ _ _ hsz) b.ver q1.A 3 q1.c q1.B 32 q1.d q1.C 32 q1.l (by rw [ha]; exact ch2_at90 _ _ _ _ _ _ _ hsz) fun w' hB => ?_
                exact hK _ _ ⟨m0, m1, m2, m3, m4, m5, true, m7, s1, q1.val b.ver 3, s3, q3.val b.ver 3, .pointer (some ⟨g4, 0, none⟩), s6, g4, g5, q1, q3, q1.rows b 3, q3.rows b 3, [boxAcc g4 26 (q1.cells b.ver 3)], L5, rfl, ha, { h with a4 := fun _ => ⟨rfl, rfl⟩, n4 := (fun h3 => by rw [hm4] at h3; cases h3), a6 := fun _ => ⟨hm1, hm4⟩, bank := hB }⟩
              · obtain ⟨rfl, hr⟩ := hr
                have hm1 : m1 = true := by simp [hr]
                have hm3 : m3 = true := by simp [hr]
                have hm4 : m4 = true := by simp [hr]
                have hm5 : m5 = true := by simp [hr]
                obtain ⟨rfl, rfl⟩ := h.a1 hm1
                obtain ⟨_, rfl, rfl⟩ := h.a3 hm3
                obtain ⟨rfl, rfl⟩ := h.a4 hm4
                obtain ⟨rfl, rfl⟩ := h.a5 hm5
                refine wpOp_step (o := _) rfl (fun K' hK => ?_)
                refine step_store_mid3 g5 zeroV h.bank rfl rfl (.tmp 10) (.tmp 92) rfl (by rw [ha]; exact ch2_at10 _ _ _ _ _ _ _ hsz) b.ver q3.A 3 q3.c q3.B 32 q3.d q3.C 32 q3.l (by rw [ha]; exact ch2_at92 _ _ _ _ _ _ _ hsz) fun w' hB => ?_
                exact hK _ _ ⟨m0, m1, m2, m3, m4, m5, m6, true, s1, q1.val b.ver 3, s3, q3.val b.ver 3, .pointer (some ⟨g4, 0, none⟩), .pointer (some ⟨g5, 0, none⟩), g4, g5, q1, q3, q1.rows b 3, q3.rows b 3, [boxAcc g4 26 (bif m6 then q1.cells b.ver 3 else zeroV)], [boxAcc g5 26 (q3.cells b.ver 3)], rfl, ha, { h with a5 := fun _ => ⟨rfl, rfl⟩, n5 := (fun h3 => by rw [hm5] at h3; cases h3), a7 := fun _ => ⟨hm3, hm5⟩, bank := hB }⟩
            · intro listed a' wx hI hn
              obtain ⟨m0, m1, m2, m3, m4, m5, m6, m7, s1, s2, s3, s4, s5, s6, g4, g5, q1, q3, L1, L3, L4, L5, rfl, ha, h⟩ := hI
              obtain rfl : m0 = true := ready_none (i := 0) hn rfl (by simp [Region.binds])
              obtain rfl : m1 = true := ready_none (i := 1) hn rfl (by simp [Region.binds])
              obtain rfl : m2 = true := ready_none (i := 2) hn rfl (by simp [Region.binds])
              obtain rfl : m3 = true := ready_none (i := 3) hn rfl (by simp [Region.binds])
              obtain rfl : m4 = true := ready_none (i := 4) hn rfl (by simp [Region.binds])
              obtain rfl : m5 = true := ready_none (i := 5) hn rfl (by simp [Region.binds])
              obtain rfl : m6 = true := ready_none (i := 6) hn rfl (by simp [Region.binds])
              obtain rfl : m7 = true := ready_none (i := 7) hn rfl (by simp [Region.binds])
              obtain ⟨rfl, rfl⟩ := h.a1 rfl
              obtain ⟨_, rfl, rfl⟩ := h.a3 rfl
              obtain ⟨rfl, rfl⟩ := h.a4 rfl
              obtain ⟨rfl, rfl⟩ := h.a5 rfl
              have HFIN := Lib.hid h.bank
              obtain rfl := HA0.out
              subst ha
              clear h hn ha17 hsz HA0
              simp only [ch2, Act.put, List.setIfInBounds_toArray, List.set_cons_zero, List.set_cons_succ]
              go_wp2_with fail
              go_meet
              exact ⟨g4, g5, q1, q3, rfl, rfl, HFIN.out⟩
          case rest => as_aux_lemma =>
            obtain ⟨g9, g10, ⟨A5, c5, B5, d5, C5, l5⟩, ⟨A6, c6, B6, d6, C6, l6⟩, rfl, rfl, hB⟩ := hcut
            have BK5 := Lib.hid (show Bank w wc (rowAcc C5 32 l5 b.tag :: rowAcc B5 32 d5 b.dig :: rowAcc A5 3 c5 b.code :: rowAcc C6 32 l6 b.tag :: rowAcc B6 32 d6 b.dig :: rowAcc A6 3 c6 b.code :: boxAcc g9 26 (bunL b.ver A5 3 c5 B5 32 d5 C5 32 l5) :: boxAcc g10 26 (bunL b.ver A6 3 c6 B6 32 d6 C6 32 l6) :: [boxAcc X2 26 (bunL b.ver A2 3 c2 B2 32 d2 C2 32 l2), rowAcc C2 32 l2 b.tag, rowAcc B2 32 d2 b.dig, rowAcc A2 3 c2 b.code, boxAcc (X2 + 1) 3 (nmN.map (Value.int .i64)), rowAcc (some ⟨X + 1, 0, none⟩) 3 3 nmC, rowAcc (some ⟨X, 0, none⟩) 3 3 nmK]) from hB)
            clear hB BKL
            go_wp2_with (first
              | (at_make; refine wpList_make_full _ rfl _ _ 22 rfl (w6.setCell ⟨g9, 2, none⟩ (.slice (some ⟨wc.heap.size, 0, none⟩) n n)).heap.size 5 i0 (.int .u8 0) 1 Tryz.underlying22 hi hz0 hz1 _ _ _ _ n rfl rfl rfl rfl (by rw [hz2]; omega) (by unfold maxLen; omega) (Nat.le_refl _) ?_; intro w7 hown7 hgrow7; have BK8 := Lib.hid (BK7.out.madeZ hown7 hgrow7); have BK9 := Lib.hid (BK8.out.boxSet 9 rfl 3 (.slice (some ⟨(w6.setCell ⟨g9, 2, none⟩ (.slice (some ⟨wc.heap.size, 0, none⟩) n n)).heap.size, 0, none⟩) n n)); have e3 := BK8.out.cell 9 rfl 3 rfl; have f3 := BK8.out.free 9 rfl 3; have x3 := BK8.out.cell 10 rfl 3 rfl; have n1 := BK8.out.ne (i := 9) (j := 10) rfl rfl (by decide); have n2 := Ne.symm n1; clear hown7 hgrow7)
              | (at_make; refine wpList_make_full _ rfl _ _ 22 rfl wc.heap.size 5 i0 (.int .u8 0) 1 Tryz.underlying22 hi hz0 hz1 _ _ _ _ n rfl rfl rfl rfl (by rw [hz2]; omega) (by unfold maxLen; omega) (Nat.le_refl _) ?_; intro w6 hown6 hgrow6; have BK6 := Lib.hid (BK5.out.madeZ hown6 hgrow6); have BK7 := Lib.hid (BK6.out.boxSet 7 rfl 2 (.slice (some ⟨wc.heap.size, 0, none⟩) n n)); have e2 := BK6.out.cell 7 rfl 2 rfl; have f2 := BK6.out.free 7 rfl 2; clear hown6 hgrow6)
              | fail)
            clear e2 f2 e3 f3 x3 n1 n2 BK6 BK7 BK8
            have BKA := Lib.hid (show Bank w (w7.setCell ⟨g10, 3, none⟩ (.slice (some ⟨w6.heap.size, 0, none⟩) n n)) (rowAcc (some ⟨w6.heap.size, 0, none⟩) n n (List.replicate n 0#8) :: rowAcc (some ⟨wc.heap.size, 0, none⟩) n n (List.replicate n 0#8) :: rowAcc C5 32 l5 b.tag :: rowAcc B5 32 d5 b.dig :: rowAcc A5 3 c5 b.code :: rowAcc C6 32 l6 b.tag :: rowAcc B6 32 d6 b.dig :: rowAcc A6 3 c6 b.code :: boxAcc g9 26 (bunL b.ver A5 3 c5 (some ⟨wc.heap.size, 0, none⟩) n n C5 32 l5) :: boxAcc g10 26 (bunL b.ver A6 3 c6 B6 32 d6 (some ⟨w6.heap.size, 0, none⟩) n n) :: [boxAcc X2 26 (bunL b.ver A2 3 c2 B2 32 d2 C2 32 l2), rowAcc C2 32 l2 b.tag, rowAcc B2 32 d2 b.dig, rowAcc A2 3 c2 b.code, boxAcc (X2 + 1) 3 (nmN.map (Value.int .i64)), rowAcc (some ⟨X + 1, 0, none⟩) 3 3 nmC, rowAcc (some ⟨X, 0, none⟩) 3 3 nmK]) from by
              have h := BK9.out
              simp only [World.size_setCell] at h
              exact h)
            clear BK9
            generalize wc.heap.size = Z1 at *
            generalize w7.setCell ⟨g10, 3, none⟩ (.slice (some ⟨w6.heap.size, 0, none⟩) n n) = w8 at *
            generalize w6.heap.size = Z2 at *
            refine (CopyBytes_any C2 32 l2 b.tag w8 (BKA.out.row 11 rfl) (by omega)).mono ?_
            rintro e w9 ⟨BT, cT, rfl, ho, hs⟩
            have BKC := Lib.hid ((BKA.out.madeB hs ho).litV #[.int .u8 0, .int .u8 0, .int .u8 0] 5 (by decide))
            clear hs ho BKA
            go_wp2_with (at_builtin; refine wpList_append_bytes BKC.out rfl _ _ 22 rfl 5 infoByte Tryz.underlying22 1 BT 32 cT b.tag rfl rfl _ _ _ [0#8, 0#8, 0#8] rfl (RowRd.of_row (bs := [0#8, 0#8, 0#8]) (BKC.out.at 0 rfl)) (by omega) ?_; intro A' n' c' w10 hn' hB; (obtain rfl : n' = 35 := hn'); obtain ⟨gT, rfl⟩ := own_someB (hB.at 1 rfl) (by show 0 < 35; omega); have hcap := (row_room (hB.at 1 rfl)).1; have j1 : (n : Int) ≤ (c' : Int) := (by omega); have j0 : (0 : Int) ≤ (n : Int) := (by omega); have BKD := Lib.hid hB; have x0 := hB.cell 12 rfl 0 rfl; have x1 := hB.cell 12 rfl 1 rfl; have x2 := hB.cell 12 rfl 2 rfl; have x3 := hB.cell 12 rfl 3 rfl; clear hB)
            clear x0 x1 x2 x3 j1 j0 BKC
            have BKE := Lib.hid (show Bank w w10 (rowAcc (some ⟨gT, 0, none⟩) 35 c' (b.tag ++ [0#8, 0#8, 0#8]) :: rowAcc (some ⟨Z2, 0, none⟩) n n (List.replicate n 0#8) :: rowAcc (some ⟨Z1, 0, none⟩) n n (List.replicate n 0#8) :: rowAcc C5 32 l5 b.tag :: rowAcc B5 32 d5 b.dig :: rowAcc A5 3 c5 b.code :: rowAcc C6 32 l6 b.tag :: rowAcc B6 32 d6 b.dig :: rowAcc A6 3 c6 b.code :: boxAcc g9 26 (bunL b.ver A5 3 c5 (some ⟨Z1, 0, none⟩) n n C5 32 l5) :: boxAcc g10 26 (bunL b.ver A6 3 c6 B6 32 d6 (some ⟨Z2, 0, none⟩) n n) :: [boxAcc X2 26 (bunL b.ver A2 3 c2 B2 32 d2 C2 32 l2), rowAcc C2 32 l2 b.tag, rowAcc B2 32 d2 b.dig, rowAcc A2 3 c2 b.code, boxAcc (X2 + 1) 3 (nmN.map (Value.int .i64)), rowAcc (some ⟨X + 1, 0, none⟩) 3 3 nmC, rowAcc (some ⟨X, 0, none⟩) 3 3 nmK]) from BKD.out.drop)
            have hnc : n ≤ c' := (by omega)
            clear BKD hcap
            refine (CopyBundle_any b A2 3 c2 B2 32 d2 C2 32 l2 w10 ⟨BKE.out.row 14 rfl, BKE.out.row 13 rfl, BKE.out.row 12 rfl⟩ (by omega) (by omega) (by omega)).mono ?_
            rintro e w11 ⟨A7, c7, B7, d7, C7, l7, rfl, hB⟩
            have BKF := Lib.hid (bank_under BKE.out hB)
            have BKG := Lib.hid (BKF.out.box #[.int .i64 b.ver, .slice A7 3 c7, .slice B7 32 d7, .slice (some ⟨gT, 0, none⟩) n c'] 26 (by simp))
            have x0 := BKF.out.cell 12 rfl 0 rfl
            have x1 := BKF.out.cell 12 rfl 1 rfl
            have x2 := BKF.out.cell 12 rfl 2 rfl
            have x3 := BKF.out.cell 12 rfl 3 rfl
            have q1 : g9 < w11.heap.size := block_lt_of_cell x0
            have q2 := Nat.ne_of_lt q1
            have q3 := Ne.symm q2
            clear hB BKE
            go_wp2_with fail
            clear x0 x1 x2 x3 q1 q2 q3 BKF
            generalize w11.heap.size = Z3 at *
            generalize w11.alloc (.cells #[.int .i64 b.ver, .slice A7 3 c7, .slice B7 32 d7, .slice (some ⟨gT, 0, none⟩) n c'] 26) = w12 at *
            refine (BundleChecks_any nmK ⟨b.ver, b.code, List.replicate n 0#8, b.tag⟩ (some ⟨X, 0, none⟩) 3 3 A5 3 c5 (some ⟨Z1, 0, none⟩) n n C5 32 l5 w12 (BKG.out.row 21 rfl) ⟨BKG.out.row 9 rfl, BKG.out.row 6 rfl, BKG.out.row 7 rfl⟩ (by omega) (by omega) (by omega) (by omega) (HK.out.below BKG.out.since) (HF.out.below BKG.out.since)).mono ?_
            rintro e w13 ⟨rfl, hs⟩
            have BKH := Lib.hid (BKG.out.call hs)
            have x0 := BKH.out.cell 14 rfl 0 rfl
            have x1 := BKH.out.cell 14 rfl 1 rfl
            have x2 := BKH.out.cell 14 rfl 2 rfl
            have x3 := BKH.out.cell 14 rfl 3 rfl
            clear hs BKG
            go_wp2_with fail
            clear x0 x1 x2 x3
            refine (BundleChecks_any nmK ⟨b.ver, b.code, b.dig, List.replicate n 0#8⟩ (some ⟨X, 0, none⟩) 3 3 A6 3 c6 B6 32 d6 (some ⟨Z2, 0, none⟩) n n w13 (BKH.out.row 21 rfl) ⟨BKH.out.row 12 rfl, BKH.out.row 11 rfl, BKH.out.row 5 rfl⟩ (by omega) (by omega) (by omega) (by omega) (HK.out.below BKH.out.since) (HF.out.below BKH.out.since)).mono ?_
            rintro e w14 ⟨rfl, hs⟩
            have BKI := Lib.hid (BKH.out.call hs)
            have x0 := BKI.out.cell 0 rfl 0 rfl
            have x1 := BKI.out.cell 0 rfl 1 rfl
            have x2 := BKI.out.cell 0 rfl 2 rfl
            have x3 := BKI.out.cell 0 rfl 3 rfl
            clear hs BKH
            go_wp2_with fail
            clear x0 x1 x2 x3
            refine (BundleChecks_any nmK ⟨b.ver, b.code, b.dig, (b.tag ++ [0#8, 0#8, 0#8]).take n⟩ (some ⟨X, 0, none⟩) 3 3 A7 3 c7 B7 32 d7 (some ⟨gT, 0, none⟩) n c' w14 (BKI.out.row 21 rfl) ⟨BKI.out.row 3 rfl, BKI.out.row 2 rfl, by have h := rowRd_cutN (BKI.out.row 4 rfl) 0 n c' (by omega); simpa using h⟩ (by omega) (by omega) (by omega) (by omega) (HK.out.below BKI.out.since) (HF.out.below BKI.out.since)).mono ?_
            rintro e w15 ⟨rfl, hs⟩
            have BKJ := Lib.hid (show Bank w w15 [boxAcc X2 26 (bunL b.ver A2 3 c2 B2 32 d2 C2 32 l2), rowAcc C2 32 l2 b.tag, rowAcc B2 32 d2 b.dig, rowAcc A2 3 c2 b.code, boxAcc (X2 + 1) 3 (nmN.map (Value.int .i64)), rowAcc (some ⟨X + 1, 0, none⟩) 3 3 nmC, rowAcc (some ⟨X, 0, none⟩) 3 3 nmK] from (BKI.out.call hs).rdrop 15)
            clear hs BKI
            go_wp2_with fail
            go_roundw
            case rel => exact ⟨n + 1, by omega, by omega, by go_num, BKJ.out⟩
            case measure => simp [intOf]; omega
        · have i2 : ¬ (n : Int) < 35 := by omega
          obtain ⟨Zs, hZs⟩ : ∃ Zs : List (BitVec 8), Zs = List.replicate 32769 0#8 := ⟨_, rfl⟩
          have HZL := Lib.hid (show Zs.length = 32769 by rw [hZs, List.length_replicate])
          have HMZ : Hid (∀ {w0 w w' : World} {L : List Acc} {g : Nat}, Bank w0 w L → w'.ownsRow w.heap.size 5 1 (.slice (some ⟨g, 0, none⟩) 32769 32769) 32769 (madeCells (Value.int .u8 0).cells (32769 * 1)).toList → w.grownBy w' none → Bank w0 w' (rowAcc (some ⟨g, 0, none⟩) 32769 32769 Zs :: L)) := Lib.hid (fun h ho hg => by rw [hZs]; exact h.madeZ ho hg)
          clear hZs
          go_wp2_with (at_make; refine wpList_make_full _ rfl _ _ 22 rfl wr.heap.size 5 i0 (.int .u8 0) 1 Tryz.underlying22 hi hz0 hz1 _ _ _ _ 32769 rfl rfl rfl rfl (by rw [hz2]; omega) (by unfold maxLen; omega) (Nat.le_refl _) ?_; intro w6 hown6 hgrow6; have BK6 := Lib.hid (HMZ.out BKL.out hown6 hgrow6); clear hown6 hgrow6)
          clear BKL i2 h2 HMZ
          generalize wr.heap.size = ZL at *
          obtain ⟨cd, hcd⟩ : ∃ cd : List (BitVec 8), cd = (Zs.drop 1).take 32768 := ⟨_, rfl⟩
          have HCL := Lib.hid (show cd.length = 32768 by rw [hcd, List.length_take, List.length_drop, HZL.out]; omega)
          have HRC := Lib.hid (show RowRd w6 ⟨some ⟨ZL, 1, none⟩, 32768, 32768⟩ cd by rw [hcd]; exact rowRd_cutN (BK6.out.row 0 rfl) 1 32768 32768 (by omega))
          clear hcd
          refine (pmakeB_any nmK cd 1 (some ⟨X, 0, none⟩) (some ⟨ZL, 1, none⟩) 3 3 32768 32768 w6 (BK6.out.row 7 rfl) HRC.out (by omega) (by omega) (HK.out.below BK6.out.since) (HF.out.below BK6.out.since)).mono ?_
          rw [M.nm_long HCL.out, show M.bmake nmK 1 cd = M.bseal nmK 1 cd from if_pos (M.nm_long HCL.out)]
          obtain ⟨a, ha⟩ : ∃ a, a = M.bseal nmK 1 cd := ⟨_, rfl⟩
          have HA := Lib.hid ha
          rw [← ha]
          clear ha HRC
          rintro e w7 ⟨x, rfl, AA, nA, cA, AB, mA, dA, AC, kA, lA, rfl, hnA, hmA, hkA, hB⟩
          rw [HA.out] at hnA hmA hkA
          obtain rfl : nA = 32768 := hnA.trans HCL.out
          obtain rfl : mA = 32 := hmA
          obtain rfl : kA = 32 := hkA
          have BK7 := Lib.hid ((bank_under BK6.out hB).box #[.int .i64 a.ver, .slice AA 32768 cA, .slice AB 32 dA, .slice AC 32 lA] 26 (by simp))
          clear hB BK6 hnA
          go_wp2_with fail
          generalize w7.heap.size = XA at *
          generalize w7.alloc (.cells #[.int .i64 a.ver, .slice AA 32768 cA, .slice AB 32 dA, .slice AC 32 lA] 26) = w8 at *
          refine (pmakeB_any nmK Zs 1 (some ⟨X, 0, none⟩) (some ⟨ZL, 0, none⟩) 3 3 32769 32769 w8 (BK7.out.row 11 rfl) (BK7.out.row 4 rfl) (by omega) (by omega) (HK.out.below BK7.out.since) (HF.out.below BK7.out.since)).mono ?_
          rw [M.nm_longer HZL.out, show M.bmake nmK 1 Zs = M.zeroBun from if_neg (by rw [M.nm_longer HZL.out]; decide)]
          rintro e w9 ⟨x, rfl, ZA, nZ, cZ, ZB, mZ, dZ, ZC, kZ, lZ, rfl, hnZ, hmZ, hkZ, hB⟩
          have BK9 := Lib.hid ((BK7.out.call hB.since).alloc (.cells #[.int .i64 M.zeroBun.ver, .slice ZA nZ cZ, .slice ZB mZ dZ, .slice ZC kZ lZ] 26))
          have hb9 := BK7.out.call hB.since
          have x0 := hb9.cell 0 rfl 0 rfl
          have x1 := hb9.cell 0 rfl 1 rfl
          have x2 := hb9.cell 0 rfl 2 rfl
          have x3 := hb9.cell 0 rfl 3 rfl
          have q1 : XA < w9.heap.size := block_lt_of_cell x0
          have q2 := Nat.ne_of_lt q1
          have q3 := Ne.symm q2
          clear hB BK7 hb9 hnZ hmZ hkZ
          go_wp2_with fail
          clear x0 x1 x2 x3 q1 q2 q3
          generalize w9.alloc (.cells #[.int .i64 M.zeroBun.ver, .slice ZA nZ cZ, .slice ZB mZ dZ, .slice ZC kZ lZ] 26) = w10 at *
          refine (pputB_any a AA 32768 cA AB 32 dA AC 32 lA w10 ⟨BK9.out.row 3 rfl, BK9.out.row 2 rfl, BK9.out.row 1 rfl⟩ (by omega) (by omega) (by omega)).mono ?_
          rintro e w11 ⟨PA, PN, Pc, rfl, hPN, ho, hs⟩
          rw [show M.bwrong a = 0 by rw [HA.out]; exact M.nm_sealed HCL.out]
          obtain rfl : PN = 32864 := hPN.trans (by rw [HA.out]; exact M.nm_put HCL.out)
          have BKB := Lib.hid ((BK9.out.call hs).litV #[.int .u8 0] 5 (by decide))
          have hbB := BK9.out.call hs
          have x0 := hbB.cell 0 rfl 0 rfl
          have x1 := hbB.cell 0 rfl 1 rfl
          have x2 := hbB.cell 0 rfl 2 rfl
          have x3 := hbB.cell 0 rfl 3 rfl
          have q1 : XA < w11.heap.size := block_lt_of_cell x0
          have q2 := Nat.ne_of_lt q1
          have q3 := Ne.symm q2
          clear hs ho hPN BK9 hbB
          go_wp2_with (at_builtin; refine wpList_append_bytes BKB.out rfl _ _ 22 rfl 5 infoByte Tryz.underlying22 4 AA 32768 cA a.code rfl rfl _ _ _ [0#8] rfl (RowRd.of_row (bs := [0#8]) (BKB.out.at 0 rfl)) (by omega) ?_; intro A' n' c' w12 hn' hB; (obtain rfl : n' = 32769 := hn'); have BKC := Lib.hid hB; have z1 := hB.cell 1 rfl 1 rfl; have z2 := hB.free 1 rfl 1; have BKD := Lib.hid (hB.boxSet 1 rfl 1 (.slice A' 32769 c')); have u0 := hB.cell 1 rfl 0 rfl; have u2 := hB.cell 1 rfl 2 rfl; have u3 := hB.cell 1 rfl 3 rfl; clear hB)
          clear x0 x1 x2 x3 q1 q2 q3 z1 z2 u0 u2 u3 BKB
          have BKE := Lib.hid (show Bank w (w12.setCell ⟨XA, 1, none⟩ (.slice A' 32769 c')) (boxAcc XA 26 (bunL a.ver A' 32769 c' AB 32 dA AC 32 lA) :: rowAcc AC 32 lA a.tag :: rowAcc AB 32 dA a.dig :: rowAcc A' 32769 c' (a.code ++ [0#8]) :: rowAcc (some ⟨ZL, 0, none⟩) 32769 32769 Zs :: [boxAcc X2 26 (bunL b.ver A2 3 c2 B2 32 d2 C2 32 l2), rowAcc C2 32 l2 b.tag, rowAcc B2 32 d2 b.dig, rowAcc A2 3 c2 b.code, boxAcc (X2 + 1) 3 (nmN.map (Value.int .i64)), rowAcc (some ⟨X + 1, 0, none⟩) 3 3 nmC, rowAcc (some ⟨X, 0, none⟩) 3 3 nmK]) from BKD.out.drop)
          clear BKC BKD
          generalize w12.setCell ⟨XA, 1, none⟩ (.slice A' 32769 c') = w13 at *
          have HW2 := Lib.hid (show M.bwrong ⟨a.ver, a.code ++ [0#8], a.dig, a.tag⟩ = 3 by rw [HA.out]; exact M.nm_wrong HCL.out 0#8)
          have HC2 := Lib.hid (show M.bcheckE nmK ⟨a.ver, a.code ++ [0#8], a.dig, a.tag⟩ = 4 by rw [HA.out]; exact M.nm_check HCL.out 0#8)
          refine (pputB_any ⟨a.ver, a.code ++ [0#8], a.dig, a.tag⟩ A' 32769 c' AB 32 dA AC 32 lA w13 ⟨BKE.out.row 3 rfl, BKE.out.row 2 rfl, BKE.out.row 1 rfl⟩ (by omega) (by omega) (by omega)).mono ?_
          rintro e w14 ⟨QA, QN, Qc, rfl, hQN, ho, hs⟩
          rw [HW2.out]
          have BKF := Lib.hid (BKE.out.call hs)
          have x0 := BKF.out.cell 0 rfl 0 rfl
          have x1 := BKF.out.cell 0 rfl 1 rfl
          have x2 := BKF.out.cell 0 rfl 2 rfl
          have x3 := BKF.out.cell 0 rfl 3 rfl
          clear hs ho hQN BKE
          go_wp2_with fail
          clear x0 x1 x2 x3
          refine (pcheckB_any nmK ⟨a.ver, a.code ++ [0#8], a.dig, a.tag⟩ (some ⟨X, 0, none⟩) 3 3 A' 32769 c' AB 32 dA AC 32 lA w14 (BKF.out.row 11 rfl) ⟨BKF.out.row 3 rfl, BKF.out.row 2 rfl, BKF.out.row 1 rfl⟩ (by omega) (by omega) (by omega) (by omega) (HK.out.below BKF.out.since) (HF.out.below BKF.out.since)).mono ?_
          rw [HC2.out]
          rintro e w15 ⟨rfl, hs⟩
          have BKG := Lib.hid (show Bank w w15 [boxAcc X2 26 (bunL b.ver A2 3 c2 B2 32 d2 C2 32 l2), rowAcc C2 32 l2 b.tag, rowAcc B2 32 d2 b.dig, rowAcc A2 3 c2 b.code, boxAcc (X2 + 1) 3 (nmN.map (Value.int .i64)), rowAcc (some ⟨X + 1, 0, none⟩) 3 3 nmC, rowAcc (some ⟨X, 0, none⟩) 3 3 nmK] from (BKF.out.call hs).rdrop 5)
          have x0 := BKG.out.cell 0 rfl 0 rfl
          have x1 := BKG.out.cell 0 rfl 1 rfl
          have x2 := BKG.out.cell 0 rfl 2 rfl
          have x3 := BKG.out.cell 0 rfl 3 rfl
          clear hs BKF HW2 HC2 HA HCL HZL
          go_wp2_with fail
          clear x0 x1 x2 x3
          refine (rputB_any b A2 3 c2 B2 32 d2 C2 32 l2 w15 ⟨BKG.out.row 3 rfl, BKG.out.row 2 rfl, BKG.out.row 1 rfl⟩ (by omega) (by omega) (by omega)).mono ?_
          rintro e w16 ⟨PB, N, cB, rfl, hN, ho, hs⟩
          have HNB := Lib.hid (show N ≤ 200 by
            rw [hN, HBD.out, M.bput]
            split
            · rw [M.bbytes_length]; decide
            · exact Nat.zero_le _)
          obtain ⟨ee, hee⟩ : ∃ ee : Int, ee = (M.bwrong b : Int) := ⟨_, rfl⟩
          rw [← hee]
          obtain ⟨bp, hbp⟩ : ∃ bp, bp = M.bput b := ⟨_, rfl⟩
          rw [← hbp] at ho
          have BKH := Lib.hid (show Bank w w16 (rowAcc PB N cB bp :: [boxAcc X2 26 (bunL b.ver A2 3 c2 B2 32 d2 C2 32 l2), rowAcc C2 32 l2 b.tag, rowAcc B2 32 d2 b.dig, rowAcc A2 3 c2 b.code, boxAcc (X2 + 1) 3 (nmN.map (Value.int .i64)), rowAcc (some ⟨X + 1, 0, none⟩) 3 3 nmC, rowAcc (some ⟨X, 0, none⟩) 3 3 nmK]) from BKG.out.madeB hs ho)
          have HNb := HNB.out
          clear hs ho hN hee hbp BKG
          go_wp2_with fail
          have hxor : ∀ t (x : BitVec 8), binOp .xor t (B8 x) (.int .u8 1) = pure (B8 (x ^^^ 1#8)) := fun t x => B8_xor t x 1#8
          go_loopw [24] (fun i wr => ∃ k : Nat, k ≤ N ∧ i = .int .i64 (k : Int) ∧ Bank w wr (rowAcc PB N cB bp :: [boxAcc X2 26 (bunL b.ver A2 3 c2 B2 32 d2 C2 32 l2), rowAcc C2 32 l2 b.tag, rowAcc B2 32 d2 b.dig, rowAcc A2 3 c2 b.code, boxAcc (X2 + 1) 3 (nmN.map (Value.int .i64)), rowAcc (some ⟨X + 1, 0, none⟩) 3 3 nmC, rowAcc (some ⟨X, 0, none⟩) 3 3 nmK])) (fun i _ => N - (intOf i).toNat)
          case atStart => exact ⟨0, by omega, rfl, BKH.out⟩
          case round =>
            clear BKH
            obtain ⟨k, hk, rfl, hBk⟩ := hrel
            have BK := Lib.hid hBk
            clear hBk
            have k0 : (0 : Int) ≤ (k : Int) := by omega
            rcases Nat.lt_or_ge k N with h3 | h3
            · have i3 : (k : Int) < (N : Int) := by omega
              obtain ⟨gP, rfl⟩ := own_someB (BK.out.at 0 rfl) (by show 0 < N; omega)
              have hcap := (row_room (BK.out.at 0 rfl)).1
              have j1 : k ≤ cB := by omega
              have j2 : (k : Int) ≤ (cB : Int) := by omega
              have j3 : (N : Int) ≤ (cB : Int) := by omega
              have j4 : ¬ cB = k := by omega
              clear hcap
              go_wp2_with fail
              refine (CopyBytes_any (some ⟨gP, 0, none⟩) N cB bp wr (BK.out.row 0 rfl) (by omega)).mono ?_
              rintro e w17 ⟨BC, cC, rfl, ho, hs⟩
              have BKI := Lib.hid (BK.out.madeB hs ho)
              obtain ⟨gC, rfl⟩ := own_someB ho (by omega)
              obtain ⟨y0, y1⟩ := BKI.out.byte 0 (g := gC) (N := N) (c := cC) (bs := bp) rfl k h3
              obtain ⟨y, hy⟩ : ∃ y, y = bp.getD k 0 := ⟨_, rfl⟩
              rw [← hy] at y0
              have BKJ := Lib.hid (BKI.out.rowSet 0 (g := gC) (N := N) (c := cC) (bs := bp) rfl k (y ^^^ 1#8))
              clear hs ho BK hy
              go_wp2_with (with_reducible refine wpList_store_one rfl 5 (.tmp 200) (.tmp 199) rfl ⟨gC, k, none⟩ (B8 (y ^^^ 1#8)) _ rfl rfl rfl (by kernel_rfl) y0 y1 ?_)
              clear y0 y1 BKI
              have BKK := Lib.hid (show Bank w (w17.setCell ⟨gC, k, none⟩ (B8 (y ^^^ 1#8))) (rowAcc (some ⟨gC, 0, none⟩) N cC (bp.set k (y ^^^ 1#8)) :: rowAcc (some ⟨gP, 0, none⟩) N cB bp :: [boxAcc X2 26 (bunL b.ver A2 3 c2 B2 32 d2 C2 32 l2), rowAcc C2 32 l2 b.tag, rowAcc B2 32 d2 b.dig, rowAcc A2 3 c2 b.code, boxAcc (X2 + 1) 3 (nmN.map (Value.int .i64)), rowAcc (some ⟨X + 1, 0, none⟩) 3 3 nmC, rowAcc (some ⟨X, 0, none⟩) 3 3 nmK]) from BKJ.out)
              clear BKJ
              generalize w17.setCell ⟨gC, k, none⟩ (B8 (y ^^^ 1#8)) = w18 at *
              refine (BundleGets_any (bp.set k (y ^^^ 1#8)) (some ⟨gC, 0, none⟩) N cC w18 (BKK.out.row 0 rfl) (HK.out.below BKK.out.since) (HF.out.below BKK.out.since)).mono ?_
              rintro e w19 ⟨rfl, hs⟩
              have BKL := Lib.hid (BKK.out.call hs)
              clear hs BKK
              go_wp2_with fail
              refine (BundleGets_any ((bp.drop 0).take k) (some ⟨gP, 0, none⟩) k cB w19 (by have h := rowRd_cutN (BKL.out.row 1 rfl) 0 k cB (by omega); simpa using h) (HK.out.below BKL.out.since) (HF.out.below BKL.out.since)).mono ?_
              rintro e w20 ⟨rfl, hs⟩
              have BKM := Lib.hid (BKL.out.call hs)
              clear hs BKL
              go_wp2_with fail
              refine (BundleGets_any ((bp.drop k).take (N - k)) (some ⟨gP, k, none⟩) (N - k) (cB - k) w20 (by have h := rowRd_cutN (BKM.out.row 1 rfl) k (N - k) (cB - k) (by omega); simpa using h) (HK.out.below BKM.out.since) (HF.out.below BKM.out.since)).mono ?_
              rintro e w21 ⟨rfl, hs⟩
              have BKN := Lib.hid (show Bank w w21 (rowAcc (some ⟨gP, 0, none⟩) N cB bp :: [boxAcc X2 26 (bunL b.ver A2 3 c2 B2 32 d2 C2 32 l2), rowAcc C2 32 l2 b.tag, rowAcc B2 32 d2 b.dig, rowAcc A2 3 c2 b.code, boxAcc (X2 + 1) 3 (nmN.map (Value.int .i64)), rowAcc (some ⟨X + 1, 0, none⟩) 3 3 nmC, rowAcc (some ⟨X, 0, none⟩) 3 3 nmK]) from (BKM.out.call hs).drop)
              clear hs BKM
              go_wp2_with fail
              go_roundw
              case rel => exact ⟨k + 1, by omega, by go_num, BKN.out⟩
              case measure => simp [intOf]; omega
            · have i3 : ¬ (k : Int) < (N : Int) := by omega
              obtain rfl : k = N := by omega
              have BKI := Lib.hid (BK.out.litV #[.int .u8 0] 5 (by decide))
              clear BK
              go_wp2_with (at_builtin; refine wpList_append_bytes BKI.out rfl _ _ 22 rfl 5 infoByte Tryz.underlying22 1 PB k cB bp rfl rfl _ _ _ [0#8] rfl (RowRd.of_row (bs := [0#8]) (BKI.out.at 0 rfl)) (by omega) ?_; intro A' n' c' w18 hn' hB; subst hn'; have BKJ := Lib.hid hB; clear hB)
              clear BKI
              refine (BundleGets_any (bp ++ [0#8]) A' (k + 1) c' w18 (BKJ.out.row 1 rfl) (HK.out.below BKJ.out.since) (HF.out.below BKJ.out.since)).mono ?_
              rintro e w19 ⟨rfl, hs⟩
              have BKK := Lib.hid (BKJ.out.call hs)
              clear hs BKJ
              go_wp2_with fail
              refine (BundleGets_any [] none 0 0 w19 (rowRd_none0 w19) (HK.out.below BKK.out.since) (HF.out.below BKK.out.since)).mono ?_
              rintro e w20 ⟨rfl, hs⟩
              have BKL := Lib.hid (BKK.out.call hs)
              clear hs BKK
              go_wp2_with fail
              refine (BundleChecks_any [] M.zeroBun none 0 0 none 0 0 none 0 0 none 0 0 w20 (rowRd_none0 w20) ⟨rowRd_none0 w20, rowRd_none0 w20, rowRd_none0 w20⟩ (by omega) (by omega) (by omega) (by omega) (HK.out.below BKL.out.since) (HF.out.below BKL.out.since)).mono ?_
              rintro e w21 ⟨rfl, hs⟩
              have BKM := Lib.hid (BKL.out.call hs)
              clear hs BKL
              go_wp2_with fail
              refine (awake19_any w21 (HK.out.below BKM.out.since) (HF.out.below BKM.out.since)).mono ?_
              rintro e w22 ⟨rfl, hs⟩
              have BKN := Lib.hid (BKM.out.call hs)
              clear hs BKM
              go_wp2_with fail
              go_ret
              exact ⟨rfl, BKN.out.since⟩
end Go.Proofs.YtidcfjmibljkeaaGreatDoor.K
