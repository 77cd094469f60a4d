/- The contract of barbicankit.ApartLetters at two lists of one letter each. -/
import Derived.Test.YtdmpphioflcofaaGreatLzApartLetters
namespace Go.Proofs.YtdmpphioflcofaaGreat.K
open Go Go.RowKit

def nilLs : Ls := ⟨none, 0, 0, []⟩
set_option maxHeartbeats 8000000 in
set_option maxRecDepth 100000 in
theorem ApartLetters_any {w0 : World} (S g0 g1 : Nat) (x0 x1 : M.Let) (A0 : Option Addr) (n0 c0 : Nat) (A1 : Option Addr) (n1 c1 : Nat) (e0 e1 : List EV) (w : World) (hB : Bank w0 w (BesL S g0 g1 x0 x1 A0 n0 c0 A1 n1 c1 e0 e1))
    (h0 : e0.length = n0) (h1 : e1.length = n1) (hn0 : n0 ≤ 1000) (hn1 : n1 ≤ 1000) (hd : ∀ x ∈ e0 ++ e1, x.n ≤ 1000000000) :
    Calls Tryz.prog 11 #[.slice (some ⟨S, 0, none⟩) 2 2] w fun r w' => r = .returned (.bool true) ∧ Since w0 w' := by
  have BK1 := Lib.hid ((((hB.none 35 1).none 26 1).none 22 1).box nil21L.toArray 79 (by decide))
  have HD := Lib.hid hd; have H0 := Lib.hid h0; have H1 := Lib.hid h1
  clear hB hd h0 h1
  go_enter Tryz.func11, Tryz.ntmps11
  go_wp2_with fail
  generalize hX : w.heap.size = X at *
  generalize hw1 : w.alloc (.cells #[.slice none 0 0, .slice none 0 0, .slice none 0 0, .slice none 0 0, .slice none 0 0, .slice none 0 0, .slice none 0 0, .slice none 0 0, .slice none 0 0, .slice none 0 0, .slice none 0 0, .slice none 0 0, .slice none 0 0, .slice none 0 0, .slice none 0 0, .slice none 0 0, .slice none 0 0, .slice none 0 0, .slice none 0 0, .slice none 0 0, .slice none 0 0] 79) = w1 at *
  have BK2 := Lib.hid (show BagL w0 w1 X nilLs nilLs nilLs (BesL S g0 g1 x0 x1 A0 n0 c0 A1 n1 c1 e0 e1) from by rw [← hw1]; exact BK1.out)
  clear hX hw1 BK1
  have y0 := Bank.cell BK2.out 4 rfl 0 rfl
  refine wp_loop_rounds 3 ?_
  rw [rounds_succ]
  go_wp2_with fail
  clear y0
  refine (putLettersL_any X nilLs nilLs nilLs (BesL S g0 g1 x0 x1 A0 n0 c0 A1 n1 c1 e0 e1) g0 x0 A0 n0 c0 e0 w1 BK2.out (List.mem_of_getElem? (i := 3) rfl) (List.mem_of_getElem? (i := 1) rfl) H0.out (by show 0 + n0 ≤ _; omega) (by decide) (by decide)).mono ?_
  rintro e w2 ⟨rfl, b1, u1, l1, hb1, hu1, hl1, hB2⟩
  have BK3 := Lib.hid hB2; have HB1 := Lib.hid hb1; have HU1 := Lib.hid hu1; have HL1 := Lib.hid hl1
  clear hB2 BK2 hb1 hu1 hl1
  have y1 := Bank.cell BK3.out 4 rfl 1 rfl
  go_wp2_with fail
  rw [rounds_succ]
  go_wp2_with fail
  clear y1
  refine (putLettersL_any X b1 u1 l1 (BesL S g0 g1 x0 x1 A0 n0 c0 A1 n1 c1 e0 e1) g1 x1 A1 n1 c1 e1 w2 BK3.out (List.mem_of_getElem? (i := 4) rfl) (List.mem_of_getElem? (i := 2) rfl) H1.out (by have h := HB1.out.1; have h2 := H0.out; rw [List.length_map] at h; change b1.n = 0 + _ at h; omega) (by have h := HU1.out.1; change u1.n = 0 + 1 at h; omega) (by have h := HL1.out.1; change l1.n = 0 + 1 at h; omega)).mono ?_
  rintro e w3 ⟨rfl, b2, u2, l2, hb2, hu2, hl2, hB3⟩
  have BK4 := Lib.hid hB3; have HB2 := Lib.hid (Ls.more_trans HB1.out hb2); have HU2 := Lib.hid (Ls.more_trans HU1.out hu2); have HL2 := Lib.hid (Ls.more_trans HL1.out hl2)
  clear hB3 BK3 hb2 hu2 hl2 HB1 HU1 HL1
  go_wp2_with fail
  rw [rounds_succ]
  go_wp2_with fail
  have hlen : (e0 ++ e1).length ≤ 1000000 := by rw [List.length_append, H0.out, H1.out]; omega
  refine (apartL_any X S g0 g1 x0 x1 A0 n0 c0 A1 n1 c1 e0 e1 b2 u2 l2 w3 BK4.out ?_ ?_ ?_ hn0 hn1 hlen HD.out).mono ?_
  · obtain ⟨h3, h4⟩ := HB2.out
    rw [← List.map_append] at h3 h4
    exact ⟨by rw [h3, List.length_map]; exact Nat.zero_add _, h4⟩
  · obtain ⟨h3, h4⟩ := HU2.out
    exact ⟨h3, h4⟩
  · obtain ⟨h3, h4⟩ := HL2.out
    exact ⟨h3, h4⟩
  rintro r w4 ⟨rfl, hs⟩
  have HFIN := Lib.hid hs
  clear hs
  go_wp2_with fail
  go_ret
  exact ⟨rfl, HFIN.out⟩
end Go.Proofs.YtdmpphioflcofaaGreat.K
