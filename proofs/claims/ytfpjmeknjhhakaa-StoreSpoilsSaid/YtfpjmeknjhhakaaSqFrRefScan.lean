/- The contract of the reference's Scan. -/
import Derived.Test.YtfpjmeknjhhakaaSq8
import Derived.Test.YtfpjmeknjhhakaaSqFrRefPut
namespace Go.Proofs.Ytfpjmeknjhhakaa.K
open Go Go.RowKit

theorem infoRFrame : (Try.prog.info? 46).map (fun i => (i.zero, i.size, i.bytes)) = some (some (.agg #[.int .i64 0, .slice none 0 0]), 2, 32) := by kernel_rfl
def rfrAcc (Fa : Option Addr) (cF : Nat) (ps : List FR) : Acc := ⟨.slice Fa ps.length cF, ps.length, 46, 2, ps.flatMap FR.cells⟩
def RScanPost (w : World) (l0 : List (BitVec 8)) (e : Ending) (W' : World) : Prop := ∃ (ps : List FR) (Fa : Option Addr) (cF u : Nat) (s : Bool), e = .returned (.tuple #[.slice Fa ps.length cF, .int .i64 (u : Int), .bool s]) ∧ F.scan l0 = (ps.map FR.fr, u, s) ∧ u ≤ l0.length ∧ ps.length * 9 ≤ u ∧ Bank w W' (rfrAcc Fa cF ps :: ps.reverse.map FR.acc)
def RSc (w : World) (l0 : List (BitVec 8)) (n : Nat) (v5 v6 : Value) (W : World) : Prop := ∃ (ps : List FR) (u : Nat) (Fa : Option Addr) (cF : Nat), v5 = .slice Fa ps.length cF ∧ v6 = .int .i64 (u : Int) ∧ u ≤ n ∧ ps.length * 9 ≤ u ∧ F.scan l0 = (ps.map FR.fr ++ (F.scan (l0.drop u)).1, u + (F.scan (l0.drop u)).2.1, (F.scan (l0.drop u)).2.2) ∧ Bank w W (rfrAcc Fa cF ps :: ps.reverse.map FR.acc)
theorem num4_take (l : List (BitVec 8)) : F.num4 (l.take 4) = F.num4 l := by
  match l with
  | [] => rfl
  | [_] => rfl
  | [_, _] => rfl
  | [_, _, _] => rfl
  | _ :: _ :: _ :: _ :: _ => rfl
theorem box_new (w : World) (a b : Value) (t : TypeId) : (w.alloc (.cells #[a, b] t)).cell? ⟨w.heap.size, 0, none⟩ = some a := by rw [World.cell?_alloc_new]; rfl
theorem box_new1 (w : World) (a b : Value) (t : TypeId) : (w.alloc (.cells #[a, b] t)).cell? ⟨w.heap.size, 1, none⟩ = some b := by rw [World.cell?_alloc_new]; rfl
theorem box_free (w : World) (a b : Value) (t : TypeId) (j : Nat) : (w.alloc (.cells #[a, b] t)).frozen? ⟨w.heap.size, j, none⟩ = false := frozen_of_row _ _ j #[a, b] t (heap_alloc_new w _)
theorem rnumber_take (b o c : Nat) (l : List (BitVec 8)) (w : World) (hr : RowRd w ⟨some ⟨b, o, none⟩, 4, c⟩ (l.take 4)) :
    Calls Try.prog 78 #[.slice (some ⟨b, o, none⟩) 4 c] w fun e w' => e = .returned (W32 (F.num4 l)) ∧ Below w.heap.size w w' := by
  rw [← num4_take l]
  exact (rnumber_any b o 4 c _ w hr (by omega) (by omega)).mono fun e w' ⟨he, q, hw⟩ => ⟨he, by subst hw; exact below_drewN (Below.refl _ _) q⟩
set_option maxHeartbeats 8000000 in
set_option maxRecDepth 100000 in
theorem rscan_any (A : Option Addr) (n c : Nat) (l0 : List (BitVec 8)) (w : World) (hr : RowRd w ⟨A, n, c⟩ l0) (hn : n ≤ c) (hc : c ≤ 9223372036854775807) (hl0 : l0.length ≤ 100000000000) :
    Calls Try.prog 41 #[.slice A n c] w (RScanPost w l0) := by
  have HR := Lib.hid hr
  have HLEN := Lib.hid (show l0.length = n from hr.len)
  have HB0 := Lib.hid (show Bank w w (rfrAcc none 0 [] :: ([] : List FR).reverse.map FR.acc) from (Bank.nil (Below.refl w.heap.size w)).none _ _)
  have hn11 : n ≤ 100000000000 := by rw [← HLEN.out]; exact hl0
  clear hr
  go_enter Try.func41, Try.ntmps41
  go_wp2_with fail
  go_loopw [5, 6] (fun v5 v6 wr => RSc w l0 n v5 v6 wr) (fun _ i _ => n - (intOf i).toNat)
  case atStart => exact ⟨[], 0, none, 0, rfl, rfl, Nat.zero_le _, Nat.zero_le _, by simp, HB0.out⟩
  case round =>
    clear HB0
    obtain ⟨ps, u, Fa, cF, rfl, rfl, hu, h9, heq, hB⟩ := hrel
    have HB := Lib.hid hB; have HEQ := Lib.hid heq
    clear hB heq
    have hcv := fun w (x : BitVec 32) => conv_W32_int (P := Try.prog) w 40 3 x Try.underlying40 Try.underlying3
    by_cases hlt : u < n
    · have i1 : (u : Int) < (n : Int) := by omega
      obtain ⟨b, o, hA, _⟩ := HR.out.rd 0 (by rw [HLEN.out]; omega)
      have hA' : A = some ⟨b, o, none⟩ := hA
      clear hA
      subst hA'
      have HR2 := Lib.hid (show RowRd w ⟨some ⟨b, o + u, none⟩, n - u, c - u⟩ (l0.drop u) by
        have := rowRd_cut HR.out u (n - u) (c - u) (by omega); rwa [List.take_of_length_le (by rw [List.length_drop, HLEN.out]; omega)] at this)
      have HL2 := Lib.hid (show (l0.drop u).length = n - u by rw [List.length_drop, HLEN.out])
      have hcu : ¬ c = u := by omega
      have t0 : (0 : Int) ≤ (u : Int) := by omega
      have t1 : (u : Int) ≤ (n : Int) := by omega
      have t2 : (u : Int) ≤ (c : Int) := by omega
      have t3 : u ≤ c := by omega
      have hDD := Lib.hid (show ∀ m, (l0.drop u).drop m = l0.drop (u + m) from fun m => List.drop_drop)
      go_upto_region 5 with fail
      obtain ⟨n2, hn2⟩ : ∃ n2, n2 = n - u := ⟨_, rfl⟩
      obtain ⟨c2, hc2⟩ : ∃ c2, c2 = c - u := ⟨_, rfl⟩
      obtain ⟨o2, ho2⟩ : ∃ o2, o2 = o + u := ⟨_, rfl⟩
      obtain ⟨l, hl⟩ : ∃ l, l = l0.drop u := ⟨_, rfl⟩
      rw [← hn2, ← hc2, ← ho2]
      rw [← hn2, ← hc2, ← ho2, ← hl] at HR2
      rw [← hn2, ← hl] at HL2
      rw [← hl] at HEQ
      have hncu : u + n2 = n := by omega
      have hnc2 : n2 ≤ c2 := by omega
      have hc263 : c2 ≤ 9223372036854775807 := by omega
      have HDD := Lib.hid (show ∀ m, l0.drop (u + m) = l.drop m from fun m => by rw [hl, hDD.out])
      clear hn2 hc2 ho2 hl hDD hcu t1 t2 t3
      have hend : ∀ s W, F.first l = (none, s) → Bank w W (rfrAcc Fa cF ps :: ps.reverse.map FR.acc) → RScanPost w l0 (.returned (.tuple #[.slice Fa ps.length cF, .int .i64 (u : Int), .bool s])) W := fun s W hf hW =>
        ⟨ps, Fa, cF, u, s, rfl, by rw [HEQ.out, F.scan_none hf]; simp, by rw [HLEN.out]; omega, h9, hW⟩
      have HEND := Lib.hid hend
      clear hend
      by_cases h9' : n2 < 9
      · have i9 : (n2 : Int) < 9 := by omega
        have HFIN := Lib.hid (HEND.out false _ (first_few l (by rw [HL2.out]; exact h9')) HB.out)
        go_wp2_with fail
        go_ret3
        exact HFIN.out
      · have i9 : ¬ (n2 : Int) < 9 := by omega
        have n9 := Lib.hid (show ¬ l.length < 9 by rw [HL2.out]; exact h9')
        have r1 := Lib.hid (show RowRd w ⟨some ⟨b, o2 + 1, none⟩, 4, c2 - 1⟩ ((l.drop 1).take 4) from rowRd_cut HR2.out 1 4 (c2 - 1) (by omega))
        have t5 : (5 : Int) ≤ (c2 : Int) := by omega
        go_wp2_with fail
        refine (rnumber_any b (o2 + 1) 4 (c2 - 1) _ _ (Since.row HB.out.since r1.out) (by omega) (by omega)).mono ?_
        rintro e w1 ⟨rfl, q, rfl⟩
        have BK1 := Lib.hid (HB.out.drewN q)
        obtain ⟨v, hv⟩ : ∃ v, v = F.num4 (l.drop 1) := ⟨_, rfl⟩
        rw [num4_take, ← hv]
        have HV := Lib.hid hv
        clear hv
        generalize wr.drewN q = w1 at *
        have hg : ∀ t, binOp .gtr t (W32 v) (.int .u32 262144) = pure (.bool (decide (262144 < v.toNat))) := fun t => W32_gtr_lit t v 262144 (by omega)
        by_cases h2 : 262144 < v.toNat
        · have d2 : decide (262144 < v.toNat) = true := by simpa using h2
          have HFIN := Lib.hid (HEND.out true _ (first_big l n9.out (by rw [← HV.out]; exact h2)) BK1.out)
          go_wp2_with fail
          go_ret3
          exact HFIN.out
        · have d2 : decide (262144 < v.toNat) = false := by simpa using h2
          have hv5 : (v.toNat : Int) ≤ 262144 := by omega
          have hv0 : (0 : Int) ≤ (v.toNat : Int) := by omega
          by_cases h3 : n2 < 9 + v.toNat
          · have i3 : (n2 : Int) < 9 + (v.toNat : Int) := by omega
            have HFIN := Lib.hid (HEND.out false _ (first_short l n9.out (by rw [← HV.out]; exact h2) (by rw [← HV.out, HL2.out]; exact h3)) BK1.out)
            go_wp2_with fail
            go_ret3
            exact HFIN.out
          · have i3 : ¬ (n2 : Int) < 9 + (v.toNat : Int) := by omega
            obtain ⟨N, hN⟩ : ∃ N, N = v.toNat := ⟨_, rfl⟩
            replace hcv := fun w => hcv w v
            rw [← hN] at i3 h3 hv5 hv0 h2 hcv
            have HN := Lib.hid hN
            have RS := Lib.hid (Since.row BK1.out.since HR2.out)
            have hcell : ∀ w', Since w w' → w'.cell? ⟨b, o2, none⟩ = some (B8 (l.getD 0 0)) := fun w' hw' => by
              obtain ⟨b', o', e, hcx⟩ := (Since.row hw' HR2.out).rd 0 (by rw [HL2.out]; omega)
              obtain ⟨rfl, rfl⟩ : b = b' ∧ o2 = o' := by simpa using e
              rw [show b = b from rfl, ← Nat.add_zero o2, hcx]
              simp [show 0 < l.length by rw [HL2.out]; omega]
            have K10H := Lib.hid hcell
            have RD9 := Lib.hid (show ∀ A9, A9 = (if c2 = 9 then some (⟨b, o2, none⟩ : Addr) else some ⟨b, o2 + 9, none⟩) → RowRd w ⟨A9, N, c2 - 9⟩ ((l.drop 9).take N) from fun A9 e => by
              by_cases h : c2 = 9
              · rw [if_pos h] at e
                subst e
                have hN0 : N = 0 := by omega
                subst hN0
                exact ⟨by rw [List.take_zero]; exact Rd.of_nil _ _, rfl, fun h => by cases h⟩
              · rw [if_neg h] at e
                subst e
                exact rowRd_cut HR2.out 9 N _ (by omega))
            clear hcell
            have hcv2 := fun w x => conv_B8_num (P := Try.prog) w 5 3 x Try.underlying5 Try.underlying3
            go_upto_region 12 with fail
            rw [← hN]
            clear hN
            go_cut [9] (fun s9 wx => ∃ X, s9 = .pointer (some ⟨X, 0, none⟩) ∧ ∃ D d, Bank w wx (boxAcc X 46 [.int .i64 ((l.getD 0 0).toNat : Int), .slice D N d] :: rowAcc D N d ((l.drop 9).take N) :: rfrAcc Fa cF ps :: ps.reverse.map FR.acc))
            case first =>
              have hB := BK1.out
              have hsl := K10H.out _ hB.since.drew
              have hsl2 := K10H.out _ (hB.since.alloc (.cells #[] 5)).drew
              have t0 : (0 : Int) < (n2 : Int) := by omega
              have t1 : (9 : Int) ≤ 9 + (N : Int) := by omega
              have t2 : 9 + (N : Int) ≤ (c2 : Int) := by omega
              have t3 : (9 + (N : Int)).toNat = 9 + N := by omega
              have t4 : 9 + N - 9 = N := by omega
              have t5 : (0 : Int) ≤ 9 + (N : Int) := by omega
              have t6 : 0 < n2 := by omega
              have t7 : IntKind.i64.wrap (9 + (N : Int)) = 9 + (N : Int) := IntWalk.i64_in _ (by omega)
              have z0 := fun w' => box_new w' (.int .i64 0) (.slice none 0 0) 46
              have z1 := fun w' => box_new1 w' (.int .i64 0) (.slice none 0 0) 46
              have z2 := fun w' j => box_free w' (.int .i64 0) (.slice none 0 0) 46 j
              generalize l.getD 0 0 = y at *
              clear HEND HDD HV HN hg
              by_cases hc9 : c2 = 9
              · have r9 := RD9.out (some ⟨b, o2, none⟩) (by rw [if_pos hc9])
                have hn9 : n2 = 9 := by omega
                have hN0 : N = 0 := by omega
                subst hc9 hn9 hN0
                clear t0 t1 t2 t3 t4 t5 t6 t7 i3 hv5 hv0
                have t7 : IntKind.i64.wrap 9 = 9 := by decide
                go_region_held3 (fun w' => w'.cell? ⟨b, o2, none⟩ = some (B8 y))
                  (first
                    | with_reducible exact hsl
                    | with_reducible exact hsl2
                    | with_reducible exact K10H.out _ hB.since
                    | with_reducible exact K10H.out _ (Since.alloc hB.since _)
                    | with_reducible exact K10H.out _ (Since.drew (Since.alloc hB.since _))
                    | with_reducible exact K10H.out _ (Since.drew (Since.alloc (Since.alloc hB.since _) _))
                    | with_reducible exact K10H.out _ (Bank.boxSet (Bank.boxSet hB 1 rfl 0 _) 1 rfl 1 _).since
                    | with_reducible exact K10H.out _ (Bank.boxSet (Bank.boxSet (Bank.box hB #[.int .i64 0, .slice none 0 0] 46 (by simp)) 0 rfl 0 _) 0 rfl 1 _).since
                    | fail "keep")
                  (first
                    | (((with_reducible refine step_bank (Bank.drew (Bank.lit0 hB _)) ?_); intro hB); refine step_append_bytes hB rfl _ _ 27 rfl 5 infoByte Try.underlying27 0 _ _ _ [] rfl rfl _ _ _ _ rfl (Since.row hB.since r9) (by omega) ?_; intro A4 n4 c4 w4 hn4 hB; have hn4' := Lib.hid hn4; clear hn4; dsimp only [List.set] at hB; rw [List.nil_append] at hB)
                    | (((with_reducible refine step_bank (Bank.drew (Bank.lit0 (Bank.box hB #[.int .i64 0, .slice none 0 0] 46 (by simp)) _)) ?_); intro hB; simp only [World.size_alloc] at hB); refine step_append_bytes hB rfl _ _ 27 rfl 5 infoByte Try.underlying27 0 _ _ _ [] rfl rfl _ _ _ _ rfl (Since.row hB.since r9) (by omega) ?_; intro A4 n4 c4 w4 hn4 hB; have hn4' := Lib.hid hn4; clear hn4; dsimp only [List.set] at hB; rw [List.nil_append] at hB; have x0 := hB.cell 1 rfl 0 rfl; have x1 := hB.cell 1 rfl 1 rfl; have y0 := hB.free 1 rfl 0; have y1 := hB.free 1 rfl 1)
                    | (((with_reducible refine step_bank (Bank.drew (Bank.box (Bank.lit0 hB _) #[.int .i64 0, .slice none 0 0] 46 (by simp))) ?_); intro hB); refine step_append_bytes hB rfl _ _ 27 rfl 5 infoByte Try.underlying27 1 _ _ _ [] rfl rfl _ _ _ _ rfl (Since.row hB.since r9) (by omega) ?_; intro A4 n4 c4 w4 hn4 hB; have hn4' := Lib.hid hn4; clear hn4; dsimp only [List.set] at hB; rw [List.nil_append] at hB; have hB := hB.swap; simp only [World.size_alloc] at hB; have x0 := hB.cell 1 rfl 0 rfl; have x1 := hB.cell 1 rfl 1 rfl; have y0 := hB.free 1 rfl 0; have y1 := hB.free 1 rfl 1)
                    | fail "arm")
                all_goals
                  (first
                    | have HFIN := Lib.hid (Bank.swap (Bank.boxSet (Bank.boxSet hB 1 rfl 0 (.int .i64 (y.toNat : Int))) 1 rfl 1 (.slice A4 n4 c4)))
                    | have HFIN := Lib.hid (Bank.box hB #[.int .i64 (y.toNat : Int), .slice A4 n4 c4] 46 (by simp))
                    | fail "fin")
                  have hn4 := hn4'.out
                  rw [Nat.zero_add] at hn4
                  subst hn4
                  clear hB hsl hsl2 hn4'
                  go_wp2_with fail
                  go_meet
                  exact ⟨_, rfl, A4, c4, HFIN.out⟩
              · have r9 := RD9.out (some ⟨b, o2 + 9, none⟩) (by rw [if_neg hc9])
                go_region_held3 (fun w' => w'.cell? ⟨b, o2, none⟩ = some (B8 y))
                  (first
                    | with_reducible exact hsl
                    | with_reducible exact hsl2
                    | with_reducible exact K10H.out _ hB.since
                    | with_reducible exact K10H.out _ (Since.alloc hB.since _)
                    | with_reducible exact K10H.out _ (Since.drew (Since.alloc hB.since _))
                    | with_reducible exact K10H.out _ (Since.drew (Since.alloc (Since.alloc hB.since _) _))
                    | with_reducible exact K10H.out _ (Bank.boxSet (Bank.boxSet hB 1 rfl 0 _) 1 rfl 1 _).since
                    | with_reducible exact K10H.out _ (Bank.boxSet (Bank.boxSet (Bank.box hB #[.int .i64 0, .slice none 0 0] 46 (by simp)) 0 rfl 0 _) 0 rfl 1 _).since
                    | fail "keep")
                  (first
                    | (((with_reducible refine step_bank (Bank.drew (Bank.lit0 hB _)) ?_); intro hB); refine step_append_bytes hB rfl _ _ 27 rfl 5 infoByte Try.underlying27 0 _ _ _ [] rfl rfl _ _ _ _ rfl (Since.row hB.since r9) (by omega) ?_; intro A4 n4 c4 w4 hn4 hB; have hn4' := Lib.hid hn4; clear hn4; dsimp only [List.set] at hB; rw [List.nil_append] at hB)
                    | (((with_reducible refine step_bank (Bank.drew (Bank.lit0 (Bank.box hB #[.int .i64 0, .slice none 0 0] 46 (by simp)) _)) ?_); intro hB; simp only [World.size_alloc] at hB); refine step_append_bytes hB rfl _ _ 27 rfl 5 infoByte Try.underlying27 0 _ _ _ [] rfl rfl _ _ _ _ rfl (Since.row hB.since r9) (by omega) ?_; intro A4 n4 c4 w4 hn4 hB; have hn4' := Lib.hid hn4; clear hn4; dsimp only [List.set] at hB; rw [List.nil_append] at hB; have x0 := hB.cell 1 rfl 0 rfl; have x1 := hB.cell 1 rfl 1 rfl; have y0 := hB.free 1 rfl 0; have y1 := hB.free 1 rfl 1)
                    | (((with_reducible refine step_bank (Bank.drew (Bank.box (Bank.lit0 hB _) #[.int .i64 0, .slice none 0 0] 46 (by simp))) ?_); intro hB); refine step_append_bytes hB rfl _ _ 27 rfl 5 infoByte Try.underlying27 1 _ _ _ [] rfl rfl _ _ _ _ rfl (Since.row hB.since r9) (by omega) ?_; intro A4 n4 c4 w4 hn4 hB; have hn4' := Lib.hid hn4; clear hn4; dsimp only [List.set] at hB; rw [List.nil_append] at hB; have hB := hB.swap; simp only [World.size_alloc] at hB; have x0 := hB.cell 1 rfl 0 rfl; have x1 := hB.cell 1 rfl 1 rfl; have y0 := hB.free 1 rfl 0; have y1 := hB.free 1 rfl 1)
                    | fail "arm")
                all_goals
                  (first
                    | have HFIN := Lib.hid (Bank.swap (Bank.boxSet (Bank.boxSet hB 1 rfl 0 (.int .i64 (y.toNat : Int))) 1 rfl 1 (.slice A4 n4 c4)))
                    | have HFIN := Lib.hid (Bank.box hB #[.int .i64 (y.toNat : Int), .slice A4 n4 c4] 46 (by simp))
                    | fail "fin")
                  have hn4 := hn4'.out
                  rw [Nat.zero_add] at hn4
                  subst hn4
                  clear hB hsl hsl2 hn4'
                  go_wp2_with fail
                  go_meet
                  exact ⟨_, rfl, A4, c4, HFIN.out⟩
            case rest =>
              obtain ⟨X, rfl, D, d, hB⟩ := hcut
              obtain ⟨yb, hyb⟩ : ∃ yb, yb = l.getD 0 0 := ⟨_, rfl⟩
              rw [← hyb] at hB
              have HYB := Lib.hid hyb
              have BK5 := Lib.hid hB
              have R5 := Lib.hid (show RowRd w ⟨some ⟨b, o2, none⟩, 5, c2⟩ (l.take 5) by simpa using rowRd_cut HR2.out 0 5 c2 (by omega))
              have R59 := Lib.hid (show RowRd w ⟨some ⟨b, o2 + 5, none⟩, 4, c2 - 5⟩ ((l.drop 5).take 4) from rowRd_cut HR2.out 5 4 (c2 - 5) (by omega))
              have t9 : (9 : Int) ≤ (c2 : Int) := by omega
              have hN262 : N ≤ 262144 := by omega
              clear hyb hB BK1 RS RD9
              generalize hwc : wc = w5 at *
              clear hwc
              go_upto_region 13 with fail
              go_cut [60] (fun s60 wx => s60 = .bool (F.num4 (l.drop 5) != F.fsum (l.take 5 ++ (l.drop 9).take N)) ∧ Bank w wx (boxAcc X 46 [.int .i64 (yb.toNat : Int), .slice D N d] :: rowAcc D N d ((l.drop 9).take N) :: rfrAcc Fa cF ps :: ps.reverse.map FR.acc))
              case first =>
                have c5 : ¬ c2 = 5 := by omega
                have hB := BK5.out
                have x1 := hB.cell 0 rfl 1 rfl
                have y1 := (Bank.lit0 hB 5).cell 1 rfl 1 rfl
                clear HEND HDD HV HN hg HYB i3 hv5 hv0
                go_region_law (first
                  | (go_simp; go_at_call 78; (first | ((with_reducible refine calls_bank hB ?_); intro hB) | ((with_reducible refine calls_bank (Bank.drew hB) ?_); intro hB) | ((with_reducible refine calls_bank (Bank.drew (Bank.lit0 hB _)) ?_); intro hB) | ((with_reducible refine calls_bank (Bank.lit0 hB _) ?_); intro hB)); refine (rnumber_take b (o2 + 5) (c2 - 5) (l.drop 5) _ (Since.row hB.since R59.out)).mono ?_; rintro e w3 ⟨rfl, hb3⟩; have hB := hB.call hb3; clear hb3; (first | (have x1 := hB.cell 0 rfl 1 rfl; have y1 := (Bank.lit0 hB 5).cell 1 rfl 1 rfl) | have x1 := hB.cell 1 rfl 1 rfl | skip))
                  | (go_simp; go_at_call 21; refine (rsum_since (hB.row 0 rfl) (by omega)).mono ?_; rintro e w3 ⟨rfl, hb3⟩; have hB := hB.call hb3; clear hb3)
                  | ((first | ((with_reducible refine step_bank hB ?_); intro hB) | ((with_reducible refine step_bank (Bank.lit0 hB _) ?_); intro hB) | ((with_reducible refine step_bank (Bank.drew (Bank.lit0 hB _)) ?_); intro hB)); refine step_append_bytes hB rfl (.tmp 52) (.tmp 54) 27 rfl 5 infoByte Try.underlying27 0 _ _ _ [] rfl rfl _ _ _ _ rfl (Since.row hB.since R5.out) (by omega) ?_; intro A4 n4 c4 w4 hn4 hB; have hn4' := Nat.le_of_eq hn4; clear hn4; dsimp only [List.set] at hB; rw [List.nil_append] at hB; have x1 := hB.cell 1 rfl 1 rfl)
                  | (refine step_append_bytes hB rfl (.tmp 55) (.tmp 57) 27 rfl 5 infoByte Try.underlying27 0 _ _ _ _ rfl rfl _ _ _ _ rfl (hB.row 2 rfl) (by omega) ?_; intro A5 n5 c5 w5 hn5 hB; have hn5' := Nat.le_of_eq hn5; clear hn5; dsimp only [List.set] at hB)
                  | fail "arm")
                all_goals
                  have HFIN := Lib.hid (Bank.drop hB)
                  clear hB x1 y1 hn4' hn5'
                  go_wp2_with fail
                  go_meet
                  exact ⟨rfl, HFIN.out⟩
              case rest =>
                obtain ⟨rfl, hB⟩ := hcut
                have BK6 := Lib.hid hB
                clear hB BK5
                generalize hwc : wc = w6 at *
                clear hwc
                by_cases heq : F.num4 (l.drop 5) = F.fsum (l.take 5 ++ (l.drop 9).take N)
                case neg =>
                  have hne : (F.num4 (l.drop 5) != F.fsum (l.take 5 ++ (l.drop 9).take N)) = true := by simpa using heq
                  rw [hne]
                  have HFIN := Lib.hid (HEND.out true _ (first_bad l n9.out (by rw [← HV.out, ← HN.out]; exact h2) (by rw [← HV.out, ← HN.out, HL2.out]; exact h3) (by rw [← HV.out, ← HN.out]; exact heq)) BK6.out.drop.drop)
                  clear hne heq
                  go_wp2_with fail
                  go_ret3
                  exact HFIN.out
                case pos =>
                  have hne : (F.num4 (l.drop 5) != F.fsum (l.take 5 ++ (l.drop 9).take N)) = false := by simpa using heq
                  rw [hne]
                  have HFI := Lib.hid (show F.first l = (some ⟨(yb.toNat : Int), (l.drop 9).take N⟩, false) by rw [HYB.out, HN.out, HV.out]; exact first_good l n9.out (by rw [← HV.out, ← HN.out]; exact h2) (by rw [← HV.out, ← HN.out, HL2.out]; exact h3) (by rw [← HV.out, ← HN.out]; exact heq))
                  have hl9 := Lib.hid (show ((l.drop 9).take N).length = N by rw [List.length_take, List.length_drop, HL2.out]; omega)
                  clear hne heq
                  have x0 := BK6.out.cell 0 rfl 0 rfl
                  have x1 := BK6.out.cell 0 rfl 1 rfl
                  have u0 : IntKind.i64.wrap ((u : Int) + 9) = (u : Int) + 9 := IntWalk.i64_in _ (by omega)
                  have u1 : IntKind.i64.wrap ((u : Int) + 9 + (N : Int)) = (u : Int) + 9 + (N : Int) := IntWalk.i64_in _ (by omega)
                  go_wp2_with (at_builtin; refine wpList_append_bankG (BK6.out.alloc _) rfl _ _ 32 rfl 46 _ 2 32 infoRFrame Try.underlying32 rfl (by decide) 2 _ _ _ (ps.flatMap FR.cells) rfl rfl ⟨w6.heap.size, 0, none⟩ 1 1 [.int .i64 (yb.toNat : Int), .slice D N d] rfl rfl (cells_lit2 _ _ _ _) (by intro v hv; simp at hv; rcases hv with rfl | rfl <;> rfl) (by unfold maxLen; omega) (by omega) ?_; intro A3 n3 c3 w3 hn3 hB3 hg3 ho3; dsimp only [List.set] at hB3; have HB3 := Lib.hid hB3; have HN3 := Lib.hid hn3; clear hn3 hB3 hg3 ho3)
                  go_roundw
                  case rel =>
                    have hn3 := HN3.out
                    subst hn3
                    have h := HB3.out.drop.swap
                    refine ⟨ps ++ [FR.mk (yb.toNat : Int) ⟨D, N, d⟩ ((l.drop 9).take N)], u + (9 + N), A3, c3, ?_, ?_, ?_, ?_, ?_, ?_⟩
                    · rw [List.length_append]; rfl
                    · rw [show ((u + (9 + N) : Nat) : Int) = (u : Int) + 9 + (N : Int) by omega]
                    · omega
                    · rw [List.length_append, List.length_singleton]; omega
                    · rw [HEQ.out, F.scan_some HFI.out, HDD.out]
                      have e : (F.Fr.mk (yb.toNat : Int) ((l.drop 9).take N)).data.length = N := hl9.out
                      rw [e]
                      simp [FR.fr, Nat.add_assoc]
                    · rw [show rfrAcc A3 c3 (ps ++ [FR.mk (yb.toNat : Int) ⟨D, N, d⟩ ((l.drop 9).take N)]) :: (ps ++ [FR.mk (yb.toNat : Int) ⟨D, N, d⟩ ((l.drop 9).take N)]).reverse.map FR.acc = ⟨.slice A3 (ps.length + 1) c3, ps.length + 1, 46, 2, ps.flatMap FR.cells ++ [.int .i64 (yb.toNat : Int), .slice D N d]⟩ :: rowAcc D N d ((l.drop 9).take N) :: ps.reverse.map FR.acc by
                        simp [rfrAcc, FR.cells, FR.acc, Rw.v, rowAcc]]
                      exact h
                  case measure => simp [intOf]; omega
    · have i1 : ¬ (u : Int) < (n : Int) := by omega
      have hun : u = n := by omega
      have HFIN := Lib.hid (show RScanPost w l0 (.returned (.tuple #[.slice Fa ps.length cF, .int .i64 (u : Int), .bool false])) wr from
        ⟨ps, Fa, cF, u, false, rfl, by rw [HEQ.out, List.drop_of_length_le (by rw [HLEN.out]; omega), F.scan_nil]; simp, by rw [HLEN.out]; omega, h9, HB.out⟩)
      clear hun
      go_wp2_with fail
      go_ret3
      exact HFIN.out
end Go.Proofs.Ytfpjmeknjhhakaa.K
