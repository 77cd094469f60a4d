/- Merged: RefRight12, RefRight34, RefRight5, RefRight, RefLGet, LetGets. -/
import Derived.Test.YtdmpphioflcofaaGreatLz7
import Derived.Deep.RegionHeld3
/- (made by genrefright.py) The reference's Right at letters of the kinds 12. -/
namespace Go.Proofs.YtdmpphioflcofaaGreat.K
open Go Go.RowKit

set_option maxHeartbeats 16000000 in
set_option maxRecDepth 100000 in
theorem rRight_1 (l : M.Let) (A : Option Addr) (n c : Nat) (w : World) (hn : l.ents.length = n) (hE : EntsRd w A l.ents) (hD : ∀ e ∈ l.ents, e.data.length ≤ 4611686018427387904) (hs : 1 ≤ l.src ∧ l.src ≤ 7) (hd : 1 ≤ l.dst ∧ l.dst ≤ 7) (h4 : n ≤ 4) (hk : l.kind = 1#8) :
    Calls Tryz.prog 17 #[.agg #[B8 l.kind, .int .i64 l.src, .int .i64 l.dst, .int .i64 l.term, .int .i64 l.index, .int .i64 l.was, .bool l.ok, .int .i64 l.commit, .int .i64 l.version, .slice A n c]] w (SaidB w (M.lright l)) := by
  have href : l.ents.all (fun e => M.tm e.term) = true → M.lright l = ((l.term == l.term && l.index == l.index && l.was == l.was && (l.ok == false) && l.commit == 0 && l.version == 0 && decide (n = 0)) && M.tm l.term && M.tm l.was && M.ix l.index && M.ix l.commit) := fun ht => by subst hn; exact M.ref1 l hs hd hk
  have HREF := Lib.hid href; have HE := Lib.hid hE; have HN := Lib.hid hn; have HD := Lib.hid hD
  have HSE : Hid (∀ w', Since w w' → Calls Tryz.prog 31 #[.slice A n c, .slice none 0 0] w' (SaidB w' (decide (n = 0)))) := Lib.hid (fun w' hw => by
    by_cases h0 : n = 0
    · rw [decide_eq_true h0]
      subst h0
      have he : l.ents = [] := List.eq_nil_of_length_eq_zero HN.out
      exact SameEntries_eq A 0 c none 0 [] w' rfl (EntsRd.nil _ _) (EntsRd.nil _ _) (by omega) (fun _ h => by cases h)
    · rw [decide_eq_false h0]
      exact SameEntries_ne A n c none 0 0 w' h0)
  have BK0 := Lib.hid (((Bank.nil (Below.refl w.heap.size w)).box #[B8 l.kind, .int .i64 l.src, .int .i64 l.dst, .int .i64 l.term, .int .i64 l.index, .int .i64 l.was, .bool l.ok, .int .i64 l.commit, .int .i64 l.version, .slice A n c] 28 (by simp)).box #[B8 l.kind, .int .i64 l.src, .int .i64 l.dst, .int .i64 l.term, .int .i64 l.index, .int .i64 l.was, .bool false, .int .i64 0, .int .i64 0, .slice none 0 0] 28 (by simp))
  rw [World.size_alloc] at BK0
  have i1 : ¬ l.src < 1 := by omega
  have i2 : ¬ 7 < l.src := by omega
  have i3 : ¬ l.dst < 1 := by omega
  have i4 : ¬ 7 < l.dst := by omega
  have i5 : ¬ (4 : Int) < (n : Int) := by omega
  have d1 : decide (l.src < 1) = false := by simpa using i1
  have d2 : decide (7 < l.src) = false := by simpa using i2
  have d3 : decide (l.dst < 1) = false := by simpa using i3
  have d4 : decide (7 < l.dst) = false := by simpa using i4
  have d5 : decide ((4 : Int) < (n : Int)) = false := by simpa using i5
  have q1 : ∀ t, binOp .eql t (B8 l.kind) (.int .u8 1) = pure (.bool true) := fun t => by have := B8_eql t l.kind 1#8; rw [show (l.kind == 1#8) = true by rw [hk]; rfl] at this; exact this
  clear href hE hn hD hs hd hk
  go_enter Tryz.func17, Tryz.ntmps17
  go_wp2_with fail
  have BK1 := Lib.hid (show Bank w _ [boxAcc (w.heap.size + 1) 28 [B8 l.kind, .int .i64 l.src, .int .i64 l.dst, .int .i64 l.term, .int .i64 l.index, .int .i64 l.was, .bool false, .int .i64 0, .int .i64 0, .slice none 0 0], boxAcc w.heap.size 28 #[B8 l.kind, .int .i64 l.src, .int .i64 l.dst, .int .i64 l.term, .int .i64 l.index, .int .i64 l.was, .bool l.ok, .int .i64 l.commit, .int .i64 l.version, .slice A n c].toList] from BK0.out)
  clear BK0 q1
  go_loopw [4] (fun i wr => ∃ k : Nat, k ≤ n ∧ i = .int .i64 (k : Int) ∧ (l.ents.take k).all (fun e => M.tm e.term) = true ∧ Bank w wr [boxAcc (w.heap.size + 1) 28 [B8 l.kind, .int .i64 l.src, .int .i64 l.dst, .int .i64 l.term, .int .i64 l.index, .int .i64 l.was, .bool false, .int .i64 0, .int .i64 0, .slice none 0 0], boxAcc w.heap.size 28 #[B8 l.kind, .int .i64 l.src, .int .i64 l.dst, .int .i64 l.term, .int .i64 l.index, .int .i64 l.was, .bool l.ok, .int .i64 l.commit, .int .i64 l.version, .slice A n c].toList]) (fun i _ => n - (intOf i).toNat)
  case atStart => exact ⟨0, by omega, rfl, rfl, BK1.out⟩
  case round =>
    clear BK1
    obtain ⟨k, hk, rfl, hall, hB⟩ := hrel
    have HALL := Lib.hid hall; have BK := Lib.hid hB
    clear hall hB
    have k0 : (0 : Int) ≤ (k : Int) := by omega
    rcases Nat.lt_or_ge k n with h1 | h1
    · have j1 : (k : Int) < (n : Int) := by omega
      have hkl : k < l.ents.length := by rw [HN.out]; exact h1
      obtain ⟨b, o, rfl, A', m', c', ⟨y0, y1, y2, y3, y4, y5⟩, hrd⟩ := HE.out.since BK.out.since k hkl
      have x9 := BK.out.cell 1 rfl 9 rfl
      clear y1 y2 y3 y4 y5 hrd
      go_wp2_with fail
      clear x9 y0
      refine (rterm_any l.ents[k].term wr).mono ?_
      rintro e w5 ⟨rfl, rfl⟩
      cases hb : M.tm l.ents[k].term
      · have HFIN := Lib.hid (show SaidB w (M.lright l) (.returned (.bool false)) wr from ⟨by rw [M.lright_term l k hkl hb], BK.out.since⟩)
        clear hb
        go_wp2
        go_ret
        exact HFIN.out
      · have H := Lib.hid hb
        clear hb
        go_wp2
        go_roundw
        case rel => exact ⟨k + 1, by omega, by go_num, take_all hkl HALL.out H.out, BK.out⟩
        case measure => simp [intOf]; omega
    · have j1 : ¬ (k : Int) < (n : Int) := by omega
      have hall2 : l.ents.all (fun e => M.tm e.term) = true := by have := HALL.out; rwa [show k = l.ents.length by rw [HN.out]; omega, List.take_length] at this
      have HREF2 := Lib.hid (HREF.out hall2)
      clear hall2 HREF HALL
      have x0 := BK.out.cell 1 rfl 0 rfl
      have x1 := BK.out.cell 1 rfl 1 rfl
      have x2 := BK.out.cell 1 rfl 2 rfl
      have x3 := BK.out.cell 1 rfl 3 rfl
      have x4 := BK.out.cell 1 rfl 4 rfl
      have x5 := BK.out.cell 1 rfl 5 rfl
      have x6 := BK.out.cell 1 rfl 6 rfl
      have x7 := BK.out.cell 1 rfl 7 rfl
      have x8 := BK.out.cell 1 rfl 8 rfl
      have x9 := BK.out.cell 1 rfl 9 rfl
      have z0 := BK.out.cell 0 rfl 0 rfl
      have z1 := BK.out.cell 0 rfl 1 rfl
      have z2 := BK.out.cell 0 rfl 2 rfl
      have z3 := BK.out.cell 0 rfl 3 rfl
      have z4 := BK.out.cell 0 rfl 4 rfl
      have z5 := BK.out.cell 0 rfl 5 rfl
      have z6 := BK.out.cell 0 rfl 6 rfl
      have z7 := BK.out.cell 0 rfl 7 rfl
      have z8 := BK.out.cell 0 rfl 8 rfl
      have z9 := BK.out.cell 0 rfl 9 rfl
      go_wp2_with fail
      clear x0 x1 x2 x3 x4 x5 x6 x7 x8 x9 z0 z1 z2 z3 z4 z5 z6 z7 z8 z9
      refine (SameLetter_any l.kind l.src l.dst l.term l.term l.index l.index l.was l.was l.ok false l.commit 0 l.version 0 A n c none 0 0 (decide (n = 0)) wr (fun w' hw => HSE.out w' (BK.out.since.add hw))).mono ?_
      rintro e w5 ⟨rfl, hs⟩
      have BK5 := Lib.hid (BK.out.call hs)
      obtain ⟨S, hS⟩ : ∃ S, S = (l.term == l.term && l.index == l.index && l.was == l.was && (l.ok == false) && l.commit == 0 && l.version == 0 && decide (n = 0)) := ⟨_, rfl⟩
      rw [← hS]
      have HREF3 := Lib.hid (show M.lright l = (S && M.tm l.term && M.tm l.was && M.ix l.index && M.ix l.commit) by rw [hS]; exact HREF2.out)
      clear hS hs HREF2 BK
      cases S
      · have HFIN := Lib.hid (show SaidB w (M.lright l) (.returned (.bool false)) w5 from ⟨by rw [HREF3.out]; simp only [Bool.false_and, Bool.and_false, Bool.true_and], BK5.out.since⟩)
        go_wp2
        go_ret
        exact HFIN.out
      have x3 := BK5.out.cell 1 rfl 3 rfl
      go_wp2_with fail
      clear x3
      refine (rterm_any l.term w5).mono ?_
      rintro e w6 ⟨rfl, rfl⟩
      obtain ⟨b1, hb1⟩ : ∃ b, b = M.tm l.term := ⟨_, rfl⟩
      rw [← hb1]
      have HREF10 := Lib.hid (HREF3.out)
      rw [← hb1] at HREF3
      clear hb1 HREF10
      cases b1
      · have HFIN := Lib.hid (show SaidB w (M.lright l) (.returned (.bool false)) w5 from ⟨by rw [HREF3.out]; simp only [Bool.false_and, Bool.and_false, Bool.true_and], BK5.out.since⟩)
        go_wp2
        go_ret
        exact HFIN.out
      have x5 := BK5.out.cell 1 rfl 5 rfl
      go_wp2_with fail
      clear x5
      refine (rterm_any l.was w5).mono ?_
      rintro e w6 ⟨rfl, rfl⟩
      obtain ⟨b2, hb2⟩ : ∃ b, b = M.tm l.was := ⟨_, rfl⟩
      rw [← hb2]
      have HREF11 := Lib.hid (HREF3.out)
      rw [← hb2] at HREF3
      clear hb2 HREF11
      cases b2
      · have HFIN := Lib.hid (show SaidB w (M.lright l) (.returned (.bool false)) w5 from ⟨by rw [HREF3.out]; simp only [Bool.false_and, Bool.and_false, Bool.true_and], BK5.out.since⟩)
        go_wp2
        go_ret
        exact HFIN.out
      have x4 := BK5.out.cell 1 rfl 4 rfl
      go_wp2_with fail
      clear x4
      refine (rindex_any l.index w5).mono ?_
      rintro e w6 ⟨rfl, rfl⟩
      obtain ⟨b3, hb3⟩ : ∃ b, b = M.ix l.index := ⟨_, rfl⟩
      rw [← hb3]
      have HREF12 := Lib.hid (HREF3.out)
      rw [← hb3] at HREF3
      clear hb3 HREF12
      cases b3
      · have HFIN := Lib.hid (show SaidB w (M.lright l) (.returned (.bool false)) w5 from ⟨by rw [HREF3.out]; simp only [Bool.false_and, Bool.and_false, Bool.true_and], BK5.out.since⟩)
        go_wp2
        go_ret
        exact HFIN.out
      have x7 := BK5.out.cell 1 rfl 7 rfl
      go_wp2_with fail
      clear x7
      refine (rindex_any l.commit w5).mono ?_
      rintro e w6 ⟨rfl, rfl⟩
      obtain ⟨b4, hb4⟩ : ∃ b, b = M.ix l.commit := ⟨_, rfl⟩
      rw [← hb4]
      have HREF13 := Lib.hid (HREF3.out)
      rw [← hb4] at HREF3
      clear hb4 HREF13
      have HFIN := Lib.hid (show SaidB w (M.lright l) (.returned (.bool b4)) w5 from ⟨by rw [HREF3.out]; simp only [Bool.true_and], BK5.out.since⟩)
      go_wp2
      go_ret
      exact HFIN.out

set_option maxHeartbeats 16000000 in
set_option maxRecDepth 100000 in
theorem rRight_2 (l : M.Let) (A : Option Addr) (n c : Nat) (w : World) (hn : l.ents.length = n) (hE : EntsRd w A l.ents) (hD : ∀ e ∈ l.ents, e.data.length ≤ 4611686018427387904) (hs : 1 ≤ l.src ∧ l.src ≤ 7) (hd : 1 ≤ l.dst ∧ l.dst ≤ 7) (h4 : n ≤ 4) (hk : l.kind = 2#8) :
    Calls Tryz.prog 17 #[.agg #[B8 l.kind, .int .i64 l.src, .int .i64 l.dst, .int .i64 l.term, .int .i64 l.index, .int .i64 l.was, .bool l.ok, .int .i64 l.commit, .int .i64 l.version, .slice A n c]] w (SaidB w (M.lright l)) := by
  have href : l.ents.all (fun e => M.tm e.term) = true → M.lright l = ((l.term == l.term && l.index == 0 && l.was == 0 && (l.ok == l.ok) && l.commit == 0 && l.version == 0 && decide (n = 0)) && M.tm l.term && M.tm l.was && M.ix l.index && M.ix l.commit) := fun ht => by subst hn; exact M.ref2 l hs hd hk
  have HREF := Lib.hid href; have HE := Lib.hid hE; have HN := Lib.hid hn; have HD := Lib.hid hD
  have HSE : Hid (∀ w', Since w w' → Calls Tryz.prog 31 #[.slice A n c, .slice none 0 0] w' (SaidB w' (decide (n = 0)))) := Lib.hid (fun w' hw => by
    by_cases h0 : n = 0
    · rw [decide_eq_true h0]
      subst h0
      have he : l.ents = [] := List.eq_nil_of_length_eq_zero HN.out
      exact SameEntries_eq A 0 c none 0 [] w' rfl (EntsRd.nil _ _) (EntsRd.nil _ _) (by omega) (fun _ h => by cases h)
    · rw [decide_eq_false h0]
      exact SameEntries_ne A n c none 0 0 w' h0)
  have BK0 := Lib.hid (((Bank.nil (Below.refl w.heap.size w)).box #[B8 l.kind, .int .i64 l.src, .int .i64 l.dst, .int .i64 l.term, .int .i64 l.index, .int .i64 l.was, .bool l.ok, .int .i64 l.commit, .int .i64 l.version, .slice A n c] 28 (by simp)).box #[B8 l.kind, .int .i64 l.src, .int .i64 l.dst, .int .i64 l.term, .int .i64 0, .int .i64 0, .bool l.ok, .int .i64 0, .int .i64 0, .slice none 0 0] 28 (by simp))
  rw [World.size_alloc] at BK0
  have i1 : ¬ l.src < 1 := by omega
  have i2 : ¬ 7 < l.src := by omega
  have i3 : ¬ l.dst < 1 := by omega
  have i4 : ¬ 7 < l.dst := by omega
  have i5 : ¬ (4 : Int) < (n : Int) := by omega
  have d1 : decide (l.src < 1) = false := by simpa using i1
  have d2 : decide (7 < l.src) = false := by simpa using i2
  have d3 : decide (l.dst < 1) = false := by simpa using i3
  have d4 : decide (7 < l.dst) = false := by simpa using i4
  have d5 : decide ((4 : Int) < (n : Int)) = false := by simpa using i5
  have q1 : ∀ t, binOp .eql t (B8 l.kind) (.int .u8 1) = pure (.bool false) := fun t => by have := B8_eql t l.kind 1#8; rw [show (l.kind == 1#8) = false by rw [hk]; rfl] at this; exact this
  have q2 : ∀ t, binOp .eql t (B8 l.kind) (.int .u8 2) = pure (.bool true) := fun t => by have := B8_eql t l.kind 2#8; rw [show (l.kind == 2#8) = true by rw [hk]; rfl] at this; exact this
  clear href hE hn hD hs hd hk
  go_enter Tryz.func17, Tryz.ntmps17
  go_wp2_with fail
  have BK1 := Lib.hid (show Bank w _ [boxAcc (w.heap.size + 1) 28 [B8 l.kind, .int .i64 l.src, .int .i64 l.dst, .int .i64 l.term, .int .i64 0, .int .i64 0, .bool l.ok, .int .i64 0, .int .i64 0, .slice none 0 0], boxAcc w.heap.size 28 #[B8 l.kind, .int .i64 l.src, .int .i64 l.dst, .int .i64 l.term, .int .i64 l.index, .int .i64 l.was, .bool l.ok, .int .i64 l.commit, .int .i64 l.version, .slice A n c].toList] from BK0.out)
  clear BK0 q2 q1
  go_loopw [4] (fun i wr => ∃ k : Nat, k ≤ n ∧ i = .int .i64 (k : Int) ∧ (l.ents.take k).all (fun e => M.tm e.term) = true ∧ Bank w wr [boxAcc (w.heap.size + 1) 28 [B8 l.kind, .int .i64 l.src, .int .i64 l.dst, .int .i64 l.term, .int .i64 0, .int .i64 0, .bool l.ok, .int .i64 0, .int .i64 0, .slice none 0 0], boxAcc w.heap.size 28 #[B8 l.kind, .int .i64 l.src, .int .i64 l.dst, .int .i64 l.term, .int .i64 l.index, .int .i64 l.was, .bool l.ok, .int .i64 l.commit, .int .i64 l.version, .slice A n c].toList]) (fun i _ => n - (intOf i).toNat)
  case atStart => exact ⟨0, by omega, rfl, rfl, BK1.out⟩
  case round =>
    clear BK1
    obtain ⟨k, hk, rfl, hall, hB⟩ := hrel
    have HALL := Lib.hid hall; have BK := Lib.hid hB
    clear hall hB
    have k0 : (0 : Int) ≤ (k : Int) := by omega
    rcases Nat.lt_or_ge k n with h1 | h1
    · have j1 : (k : Int) < (n : Int) := by omega
      have hkl : k < l.ents.length := by rw [HN.out]; exact h1
      obtain ⟨b, o, rfl, A', m', c', ⟨y0, y1, y2, y3, y4, y5⟩, hrd⟩ := HE.out.since BK.out.since k hkl
      have x9 := BK.out.cell 1 rfl 9 rfl
      clear y1 y2 y3 y4 y5 hrd
      go_wp2_with fail
      clear x9 y0
      refine (rterm_any l.ents[k].term wr).mono ?_
      rintro e w5 ⟨rfl, rfl⟩
      cases hb : M.tm l.ents[k].term
      · have HFIN := Lib.hid (show SaidB w (M.lright l) (.returned (.bool false)) wr from ⟨by rw [M.lright_term l k hkl hb], BK.out.since⟩)
        clear hb
        go_wp2
        go_ret
        exact HFIN.out
      · have H := Lib.hid hb
        clear hb
        go_wp2
        go_roundw
        case rel => exact ⟨k + 1, by omega, by go_num, take_all hkl HALL.out H.out, BK.out⟩
        case measure => simp [intOf]; omega
    · have j1 : ¬ (k : Int) < (n : Int) := by omega
      have hall2 : l.ents.all (fun e => M.tm e.term) = true := by have := HALL.out; rwa [show k = l.ents.length by rw [HN.out]; omega, List.take_length] at this
      have HREF2 := Lib.hid (HREF.out hall2)
      clear hall2 HREF HALL
      have x0 := BK.out.cell 1 rfl 0 rfl
      have x1 := BK.out.cell 1 rfl 1 rfl
      have x2 := BK.out.cell 1 rfl 2 rfl
      have x3 := BK.out.cell 1 rfl 3 rfl
      have x4 := BK.out.cell 1 rfl 4 rfl
      have x5 := BK.out.cell 1 rfl 5 rfl
      have x6 := BK.out.cell 1 rfl 6 rfl
      have x7 := BK.out.cell 1 rfl 7 rfl
      have x8 := BK.out.cell 1 rfl 8 rfl
      have x9 := BK.out.cell 1 rfl 9 rfl
      have z0 := BK.out.cell 0 rfl 0 rfl
      have z1 := BK.out.cell 0 rfl 1 rfl
      have z2 := BK.out.cell 0 rfl 2 rfl
      have z3 := BK.out.cell 0 rfl 3 rfl
      have z4 := BK.out.cell 0 rfl 4 rfl
      have z5 := BK.out.cell 0 rfl 5 rfl
      have z6 := BK.out.cell 0 rfl 6 rfl
      have z7 := BK.out.cell 0 rfl 7 rfl
      have z8 := BK.out.cell 0 rfl 8 rfl
      have z9 := BK.out.cell 0 rfl 9 rfl
      go_wp2_with fail
      clear x0 x1 x2 x3 x4 x5 x6 x7 x8 x9 z0 z1 z2 z3 z4 z5 z6 z7 z8 z9
      refine (SameLetter_any l.kind l.src l.dst l.term l.term l.index 0 l.was 0 l.ok l.ok l.commit 0 l.version 0 A n c none 0 0 (decide (n = 0)) wr (fun w' hw => HSE.out w' (BK.out.since.add hw))).mono ?_
      rintro e w5 ⟨rfl, hs⟩
      have BK5 := Lib.hid (BK.out.call hs)
      obtain ⟨S, hS⟩ : ∃ S, S = (l.term == l.term && l.index == 0 && l.was == 0 && (l.ok == l.ok) && l.commit == 0 && l.version == 0 && decide (n = 0)) := ⟨_, rfl⟩
      rw [← hS]
      have HREF3 := Lib.hid (show M.lright l = (S && M.tm l.term && M.tm l.was && M.ix l.index && M.ix l.commit) by rw [hS]; exact HREF2.out)
      clear hS hs HREF2 BK
      cases S
      · have HFIN := Lib.hid (show SaidB w (M.lright l) (.returned (.bool false)) w5 from ⟨by rw [HREF3.out]; simp only [Bool.false_and, Bool.and_false, Bool.true_and], BK5.out.since⟩)
        go_wp2
        go_ret
        exact HFIN.out
      have x3 := BK5.out.cell 1 rfl 3 rfl
      go_wp2_with fail
      clear x3
      refine (rterm_any l.term w5).mono ?_
      rintro e w6 ⟨rfl, rfl⟩
      obtain ⟨b1, hb1⟩ : ∃ b, b = M.tm l.term := ⟨_, rfl⟩
      rw [← hb1]
      have HREF10 := Lib.hid (HREF3.out)
      rw [← hb1] at HREF3
      clear hb1 HREF10
      cases b1
      · have HFIN := Lib.hid (show SaidB w (M.lright l) (.returned (.bool false)) w5 from ⟨by rw [HREF3.out]; simp only [Bool.false_and, Bool.and_false, Bool.true_and], BK5.out.since⟩)
        go_wp2
        go_ret
        exact HFIN.out
      have x5 := BK5.out.cell 1 rfl 5 rfl
      go_wp2_with fail
      clear x5
      refine (rterm_any l.was w5).mono ?_
      rintro e w6 ⟨rfl, rfl⟩
      obtain ⟨b2, hb2⟩ : ∃ b, b = M.tm l.was := ⟨_, rfl⟩
      rw [← hb2]
      have HREF11 := Lib.hid (HREF3.out)
      rw [← hb2] at HREF3
      clear hb2 HREF11
      cases b2
      · have HFIN := Lib.hid (show SaidB w (M.lright l) (.returned (.bool false)) w5 from ⟨by rw [HREF3.out]; simp only [Bool.false_and, Bool.and_false, Bool.true_and], BK5.out.since⟩)
        go_wp2
        go_ret
        exact HFIN.out
      have x4 := BK5.out.cell 1 rfl 4 rfl
      go_wp2_with fail
      clear x4
      refine (rindex_any l.index w5).mono ?_
      rintro e w6 ⟨rfl, rfl⟩
      obtain ⟨b3, hb3⟩ : ∃ b, b = M.ix l.index := ⟨_, rfl⟩
      rw [← hb3]
      have HREF12 := Lib.hid (HREF3.out)
      rw [← hb3] at HREF3
      clear hb3 HREF12
      cases b3
      · have HFIN := Lib.hid (show SaidB w (M.lright l) (.returned (.bool false)) w5 from ⟨by rw [HREF3.out]; simp only [Bool.false_and, Bool.and_false, Bool.true_and], BK5.out.since⟩)
        go_wp2
        go_ret
        exact HFIN.out
      have x7 := BK5.out.cell 1 rfl 7 rfl
      go_wp2_with fail
      clear x7
      refine (rindex_any l.commit w5).mono ?_
      rintro e w6 ⟨rfl, rfl⟩
      obtain ⟨b4, hb4⟩ : ∃ b, b = M.ix l.commit := ⟨_, rfl⟩
      rw [← hb4]
      have HREF13 := Lib.hid (HREF3.out)
      rw [← hb4] at HREF3
      clear hb4 HREF13
      have HFIN := Lib.hid (show SaidB w (M.lright l) (.returned (.bool b4)) w5 from ⟨by rw [HREF3.out]; simp only [Bool.true_and], BK5.out.since⟩)
      go_wp2
      go_ret
      exact HFIN.out

end Go.Proofs.YtdmpphioflcofaaGreat.K

/- (made by genrefright.py) The reference's Right at letters of the kinds 34. -/
namespace Go.Proofs.YtdmpphioflcofaaGreat.K
open Go Go.RowKit

set_option maxHeartbeats 16000000 in
set_option maxRecDepth 100000 in
theorem rRight_3 (l : M.Let) (A : Option Addr) (n c : Nat) (w : World) (hn : l.ents.length = n) (hE : EntsRd w A l.ents) (hD : ∀ e ∈ l.ents, e.data.length ≤ 4611686018427387904) (hs : 1 ≤ l.src ∧ l.src ≤ 7) (hd : 1 ≤ l.dst ∧ l.dst ≤ 7) (h4 : n ≤ 4) (hk : l.kind = 3#8) :
    Calls Tryz.prog 17 #[.agg #[B8 l.kind, .int .i64 l.src, .int .i64 l.dst, .int .i64 l.term, .int .i64 l.index, .int .i64 l.was, .bool l.ok, .int .i64 l.commit, .int .i64 l.version, .slice A n c]] w (SaidB w (M.lright l)) := by
  have href : l.ents.all (fun e => M.tm e.term) = true → M.lright l = ((l.term == l.term && l.index == l.index && l.was == l.was && (l.ok == false) && l.commit == l.commit && l.version == 0 && true) && M.tm l.term && M.tm l.was && M.ix l.index && M.ix l.commit) := fun ht => by subst hn; exact M.ref3 l hs hd hk (by omega) ht
  have HREF := Lib.hid href; have HE := Lib.hid hE; have HN := Lib.hid hn; have HD := Lib.hid hD
  have HSE : Hid (∀ w', Since w w' → Calls Tryz.prog 31 #[.slice A n c, .slice A n c] w' (SaidB w' (true))) := Lib.hid (fun w' hw => SameEntries_eq A n c A c l.ents w' HN.out (HE.out.since hw) (HE.out.since hw) (by omega) HD.out)
  have BK0 := Lib.hid (((Bank.nil (Below.refl w.heap.size w)).box #[B8 l.kind, .int .i64 l.src, .int .i64 l.dst, .int .i64 l.term, .int .i64 l.index, .int .i64 l.was, .bool l.ok, .int .i64 l.commit, .int .i64 l.version, .slice A n c] 28 (by simp)).box #[B8 l.kind, .int .i64 l.src, .int .i64 l.dst, .int .i64 l.term, .int .i64 l.index, .int .i64 l.was, .bool false, .int .i64 l.commit, .int .i64 0, .slice A n c] 28 (by simp))
  rw [World.size_alloc] at BK0
  have i1 : ¬ l.src < 1 := by omega
  have i2 : ¬ 7 < l.src := by omega
  have i3 : ¬ l.dst < 1 := by omega
  have i4 : ¬ 7 < l.dst := by omega
  have i5 : ¬ (4 : Int) < (n : Int) := by omega
  have d1 : decide (l.src < 1) = false := by simpa using i1
  have d2 : decide (7 < l.src) = false := by simpa using i2
  have d3 : decide (l.dst < 1) = false := by simpa using i3
  have d4 : decide (7 < l.dst) = false := by simpa using i4
  have d5 : decide ((4 : Int) < (n : Int)) = false := by simpa using i5
  have q1 : ∀ t, binOp .eql t (B8 l.kind) (.int .u8 1) = pure (.bool false) := fun t => by have := B8_eql t l.kind 1#8; rw [show (l.kind == 1#8) = false by rw [hk]; rfl] at this; exact this
  have q2 : ∀ t, binOp .eql t (B8 l.kind) (.int .u8 2) = pure (.bool false) := fun t => by have := B8_eql t l.kind 2#8; rw [show (l.kind == 2#8) = false by rw [hk]; rfl] at this; exact this
  have q3 : ∀ t, binOp .eql t (B8 l.kind) (.int .u8 3) = pure (.bool true) := fun t => by have := B8_eql t l.kind 3#8; rw [show (l.kind == 3#8) = true by rw [hk]; rfl] at this; exact this
  clear href hE hn hD hs hd hk
  go_enter Tryz.func17, Tryz.ntmps17
  go_wp2_with fail
  have BK1 := Lib.hid (show Bank w _ [boxAcc (w.heap.size + 1) 28 [B8 l.kind, .int .i64 l.src, .int .i64 l.dst, .int .i64 l.term, .int .i64 l.index, .int .i64 l.was, .bool false, .int .i64 l.commit, .int .i64 0, .slice A n c], boxAcc w.heap.size 28 #[B8 l.kind, .int .i64 l.src, .int .i64 l.dst, .int .i64 l.term, .int .i64 l.index, .int .i64 l.was, .bool l.ok, .int .i64 l.commit, .int .i64 l.version, .slice A n c].toList] from BK0.out)
  clear BK0 q3 q1 q2
  go_loopw [4] (fun i wr => ∃ k : Nat, k ≤ n ∧ i = .int .i64 (k : Int) ∧ (l.ents.take k).all (fun e => M.tm e.term) = true ∧ Bank w wr [boxAcc (w.heap.size + 1) 28 [B8 l.kind, .int .i64 l.src, .int .i64 l.dst, .int .i64 l.term, .int .i64 l.index, .int .i64 l.was, .bool false, .int .i64 l.commit, .int .i64 0, .slice A n c], boxAcc w.heap.size 28 #[B8 l.kind, .int .i64 l.src, .int .i64 l.dst, .int .i64 l.term, .int .i64 l.index, .int .i64 l.was, .bool l.ok, .int .i64 l.commit, .int .i64 l.version, .slice A n c].toList]) (fun i _ => n - (intOf i).toNat)
  case atStart => exact ⟨0, by omega, rfl, rfl, BK1.out⟩
  case round =>
    clear BK1
    obtain ⟨k, hk, rfl, hall, hB⟩ := hrel
    have HALL := Lib.hid hall; have BK := Lib.hid hB
    clear hall hB
    have k0 : (0 : Int) ≤ (k : Int) := by omega
    rcases Nat.lt_or_ge k n with h1 | h1
    · have j1 : (k : Int) < (n : Int) := by omega
      have hkl : k < l.ents.length := by rw [HN.out]; exact h1
      obtain ⟨b, o, rfl, A', m', c', ⟨y0, y1, y2, y3, y4, y5⟩, hrd⟩ := HE.out.since BK.out.since k hkl
      have x9 := BK.out.cell 1 rfl 9 rfl
      clear y1 y2 y3 y4 y5 hrd
      go_wp2_with fail
      clear x9 y0
      refine (rterm_any l.ents[k].term wr).mono ?_
      rintro e w5 ⟨rfl, rfl⟩
      cases hb : M.tm l.ents[k].term
      · have HFIN := Lib.hid (show SaidB w (M.lright l) (.returned (.bool false)) wr from ⟨by rw [M.lright_term l k hkl hb], BK.out.since⟩)
        clear hb
        go_wp2
        go_ret
        exact HFIN.out
      · have H := Lib.hid hb
        clear hb
        go_wp2
        go_roundw
        case rel => exact ⟨k + 1, by omega, by go_num, take_all hkl HALL.out H.out, BK.out⟩
        case measure => simp [intOf]; omega
    · have j1 : ¬ (k : Int) < (n : Int) := by omega
      have hall2 : l.ents.all (fun e => M.tm e.term) = true := by have := HALL.out; rwa [show k = l.ents.length by rw [HN.out]; omega, List.take_length] at this
      have HREF2 := Lib.hid (HREF.out hall2)
      clear hall2 HREF HALL
      have x0 := BK.out.cell 1 rfl 0 rfl
      have x1 := BK.out.cell 1 rfl 1 rfl
      have x2 := BK.out.cell 1 rfl 2 rfl
      have x3 := BK.out.cell 1 rfl 3 rfl
      have x4 := BK.out.cell 1 rfl 4 rfl
      have x5 := BK.out.cell 1 rfl 5 rfl
      have x6 := BK.out.cell 1 rfl 6 rfl
      have x7 := BK.out.cell 1 rfl 7 rfl
      have x8 := BK.out.cell 1 rfl 8 rfl
      have x9 := BK.out.cell 1 rfl 9 rfl
      have z0 := BK.out.cell 0 rfl 0 rfl
      have z1 := BK.out.cell 0 rfl 1 rfl
      have z2 := BK.out.cell 0 rfl 2 rfl
      have z3 := BK.out.cell 0 rfl 3 rfl
      have z4 := BK.out.cell 0 rfl 4 rfl
      have z5 := BK.out.cell 0 rfl 5 rfl
      have z6 := BK.out.cell 0 rfl 6 rfl
      have z7 := BK.out.cell 0 rfl 7 rfl
      have z8 := BK.out.cell 0 rfl 8 rfl
      have z9 := BK.out.cell 0 rfl 9 rfl
      go_wp2_with fail
      clear x0 x1 x2 x3 x4 x5 x6 x7 x8 x9 z0 z1 z2 z3 z4 z5 z6 z7 z8 z9
      refine (SameLetter_any l.kind l.src l.dst l.term l.term l.index l.index l.was l.was l.ok false l.commit l.commit l.version 0 A n c A n c (true) wr (fun w' hw => HSE.out w' (BK.out.since.add hw))).mono ?_
      rintro e w5 ⟨rfl, hs⟩
      have BK5 := Lib.hid (BK.out.call hs)
      obtain ⟨S, hS⟩ : ∃ S, S = (l.term == l.term && l.index == l.index && l.was == l.was && (l.ok == false) && l.commit == l.commit && l.version == 0 && true) := ⟨_, rfl⟩
      rw [← hS]
      have HREF3 := Lib.hid (show M.lright l = (S && M.tm l.term && M.tm l.was && M.ix l.index && M.ix l.commit) by rw [hS]; exact HREF2.out)
      clear hS hs HREF2 BK
      cases S
      · have HFIN := Lib.hid (show SaidB w (M.lright l) (.returned (.bool false)) w5 from ⟨by rw [HREF3.out]; simp only [Bool.false_and, Bool.and_false, Bool.true_and], BK5.out.since⟩)
        go_wp2
        go_ret
        exact HFIN.out
      have x3 := BK5.out.cell 1 rfl 3 rfl
      go_wp2_with fail
      clear x3
      refine (rterm_any l.term w5).mono ?_
      rintro e w6 ⟨rfl, rfl⟩
      obtain ⟨b1, hb1⟩ : ∃ b, b = M.tm l.term := ⟨_, rfl⟩
      rw [← hb1]
      have HREF10 := Lib.hid (HREF3.out)
      rw [← hb1] at HREF3
      clear hb1 HREF10
      cases b1
      · have HFIN := Lib.hid (show SaidB w (M.lright l) (.returned (.bool false)) w5 from ⟨by rw [HREF3.out]; simp only [Bool.false_and, Bool.and_false, Bool.true_and], BK5.out.since⟩)
        go_wp2
        go_ret
        exact HFIN.out
      have x5 := BK5.out.cell 1 rfl 5 rfl
      go_wp2_with fail
      clear x5
      refine (rterm_any l.was w5).mono ?_
      rintro e w6 ⟨rfl, rfl⟩
      obtain ⟨b2, hb2⟩ : ∃ b, b = M.tm l.was := ⟨_, rfl⟩
      rw [← hb2]
      have HREF11 := Lib.hid (HREF3.out)
      rw [← hb2] at HREF3
      clear hb2 HREF11
      cases b2
      · have HFIN := Lib.hid (show SaidB w (M.lright l) (.returned (.bool false)) w5 from ⟨by rw [HREF3.out]; simp only [Bool.false_and, Bool.and_false, Bool.true_and], BK5.out.since⟩)
        go_wp2
        go_ret
        exact HFIN.out
      have x4 := BK5.out.cell 1 rfl 4 rfl
      go_wp2_with fail
      clear x4
      refine (rindex_any l.index w5).mono ?_
      rintro e w6 ⟨rfl, rfl⟩
      obtain ⟨b3, hb3⟩ : ∃ b, b = M.ix l.index := ⟨_, rfl⟩
      rw [← hb3]
      have HREF12 := Lib.hid (HREF3.out)
      rw [← hb3] at HREF3
      clear hb3 HREF12
      cases b3
      · have HFIN := Lib.hid (show SaidB w (M.lright l) (.returned (.bool false)) w5 from ⟨by rw [HREF3.out]; simp only [Bool.false_and, Bool.and_false, Bool.true_and], BK5.out.since⟩)
        go_wp2
        go_ret
        exact HFIN.out
      have x7 := BK5.out.cell 1 rfl 7 rfl
      go_wp2_with fail
      clear x7
      refine (rindex_any l.commit w5).mono ?_
      rintro e w6 ⟨rfl, rfl⟩
      obtain ⟨b4, hb4⟩ : ∃ b, b = M.ix l.commit := ⟨_, rfl⟩
      rw [← hb4]
      have HREF13 := Lib.hid (HREF3.out)
      rw [← hb4] at HREF3
      clear hb4 HREF13
      have HFIN := Lib.hid (show SaidB w (M.lright l) (.returned (.bool b4)) w5 from ⟨by rw [HREF3.out]; simp only [Bool.true_and], BK5.out.since⟩)
      go_wp2
      go_ret
      exact HFIN.out

set_option maxHeartbeats 16000000 in
set_option maxRecDepth 100000 in
theorem rRight_4 (l : M.Let) (A : Option Addr) (n c : Nat) (w : World) (hn : l.ents.length = n) (hE : EntsRd w A l.ents) (hD : ∀ e ∈ l.ents, e.data.length ≤ 4611686018427387904) (hs : 1 ≤ l.src ∧ l.src ≤ 7) (hd : 1 ≤ l.dst ∧ l.dst ≤ 7) (h4 : n ≤ 4) (hk : l.kind = 4#8) :
    Calls Tryz.prog 17 #[.agg #[B8 l.kind, .int .i64 l.src, .int .i64 l.dst, .int .i64 l.term, .int .i64 l.index, .int .i64 l.was, .bool l.ok, .int .i64 l.commit, .int .i64 l.version, .slice A n c]] w (SaidB w (M.lright l)) := by
  have href : l.ents.all (fun e => M.tm e.term) = true → M.lright l = ((l.term == l.term && l.index == l.index && l.was == 0 && (l.ok == l.ok) && l.commit == 0 && l.version == 0 && decide (n = 0)) && M.tm l.term && M.tm l.was && M.ix l.index && M.ix l.commit) := fun ht => by subst hn; exact M.ref4 l hs hd hk
  have HREF := Lib.hid href; have HE := Lib.hid hE; have HN := Lib.hid hn; have HD := Lib.hid hD
  have HSE : Hid (∀ w', Since w w' → Calls Tryz.prog 31 #[.slice A n c, .slice none 0 0] w' (SaidB w' (decide (n = 0)))) := Lib.hid (fun w' hw => by
    by_cases h0 : n = 0
    · rw [decide_eq_true h0]
      subst h0
      have he : l.ents = [] := List.eq_nil_of_length_eq_zero HN.out
      exact SameEntries_eq A 0 c none 0 [] w' rfl (EntsRd.nil _ _) (EntsRd.nil _ _) (by omega) (fun _ h => by cases h)
    · rw [decide_eq_false h0]
      exact SameEntries_ne A n c none 0 0 w' h0)
  have BK0 := Lib.hid (((Bank.nil (Below.refl w.heap.size w)).box #[B8 l.kind, .int .i64 l.src, .int .i64 l.dst, .int .i64 l.term, .int .i64 l.index, .int .i64 l.was, .bool l.ok, .int .i64 l.commit, .int .i64 l.version, .slice A n c] 28 (by simp)).box #[B8 l.kind, .int .i64 l.src, .int .i64 l.dst, .int .i64 l.term, .int .i64 l.index, .int .i64 0, .bool l.ok, .int .i64 0, .int .i64 0, .slice none 0 0] 28 (by simp))
  rw [World.size_alloc] at BK0
  have i1 : ¬ l.src < 1 := by omega
  have i2 : ¬ 7 < l.src := by omega
  have i3 : ¬ l.dst < 1 := by omega
  have i4 : ¬ 7 < l.dst := by omega
  have i5 : ¬ (4 : Int) < (n : Int) := by omega
  have d1 : decide (l.src < 1) = false := by simpa using i1
  have d2 : decide (7 < l.src) = false := by simpa using i2
  have d3 : decide (l.dst < 1) = false := by simpa using i3
  have d4 : decide (7 < l.dst) = false := by simpa using i4
  have d5 : decide ((4 : Int) < (n : Int)) = false := by simpa using i5
  have q1 : ∀ t, binOp .eql t (B8 l.kind) (.int .u8 1) = pure (.bool false) := fun t => by have := B8_eql t l.kind 1#8; rw [show (l.kind == 1#8) = false by rw [hk]; rfl] at this; exact this
  have q2 : ∀ t, binOp .eql t (B8 l.kind) (.int .u8 2) = pure (.bool false) := fun t => by have := B8_eql t l.kind 2#8; rw [show (l.kind == 2#8) = false by rw [hk]; rfl] at this; exact this
  have q3 : ∀ t, binOp .eql t (B8 l.kind) (.int .u8 3) = pure (.bool false) := fun t => by have := B8_eql t l.kind 3#8; rw [show (l.kind == 3#8) = false by rw [hk]; rfl] at this; exact this
  have q4 : ∀ t, binOp .eql t (B8 l.kind) (.int .u8 4) = pure (.bool true) := fun t => by have := B8_eql t l.kind 4#8; rw [show (l.kind == 4#8) = true by rw [hk]; rfl] at this; exact this
  clear href hE hn hD hs hd hk
  go_enter Tryz.func17, Tryz.ntmps17
  go_wp2_with fail
  have BK1 := Lib.hid (show Bank w _ [boxAcc (w.heap.size + 1) 28 [B8 l.kind, .int .i64 l.src, .int .i64 l.dst, .int .i64 l.term, .int .i64 l.index, .int .i64 0, .bool l.ok, .int .i64 0, .int .i64 0, .slice none 0 0], boxAcc w.heap.size 28 #[B8 l.kind, .int .i64 l.src, .int .i64 l.dst, .int .i64 l.term, .int .i64 l.index, .int .i64 l.was, .bool l.ok, .int .i64 l.commit, .int .i64 l.version, .slice A n c].toList] from BK0.out)
  clear BK0 q4 q1 q2 q3
  go_loopw [4] (fun i wr => ∃ k : Nat, k ≤ n ∧ i = .int .i64 (k : Int) ∧ (l.ents.take k).all (fun e => M.tm e.term) = true ∧ Bank w wr [boxAcc (w.heap.size + 1) 28 [B8 l.kind, .int .i64 l.src, .int .i64 l.dst, .int .i64 l.term, .int .i64 l.index, .int .i64 0, .bool l.ok, .int .i64 0, .int .i64 0, .slice none 0 0], boxAcc w.heap.size 28 #[B8 l.kind, .int .i64 l.src, .int .i64 l.dst, .int .i64 l.term, .int .i64 l.index, .int .i64 l.was, .bool l.ok, .int .i64 l.commit, .int .i64 l.version, .slice A n c].toList]) (fun i _ => n - (intOf i).toNat)
  case atStart => exact ⟨0, by omega, rfl, rfl, BK1.out⟩
  case round =>
    clear BK1
    obtain ⟨k, hk, rfl, hall, hB⟩ := hrel
    have HALL := Lib.hid hall; have BK := Lib.hid hB
    clear hall hB
    have k0 : (0 : Int) ≤ (k : Int) := by omega
    rcases Nat.lt_or_ge k n with h1 | h1
    · have j1 : (k : Int) < (n : Int) := by omega
      have hkl : k < l.ents.length := by rw [HN.out]; exact h1
      obtain ⟨b, o, rfl, A', m', c', ⟨y0, y1, y2, y3, y4, y5⟩, hrd⟩ := HE.out.since BK.out.since k hkl
      have x9 := BK.out.cell 1 rfl 9 rfl
      clear y1 y2 y3 y4 y5 hrd
      go_wp2_with fail
      clear x9 y0
      refine (rterm_any l.ents[k].term wr).mono ?_
      rintro e w5 ⟨rfl, rfl⟩
      cases hb : M.tm l.ents[k].term
      · have HFIN := Lib.hid (show SaidB w (M.lright l) (.returned (.bool false)) wr from ⟨by rw [M.lright_term l k hkl hb], BK.out.since⟩)
        clear hb
        go_wp2
        go_ret
        exact HFIN.out
      · have H := Lib.hid hb
        clear hb
        go_wp2
        go_roundw
        case rel => exact ⟨k + 1, by omega, by go_num, take_all hkl HALL.out H.out, BK.out⟩
        case measure => simp [intOf]; omega
    · have j1 : ¬ (k : Int) < (n : Int) := by omega
      have hall2 : l.ents.all (fun e => M.tm e.term) = true := by have := HALL.out; rwa [show k = l.ents.length by rw [HN.out]; omega, List.take_length] at this
      have HREF2 := Lib.hid (HREF.out hall2)
      clear hall2 HREF HALL
      have x0 := BK.out.cell 1 rfl 0 rfl
      have x1 := BK.out.cell 1 rfl 1 rfl
      have x2 := BK.out.cell 1 rfl 2 rfl
      have x3 := BK.out.cell 1 rfl 3 rfl
      have x4 := BK.out.cell 1 rfl 4 rfl
      have x5 := BK.out.cell 1 rfl 5 rfl
      have x6 := BK.out.cell 1 rfl 6 rfl
      have x7 := BK.out.cell 1 rfl 7 rfl
      have x8 := BK.out.cell 1 rfl 8 rfl
      have x9 := BK.out.cell 1 rfl 9 rfl
      have z0 := BK.out.cell 0 rfl 0 rfl
      have z1 := BK.out.cell 0 rfl 1 rfl
      have z2 := BK.out.cell 0 rfl 2 rfl
      have z3 := BK.out.cell 0 rfl 3 rfl
      have z4 := BK.out.cell 0 rfl 4 rfl
      have z5 := BK.out.cell 0 rfl 5 rfl
      have z6 := BK.out.cell 0 rfl 6 rfl
      have z7 := BK.out.cell 0 rfl 7 rfl
      have z8 := BK.out.cell 0 rfl 8 rfl
      have z9 := BK.out.cell 0 rfl 9 rfl
      go_wp2_with fail
      clear x0 x1 x2 x3 x4 x5 x6 x7 x8 x9 z0 z1 z2 z3 z4 z5 z6 z7 z8 z9
      refine (SameLetter_any l.kind l.src l.dst l.term l.term l.index l.index l.was 0 l.ok l.ok l.commit 0 l.version 0 A n c none 0 0 (decide (n = 0)) wr (fun w' hw => HSE.out w' (BK.out.since.add hw))).mono ?_
      rintro e w5 ⟨rfl, hs⟩
      have BK5 := Lib.hid (BK.out.call hs)
      obtain ⟨S, hS⟩ : ∃ S, S = (l.term == l.term && l.index == l.index && l.was == 0 && (l.ok == l.ok) && l.commit == 0 && l.version == 0 && decide (n = 0)) := ⟨_, rfl⟩
      rw [← hS]
      have HREF3 := Lib.hid (show M.lright l = (S && M.tm l.term && M.tm l.was && M.ix l.index && M.ix l.commit) by rw [hS]; exact HREF2.out)
      clear hS hs HREF2 BK
      cases S
      · have HFIN := Lib.hid (show SaidB w (M.lright l) (.returned (.bool false)) w5 from ⟨by rw [HREF3.out]; simp only [Bool.false_and, Bool.and_false, Bool.true_and], BK5.out.since⟩)
        go_wp2
        go_ret
        exact HFIN.out
      have x3 := BK5.out.cell 1 rfl 3 rfl
      go_wp2_with fail
      clear x3
      refine (rterm_any l.term w5).mono ?_
      rintro e w6 ⟨rfl, rfl⟩
      obtain ⟨b1, hb1⟩ : ∃ b, b = M.tm l.term := ⟨_, rfl⟩
      rw [← hb1]
      have HREF10 := Lib.hid (HREF3.out)
      rw [← hb1] at HREF3
      clear hb1 HREF10
      cases b1
      · have HFIN := Lib.hid (show SaidB w (M.lright l) (.returned (.bool false)) w5 from ⟨by rw [HREF3.out]; simp only [Bool.false_and, Bool.and_false, Bool.true_and], BK5.out.since⟩)
        go_wp2
        go_ret
        exact HFIN.out
      have x5 := BK5.out.cell 1 rfl 5 rfl
      go_wp2_with fail
      clear x5
      refine (rterm_any l.was w5).mono ?_
      rintro e w6 ⟨rfl, rfl⟩
      obtain ⟨b2, hb2⟩ : ∃ b, b = M.tm l.was := ⟨_, rfl⟩
      rw [← hb2]
      have HREF11 := Lib.hid (HREF3.out)
      rw [← hb2] at HREF3
      clear hb2 HREF11
      cases b2
      · have HFIN := Lib.hid (show SaidB w (M.lright l) (.returned (.bool false)) w5 from ⟨by rw [HREF3.out]; simp only [Bool.false_and, Bool.and_false, Bool.true_and], BK5.out.since⟩)
        go_wp2
        go_ret
        exact HFIN.out
      have x4 := BK5.out.cell 1 rfl 4 rfl
      go_wp2_with fail
      clear x4
      refine (rindex_any l.index w5).mono ?_
      rintro e w6 ⟨rfl, rfl⟩
      obtain ⟨b3, hb3⟩ : ∃ b, b = M.ix l.index := ⟨_, rfl⟩
      rw [← hb3]
      have HREF12 := Lib.hid (HREF3.out)
      rw [← hb3] at HREF3
      clear hb3 HREF12
      cases b3
      · have HFIN := Lib.hid (show SaidB w (M.lright l) (.returned (.bool false)) w5 from ⟨by rw [HREF3.out]; simp only [Bool.false_and, Bool.and_false, Bool.true_and], BK5.out.since⟩)
        go_wp2
        go_ret
        exact HFIN.out
      have x7 := BK5.out.cell 1 rfl 7 rfl
      go_wp2_with fail
      clear x7
      refine (rindex_any l.commit w5).mono ?_
      rintro e w6 ⟨rfl, rfl⟩
      obtain ⟨b4, hb4⟩ : ∃ b, b = M.ix l.commit := ⟨_, rfl⟩
      rw [← hb4]
      have HREF13 := Lib.hid (HREF3.out)
      rw [← hb4] at HREF3
      clear hb4 HREF13
      have HFIN := Lib.hid (show SaidB w (M.lright l) (.returned (.bool b4)) w5 from ⟨by rw [HREF3.out]; simp only [Bool.true_and], BK5.out.since⟩)
      go_wp2
      go_ret
      exact HFIN.out

end Go.Proofs.YtdmpphioflcofaaGreat.K

/- (made by genrefright.py) The reference's Right at letters of the kinds 5. -/
namespace Go.Proofs.YtdmpphioflcofaaGreat.K
open Go Go.RowKit

set_option maxHeartbeats 16000000 in
set_option maxRecDepth 100000 in
theorem rRight_5 (l : M.Let) (A : Option Addr) (n c : Nat) (w : World) (hn : l.ents.length = n) (hE : EntsRd w A l.ents) (hD : ∀ e ∈ l.ents, e.data.length ≤ 4611686018427387904) (hs : 1 ≤ l.src ∧ l.src ≤ 7) (hd : 1 ≤ l.dst ∧ l.dst ≤ 7) (h4 : n ≤ 4) (hk : l.kind = 5#8) (hv : 1 ≤ l.version ∧ l.version ≤ 1073741824) :
    Calls Tryz.prog 17 #[.agg #[B8 l.kind, .int .i64 l.src, .int .i64 l.dst, .int .i64 l.term, .int .i64 l.index, .int .i64 l.was, .bool l.ok, .int .i64 l.commit, .int .i64 l.version, .slice A n c]] w (SaidB w (M.lright l)) := by
  have href : l.ents.all (fun e => M.tm e.term) = true → M.lright l = ((l.term == 0 && l.index == 0 && l.was == 0 && (l.ok == l.ok) && l.commit == 0 && l.version == l.version && decide (n = 0)) && M.tm l.term && M.tm l.was && M.ix l.index && M.ix l.commit) := fun ht => by subst hn; exact M.ref5 l hs hd hk hv
  have HREF := Lib.hid href; have HE := Lib.hid hE; have HN := Lib.hid hn; have HD := Lib.hid hD
  have HSE : Hid (∀ w', Since w w' → Calls Tryz.prog 31 #[.slice A n c, .slice none 0 0] w' (SaidB w' (decide (n = 0)))) := Lib.hid (fun w' hw => by
    by_cases h0 : n = 0
    · rw [decide_eq_true h0]
      subst h0
      have he : l.ents = [] := List.eq_nil_of_length_eq_zero HN.out
      exact SameEntries_eq A 0 c none 0 [] w' rfl (EntsRd.nil _ _) (EntsRd.nil _ _) (by omega) (fun _ h => by cases h)
    · rw [decide_eq_false h0]
      exact SameEntries_ne A n c none 0 0 w' h0)
  have BK0 := Lib.hid (((Bank.nil (Below.refl w.heap.size w)).box #[B8 l.kind, .int .i64 l.src, .int .i64 l.dst, .int .i64 l.term, .int .i64 l.index, .int .i64 l.was, .bool l.ok, .int .i64 l.commit, .int .i64 l.version, .slice A n c] 28 (by simp)).box #[B8 l.kind, .int .i64 l.src, .int .i64 l.dst, .int .i64 0, .int .i64 0, .int .i64 0, .bool l.ok, .int .i64 0, .int .i64 l.version, .slice none 0 0] 28 (by simp))
  rw [World.size_alloc] at BK0
  have i1 : ¬ l.src < 1 := by omega
  have i2 : ¬ 7 < l.src := by omega
  have i3 : ¬ l.dst < 1 := by omega
  have i4 : ¬ 7 < l.dst := by omega
  have i5 : ¬ (4 : Int) < (n : Int) := by omega
  have d1 : decide (l.src < 1) = false := by simpa using i1
  have d2 : decide (7 < l.src) = false := by simpa using i2
  have d3 : decide (l.dst < 1) = false := by simpa using i3
  have d4 : decide (7 < l.dst) = false := by simpa using i4
  have d5 : decide ((4 : Int) < (n : Int)) = false := by simpa using i5
  have v1 : ¬ l.version < 1 := by omega
  have v2 : ¬ 1073741824 < l.version := by omega
  have e1 : decide (l.version < 1) = false := by simpa using v1
  have e2 : decide (1073741824 < l.version) = false := by simpa using v2
  have q1 : ∀ t, binOp .eql t (B8 l.kind) (.int .u8 1) = pure (.bool false) := fun t => by have := B8_eql t l.kind 1#8; rw [show (l.kind == 1#8) = false by rw [hk]; rfl] at this; exact this
  have q2 : ∀ t, binOp .eql t (B8 l.kind) (.int .u8 2) = pure (.bool false) := fun t => by have := B8_eql t l.kind 2#8; rw [show (l.kind == 2#8) = false by rw [hk]; rfl] at this; exact this
  have q3 : ∀ t, binOp .eql t (B8 l.kind) (.int .u8 3) = pure (.bool false) := fun t => by have := B8_eql t l.kind 3#8; rw [show (l.kind == 3#8) = false by rw [hk]; rfl] at this; exact this
  have q4 : ∀ t, binOp .eql t (B8 l.kind) (.int .u8 4) = pure (.bool false) := fun t => by have := B8_eql t l.kind 4#8; rw [show (l.kind == 4#8) = false by rw [hk]; rfl] at this; exact this
  have q5 : ∀ t, binOp .eql t (B8 l.kind) (.int .u8 5) = pure (.bool true) := fun t => by have := B8_eql t l.kind 5#8; rw [show (l.kind == 5#8) = true by rw [hk]; rfl] at this; exact this
  clear href hE hn hD hs hd hk hv
  go_enter Tryz.func17, Tryz.ntmps17
  go_wp2_with fail
  have BK1 := Lib.hid (show Bank w _ [boxAcc (w.heap.size + 1) 28 [B8 l.kind, .int .i64 l.src, .int .i64 l.dst, .int .i64 0, .int .i64 0, .int .i64 0, .bool l.ok, .int .i64 0, .int .i64 l.version, .slice none 0 0], boxAcc w.heap.size 28 #[B8 l.kind, .int .i64 l.src, .int .i64 l.dst, .int .i64 l.term, .int .i64 l.index, .int .i64 l.was, .bool l.ok, .int .i64 l.commit, .int .i64 l.version, .slice A n c].toList] from BK0.out)
  clear BK0 q5 q1 q2 q3 q4
  go_loopw [4] (fun i wr => ∃ k : Nat, k ≤ n ∧ i = .int .i64 (k : Int) ∧ (l.ents.take k).all (fun e => M.tm e.term) = true ∧ Bank w wr [boxAcc (w.heap.size + 1) 28 [B8 l.kind, .int .i64 l.src, .int .i64 l.dst, .int .i64 0, .int .i64 0, .int .i64 0, .bool l.ok, .int .i64 0, .int .i64 l.version, .slice none 0 0], boxAcc w.heap.size 28 #[B8 l.kind, .int .i64 l.src, .int .i64 l.dst, .int .i64 l.term, .int .i64 l.index, .int .i64 l.was, .bool l.ok, .int .i64 l.commit, .int .i64 l.version, .slice A n c].toList]) (fun i _ => n - (intOf i).toNat)
  case atStart => exact ⟨0, by omega, rfl, rfl, BK1.out⟩
  case round =>
    clear BK1
    obtain ⟨k, hk, rfl, hall, hB⟩ := hrel
    have HALL := Lib.hid hall; have BK := Lib.hid hB
    clear hall hB
    have k0 : (0 : Int) ≤ (k : Int) := by omega
    rcases Nat.lt_or_ge k n with h1 | h1
    · have j1 : (k : Int) < (n : Int) := by omega
      have hkl : k < l.ents.length := by rw [HN.out]; exact h1
      obtain ⟨b, o, rfl, A', m', c', ⟨y0, y1, y2, y3, y4, y5⟩, hrd⟩ := HE.out.since BK.out.since k hkl
      have x9 := BK.out.cell 1 rfl 9 rfl
      clear y1 y2 y3 y4 y5 hrd
      go_wp2_with fail
      clear x9 y0
      refine (rterm_any l.ents[k].term wr).mono ?_
      rintro e w5 ⟨rfl, rfl⟩
      cases hb : M.tm l.ents[k].term
      · have HFIN := Lib.hid (show SaidB w (M.lright l) (.returned (.bool false)) wr from ⟨by rw [M.lright_term l k hkl hb], BK.out.since⟩)
        clear hb
        go_wp2
        go_ret
        exact HFIN.out
      · have H := Lib.hid hb
        clear hb
        go_wp2
        go_roundw
        case rel => exact ⟨k + 1, by omega, by go_num, take_all hkl HALL.out H.out, BK.out⟩
        case measure => simp [intOf]; omega
    · have j1 : ¬ (k : Int) < (n : Int) := by omega
      have hall2 : l.ents.all (fun e => M.tm e.term) = true := by have := HALL.out; rwa [show k = l.ents.length by rw [HN.out]; omega, List.take_length] at this
      have HREF2 := Lib.hid (HREF.out hall2)
      clear hall2 HREF HALL
      have x0 := BK.out.cell 1 rfl 0 rfl
      have x1 := BK.out.cell 1 rfl 1 rfl
      have x2 := BK.out.cell 1 rfl 2 rfl
      have x3 := BK.out.cell 1 rfl 3 rfl
      have x4 := BK.out.cell 1 rfl 4 rfl
      have x5 := BK.out.cell 1 rfl 5 rfl
      have x6 := BK.out.cell 1 rfl 6 rfl
      have x7 := BK.out.cell 1 rfl 7 rfl
      have x8 := BK.out.cell 1 rfl 8 rfl
      have x9 := BK.out.cell 1 rfl 9 rfl
      have z0 := BK.out.cell 0 rfl 0 rfl
      have z1 := BK.out.cell 0 rfl 1 rfl
      have z2 := BK.out.cell 0 rfl 2 rfl
      have z3 := BK.out.cell 0 rfl 3 rfl
      have z4 := BK.out.cell 0 rfl 4 rfl
      have z5 := BK.out.cell 0 rfl 5 rfl
      have z6 := BK.out.cell 0 rfl 6 rfl
      have z7 := BK.out.cell 0 rfl 7 rfl
      have z8 := BK.out.cell 0 rfl 8 rfl
      have z9 := BK.out.cell 0 rfl 9 rfl
      go_wp2_with fail
      clear x0 x1 x2 x3 x4 x5 x6 x7 x8 x9 z0 z1 z2 z3 z4 z5 z6 z7 z8 z9
      refine (SameLetter_any l.kind l.src l.dst l.term 0 l.index 0 l.was 0 l.ok l.ok l.commit 0 l.version l.version A n c none 0 0 (decide (n = 0)) wr (fun w' hw => HSE.out w' (BK.out.since.add hw))).mono ?_
      rintro e w5 ⟨rfl, hs⟩
      have BK5 := Lib.hid (BK.out.call hs)
      obtain ⟨S, hS⟩ : ∃ S, S = (l.term == 0 && l.index == 0 && l.was == 0 && (l.ok == l.ok) && l.commit == 0 && l.version == l.version && decide (n = 0)) := ⟨_, rfl⟩
      rw [← hS]
      have HREF3 := Lib.hid (show M.lright l = (S && M.tm l.term && M.tm l.was && M.ix l.index && M.ix l.commit) by rw [hS]; exact HREF2.out)
      clear hS hs HREF2 BK
      cases S
      · have HFIN := Lib.hid (show SaidB w (M.lright l) (.returned (.bool false)) w5 from ⟨by rw [HREF3.out]; simp only [Bool.false_and, Bool.and_false, Bool.true_and], BK5.out.since⟩)
        go_wp2
        go_ret
        exact HFIN.out
      have x3 := BK5.out.cell 1 rfl 3 rfl
      go_wp2_with fail
      clear x3
      refine (rterm_any l.term w5).mono ?_
      rintro e w6 ⟨rfl, rfl⟩
      obtain ⟨b1, hb1⟩ : ∃ b, b = M.tm l.term := ⟨_, rfl⟩
      rw [← hb1]
      have HREF10 := Lib.hid (HREF3.out)
      rw [← hb1] at HREF3
      clear hb1 HREF10
      cases b1
      · have HFIN := Lib.hid (show SaidB w (M.lright l) (.returned (.bool false)) w5 from ⟨by rw [HREF3.out]; simp only [Bool.false_and, Bool.and_false, Bool.true_and], BK5.out.since⟩)
        go_wp2
        go_ret
        exact HFIN.out
      have x5 := BK5.out.cell 1 rfl 5 rfl
      go_wp2_with fail
      clear x5
      refine (rterm_any l.was w5).mono ?_
      rintro e w6 ⟨rfl, rfl⟩
      obtain ⟨b2, hb2⟩ : ∃ b, b = M.tm l.was := ⟨_, rfl⟩
      rw [← hb2]
      have HREF11 := Lib.hid (HREF3.out)
      rw [← hb2] at HREF3
      clear hb2 HREF11
      cases b2
      · have HFIN := Lib.hid (show SaidB w (M.lright l) (.returned (.bool false)) w5 from ⟨by rw [HREF3.out]; simp only [Bool.false_and, Bool.and_false, Bool.true_and], BK5.out.since⟩)
        go_wp2
        go_ret
        exact HFIN.out
      have x4 := BK5.out.cell 1 rfl 4 rfl
      go_wp2_with fail
      clear x4
      refine (rindex_any l.index w5).mono ?_
      rintro e w6 ⟨rfl, rfl⟩
      obtain ⟨b3, hb3⟩ : ∃ b, b = M.ix l.index := ⟨_, rfl⟩
      rw [← hb3]
      have HREF12 := Lib.hid (HREF3.out)
      rw [← hb3] at HREF3
      clear hb3 HREF12
      cases b3
      · have HFIN := Lib.hid (show SaidB w (M.lright l) (.returned (.bool false)) w5 from ⟨by rw [HREF3.out]; simp only [Bool.false_and, Bool.and_false, Bool.true_and], BK5.out.since⟩)
        go_wp2
        go_ret
        exact HFIN.out
      have x7 := BK5.out.cell 1 rfl 7 rfl
      go_wp2_with fail
      clear x7
      refine (rindex_any l.commit w5).mono ?_
      rintro e w6 ⟨rfl, rfl⟩
      obtain ⟨b4, hb4⟩ : ∃ b, b = M.ix l.commit := ⟨_, rfl⟩
      rw [← hb4]
      have HREF13 := Lib.hid (HREF3.out)
      rw [← hb4] at HREF3
      clear hb4 HREF13
      have HFIN := Lib.hid (show SaidB w (M.lright l) (.returned (.bool b4)) w5 from ⟨by rw [HREF3.out]; simp only [Bool.true_and], BK5.out.since⟩)
      go_wp2
      go_ret
      exact HFIN.out

set_option maxHeartbeats 8000000 in
set_option maxRecDepth 100000 in
theorem rRight_5b (l : M.Let) (A : Option Addr) (n c : Nat) (w : World) (hn : l.ents.length = n) (hE : EntsRd w A l.ents) (hD : ∀ e ∈ l.ents, e.data.length ≤ 4611686018427387904) (hs : 1 ≤ l.src ∧ l.src ≤ 7) (hd : 1 ≤ l.dst ∧ l.dst ≤ 7) (h4 : n ≤ 4) (hk : l.kind = 5#8) (hv : l.version < 1 ∨ 1073741824 < l.version) :
    Calls Tryz.prog 17 #[.agg #[B8 l.kind, .int .i64 l.src, .int .i64 l.dst, .int .i64 l.term, .int .i64 l.index, .int .i64 l.was, .bool l.ok, .int .i64 l.commit, .int .i64 l.version, .slice A n c]] w (SaidB w (M.lright l)) := by
  have hr : M.lright l = false := M.ref5_bad l hk hv
  have HS := Lib.hid (tmBx (w := w) (c := #[B8 l.kind, .int .i64 l.src, .int .i64 l.dst, .int .i64 l.term, .int .i64 l.index, .int .i64 l.was, .bool l.ok, .int .i64 l.commit, .int .i64 l.version, .slice A n c]) (d := #[B8 l.kind, .int .i64 l.src, .int .i64 l.dst, .int .i64 0, .int .i64 0, .int .i64 0, .bool l.ok, .int .i64 0, .int .i64 l.version, .slice none 0 0]) (t := 28))
  have i1 : ¬ l.src < 1 := by omega
  have i2 : ¬ 7 < l.src := by omega
  have i3 : ¬ l.dst < 1 := by omega
  have i4 : ¬ 7 < l.dst := by omega
  have i5 : ¬ (4 : Int) < (n : Int) := by omega
  have d1 : decide (l.src < 1) = false := by simpa using i1
  have d2 : decide (7 < l.src) = false := by simpa using i2
  have d3 : decide (l.dst < 1) = false := by simpa using i3
  have d4 : decide (7 < l.dst) = false := by simpa using i4
  have d5 : decide ((4 : Int) < (n : Int)) = false := by simpa using i5
  have q1 : ∀ t, binOp .eql t (B8 l.kind) (.int .u8 1) = pure (.bool false) := fun t => by have := B8_eql t l.kind 1#8; rw [show (l.kind == 1#8) = false by rw [hk]; rfl] at this; exact this
  have q2 : ∀ t, binOp .eql t (B8 l.kind) (.int .u8 2) = pure (.bool false) := fun t => by have := B8_eql t l.kind 2#8; rw [show (l.kind == 2#8) = false by rw [hk]; rfl] at this; exact this
  have q3 : ∀ t, binOp .eql t (B8 l.kind) (.int .u8 3) = pure (.bool false) := fun t => by have := B8_eql t l.kind 3#8; rw [show (l.kind == 3#8) = false by rw [hk]; rfl] at this; exact this
  have q4 : ∀ t, binOp .eql t (B8 l.kind) (.int .u8 4) = pure (.bool false) := fun t => by have := B8_eql t l.kind 4#8; rw [show (l.kind == 4#8) = false by rw [hk]; rfl] at this; exact this
  have q5 : ∀ t, binOp .eql t (B8 l.kind) (.int .u8 5) = pure (.bool true) := fun t => by have := B8_eql t l.kind 5#8; rw [show (l.kind == 5#8) = true by rw [hk]; rfl] at this; exact this
  rw [hr]
  clear hr hE hn hD hs hd h4 hk
  by_cases v1 : l.version < 1
  · clear hv
    go_enter Tryz.func17, Tryz.ntmps17
    go_wp2
    go_ret
    exact ⟨rfl, HS.out⟩
  have v2 : 1073741824 < l.version := by omega
  have e1 : decide (l.version < 1) = false := by simpa using v1
  clear hv
  go_enter Tryz.func17, Tryz.ntmps17
  go_wp2
  go_ret
  exact ⟨rfl, HS.out⟩

end Go.Proofs.YtdmpphioflcofaaGreat.K

/- (made by genrefright.py) The contract of the reference's Right. -/
namespace Go.Proofs.YtdmpphioflcofaaGreat.K
open Go Go.RowKit

theorem rRight_any (l : M.Let) (A : Option Addr) (n c : Nat) (w : World) (hn : l.ents.length = n) (hE : EntsRd w A l.ents) (hD : ∀ e ∈ l.ents, e.data.length ≤ 4611686018427387904) :
    Calls Tryz.prog 17 #[.agg #[B8 l.kind, .int .i64 l.src, .int .i64 l.dst, .int .i64 l.term, .int .i64 l.index, .int .i64 l.was, .bool l.ok, .int .i64 l.commit, .int .i64 l.version, .slice A n c]] w (SaidB w (M.lright l)) := by
  by_cases h : l.src < 1 ∨ 7 < l.src ∨ l.dst < 1 ∨ 7 < l.dst ∨ 4 < n
  · exact rRight_early l A n c w hn hE hD h
  have hs : 1 ≤ l.src ∧ l.src ≤ 7 := by omega
  have hd : 1 ≤ l.dst ∧ l.dst ≤ 7 := by omega
  have h4 : n ≤ 4 := by omega
  by_cases k1 : l.kind = 1#8
  · exact rRight_1 l A n c w hn hE hD hs hd h4 k1
  by_cases k2 : l.kind = 2#8
  · exact rRight_2 l A n c w hn hE hD hs hd h4 k2
  by_cases k3 : l.kind = 3#8
  · exact rRight_3 l A n c w hn hE hD hs hd h4 k3
  by_cases k4 : l.kind = 4#8
  · exact rRight_4 l A n c w hn hE hD hs hd h4 k4
  by_cases k5 : l.kind = 5#8
  · by_cases hv : l.version < 1 ∨ 1073741824 < l.version
    · exact rRight_5b l A n c w hn hE hD hs hd h4 k5 hv
    · exact rRight_5 l A n c w hn hE hD hs hd h4 k5 (by omega)
  exact rRight_no l A n c w hn hE hD hs hd h4 k1 k2 k3 k4 k5
end Go.Proofs.YtdmpphioflcofaaGreat.K

/- The contract of the reference's Get of letters. -/
namespace Go.Proofs.YtdmpphioflcofaaGreat.K
open Go Go.RowKit

theorem refN_grownL {w w' : World} {R : Nat} {s : M.Rdr} {A : Option Addr} {n c : Nat} {D : List (BitVec 8)} (h : RefN w R s A n c D) {row : Option Nat} (hg : w.grownBy w' row) (hR : row ≠ some R) (hA : ∀ a, A = some a → row ≠ some a.block) : RefN w' R s A n c D := by
  obtain ⟨at', bad, h⟩ := h
  exact ⟨at', bad, h.grown hg hR hA⟩
theorem infoInt : (Tryz.prog.info? 3).map (fun i => (i.zero, i.size, i.bytes)) = some (some (.int .i64 0), 1, 8) := by kernel_rfl
def intsAcc (A : Option Addr) (n c : Nat) (ns : List Int) : Acc := ⟨.slice A n c, n, 3, 1, ns.map (Value.int .i64)⟩
theorem wpList_append_held {P : Program} {w0 w : World} {Q : World → M.Rdr → Prop} {s : M.Rdr} {R : Nat} {Bd : Option Addr} {L : List Acc} {ops : Array Oper} {rest : List Oper} {o : Oper} {a : Act} {Q1 : Exit → Act → World → Prop} (h : Held w0 w Q s R Bd L) (hgd : o.guard = Option.none) (s0 y : Operand) (t : TypeId)
    (ho : o.op = .call { callee := .builtin .append, args := #[s0, y], argTypes := #[t, t] })
    (e : TypeId) (z : Value) (size bytes : Nat) (hz : (P.info? e).map (fun i => (i.zero, i.size, i.bytes)) = some (some z, size, bytes)) (ht : P.underlying t = some (.slice e)) (hzs : z.cells.size = size) (hsz : 0 < size)
    (k : Nat) (A : Option Addr) (n cap : Nat) (xs : List Value) (hs : a.eval s0 = .slice A n cap) (hk : L[k]? = some ⟨.slice A n cap, n, e, size, xs⟩)
    (ad : Addr) (m c : Nat) (news : List Value) (hx : a.eval y = .slice (some ad) m c) (hl : news.length = m * size) (hnews : ∀ j u, news[j]? = some u → w.cell? (ad.add j) = some u) (h1 : ∀ u ∈ news, u.oneCell' = true)
    (h63 : n + m ≤ maxLen) (hbytes : (n + m) * bytes ≤ 140737488355328)
    (hK : ∀ A' n' c' w', n' = n + m → Held w0 w' Q s R Bd (L.set k ⟨.slice A' n' c', n', e, size, xs ++ news⟩) → wpList P ops Q1 rest (a.put o.dst (.slice A' n' c')) w') : wpList P ops Q1 (o :: rest) a w :=
  wpList_append_bankG h.bank hgd s0 y t ho e z size bytes hz ht hzs hsz k A n cap xs hs hk ad m c news hx hl hnews h1 h63 hbytes fun A' n' c' w' hn' h2 h3 h4 => hK A' n' c' w' hn' (h.put k hk h2 h3 h4)
theorem ents_mem_le' (es : List M.Ent) : ∀ e ∈ es, e.data.length ≤ (M.ents es).length := by
  induction es with
  | nil => intro e he; cases he
  | cons x es ih =>
    intro e he
    simp only [M.ents, List.flatMap_cons, List.length_append, M.ent_length]
    rcases List.mem_cons.1 he with rfl | he
    · omega
    · have := ih e he
      simp only [M.ents] at this
      omega
theorem entry_heldR {w0 w : World} {s s' : M.Rdr} {x : M.Ent} {R : Nat} {Bd : Option Addr} {n c : Nat} {D : List (BitVec 8)} {L : List Acc} (h : Held w0 w (fun w s => RefN w R s Bd n c D) s R Bd L) (hx : M.rdEntry s = (x, s')) :
    Calls Tryz.prog 29 #[.pointer (some ⟨R, 0, none⟩)] w fun e w' => ∃ B m c1, e = .returned (.agg #[.int .i64 x.term, B8 x.kind, .int .i64 x.version, .int .i64 x.server, .bool x.good, .slice B m c1]) ∧ Held w0 w' (fun w s => RefN w R s Bd n c D) s' R Bd (rowAcc B m c1 x.data :: L) := by
  obtain ⟨at1, bad1, hq1⟩ := h.q
  refine (rEntry_any R s Bd n c at1 bad1 D w hq1 h.lt.2).mono ?_
  rintro e w' ⟨B, m, c1, rfl, ho, hq, hg⟩
  rw [hx] at ho hq
  rw [hx]
  exact ⟨B, m, c1, rfl, h.row hq hg ho⟩
theorem rd_small {bs : List (BitVec 8)} {ns : List Int} {s : M.Rdr} {es : List M.Ent} {q : Nat} (h1 : M.rdNums (some bs) 10 = (ns, s)) (h2 : M.rdEnts s q = (es, some [])) : ∀ e ∈ es, e.data.length ≤ bs.length := by
  intro e he
  obtain ⟨b, rfl, hb⟩ := M.rdEnts_inv s q [] (by rw [h2])
  have h3 := M.rdNums_inv bs 10 b (by rw [h1])
  rw [h2] at hb
  have h4 := ents_mem_le' es e he
  have h5 : bs.length = (M.nums ns).length + b.length := by rw [h1] at h3; rw [h3, List.length_append]
  have h6 : b.length = (M.ents es).length := by rw [hb]; simp
  omega
theorem ten_cells {w0 w : World} {L : List Acc} {gn c' : Nat} {n0 n1 n2 n3 n4 n5 n6 n7 n8 n9 : Int} (h : Bank w0 w L) (hi : L[0]? = some (intsAcc (some ⟨gn, 0, none⟩) 10 c' [n0, n1, n2, n3, n4, n5, n6, n7, n8, n9])) : w.cell? ⟨gn, 0, none⟩ = some (.int .i64 n0) ∧ w.cell? ⟨gn, 1, none⟩ = some (.int .i64 n1) ∧ w.cell? ⟨gn, 2, none⟩ = some (.int .i64 n2) ∧ w.cell? ⟨gn, 3, none⟩ = some (.int .i64 n3) ∧ w.cell? ⟨gn, 4, none⟩ = some (.int .i64 n4) ∧ w.cell? ⟨gn, 5, none⟩ = some (.int .i64 n5) ∧ w.cell? ⟨gn, 6, none⟩ = some (.int .i64 n6) ∧ w.cell? ⟨gn, 7, none⟩ = some (.int .i64 n7) ∧ w.cell? ⟨gn, 8, none⟩ = some (.int .i64 n8) ∧ w.cell? ⟨gn, 9, none⟩ = some (.int .i64 n9) := by
  have ho := h.at 0 hi
  have hc : ∀ j, j < 10 → w.cell? ⟨gn, j, none⟩ = ([n0, n1, n2, n3, n4, n5, n6, n7, n8, n9].map (Value.int .i64))[j]? := fun j hj => World.ownsRow.cellAt ho j (by show j < 10 * 1; omega)
  exact ⟨hc 0 (by omega), hc 1 (by omega), hc 2 (by omega), hc 3 (by omega), hc 4 (by omega), hc 5 (by omega), hc 6 (by omega), hc 7 (by omega), hc 8 (by omega), hc 9 (by omega)⟩
theorem lread_unfit' {b : List (BitVec 8)} {ns : List Int} {s : M.Rdr} (h1 : M.rdNums (some b) 10 = (ns, s)) (h : M.lfits ns = false) : M.lread b = none := lread_unfit h1 h
set_option maxHeartbeats 16000000 in
set_option maxRecDepth 100000 in
theorem rLGet_any (A : Option Addr) (n c : Nat) (bs : List (BitVec 8)) (w : World) (hr : RowRd w ⟨A, n, c⟩ bs) (hn : n ≤ 10000000000) :
    Calls Tryz.prog 8 #[.slice A n c] w (LGot w bs) := by
  have HR := Lib.hid hr
  have BK0 := Lib.hid ((Bank.nil (Below.refl w.heap.size w)).box #[.int .u8 0, .int .i64 0, .int .i64 0, .int .i64 0, .int .i64 0, .int .i64 0, .bool false, .int .i64 0, .int .i64 0, .slice none 0 0] 28 (by decide))
  clear hr
  go_enter Tryz.func8, Tryz.ntmps8
  go_wp2_with fail
  generalize w.alloc (.cells #[.int .u8 0, .int .i64 0, .int .i64 0, .int .i64 0, .int .i64 0, .int .i64 0, .bool false, .int .i64 0, .int .i64 0, .slice none 0 0] 28) = w1 at *
  generalize w.heap.size = X at *
  refine (rNew_any A n c bs w1 (Since.row BK0.out.since HR.out) (by omega)).mono ?_
  rintro e w2 ⟨R, Bd, cB, rfl, hR, hq, hBd, hb⟩
  have H2 := Lib.hid (show Held w w2 (fun w s => RefN w R s Bd n cB bs) (some bs) R Bd [intsAcc none 0 0 [], boxAcc X 28 zeroLL] from (Held.start (Q := fun w s => RefN w R s Bd n cB bs) BK0.out ⟨0, false, hq⟩ hb hR hq.lt hBd (fun w w' s row h hg hR hA => refN_grownL h hg hR hA)).nil6 3 1)
  clear hq hBd hb hR BK0
  go_wp2_with fail
  go_loopw [5, 6] (fun v i wr => ∃ (k : Nat) (A' : Option Addr) (c' : Nat), k ≤ 10 ∧ i = .int .i64 (k : Int) ∧ v = .slice A' k c' ∧ Held w wr (fun w s => RefN w R s Bd n cB bs) (M.rdNums (some bs) k).2 R Bd [intsAcc A' k c' (M.rdNums (some bs) k).1, boxAcc X 28 zeroLL]) (fun _ i _ => 10 - (intOf i).toNat)
  case atStart => exact ⟨0, none, 0, by omega, rfl, rfl, H2.out⟩
  case round =>
    clear H2
    obtain ⟨k, A', c', hk, rfl, rfl, hH⟩ := hrel
    have k0 : (0 : Int) ≤ (k : Int) := by omega
    have H1 := Lib.hid hH
    clear hH
    rcases Nat.lt_or_ge k 10 with h1 | h1
    · have i1 : (k : Int) < 10 := by omega
      go_wp2_with fail
      obtain ⟨at1, bad1, hq1⟩ := H1.out.q
      refine (rNumber_any R _ Bd n cB at1 bad1 bs wr hq1).mono ?_
      rintro e w3 ⟨rfl, hq, hg⟩
      obtain ⟨v, hv⟩ : ∃ v, v = (M.rdNumber (M.rdNums (some bs) k).2).1 := ⟨_, rfl⟩
      rw [← hv]
      have HV := Lib.hid hv
      have H3 := Lib.hid ((H1.out.step hq hg).call ((Below.refl _ _).alloc (Nat.le_refl _) (.cells #[.int .i64 v] 3)))
      clear hv hq hg hq1 H1
      go_wp2_with (at_builtin; refine wpList_append_held H3.out rfl _ _ 38 rfl 3 _ 1 8 infoInt Tryz.underlying38 rfl (by decide) 0 A' k c' ((M.rdNums (some bs) k).1.map (Value.int .i64)) rfl rfl _ 1 1 [.int .i64 v] rfl rfl (cells_lit1 _ [.int .i64 v] _) (by intro u hu; simp at hu; subst hu; rfl) (by unfold maxLen; omega) (by omega) ?_; intro A2 n2 c2 w4 hn2 hH; subst hn2; have H4 := Lib.hid hH; clear hH)
      go_roundw
      case rel =>
        refine ⟨k + 1, A2, c2, by omega, by go_num, rfl, ?_⟩
        have h := H4.out
        have e1 : intsAcc A2 (k + 1) c2 (M.rdNums (some bs) (k + 1)).1 = ⟨.slice A2 (k + 1) c2, k + 1, 3, 1, (M.rdNums (some bs) k).1.map (Value.int .i64) ++ [.int .i64 v]⟩ := by
          rw [intsAcc, M.rdNums, List.map_append, HV.out]; rfl
        rw [e1]
        exact h
      case measure => simp [intOf]; omega
    · have i1 : ¬ (k : Int) < 10 := by omega
      obtain rfl : k = 10 := by omega
      obtain ⟨ns, hns⟩ : ∃ ns, ns = (M.rdNums (some bs) 10).1 := ⟨_, rfl⟩
      obtain ⟨s, hs⟩ : ∃ s, s = (M.rdNums (some bs) 10).2 := ⟨_, rfl⟩
      have HRD := Lib.hid (show M.rdNums (some bs) 10 = (ns, s) by rw [hns, hs])
      obtain ⟨n0, n1, n2, n3, n4, n5, n6, n7, n8, n9, rfl⟩ := ten_of (show ns.length = 10 by rw [hns]; exact M.rdNums_length _ _)
      rw [← hns, ← hs] at H1
      clear hns hs
      obtain ⟨gn, rfl⟩ := own_someB (H1.out.bank.at 0 rfl) (by show 0 < 10; omega)
      have HRES := Lib.hid (H1.out.bank.boxAt 1 rfl).2
      have BAD : Hid (M.lfits [n0, n1, n2, n3, n4, n5, n6, n7, n8, n9] = false → LGot w bs (.returned (.tuple #[.agg (letL M.zeroLet none 0 0).toArray, .int .i64 4])) (wr.setRow X (letL M.zeroLet none 0 0).toArray)) := Lib.hid (fun hb =>
        ⟨M.zeroLet, [], none, 0, 0, by rw [M.lget, lread_unfit HRD.out hb]; rfl, by rw [M.lgetE, lread_unfit HRD.out hb]; rfl, rfl, rfl, ((H1.out.bank.boxRow 1 rfl (letL M.zeroLet none 0 0) rfl (by simp [zeroLL])).drop.drop).none _ _⟩)
      have y0 : wr.cell? ⟨gn, 0, none⟩ = some (.int .i64 n0) := World.ownsRow.cellAt (H1.out.bank.at 0 rfl) 0 (by show _ < 10 * 1; omega)
      have y6 : wr.cell? ⟨gn, 6, none⟩ = some (.int .i64 n6) := World.ownsRow.cellAt (H1.out.bank.at 0 rfl) 6 (by show _ < 10 * 1; omega)
      have y9 : wr.cell? ⟨gn, 9, none⟩ = some (.int .i64 n9) := World.ownsRow.cellAt (H1.out.bank.at 0 rfl) 9 (by show _ < 10 * 1; omega)
      have hcap := (row_room (H1.out.bank.at 0 rfl)).1
      by_cases c0 : n0 < 0
      · have HFIN := Lib.hid (BAD.out (by unfold M.lfits M.wi; simp; omega))
        go_wp2_with (with_reducible refine wpList_store_row rfl 28 (.tmp 2) (.tmp 57) rfl X (letL M.zeroLet none 0 0).toArray rfl rfl 28 _ HRES.out (infoLetL _ _ _ _) rfl (letL_one _ _ _ _) ?_)
        refine bodyPost_ret (v := .tuple #[.agg (letL M.zeroLet none 0 0).toArray, .int .i64 4]) ?_ rfl HFIN.out
        exact results_cell_tmpL rfl _ _ X _ _ rfl rfl (load_let _ _ _ _ (setRow_heap _ _ _ _ _ _ HRES.out))
      by_cases c1 : 255 < n0
      · have HFIN := Lib.hid (BAD.out (by unfold M.lfits M.wi; simp; omega))
        go_wp2_with (with_reducible refine wpList_store_row rfl 28 (.tmp 2) (.tmp 57) rfl X (letL M.zeroLet none 0 0).toArray rfl rfl 28 _ HRES.out (infoLetL _ _ _ _) rfl (letL_one _ _ _ _) ?_)
        refine bodyPost_ret (v := .tuple #[.agg (letL M.zeroLet none 0 0).toArray, .int .i64 4]) ?_ rfl HFIN.out
        exact results_cell_tmpL rfl _ _ X _ _ rfl rfl (load_let _ _ _ _ (setRow_heap _ _ _ _ _ _ HRES.out))
      by_cases c2 : n6 < 0
      · have HFIN := Lib.hid (BAD.out (by unfold M.lfits M.wi; simp; omega))
        go_wp2_with (with_reducible refine wpList_store_row rfl 28 (.tmp 2) (.tmp 57) rfl X (letL M.zeroLet none 0 0).toArray rfl rfl 28 _ HRES.out (infoLetL _ _ _ _) rfl (letL_one _ _ _ _) ?_)
        refine bodyPost_ret (v := .tuple #[.agg (letL M.zeroLet none 0 0).toArray, .int .i64 4]) ?_ rfl HFIN.out
        exact results_cell_tmpL rfl _ _ X _ _ rfl rfl (load_let _ _ _ _ (setRow_heap _ _ _ _ _ _ HRES.out))
      by_cases c3 : 1 < n6
      · have HFIN := Lib.hid (BAD.out (by unfold M.lfits M.wi; simp; omega))
        go_wp2_with (with_reducible refine wpList_store_row rfl 28 (.tmp 2) (.tmp 57) rfl X (letL M.zeroLet none 0 0).toArray rfl rfl 28 _ HRES.out (infoLetL _ _ _ _) rfl (letL_one _ _ _ _) ?_)
        refine bodyPost_ret (v := .tuple #[.agg (letL M.zeroLet none 0 0).toArray, .int .i64 4]) ?_ rfl HFIN.out
        exact results_cell_tmpL rfl _ _ X _ _ rfl rfl (load_let _ _ _ _ (setRow_heap _ _ _ _ _ _ HRES.out))
      by_cases c4 : n9 < 0
      · have HFIN := Lib.hid (BAD.out (by unfold M.lfits M.wi; simp; omega))
        go_wp2_with (with_reducible refine wpList_store_row rfl 28 (.tmp 2) (.tmp 57) rfl X (letL M.zeroLet none 0 0).toArray rfl rfl 28 _ HRES.out (infoLetL _ _ _ _) rfl (letL_one _ _ _ _) ?_)
        refine bodyPost_ret (v := .tuple #[.agg (letL M.zeroLet none 0 0).toArray, .int .i64 4]) ?_ rfl HFIN.out
        exact results_cell_tmpL rfl _ _ X _ _ rfl rfl (load_let _ _ _ _ (setRow_heap _ _ _ _ _ _ HRES.out))
      by_cases c5 : 4 < n9
      · have HFIN := Lib.hid (BAD.out (by unfold M.lfits M.wi; simp; omega))
        go_wp2_with (with_reducible refine wpList_store_row rfl 28 (.tmp 2) (.tmp 57) rfl X (letL M.zeroLet none 0 0).toArray rfl rfl 28 _ HRES.out (infoLetL _ _ _ _) rfl (letL_one _ _ _ _) ?_)
        refine bodyPost_ret (v := .tuple #[.agg (letL M.zeroLet none 0 0).toArray, .int .i64 4]) ?_ rfl HFIN.out
        exact results_cell_tmpL rfl _ _ X _ _ rfl rfl (load_let _ _ _ _ (setRow_heap _ _ _ _ _ _ HRES.out))
      have HFIT := Lib.hid (show M.lfits [n0, n1, n2, n3, n4, n5, n6, n7, n8, n9] = true by unfold M.lfits M.wi; simp; omega)
      clear BAD HRES
      go_wp2_with fail
      clear y0 y6 y9
      have hH := H1.out.drew
      obtain ⟨x0, x1, x2, x3, x4, x5, x6, x7, x8, x9⟩ := ten_cells hH.bank rfl
      go_region_held3 (fun w' => w'.cell? ⟨gn, 0, none⟩ = some (.int .i64 n0) ∧ w'.cell? ⟨gn, 1, none⟩ = some (.int .i64 n1) ∧ w'.cell? ⟨gn, 2, none⟩ = some (.int .i64 n2) ∧ w'.cell? ⟨gn, 3, none⟩ = some (.int .i64 n3) ∧ w'.cell? ⟨gn, 4, none⟩ = some (.int .i64 n4) ∧ w'.cell? ⟨gn, 5, none⟩ = some (.int .i64 n5) ∧ w'.cell? ⟨gn, 6, none⟩ = some (.int .i64 n6) ∧ w'.cell? ⟨gn, 7, none⟩ = some (.int .i64 n7) ∧ w'.cell? ⟨gn, 8, none⟩ = some (.int .i64 n8) ∧ w'.cell? ⟨gn, 9, none⟩ = some (.int .i64 n9))
        (first
          | with_reducible exact ten_cells hH.bank rfl
          | with_reducible exact ten_cells (hH.call ((Below.refl _ _).alloc (Nat.le_refl _) _)).bank rfl
          | fail "keep")
        (first
          | fail "arm")
      all_goals
        clear hH x0 x1 x2 x3 x4 x5 x6 x7 x8 x9
        simp only [kind_B8L]
        obtain ⟨q9, h9, rfl⟩ : ∃ q : Nat, q ≤ 4 ∧ n9 = (q : Int) := ⟨n9.toNat, by omega, by omega⟩
        have H5 := Lib.hid ((H1.out.box #[B8 (BitVec.ofInt 8 n0), .int .i64 n1, .int .i64 n2, .int .i64 n3, .int .i64 n4, .int .i64 n5, .bool (n6 == 1), .int .i64 n7, .int .i64 n8, .slice none 0 0] 28 (by simp)).nil6 42 6).drew
        clear H1 c0 c1 c2 c3 c4 c5
        generalize (wr.alloc (.cells #[B8 (BitVec.ofInt 8 n0), .int .i64 n1, .int .i64 n2, .int .i64 n3, .int .i64 n4, .int .i64 n5, .bool (n6 == 1), .int .i64 n7, .int .i64 n8, .slice none 0 0] 28)).drew = w5 at *
        generalize wr.heap.size = Y at *
        go_wp2_with fail
        go_loopw [9] (fun i wr => ∃ (q : Nat) (xs : List EV) (A : Option Addr) (c : Nat), q ≤ q9 ∧ i = .int .i64 (q : Int) ∧ xs.length = q ∧ xs.map EV.e = (M.rdEnts s q).1 ∧ Held w wr (fun w s => RefN w R s Bd n cB bs) (M.rdEnts s q).2 R Bd (evsAcc A q c xs :: boxAcc Y 28 [B8 (BitVec.ofInt 8 n0), .int .i64 n1, .int .i64 n2, .int .i64 n3, .int .i64 n4, .int .i64 n5, .bool (n6 == 1), .int .i64 n7, .int .i64 n8, .slice A q c] :: intsAcc (some ⟨gn, 0, none⟩) 10 c' [n0, n1, n2, n3, n4, n5, n6, n7, n8, (q9 : Int)] :: boxAcc X 28 zeroLL :: evRows xs)) (fun i _ => q9 - (intOf i).toNat)
        case atStart => exact ⟨0, [], none, 0, by omega, rfl, rfl, rfl, H5.out⟩
        case round =>
          clear H5
          obtain ⟨q, xs, A1, c1, hq, rfl, hxl, hxs, hH⟩ := hrel
          have H6 := Lib.hid hH
          have HXL := Lib.hid hxl
          have HXS := Lib.hid hxs
          clear hH hxl hxs
          have q0 : (0 : Int) ≤ (q : Int) := by omega
          have g9 : _ = some (Value.int .i64 (q9 : Int)) := World.ownsRow.cellAt (H6.out.bank.at 2 rfl) 9 (by show _ < 10 * 1; omega)
          rcases Nat.lt_or_ge q q9 with h2 | h2
          · have i2 : (q : Int) < (q9 : Int) := by omega
            obtain ⟨en, hen⟩ : ∃ en, en = (M.rdEntry (M.rdEnts s q).2).1 := ⟨_, rfl⟩
            obtain ⟨sq, hsq⟩ : ∃ sq, sq = (M.rdEntry (M.rdEnts s q).2).2 := ⟨_, rfl⟩
            have HEN := Lib.hid (show M.rdEntry (M.rdEnts s q).2 = (en, sq) by rw [hen, hsq])
            clear hen hsq
            go_wp2_with fail
            refine (entry_heldR H6.out HEN.out).mono ?_
            rintro e w6 ⟨B, m, c6, rfl, hH⟩
            have H7 := Lib.hid (hH.box #[.int .i64 en.term, B8 en.kind, .int .i64 en.version, .int .i64 en.server, .bool en.good, .slice B m c6] 42 (by simp))
            have H8 := Lib.hid (H7.out.call ((Below.refl _ _).alloc (Nat.le_refl _) (.cells #[.int .i64 en.term, B8 en.kind, .int .i64 en.version, .int .i64 en.server, .bool en.good, .slice B m c6] 42)))
            have x9 := H7.out.bank.cell 3 rfl 9 rfl
            clear hH H6 g9
            go_wp2_with (at_builtin; refine wpList_append_held H8.out rfl _ _ 26 rfl 42 _ 6 64 infoEntry Tryz.underlying26 rfl (by decide) 2 A1 q c1 (xs.flatMap EV.cells) rfl rfl _ 1 1 (entL en.term en.version en.server en.kind en.good B m c6) rfl rfl (cells_lit2 w6 _ (entL en.term en.version en.server en.kind en.good B m c6) _) (entL_oneL _ _ _ _ _ _ _ _) (by unfold maxLen; omega) (by omega) ?_; intro A' n' c'' w7 hn' hH; subst hn'; have y9 := hH.bank.cell 3 rfl 9 rfl; have z9 := hH.bank.free 3 rfl 9; have H9 := Lib.hid (hH.set 3 rfl 9 (.slice A' (q + 1) c'')); clear hH)
            go_roundw
            case rel =>
              refine ⟨q + 1, xs ++ [⟨en, B, m, c6⟩], A', c'', by omega, by go_num, by rw [List.length_append, HXL.out]; rfl, by rw [List.map_append, HXS.out, M.rdEnts, HEN.out]; rfl, ?_⟩
              have h := H9.out.sub (.cons _ (List.Sublist.refl _))
              rw [evRows_snoc, M.rdEnts, HEN.out]
              have e1 : evsAcc A' (q + 1) c'' (xs ++ [⟨en, B, m, c6⟩]) = ⟨.slice A' (q + 1) c'', q + 1, 42, 6, xs.flatMap EV.cells ++ entL en.term en.version en.server en.kind en.good B m c6⟩ := by
                rw [evsAcc, List.flatMap_append]; simp [EV.cells]
              exact Held.perm (L := rowAcc B m c6 en.data :: ([evsAcc A' (q + 1) c'' (xs ++ [⟨en, B, m, c6⟩]), boxAcc Y 28 [B8 (BitVec.ofInt 8 n0), .int .i64 n1, .int .i64 n2, .int .i64 n3, .int .i64 n4, .int .i64 n5, .bool (n6 == 1), .int .i64 n7, .int .i64 n8, .slice A' (q + 1) c''], intsAcc (some ⟨gn, 0, none⟩) 10 c' [n0, n1, n2, n3, n4, n5, n6, n7, n8, (q9 : Int)], boxAcc X 28 zeroLL] ++ evRows xs)) (by rw [e1]; exact h) List.perm_middle.symm
            case measure => simp [intOf]; omega
          · have i2 : ¬ (q : Int) < (q9 : Int) := by omega
            obtain rfl : q = q9 := by omega
            obtain ⟨es, hes⟩ : ∃ es, es = (M.rdEnts s q).1 := ⟨_, rfl⟩
            obtain ⟨s2, hs2⟩ : ∃ s2, s2 = (M.rdEnts s q).2 := ⟨_, rfl⟩
            have hre : M.rdEnts s q = (es, s2) := by rw [hes, hs2]
            have HRE := Lib.hid hre
            have HLR := Lib.hid (lread_eq HRD.out (show M.rdEnts s ([n0, n1, n2, n3, n4, n5, n6, n7, n8, (q : Int)].getD 9 0).toNat = (es, s2) from hre))
            have HES := Lib.hid (show xs.map EV.e = es by rw [HXS.out, hes])
            rw [← hs2] at H6
            clear hes hs2 hre HXS
            go_wp2_with fail
            obtain ⟨at1, bad1, hq1⟩ := H6.out.q
            refine (rDone_any R s2 Bd n cB at1 bad1 bs wr hq1).mono ?_
            rintro e w6 ⟨rfl, qd, rfl⟩
            have BK := Lib.hid (H6.out.bank.drewN qd)
            clear hq1 H6 g9
            generalize wr.drewN qd = w6 at *
            by_cases hs2 : s2 = some []
            rotate_left
            · rw [decide_eq_false hs2]
              have HN := Lib.hid (show M.lread bs = none by rw [HLR.out, if_neg (fun h => hs2 h.2.1)])
              clear hs2
              have HRES := Lib.hid (BK.out.boxAt 3 rfl).2
              have HFIN := Lib.hid (show LGot w bs (.returned (.tuple #[.agg (letL M.zeroLet none 0 0).toArray, .int .i64 4])) (w6.setRow X (letL M.zeroLet none 0 0).toArray) from
                ⟨M.zeroLet, [], none, 0, 0, by rw [M.lget, HN.out]; rfl, by rw [M.lgetE, HN.out]; rfl, rfl, rfl, ((BK.out.boxRow 3 rfl (letL M.zeroLet none 0 0) rfl (by simp [zeroLL])).sub (List.nil_sublist _)).none _ _⟩)
              go_wp2_with (with_reducible refine wpList_store_row rfl 28 (.tmp 2) (.tmp 111) rfl X (letL M.zeroLet none 0 0).toArray rfl rfl 28 _ HRES.out (infoLetL _ _ _ _) rfl (letL_one _ _ _ _) ?_)
              refine bodyPost_ret (v := .tuple #[.agg (letL M.zeroLet none 0 0).toArray, .int .i64 4]) ?_ rfl HFIN.out
              exact results_cell_tmpL rfl _ _ X _ _ rfl rfl (load_let _ _ _ _ (setRow_heap _ _ _ _ _ _ HRES.out))
            rw [decide_eq_true hs2]
            have HS2 := Lib.hid hs2
            have HRDS := Lib.hid (show EntsRd w6 A1 es by rw [← HES.out]; exact evs_rd BK.out (.head _) (fun x hx => .tail _ (.tail _ (.tail _ (.tail _ (List.mem_map.2 ⟨x, by simpa using hx, rfl⟩))))) HXL.out)
            have HLEN := Lib.hid (show es.length = q by rw [← HES.out, List.length_map, HXL.out])
            have HDL := Lib.hid (show ∀ e ∈ es, e.data.length ≤ 4611686018427387904 from fun e he => Nat.le_trans (rd_small HRD.out (HRE.out.trans (by rw [hs2])) e he) (by have : bs.length = n := HR.out.len; omega))
            clear hs2
            have x0 := BK.out.cell 1 rfl 0 rfl
            have x1 := BK.out.cell 1 rfl 1 rfl
            have x2 := BK.out.cell 1 rfl 2 rfl
            have x3 := BK.out.cell 1 rfl 3 rfl
            have x4 := BK.out.cell 1 rfl 4 rfl
            have x5 := BK.out.cell 1 rfl 5 rfl
            have x6 := BK.out.cell 1 rfl 6 rfl
            have x7 := BK.out.cell 1 rfl 7 rfl
            have x8 := BK.out.cell 1 rfl 8 rfl
            have x9 := BK.out.cell 1 rfl 9 rfl
            go_wp2_with fail
            clear x0 x1 x2 x3 x4 x5 x6 x7 x8 x9
            refine (rRight_any ⟨BitVec.ofInt 8 n0, n1, n2, n3, n4, n5, n6 == 1, n7, n8, es⟩ A1 q c1 w6 HLEN.out HRDS.out HDL.out).mono ?_
            rintro e w7 ⟨rfl, hs⟩
            have BK7 := Lib.hid (BK.out.call hs)
            clear hs BK
            by_cases hR : M.lright ⟨BitVec.ofInt 8 n0, n1, n2, n3, n4, n5, n6 == 1, n7, n8, es⟩ = true
            rotate_left
            · have hR' : M.lright ⟨BitVec.ofInt 8 n0, n1, n2, n3, n4, n5, n6 == 1, n7, n8, es⟩ = false := by simpa using hR
              rw [hR']
              have HN := Lib.hid (show M.lread bs = none by rw [HLR.out, if_neg (fun h => hR h.2.2)])
              clear hR hR'
              have HRES := Lib.hid (BK7.out.boxAt 3 rfl).2
              have HFIN := Lib.hid (show LGot w bs (.returned (.tuple #[.agg (letL M.zeroLet none 0 0).toArray, .int .i64 4])) (w7.setRow X (letL M.zeroLet none 0 0).toArray) from
                ⟨M.zeroLet, [], none, 0, 0, by rw [M.lget, HN.out]; rfl, by rw [M.lgetE, HN.out]; rfl, rfl, rfl, ((BK7.out.boxRow 3 rfl (letL M.zeroLet none 0 0) rfl (by simp [zeroLL])).sub (List.nil_sublist _)).none _ _⟩)
              go_wp2_with (with_reducible refine wpList_store_row rfl 28 (.tmp 2) (.tmp 111) rfl X (letL M.zeroLet none 0 0).toArray rfl rfl 28 _ HRES.out (infoLetL _ _ _ _) rfl (letL_one _ _ _ _) ?_)
              refine bodyPost_ret (v := .tuple #[.agg (letL M.zeroLet none 0 0).toArray, .int .i64 4]) ?_ rfl HFIN.out
              exact results_cell_tmpL rfl _ _ X _ _ rfl rfl (load_let _ _ _ _ (setRow_heap _ _ _ _ _ _ HRES.out))
            rw [hR]
            have HOK := Lib.hid (show M.lread bs = some ⟨BitVec.ofInt 8 n0, n1, n2, n3, n4, n5, n6 == 1, n7, n8, es⟩ by
              rw [HLR.out, if_pos ⟨HFIT.out, HS2.out, hR⟩]; rfl)
            clear hR
            have x0 := BK7.out.cell 1 rfl 0 rfl
            have x1 := BK7.out.cell 1 rfl 1 rfl
            have x2 := BK7.out.cell 1 rfl 2 rfl
            have x3 := BK7.out.cell 1 rfl 3 rfl
            have x4 := BK7.out.cell 1 rfl 4 rfl
            have x5 := BK7.out.cell 1 rfl 5 rfl
            have x6 := BK7.out.cell 1 rfl 6 rfl
            have x7 := BK7.out.cell 1 rfl 7 rfl
            have x8 := BK7.out.cell 1 rfl 8 rfl
            have x9 := BK7.out.cell 1 rfl 9 rfl
            have HRES := Lib.hid (BK7.out.boxAt 3 rfl).2
            have HFIN := Lib.hid (show LGot w bs (.returned (.tuple #[.agg (letL ⟨BitVec.ofInt 8 n0, n1, n2, n3, n4, n5, n6 == 1, n7, n8, es⟩ A1 q c1).toArray, .int .i64 0])) (w7.setRow X (letL ⟨BitVec.ofInt 8 n0, n1, n2, n3, n4, n5, n6 == 1, n7, n8, es⟩ A1 q c1).toArray) from
              ⟨⟨BitVec.ofInt 8 n0, n1, n2, n3, n4, n5, n6 == 1, n7, n8, es⟩, xs, A1, q, c1, by rw [M.lget, HOK.out]; rfl, by rw [M.lgetE, HOK.out]; rfl, HES.out.symm, HXL.out.symm, (BK7.out.boxRow 3 rfl (letL ⟨BitVec.ofInt 8 n0, n1, n2, n3, n4, n5, n6 == 1, n7, n8, es⟩ A1 q c1) rfl (by simp [zeroLL])).sub (.cons_cons _ (.cons _ (.cons _ (.cons _ (List.Sublist.refl _)))))⟩)
            go_wp2_with (with_reducible refine wpList_store_row rfl 28 (.tmp 2) (.tmp 112) rfl X (letL ⟨BitVec.ofInt 8 n0, n1, n2, n3, n4, n5, n6 == 1, n7, n8, es⟩ A1 q c1).toArray rfl rfl 28 _ HRES.out (infoLetL _ _ _ _) rfl (letL_one _ _ _ _) ?_)
            refine bodyPost_ret (v := .tuple #[.agg (letL ⟨BitVec.ofInt 8 n0, n1, n2, n3, n4, n5, n6 == 1, n7, n8, es⟩ A1 q c1).toArray, .int .i64 0]) ?_ rfl HFIN.out
            exact results_cell_tmpL rfl _ _ X _ _ rfl rfl (load_let _ _ _ _ (setRow_heap _ _ _ _ _ _ HRES.out))
end Go.Proofs.YtdmpphioflcofaaGreat.K

/- The contract of the law's gets. -/
namespace Go.Proofs.YtdmpphioflcofaaGreat.K
open Go Go.RowKit

set_option maxHeartbeats 8000000 in
set_option maxRecDepth 100000 in
theorem gets_any (A : Option Addr) (n c : Nat) (bs : List (BitVec 8)) (w : World) (hr : RowRd w ⟨A, n, c⟩ bs) (hn : n ≤ 1000000000) :
    Calls Tryz.prog 20 #[.slice A n c] w (SaidB w true) := by
  have HR := Lib.hid hr
  have HLN := Lib.hid (show bs.length = n from hr.len)
  have HSM := Lib.hid (lget_small bs)
  clear hr
  go_enter Tryz.func20, Tryz.ntmps20
  go_wp2_with fail
  refine (lGetL_any A n c bs w HR.out (by omega)).mono ?_
  rintro e w1 ⟨x, ee, A1, k1, c1, hx, hee, rfl, hk1, hE1, hs⟩
  have BK1 := Lib.hid (((Bank.nil (Below.refl w.heap.size w)).call hs).box #[B8 x.kind, .int .i64 x.src, .int .i64 x.dst, .int .i64 x.term, .int .i64 x.index, .int .i64 x.was, .bool x.ok, .int .i64 x.commit, .int .i64 x.version, .slice A1 k1 c1] 28 (by simp))
  have HE1 := Lib.hid (hE1.since (Since.alloc (Below.refl _ _) (.cells #[B8 x.kind, .int .i64 x.src, .int .i64 x.dst, .int .i64 x.term, .int .i64 x.index, .int .i64 x.was, .bool x.ok, .int .i64 x.commit, .int .i64 x.version, .slice A1 k1 c1] 28)))
  have HX := Lib.hid hx; have HEE := Lib.hid hee; have HK1 := Lib.hid hk1
  clear hx hee hk1 hE1 hs
  go_wp2_with fail
  generalize w1.alloc (.cells #[B8 x.kind, .int .i64 x.src, .int .i64 x.dst, .int .i64 x.term, .int .i64 x.index, .int .i64 x.was, .bool x.ok, .int .i64 x.commit, .int .i64 x.version, .slice A1 k1 c1] 28) = w2 at *
  generalize w1.heap.size = Y at *
  refine (rLGet_any A n c bs w2 (Since.row BK1.out.since HR.out) (by omega)).mono ?_
  rintro e w3 hG
  obtain ⟨y, ff, A2, k2, c2, hy, hff, rfl, hk2, hE2, hs⟩ := LGotL.of hG
  obtain rfl : x = y := by rw [HX.out, hy]
  obtain rfl : ee = ff := by rw [HEE.out, hff]
  obtain rfl : k1 = k2 := HK1.out.symm.trans hk2
  have BK3 := Lib.hid ((BK1.out.call hs).box #[B8 x.kind, .int .i64 x.src, .int .i64 x.dst, .int .i64 x.term, .int .i64 x.index, .int .i64 x.was, .bool x.ok, .int .i64 x.commit, .int .i64 x.version, .slice A2 k1 c2] 28 (by simp))
  have HE3 := Lib.hid (show EntsRd _ A2 x.ents from hE2.since (Since.alloc (Below.refl _ _) (.cells #[B8 x.kind, .int .i64 x.src, .int .i64 x.dst, .int .i64 x.term, .int .i64 x.index, .int .i64 x.was, .bool x.ok, .int .i64 x.commit, .int .i64 x.version, .slice A2 k1 c2] 28)))
  have HE13 := Lib.hid (show EntsRd _ A1 x.ents from HE1.out.since (Since.alloc hs (.cells #[B8 x.kind, .int .i64 x.src, .int .i64 x.dst, .int .i64 x.term, .int .i64 x.index, .int .i64 x.was, .bool x.ok, .int .i64 x.commit, .int .i64 x.version, .slice A2 k1 c2] 28)))
  clear hG hy hff hk2 hE2 hs BK1 HE1 HEE
  have x0 := BK3.out.cell 1 rfl 0 rfl
  have x1 := BK3.out.cell 1 rfl 1 rfl
  have x2 := BK3.out.cell 1 rfl 2 rfl
  have x3 := BK3.out.cell 1 rfl 3 rfl
  have x4 := BK3.out.cell 1 rfl 4 rfl
  have x5 := BK3.out.cell 1 rfl 5 rfl
  have x6 := BK3.out.cell 1 rfl 6 rfl
  have x7 := BK3.out.cell 1 rfl 7 rfl
  have x8 := BK3.out.cell 1 rfl 8 rfl
  have x9 := BK3.out.cell 1 rfl 9 rfl
  have y0 := BK3.out.cell 0 rfl 0 rfl
  have y1 := BK3.out.cell 0 rfl 1 rfl
  have y2 := BK3.out.cell 0 rfl 2 rfl
  have y3 := BK3.out.cell 0 rfl 3 rfl
  have y4 := BK3.out.cell 0 rfl 4 rfl
  have y5 := BK3.out.cell 0 rfl 5 rfl
  have y6 := BK3.out.cell 0 rfl 6 rfl
  have y7 := BK3.out.cell 0 rfl 7 rfl
  have y8 := BK3.out.cell 0 rfl 8 rfl
  have y9 := BK3.out.cell 0 rfl 9 rfl
  go_wp2_with fail
  clear x0 x1 x2 x3 x4 x5 x6 x7 x8 x9 y0 y1 y2 y3 y4 y5 y6 y7 y8 y9
  refine (SameLetter_eq x A1 k1 c1 A2 c2 _ HK1.out HE13.out HE3.out (by have := HSM.out.1; have h6 := HK1.out; rw [HX.out] at h6; omega) (fun e he => by have h5 := HSM.out.2 e (by rw [← HX.out]; exact he); have h6 := HLN.out; omega)).mono ?_
  rintro e w4 ⟨rfl, hs⟩
  have HFIN := Lib.hid (show SaidB w true (.returned (.bool true)) w4 from ⟨rfl, (BK3.out.call hs).since⟩)
  clear hs
  go_wp2_with fail
  go_ret
  exact HFIN.out
end Go.Proofs.YtdmpphioflcofaaGreat.K
