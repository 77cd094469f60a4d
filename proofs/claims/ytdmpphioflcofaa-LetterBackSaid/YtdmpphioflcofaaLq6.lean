/- Merged: RefRight34, RefRight5, RefRight, RefEntry, RefLPut, KitEnts, Open, EntsOf. -/
import Derived.Test.YtdmpphioflcofaaLq5
import Derived.OpenShut
import Derived.ShutString
import Derived.ChangeOld
import Derived.Below
import Derived.Deep.Slices
import Derived.Deep.Fields
import Derived.Deep.DeepHandedRow
import Derived.LaidLaws
/- (made by genrefright.py) The reference's Right at letters of the kinds 34. -/
namespace Go.Proofs.Ytdmpphioflcofaa.K
open Go Go.RowKit

set_option maxHeartbeats 16000000 in
set_option maxRecDepth 100000 in
theorem rRight_3 (l : M.Let) (A : Option Addr) (n c : Nat) (w : World) (hn : l.ents.length = n) (hE : EntsRd w A l.ents) (hD : ∀ e ∈ l.ents, e.data.length ≤ 4611686018427387904) (hs : 1 ≤ l.src ∧ l.src ≤ 7) (hd : 1 ≤ l.dst ∧ l.dst ≤ 7) (h4 : n ≤ 4) (hk : l.kind = 3#8) :
    Calls Try.prog 11 #[.agg #[B8 l.kind, .int .i64 l.src, .int .i64 l.dst, .int .i64 l.term, .int .i64 l.index, .int .i64 l.was, .bool l.ok, .int .i64 l.commit, .int .i64 l.version, .slice A n c]] w (SaidB w (M.lright l)) := by
  have href : l.ents.all (fun e => M.tm e.term) = true → M.lright l = ((l.term == l.term && l.index == l.index && l.was == l.was && (l.ok == false) && l.commit == l.commit && l.version == 0 && true) && M.tm l.term && M.tm l.was && M.ix l.index && M.ix l.commit) := fun ht => by subst hn; exact M.ref3 l hs hd hk (by omega) ht
  have HREF := Lib.hid href; have HE := Lib.hid hE; have HN := Lib.hid hn; have HD := Lib.hid hD
  have HSE : Hid (∀ w', Since w w' → Calls Try.prog 36 #[.slice A n c, .slice A n c] w' (SaidB w' (true))) := Lib.hid (fun w' hw => SameEntries_eq A n c A c l.ents w' HN.out (HE.out.since hw) (HE.out.since hw) (by omega) HD.out)
  have BK0 := Lib.hid (((Bank.nil (Below.refl w.heap.size w)).box #[B8 l.kind, .int .i64 l.src, .int .i64 l.dst, .int .i64 l.term, .int .i64 l.index, .int .i64 l.was, .bool l.ok, .int .i64 l.commit, .int .i64 l.version, .slice A n c] 25 (by simp)).box #[B8 l.kind, .int .i64 l.src, .int .i64 l.dst, .int .i64 l.term, .int .i64 l.index, .int .i64 l.was, .bool false, .int .i64 l.commit, .int .i64 0, .slice A n c] 25 (by simp))
  rw [World.size_alloc] at BK0
  have i1 : ¬ l.src < 1 := by omega
  have i2 : ¬ 7 < l.src := by omega
  have i3 : ¬ l.dst < 1 := by omega
  have i4 : ¬ 7 < l.dst := by omega
  have i5 : ¬ (4 : Int) < (n : Int) := by omega
  have d1 : decide (l.src < 1) = false := by simpa using i1
  have d2 : decide (7 < l.src) = false := by simpa using i2
  have d3 : decide (l.dst < 1) = false := by simpa using i3
  have d4 : decide (7 < l.dst) = false := by simpa using i4
  have d5 : decide ((4 : Int) < (n : Int)) = false := by simpa using i5
  have q1 : ∀ t, binOp .eql t (B8 l.kind) (.int .u8 1) = pure (.bool false) := fun t => by have := B8_eql t l.kind 1#8; rw [show (l.kind == 1#8) = false by rw [hk]; rfl] at this; exact this
  have q2 : ∀ t, binOp .eql t (B8 l.kind) (.int .u8 2) = pure (.bool false) := fun t => by have := B8_eql t l.kind 2#8; rw [show (l.kind == 2#8) = false by rw [hk]; rfl] at this; exact this
  have q3 : ∀ t, binOp .eql t (B8 l.kind) (.int .u8 3) = pure (.bool true) := fun t => by have := B8_eql t l.kind 3#8; rw [show (l.kind == 3#8) = true by rw [hk]; rfl] at this; exact this
  clear href hE hn hD hs hd hk
  go_enter Try.func11, Try.ntmps11
  go_wp2_with fail
  have BK1 := Lib.hid (show Bank w _ [boxAcc (w.heap.size + 1) 25 [B8 l.kind, .int .i64 l.src, .int .i64 l.dst, .int .i64 l.term, .int .i64 l.index, .int .i64 l.was, .bool false, .int .i64 l.commit, .int .i64 0, .slice A n c], boxAcc w.heap.size 25 #[B8 l.kind, .int .i64 l.src, .int .i64 l.dst, .int .i64 l.term, .int .i64 l.index, .int .i64 l.was, .bool l.ok, .int .i64 l.commit, .int .i64 l.version, .slice A n c].toList] from BK0.out)
  clear BK0 q3 q1 q2
  go_loopw [4] (fun i wr => ∃ k : Nat, k ≤ n ∧ i = .int .i64 (k : Int) ∧ (l.ents.take k).all (fun e => M.tm e.term) = true ∧ Bank w wr [boxAcc (w.heap.size + 1) 25 [B8 l.kind, .int .i64 l.src, .int .i64 l.dst, .int .i64 l.term, .int .i64 l.index, .int .i64 l.was, .bool false, .int .i64 l.commit, .int .i64 0, .slice A n c], boxAcc w.heap.size 25 #[B8 l.kind, .int .i64 l.src, .int .i64 l.dst, .int .i64 l.term, .int .i64 l.index, .int .i64 l.was, .bool l.ok, .int .i64 l.commit, .int .i64 l.version, .slice A n c].toList]) (fun i _ => n - (intOf i).toNat)
  case atStart => exact ⟨0, by omega, rfl, rfl, BK1.out⟩
  case round =>
    clear BK1
    obtain ⟨k, hk, rfl, hall, hB⟩ := hrel
    have HALL := Lib.hid hall; have BK := Lib.hid hB
    clear hall hB
    have k0 : (0 : Int) ≤ (k : Int) := by omega
    rcases Nat.lt_or_ge k n with h1 | h1
    · have j1 : (k : Int) < (n : Int) := by omega
      have hkl : k < l.ents.length := by rw [HN.out]; exact h1
      obtain ⟨b, o, rfl, A', m', c', ⟨y0, y1, y2, y3, y4, y5⟩, hrd⟩ := HE.out.since BK.out.since k hkl
      have x9 := BK.out.cell 1 rfl 9 rfl
      clear y1 y2 y3 y4 y5 hrd
      go_wp2_with fail
      clear x9 y0
      refine (rterm_any l.ents[k].term wr).mono ?_
      rintro e w5 ⟨rfl, rfl⟩
      cases hb : M.tm l.ents[k].term
      · have HFIN := Lib.hid (show SaidB w (M.lright l) (.returned (.bool false)) wr from ⟨by rw [M.lright_term l k hkl hb], BK.out.since⟩)
        clear hb
        go_wp2
        go_ret
        exact HFIN.out
      · have H := Lib.hid hb
        clear hb
        go_wp2
        go_roundw
        case rel => exact ⟨k + 1, by omega, by go_num, take_all hkl HALL.out H.out, BK.out⟩
        case measure => simp [intOf]; omega
    · have j1 : ¬ (k : Int) < (n : Int) := by omega
      have hall2 : l.ents.all (fun e => M.tm e.term) = true := by have := HALL.out; rwa [show k = l.ents.length by rw [HN.out]; omega, List.take_length] at this
      have HREF2 := Lib.hid (HREF.out hall2)
      clear hall2 HREF HALL
      have x0 := BK.out.cell 1 rfl 0 rfl
      have x1 := BK.out.cell 1 rfl 1 rfl
      have x2 := BK.out.cell 1 rfl 2 rfl
      have x3 := BK.out.cell 1 rfl 3 rfl
      have x4 := BK.out.cell 1 rfl 4 rfl
      have x5 := BK.out.cell 1 rfl 5 rfl
      have x6 := BK.out.cell 1 rfl 6 rfl
      have x7 := BK.out.cell 1 rfl 7 rfl
      have x8 := BK.out.cell 1 rfl 8 rfl
      have x9 := BK.out.cell 1 rfl 9 rfl
      have z0 := BK.out.cell 0 rfl 0 rfl
      have z1 := BK.out.cell 0 rfl 1 rfl
      have z2 := BK.out.cell 0 rfl 2 rfl
      have z3 := BK.out.cell 0 rfl 3 rfl
      have z4 := BK.out.cell 0 rfl 4 rfl
      have z5 := BK.out.cell 0 rfl 5 rfl
      have z6 := BK.out.cell 0 rfl 6 rfl
      have z7 := BK.out.cell 0 rfl 7 rfl
      have z8 := BK.out.cell 0 rfl 8 rfl
      have z9 := BK.out.cell 0 rfl 9 rfl
      go_wp2_with fail
      clear x0 x1 x2 x3 x4 x5 x6 x7 x8 x9 z0 z1 z2 z3 z4 z5 z6 z7 z8 z9
      refine (SameLetter_any l.kind l.src l.dst l.term l.term l.index l.index l.was l.was l.ok false l.commit l.commit l.version 0 A n c A n c (true) wr (fun w' hw => HSE.out w' (BK.out.since.add hw))).mono ?_
      rintro e w5 ⟨rfl, hs⟩
      have BK5 := Lib.hid (BK.out.call hs)
      obtain ⟨S, hS⟩ : ∃ S, S = (l.term == l.term && l.index == l.index && l.was == l.was && (l.ok == false) && l.commit == l.commit && l.version == 0 && true) := ⟨_, rfl⟩
      rw [← hS]
      have HREF3 := Lib.hid (show M.lright l = (S && M.tm l.term && M.tm l.was && M.ix l.index && M.ix l.commit) by rw [hS]; exact HREF2.out)
      clear hS hs HREF2 BK
      cases S
      · have HFIN := Lib.hid (show SaidB w (M.lright l) (.returned (.bool false)) w5 from ⟨by rw [HREF3.out]; simp only [Bool.false_and, Bool.and_false, Bool.true_and], BK5.out.since⟩)
        go_wp2
        go_ret
        exact HFIN.out
      have x3 := BK5.out.cell 1 rfl 3 rfl
      go_wp2_with fail
      clear x3
      refine (rterm_any l.term w5).mono ?_
      rintro e w6 ⟨rfl, rfl⟩
      obtain ⟨b1, hb1⟩ : ∃ b, b = M.tm l.term := ⟨_, rfl⟩
      rw [← hb1]
      have HREF10 := Lib.hid (HREF3.out)
      rw [← hb1] at HREF3
      clear hb1 HREF10
      cases b1
      · have HFIN := Lib.hid (show SaidB w (M.lright l) (.returned (.bool false)) w5 from ⟨by rw [HREF3.out]; simp only [Bool.false_and, Bool.and_false, Bool.true_and], BK5.out.since⟩)
        go_wp2
        go_ret
        exact HFIN.out
      have x5 := BK5.out.cell 1 rfl 5 rfl
      go_wp2_with fail
      clear x5
      refine (rterm_any l.was w5).mono ?_
      rintro e w6 ⟨rfl, rfl⟩
      obtain ⟨b2, hb2⟩ : ∃ b, b = M.tm l.was := ⟨_, rfl⟩
      rw [← hb2]
      have HREF11 := Lib.hid (HREF3.out)
      rw [← hb2] at HREF3
      clear hb2 HREF11
      cases b2
      · have HFIN := Lib.hid (show SaidB w (M.lright l) (.returned (.bool false)) w5 from ⟨by rw [HREF3.out]; simp only [Bool.false_and, Bool.and_false, Bool.true_and], BK5.out.since⟩)
        go_wp2
        go_ret
        exact HFIN.out
      have x4 := BK5.out.cell 1 rfl 4 rfl
      go_wp2_with fail
      clear x4
      refine (rindex_any l.index w5).mono ?_
      rintro e w6 ⟨rfl, rfl⟩
      obtain ⟨b3, hb3⟩ : ∃ b, b = M.ix l.index := ⟨_, rfl⟩
      rw [← hb3]
      have HREF12 := Lib.hid (HREF3.out)
      rw [← hb3] at HREF3
      clear hb3 HREF12
      cases b3
      · have HFIN := Lib.hid (show SaidB w (M.lright l) (.returned (.bool false)) w5 from ⟨by rw [HREF3.out]; simp only [Bool.false_and, Bool.and_false, Bool.true_and], BK5.out.since⟩)
        go_wp2
        go_ret
        exact HFIN.out
      have x7 := BK5.out.cell 1 rfl 7 rfl
      go_wp2_with fail
      clear x7
      refine (rindex_any l.commit w5).mono ?_
      rintro e w6 ⟨rfl, rfl⟩
      obtain ⟨b4, hb4⟩ : ∃ b, b = M.ix l.commit := ⟨_, rfl⟩
      rw [← hb4]
      have HREF13 := Lib.hid (HREF3.out)
      rw [← hb4] at HREF3
      clear hb4 HREF13
      have HFIN := Lib.hid (show SaidB w (M.lright l) (.returned (.bool b4)) w5 from ⟨by rw [HREF3.out]; simp only [Bool.true_and], BK5.out.since⟩)
      go_wp2
      go_ret
      exact HFIN.out

set_option maxHeartbeats 16000000 in
set_option maxRecDepth 100000 in
theorem rRight_4 (l : M.Let) (A : Option Addr) (n c : Nat) (w : World) (hn : l.ents.length = n) (hE : EntsRd w A l.ents) (hD : ∀ e ∈ l.ents, e.data.length ≤ 4611686018427387904) (hs : 1 ≤ l.src ∧ l.src ≤ 7) (hd : 1 ≤ l.dst ∧ l.dst ≤ 7) (h4 : n ≤ 4) (hk : l.kind = 4#8) :
    Calls Try.prog 11 #[.agg #[B8 l.kind, .int .i64 l.src, .int .i64 l.dst, .int .i64 l.term, .int .i64 l.index, .int .i64 l.was, .bool l.ok, .int .i64 l.commit, .int .i64 l.version, .slice A n c]] w (SaidB w (M.lright l)) := by
  have href : l.ents.all (fun e => M.tm e.term) = true → M.lright l = ((l.term == l.term && l.index == l.index && l.was == 0 && (l.ok == l.ok) && l.commit == 0 && l.version == 0 && decide (n = 0)) && M.tm l.term && M.tm l.was && M.ix l.index && M.ix l.commit) := fun ht => by subst hn; exact M.ref4 l hs hd hk
  have HREF := Lib.hid href; have HE := Lib.hid hE; have HN := Lib.hid hn; have HD := Lib.hid hD
  have HSE : Hid (∀ w', Since w w' → Calls Try.prog 36 #[.slice A n c, .slice none 0 0] w' (SaidB w' (decide (n = 0)))) := Lib.hid (fun w' hw => by
    by_cases h0 : n = 0
    · rw [decide_eq_true h0]
      subst h0
      have he : l.ents = [] := List.eq_nil_of_length_eq_zero HN.out
      exact SameEntries_eq A 0 c none 0 [] w' rfl (EntsRd.nil _ _) (EntsRd.nil _ _) (by omega) (fun _ h => by cases h)
    · rw [decide_eq_false h0]
      exact SameEntries_ne A n c none 0 0 w' h0)
  have BK0 := Lib.hid (((Bank.nil (Below.refl w.heap.size w)).box #[B8 l.kind, .int .i64 l.src, .int .i64 l.dst, .int .i64 l.term, .int .i64 l.index, .int .i64 l.was, .bool l.ok, .int .i64 l.commit, .int .i64 l.version, .slice A n c] 25 (by simp)).box #[B8 l.kind, .int .i64 l.src, .int .i64 l.dst, .int .i64 l.term, .int .i64 l.index, .int .i64 0, .bool l.ok, .int .i64 0, .int .i64 0, .slice none 0 0] 25 (by simp))
  rw [World.size_alloc] at BK0
  have i1 : ¬ l.src < 1 := by omega
  have i2 : ¬ 7 < l.src := by omega
  have i3 : ¬ l.dst < 1 := by omega
  have i4 : ¬ 7 < l.dst := by omega
  have i5 : ¬ (4 : Int) < (n : Int) := by omega
  have d1 : decide (l.src < 1) = false := by simpa using i1
  have d2 : decide (7 < l.src) = false := by simpa using i2
  have d3 : decide (l.dst < 1) = false := by simpa using i3
  have d4 : decide (7 < l.dst) = false := by simpa using i4
  have d5 : decide ((4 : Int) < (n : Int)) = false := by simpa using i5
  have q1 : ∀ t, binOp .eql t (B8 l.kind) (.int .u8 1) = pure (.bool false) := fun t => by have := B8_eql t l.kind 1#8; rw [show (l.kind == 1#8) = false by rw [hk]; rfl] at this; exact this
  have q2 : ∀ t, binOp .eql t (B8 l.kind) (.int .u8 2) = pure (.bool false) := fun t => by have := B8_eql t l.kind 2#8; rw [show (l.kind == 2#8) = false by rw [hk]; rfl] at this; exact this
  have q3 : ∀ t, binOp .eql t (B8 l.kind) (.int .u8 3) = pure (.bool false) := fun t => by have := B8_eql t l.kind 3#8; rw [show (l.kind == 3#8) = false by rw [hk]; rfl] at this; exact this
  have q4 : ∀ t, binOp .eql t (B8 l.kind) (.int .u8 4) = pure (.bool true) := fun t => by have := B8_eql t l.kind 4#8; rw [show (l.kind == 4#8) = true by rw [hk]; rfl] at this; exact this
  clear href hE hn hD hs hd hk
  go_enter Try.func11, Try.ntmps11
  go_wp2_with fail
  have BK1 := Lib.hid (show Bank w _ [boxAcc (w.heap.size + 1) 25 [B8 l.kind, .int .i64 l.src, .int .i64 l.dst, .int .i64 l.term, .int .i64 l.index, .int .i64 0, .bool l.ok, .int .i64 0, .int .i64 0, .slice none 0 0], boxAcc w.heap.size 25 #[B8 l.kind, .int .i64 l.src, .int .i64 l.dst, .int .i64 l.term, .int .i64 l.index, .int .i64 l.was, .bool l.ok, .int .i64 l.commit, .int .i64 l.version, .slice A n c].toList] from BK0.out)
  clear BK0 q4 q1 q2 q3
  go_loopw [4] (fun i wr => ∃ k : Nat, k ≤ n ∧ i = .int .i64 (k : Int) ∧ (l.ents.take k).all (fun e => M.tm e.term) = true ∧ Bank w wr [boxAcc (w.heap.size + 1) 25 [B8 l.kind, .int .i64 l.src, .int .i64 l.dst, .int .i64 l.term, .int .i64 l.index, .int .i64 0, .bool l.ok, .int .i64 0, .int .i64 0, .slice none 0 0], boxAcc w.heap.size 25 #[B8 l.kind, .int .i64 l.src, .int .i64 l.dst, .int .i64 l.term, .int .i64 l.index, .int .i64 l.was, .bool l.ok, .int .i64 l.commit, .int .i64 l.version, .slice A n c].toList]) (fun i _ => n - (intOf i).toNat)
  case atStart => exact ⟨0, by omega, rfl, rfl, BK1.out⟩
  case round =>
    clear BK1
    obtain ⟨k, hk, rfl, hall, hB⟩ := hrel
    have HALL := Lib.hid hall; have BK := Lib.hid hB
    clear hall hB
    have k0 : (0 : Int) ≤ (k : Int) := by omega
    rcases Nat.lt_or_ge k n with h1 | h1
    · have j1 : (k : Int) < (n : Int) := by omega
      have hkl : k < l.ents.length := by rw [HN.out]; exact h1
      obtain ⟨b, o, rfl, A', m', c', ⟨y0, y1, y2, y3, y4, y5⟩, hrd⟩ := HE.out.since BK.out.since k hkl
      have x9 := BK.out.cell 1 rfl 9 rfl
      clear y1 y2 y3 y4 y5 hrd
      go_wp2_with fail
      clear x9 y0
      refine (rterm_any l.ents[k].term wr).mono ?_
      rintro e w5 ⟨rfl, rfl⟩
      cases hb : M.tm l.ents[k].term
      · have HFIN := Lib.hid (show SaidB w (M.lright l) (.returned (.bool false)) wr from ⟨by rw [M.lright_term l k hkl hb], BK.out.since⟩)
        clear hb
        go_wp2
        go_ret
        exact HFIN.out
      · have H := Lib.hid hb
        clear hb
        go_wp2
        go_roundw
        case rel => exact ⟨k + 1, by omega, by go_num, take_all hkl HALL.out H.out, BK.out⟩
        case measure => simp [intOf]; omega
    · have j1 : ¬ (k : Int) < (n : Int) := by omega
      have hall2 : l.ents.all (fun e => M.tm e.term) = true := by have := HALL.out; rwa [show k = l.ents.length by rw [HN.out]; omega, List.take_length] at this
      have HREF2 := Lib.hid (HREF.out hall2)
      clear hall2 HREF HALL
      have x0 := BK.out.cell 1 rfl 0 rfl
      have x1 := BK.out.cell 1 rfl 1 rfl
      have x2 := BK.out.cell 1 rfl 2 rfl
      have x3 := BK.out.cell 1 rfl 3 rfl
      have x4 := BK.out.cell 1 rfl 4 rfl
      have x5 := BK.out.cell 1 rfl 5 rfl
      have x6 := BK.out.cell 1 rfl 6 rfl
      have x7 := BK.out.cell 1 rfl 7 rfl
      have x8 := BK.out.cell 1 rfl 8 rfl
      have x9 := BK.out.cell 1 rfl 9 rfl
      have z0 := BK.out.cell 0 rfl 0 rfl
      have z1 := BK.out.cell 0 rfl 1 rfl
      have z2 := BK.out.cell 0 rfl 2 rfl
      have z3 := BK.out.cell 0 rfl 3 rfl
      have z4 := BK.out.cell 0 rfl 4 rfl
      have z5 := BK.out.cell 0 rfl 5 rfl
      have z6 := BK.out.cell 0 rfl 6 rfl
      have z7 := BK.out.cell 0 rfl 7 rfl
      have z8 := BK.out.cell 0 rfl 8 rfl
      have z9 := BK.out.cell 0 rfl 9 rfl
      go_wp2_with fail
      clear x0 x1 x2 x3 x4 x5 x6 x7 x8 x9 z0 z1 z2 z3 z4 z5 z6 z7 z8 z9
      refine (SameLetter_any l.kind l.src l.dst l.term l.term l.index l.index l.was 0 l.ok l.ok l.commit 0 l.version 0 A n c none 0 0 (decide (n = 0)) wr (fun w' hw => HSE.out w' (BK.out.since.add hw))).mono ?_
      rintro e w5 ⟨rfl, hs⟩
      have BK5 := Lib.hid (BK.out.call hs)
      obtain ⟨S, hS⟩ : ∃ S, S = (l.term == l.term && l.index == l.index && l.was == 0 && (l.ok == l.ok) && l.commit == 0 && l.version == 0 && decide (n = 0)) := ⟨_, rfl⟩
      rw [← hS]
      have HREF3 := Lib.hid (show M.lright l = (S && M.tm l.term && M.tm l.was && M.ix l.index && M.ix l.commit) by rw [hS]; exact HREF2.out)
      clear hS hs HREF2 BK
      cases S
      · have HFIN := Lib.hid (show SaidB w (M.lright l) (.returned (.bool false)) w5 from ⟨by rw [HREF3.out]; simp only [Bool.false_and, Bool.and_false, Bool.true_and], BK5.out.since⟩)
        go_wp2
        go_ret
        exact HFIN.out
      have x3 := BK5.out.cell 1 rfl 3 rfl
      go_wp2_with fail
      clear x3
      refine (rterm_any l.term w5).mono ?_
      rintro e w6 ⟨rfl, rfl⟩
      obtain ⟨b1, hb1⟩ : ∃ b, b = M.tm l.term := ⟨_, rfl⟩
      rw [← hb1]
      have HREF10 := Lib.hid (HREF3.out)
      rw [← hb1] at HREF3
      clear hb1 HREF10
      cases b1
      · have HFIN := Lib.hid (show SaidB w (M.lright l) (.returned (.bool false)) w5 from ⟨by rw [HREF3.out]; simp only [Bool.false_and, Bool.and_false, Bool.true_and], BK5.out.since⟩)
        go_wp2
        go_ret
        exact HFIN.out
      have x5 := BK5.out.cell 1 rfl 5 rfl
      go_wp2_with fail
      clear x5
      refine (rterm_any l.was w5).mono ?_
      rintro e w6 ⟨rfl, rfl⟩
      obtain ⟨b2, hb2⟩ : ∃ b, b = M.tm l.was := ⟨_, rfl⟩
      rw [← hb2]
      have HREF11 := Lib.hid (HREF3.out)
      rw [← hb2] at HREF3
      clear hb2 HREF11
      cases b2
      · have HFIN := Lib.hid (show SaidB w (M.lright l) (.returned (.bool false)) w5 from ⟨by rw [HREF3.out]; simp only [Bool.false_and, Bool.and_false, Bool.true_and], BK5.out.since⟩)
        go_wp2
        go_ret
        exact HFIN.out
      have x4 := BK5.out.cell 1 rfl 4 rfl
      go_wp2_with fail
      clear x4
      refine (rindex_any l.index w5).mono ?_
      rintro e w6 ⟨rfl, rfl⟩
      obtain ⟨b3, hb3⟩ : ∃ b, b = M.ix l.index := ⟨_, rfl⟩
      rw [← hb3]
      have HREF12 := Lib.hid (HREF3.out)
      rw [← hb3] at HREF3
      clear hb3 HREF12
      cases b3
      · have HFIN := Lib.hid (show SaidB w (M.lright l) (.returned (.bool false)) w5 from ⟨by rw [HREF3.out]; simp only [Bool.false_and, Bool.and_false, Bool.true_and], BK5.out.since⟩)
        go_wp2
        go_ret
        exact HFIN.out
      have x7 := BK5.out.cell 1 rfl 7 rfl
      go_wp2_with fail
      clear x7
      refine (rindex_any l.commit w5).mono ?_
      rintro e w6 ⟨rfl, rfl⟩
      obtain ⟨b4, hb4⟩ : ∃ b, b = M.ix l.commit := ⟨_, rfl⟩
      rw [← hb4]
      have HREF13 := Lib.hid (HREF3.out)
      rw [← hb4] at HREF3
      clear hb4 HREF13
      have HFIN := Lib.hid (show SaidB w (M.lright l) (.returned (.bool b4)) w5 from ⟨by rw [HREF3.out]; simp only [Bool.true_and], BK5.out.since⟩)
      go_wp2
      go_ret
      exact HFIN.out

end Go.Proofs.Ytdmpphioflcofaa.K

/- (made by genrefright.py) The reference's Right at letters of the kinds 5. -/
namespace Go.Proofs.Ytdmpphioflcofaa.K
open Go Go.RowKit

set_option maxHeartbeats 16000000 in
set_option maxRecDepth 100000 in
theorem rRight_5 (l : M.Let) (A : Option Addr) (n c : Nat) (w : World) (hn : l.ents.length = n) (hE : EntsRd w A l.ents) (hD : ∀ e ∈ l.ents, e.data.length ≤ 4611686018427387904) (hs : 1 ≤ l.src ∧ l.src ≤ 7) (hd : 1 ≤ l.dst ∧ l.dst ≤ 7) (h4 : n ≤ 4) (hk : l.kind = 5#8) (hv : 1 ≤ l.version ∧ l.version ≤ 1073741824) :
    Calls Try.prog 11 #[.agg #[B8 l.kind, .int .i64 l.src, .int .i64 l.dst, .int .i64 l.term, .int .i64 l.index, .int .i64 l.was, .bool l.ok, .int .i64 l.commit, .int .i64 l.version, .slice A n c]] w (SaidB w (M.lright l)) := by
  have href : l.ents.all (fun e => M.tm e.term) = true → M.lright l = ((l.term == 0 && l.index == 0 && l.was == 0 && (l.ok == l.ok) && l.commit == 0 && l.version == l.version && decide (n = 0)) && M.tm l.term && M.tm l.was && M.ix l.index && M.ix l.commit) := fun ht => by subst hn; exact M.ref5 l hs hd hk hv
  have HREF := Lib.hid href; have HE := Lib.hid hE; have HN := Lib.hid hn; have HD := Lib.hid hD
  have HSE : Hid (∀ w', Since w w' → Calls Try.prog 36 #[.slice A n c, .slice none 0 0] w' (SaidB w' (decide (n = 0)))) := Lib.hid (fun w' hw => by
    by_cases h0 : n = 0
    · rw [decide_eq_true h0]
      subst h0
      have he : l.ents = [] := List.eq_nil_of_length_eq_zero HN.out
      exact SameEntries_eq A 0 c none 0 [] w' rfl (EntsRd.nil _ _) (EntsRd.nil _ _) (by omega) (fun _ h => by cases h)
    · rw [decide_eq_false h0]
      exact SameEntries_ne A n c none 0 0 w' h0)
  have BK0 := Lib.hid (((Bank.nil (Below.refl w.heap.size w)).box #[B8 l.kind, .int .i64 l.src, .int .i64 l.dst, .int .i64 l.term, .int .i64 l.index, .int .i64 l.was, .bool l.ok, .int .i64 l.commit, .int .i64 l.version, .slice A n c] 25 (by simp)).box #[B8 l.kind, .int .i64 l.src, .int .i64 l.dst, .int .i64 0, .int .i64 0, .int .i64 0, .bool l.ok, .int .i64 0, .int .i64 l.version, .slice none 0 0] 25 (by simp))
  rw [World.size_alloc] at BK0
  have i1 : ¬ l.src < 1 := by omega
  have i2 : ¬ 7 < l.src := by omega
  have i3 : ¬ l.dst < 1 := by omega
  have i4 : ¬ 7 < l.dst := by omega
  have i5 : ¬ (4 : Int) < (n : Int) := by omega
  have d1 : decide (l.src < 1) = false := by simpa using i1
  have d2 : decide (7 < l.src) = false := by simpa using i2
  have d3 : decide (l.dst < 1) = false := by simpa using i3
  have d4 : decide (7 < l.dst) = false := by simpa using i4
  have d5 : decide ((4 : Int) < (n : Int)) = false := by simpa using i5
  have v1 : ¬ l.version < 1 := by omega
  have v2 : ¬ 1073741824 < l.version := by omega
  have e1 : decide (l.version < 1) = false := by simpa using v1
  have e2 : decide (1073741824 < l.version) = false := by simpa using v2
  have q1 : ∀ t, binOp .eql t (B8 l.kind) (.int .u8 1) = pure (.bool false) := fun t => by have := B8_eql t l.kind 1#8; rw [show (l.kind == 1#8) = false by rw [hk]; rfl] at this; exact this
  have q2 : ∀ t, binOp .eql t (B8 l.kind) (.int .u8 2) = pure (.bool false) := fun t => by have := B8_eql t l.kind 2#8; rw [show (l.kind == 2#8) = false by rw [hk]; rfl] at this; exact this
  have q3 : ∀ t, binOp .eql t (B8 l.kind) (.int .u8 3) = pure (.bool false) := fun t => by have := B8_eql t l.kind 3#8; rw [show (l.kind == 3#8) = false by rw [hk]; rfl] at this; exact this
  have q4 : ∀ t, binOp .eql t (B8 l.kind) (.int .u8 4) = pure (.bool false) := fun t => by have := B8_eql t l.kind 4#8; rw [show (l.kind == 4#8) = false by rw [hk]; rfl] at this; exact this
  have q5 : ∀ t, binOp .eql t (B8 l.kind) (.int .u8 5) = pure (.bool true) := fun t => by have := B8_eql t l.kind 5#8; rw [show (l.kind == 5#8) = true by rw [hk]; rfl] at this; exact this
  clear href hE hn hD hs hd hk hv
  go_enter Try.func11, Try.ntmps11
  go_wp2_with fail
  have BK1 := Lib.hid (show Bank w _ [boxAcc (w.heap.size + 1) 25 [B8 l.kind, .int .i64 l.src, .int .i64 l.dst, .int .i64 0, .int .i64 0, .int .i64 0, .bool l.ok, .int .i64 0, .int .i64 l.version, .slice none 0 0], boxAcc w.heap.size 25 #[B8 l.kind, .int .i64 l.src, .int .i64 l.dst, .int .i64 l.term, .int .i64 l.index, .int .i64 l.was, .bool l.ok, .int .i64 l.commit, .int .i64 l.version, .slice A n c].toList] from BK0.out)
  clear BK0 q5 q1 q2 q3 q4
  go_loopw [4] (fun i wr => ∃ k : Nat, k ≤ n ∧ i = .int .i64 (k : Int) ∧ (l.ents.take k).all (fun e => M.tm e.term) = true ∧ Bank w wr [boxAcc (w.heap.size + 1) 25 [B8 l.kind, .int .i64 l.src, .int .i64 l.dst, .int .i64 0, .int .i64 0, .int .i64 0, .bool l.ok, .int .i64 0, .int .i64 l.version, .slice none 0 0], boxAcc w.heap.size 25 #[B8 l.kind, .int .i64 l.src, .int .i64 l.dst, .int .i64 l.term, .int .i64 l.index, .int .i64 l.was, .bool l.ok, .int .i64 l.commit, .int .i64 l.version, .slice A n c].toList]) (fun i _ => n - (intOf i).toNat)
  case atStart => exact ⟨0, by omega, rfl, rfl, BK1.out⟩
  case round =>
    clear BK1
    obtain ⟨k, hk, rfl, hall, hB⟩ := hrel
    have HALL := Lib.hid hall; have BK := Lib.hid hB
    clear hall hB
    have k0 : (0 : Int) ≤ (k : Int) := by omega
    rcases Nat.lt_or_ge k n with h1 | h1
    · have j1 : (k : Int) < (n : Int) := by omega
      have hkl : k < l.ents.length := by rw [HN.out]; exact h1
      obtain ⟨b, o, rfl, A', m', c', ⟨y0, y1, y2, y3, y4, y5⟩, hrd⟩ := HE.out.since BK.out.since k hkl
      have x9 := BK.out.cell 1 rfl 9 rfl
      clear y1 y2 y3 y4 y5 hrd
      go_wp2_with fail
      clear x9 y0
      refine (rterm_any l.ents[k].term wr).mono ?_
      rintro e w5 ⟨rfl, rfl⟩
      cases hb : M.tm l.ents[k].term
      · have HFIN := Lib.hid (show SaidB w (M.lright l) (.returned (.bool false)) wr from ⟨by rw [M.lright_term l k hkl hb], BK.out.since⟩)
        clear hb
        go_wp2
        go_ret
        exact HFIN.out
      · have H := Lib.hid hb
        clear hb
        go_wp2
        go_roundw
        case rel => exact ⟨k + 1, by omega, by go_num, take_all hkl HALL.out H.out, BK.out⟩
        case measure => simp [intOf]; omega
    · have j1 : ¬ (k : Int) < (n : Int) := by omega
      have hall2 : l.ents.all (fun e => M.tm e.term) = true := by have := HALL.out; rwa [show k = l.ents.length by rw [HN.out]; omega, List.take_length] at this
      have HREF2 := Lib.hid (HREF.out hall2)
      clear hall2 HREF HALL
      have x0 := BK.out.cell 1 rfl 0 rfl
      have x1 := BK.out.cell 1 rfl 1 rfl
      have x2 := BK.out.cell 1 rfl 2 rfl
      have x3 := BK.out.cell 1 rfl 3 rfl
      have x4 := BK.out.cell 1 rfl 4 rfl
      have x5 := BK.out.cell 1 rfl 5 rfl
      have x6 := BK.out.cell 1 rfl 6 rfl
      have x7 := BK.out.cell 1 rfl 7 rfl
      have x8 := BK.out.cell 1 rfl 8 rfl
      have x9 := BK.out.cell 1 rfl 9 rfl
      have z0 := BK.out.cell 0 rfl 0 rfl
      have z1 := BK.out.cell 0 rfl 1 rfl
      have z2 := BK.out.cell 0 rfl 2 rfl
      have z3 := BK.out.cell 0 rfl 3 rfl
      have z4 := BK.out.cell 0 rfl 4 rfl
      have z5 := BK.out.cell 0 rfl 5 rfl
      have z6 := BK.out.cell 0 rfl 6 rfl
      have z7 := BK.out.cell 0 rfl 7 rfl
      have z8 := BK.out.cell 0 rfl 8 rfl
      have z9 := BK.out.cell 0 rfl 9 rfl
      go_wp2_with fail
      clear x0 x1 x2 x3 x4 x5 x6 x7 x8 x9 z0 z1 z2 z3 z4 z5 z6 z7 z8 z9
      refine (SameLetter_any l.kind l.src l.dst l.term 0 l.index 0 l.was 0 l.ok l.ok l.commit 0 l.version l.version A n c none 0 0 (decide (n = 0)) wr (fun w' hw => HSE.out w' (BK.out.since.add hw))).mono ?_
      rintro e w5 ⟨rfl, hs⟩
      have BK5 := Lib.hid (BK.out.call hs)
      obtain ⟨S, hS⟩ : ∃ S, S = (l.term == 0 && l.index == 0 && l.was == 0 && (l.ok == l.ok) && l.commit == 0 && l.version == l.version && decide (n = 0)) := ⟨_, rfl⟩
      rw [← hS]
      have HREF3 := Lib.hid (show M.lright l = (S && M.tm l.term && M.tm l.was && M.ix l.index && M.ix l.commit) by rw [hS]; exact HREF2.out)
      clear hS hs HREF2 BK
      cases S
      · have HFIN := Lib.hid (show SaidB w (M.lright l) (.returned (.bool false)) w5 from ⟨by rw [HREF3.out]; simp only [Bool.false_and, Bool.and_false, Bool.true_and], BK5.out.since⟩)
        go_wp2
        go_ret
        exact HFIN.out
      have x3 := BK5.out.cell 1 rfl 3 rfl
      go_wp2_with fail
      clear x3
      refine (rterm_any l.term w5).mono ?_
      rintro e w6 ⟨rfl, rfl⟩
      obtain ⟨b1, hb1⟩ : ∃ b, b = M.tm l.term := ⟨_, rfl⟩
      rw [← hb1]
      have HREF10 := Lib.hid (HREF3.out)
      rw [← hb1] at HREF3
      clear hb1 HREF10
      cases b1
      · have HFIN := Lib.hid (show SaidB w (M.lright l) (.returned (.bool false)) w5 from ⟨by rw [HREF3.out]; simp only [Bool.false_and, Bool.and_false, Bool.true_and], BK5.out.since⟩)
        go_wp2
        go_ret
        exact HFIN.out
      have x5 := BK5.out.cell 1 rfl 5 rfl
      go_wp2_with fail
      clear x5
      refine (rterm_any l.was w5).mono ?_
      rintro e w6 ⟨rfl, rfl⟩
      obtain ⟨b2, hb2⟩ : ∃ b, b = M.tm l.was := ⟨_, rfl⟩
      rw [← hb2]
      have HREF11 := Lib.hid (HREF3.out)
      rw [← hb2] at HREF3
      clear hb2 HREF11
      cases b2
      · have HFIN := Lib.hid (show SaidB w (M.lright l) (.returned (.bool false)) w5 from ⟨by rw [HREF3.out]; simp only [Bool.false_and, Bool.and_false, Bool.true_and], BK5.out.since⟩)
        go_wp2
        go_ret
        exact HFIN.out
      have x4 := BK5.out.cell 1 rfl 4 rfl
      go_wp2_with fail
      clear x4
      refine (rindex_any l.index w5).mono ?_
      rintro e w6 ⟨rfl, rfl⟩
      obtain ⟨b3, hb3⟩ : ∃ b, b = M.ix l.index := ⟨_, rfl⟩
      rw [← hb3]
      have HREF12 := Lib.hid (HREF3.out)
      rw [← hb3] at HREF3
      clear hb3 HREF12
      cases b3
      · have HFIN := Lib.hid (show SaidB w (M.lright l) (.returned (.bool false)) w5 from ⟨by rw [HREF3.out]; simp only [Bool.false_and, Bool.and_false, Bool.true_and], BK5.out.since⟩)
        go_wp2
        go_ret
        exact HFIN.out
      have x7 := BK5.out.cell 1 rfl 7 rfl
      go_wp2_with fail
      clear x7
      refine (rindex_any l.commit w5).mono ?_
      rintro e w6 ⟨rfl, rfl⟩
      obtain ⟨b4, hb4⟩ : ∃ b, b = M.ix l.commit := ⟨_, rfl⟩
      rw [← hb4]
      have HREF13 := Lib.hid (HREF3.out)
      rw [← hb4] at HREF3
      clear hb4 HREF13
      have HFIN := Lib.hid (show SaidB w (M.lright l) (.returned (.bool b4)) w5 from ⟨by rw [HREF3.out]; simp only [Bool.true_and], BK5.out.since⟩)
      go_wp2
      go_ret
      exact HFIN.out

set_option maxHeartbeats 8000000 in
set_option maxRecDepth 100000 in
theorem rRight_5b (l : M.Let) (A : Option Addr) (n c : Nat) (w : World) (hn : l.ents.length = n) (hE : EntsRd w A l.ents) (hD : ∀ e ∈ l.ents, e.data.length ≤ 4611686018427387904) (hs : 1 ≤ l.src ∧ l.src ≤ 7) (hd : 1 ≤ l.dst ∧ l.dst ≤ 7) (h4 : n ≤ 4) (hk : l.kind = 5#8) (hv : l.version < 1 ∨ 1073741824 < l.version) :
    Calls Try.prog 11 #[.agg #[B8 l.kind, .int .i64 l.src, .int .i64 l.dst, .int .i64 l.term, .int .i64 l.index, .int .i64 l.was, .bool l.ok, .int .i64 l.commit, .int .i64 l.version, .slice A n c]] w (SaidB w (M.lright l)) := by
  have hr : M.lright l = false := M.ref5_bad l hk hv
  have HS := Lib.hid (tmBx (w := w) (c := #[B8 l.kind, .int .i64 l.src, .int .i64 l.dst, .int .i64 l.term, .int .i64 l.index, .int .i64 l.was, .bool l.ok, .int .i64 l.commit, .int .i64 l.version, .slice A n c]) (d := #[B8 l.kind, .int .i64 l.src, .int .i64 l.dst, .int .i64 0, .int .i64 0, .int .i64 0, .bool l.ok, .int .i64 0, .int .i64 l.version, .slice none 0 0]) (t := 25))
  have i1 : ¬ l.src < 1 := by omega
  have i2 : ¬ 7 < l.src := by omega
  have i3 : ¬ l.dst < 1 := by omega
  have i4 : ¬ 7 < l.dst := by omega
  have i5 : ¬ (4 : Int) < (n : Int) := by omega
  have d1 : decide (l.src < 1) = false := by simpa using i1
  have d2 : decide (7 < l.src) = false := by simpa using i2
  have d3 : decide (l.dst < 1) = false := by simpa using i3
  have d4 : decide (7 < l.dst) = false := by simpa using i4
  have d5 : decide ((4 : Int) < (n : Int)) = false := by simpa using i5
  have q1 : ∀ t, binOp .eql t (B8 l.kind) (.int .u8 1) = pure (.bool false) := fun t => by have := B8_eql t l.kind 1#8; rw [show (l.kind == 1#8) = false by rw [hk]; rfl] at this; exact this
  have q2 : ∀ t, binOp .eql t (B8 l.kind) (.int .u8 2) = pure (.bool false) := fun t => by have := B8_eql t l.kind 2#8; rw [show (l.kind == 2#8) = false by rw [hk]; rfl] at this; exact this
  have q3 : ∀ t, binOp .eql t (B8 l.kind) (.int .u8 3) = pure (.bool false) := fun t => by have := B8_eql t l.kind 3#8; rw [show (l.kind == 3#8) = false by rw [hk]; rfl] at this; exact this
  have q4 : ∀ t, binOp .eql t (B8 l.kind) (.int .u8 4) = pure (.bool false) := fun t => by have := B8_eql t l.kind 4#8; rw [show (l.kind == 4#8) = false by rw [hk]; rfl] at this; exact this
  have q5 : ∀ t, binOp .eql t (B8 l.kind) (.int .u8 5) = pure (.bool true) := fun t => by have := B8_eql t l.kind 5#8; rw [show (l.kind == 5#8) = true by rw [hk]; rfl] at this; exact this
  rw [hr]
  clear hr hE hn hD hs hd h4 hk
  by_cases v1 : l.version < 1
  · clear hv
    go_enter Try.func11, Try.ntmps11
    go_wp2
    go_ret
    exact ⟨rfl, HS.out⟩
  have v2 : 1073741824 < l.version := by omega
  have e1 : decide (l.version < 1) = false := by simpa using v1
  clear hv
  go_enter Try.func11, Try.ntmps11
  go_wp2
  go_ret
  exact ⟨rfl, HS.out⟩

end Go.Proofs.Ytdmpphioflcofaa.K

/- (made by genrefright.py) The contract of the reference's Right. -/
namespace Go.Proofs.Ytdmpphioflcofaa.K
open Go Go.RowKit

theorem rRight_any (l : M.Let) (A : Option Addr) (n c : Nat) (w : World) (hn : l.ents.length = n) (hE : EntsRd w A l.ents) (hD : ∀ e ∈ l.ents, e.data.length ≤ 4611686018427387904) :
    Calls Try.prog 11 #[.agg #[B8 l.kind, .int .i64 l.src, .int .i64 l.dst, .int .i64 l.term, .int .i64 l.index, .int .i64 l.was, .bool l.ok, .int .i64 l.commit, .int .i64 l.version, .slice A n c]] w (SaidB w (M.lright l)) := by
  by_cases h : l.src < 1 ∨ 7 < l.src ∨ l.dst < 1 ∨ 7 < l.dst ∨ 4 < n
  · exact rRight_early l A n c w hn hE hD h
  have hs : 1 ≤ l.src ∧ l.src ≤ 7 := by omega
  have hd : 1 ≤ l.dst ∧ l.dst ≤ 7 := by omega
  have h4 : n ≤ 4 := by omega
  by_cases k1 : l.kind = 1#8
  · exact rRight_1 l A n c w hn hE hD hs hd h4 k1
  by_cases k2 : l.kind = 2#8
  · exact rRight_2 l A n c w hn hE hD hs hd h4 k2
  by_cases k3 : l.kind = 3#8
  · exact rRight_3 l A n c w hn hE hD hs hd h4 k3
  by_cases k4 : l.kind = 4#8
  · exact rRight_4 l A n c w hn hE hD hs hd h4 k4
  by_cases k5 : l.kind = 5#8
  · by_cases hv : l.version < 1 ∨ 1073741824 < l.version
    · exact rRight_5b l A n c w hn hE hD hs hd h4 k5 hv
    · exact rRight_5 l A n c w hn hE hD hs hd h4 k5 (by omega)
  exact rRight_no l A n c w hn hE hD hs hd h4 k1 k2 k3 k4 k5
end Go.Proofs.Ytdmpphioflcofaa.K

/- The contract of the reference's Entry. -/
namespace Go.Proofs.Ytdmpphioflcofaa.K
open Go Go.RowKit

theorem cells_row {w : World} {base : Nat} {e : TypeId} {g n c : Nat} {bs : List (BitVec 8)} (h : w.ownsRow base e 1 (.slice (some ⟨g, 0, none⟩) n c) n (bv bs)) : ∀ ad, some (⟨g, 0, none⟩ : Addr) = some ad → ∀ j u, (bv bs)[j]? = some u → w.cell? (ad.add j) = some u := (Rd.of_own h).cells

theorem fl_row {w : World} {base : Nat} {e : TypeId} {v : Value} {fl : Int} {G : Bool} {x : Int} (h : fl = M.flag G) (ho : w.ownsRow base e 1 v 8 (bv (M.num x))) (hx : x = M.flag G := by rfl) : w.ownsRow base e 1 v 8 (bv (M.num fl)) := by
  rw [h, ← hx]; exact ho
set_option maxHeartbeats 2000000 in
set_option maxRecDepth 100000 in
theorem rentry_any (t k v s : Int) (K : BitVec 8) (G : Bool) (A : Option Addr) (n c : Nat) (bs : List (BitVec 8)) (w : World) (hr : RowRd w ⟨A, n, c⟩ bs) (hn2 : n ≤ 1000000000000) (hk : k = (K.toNat : Int)) :
    Calls Try.prog 25 #[.agg #[.int .i64 t, B8 K, .int .i64 v, .int .i64 s, .bool G, .slice A n c]] w fun e w' => ∃ g N c', e = .returned (.slice (some ⟨g, 0, none⟩) N c') ∧ N = (M.ent ⟨t, K, v, s, G, bs⟩).length ∧ w'.ownsRow w.heap.size 5 1 (.slice (some ⟨g, 0, none⟩) N c') N (bv (M.ent ⟨t, K, v, s, G, bs⟩)) ∧ Below w.heap.size w w' := by
  obtain ⟨i0, hi, hz0, hz1, hz2⟩ := info_parts infoByte
  have hcv := fun w => conv_B8_int (P := Try.prog) w 46 3 K Try.underlying46 Try.underlying3
  rw [← hk] at hcv
  have hr0 : RowRd (w.alloc (.cells #[.int .i64 t, B8 K, .int .i64 v, .int .i64 s, .bool G, .slice A n c] 48)) ⟨A, n, c⟩ bs := hr.below ((Below.refl _ _).alloc (Nat.le_refl _) _)
  have hlen : bs.length = n := hr.len
  have HR := Lib.hid hr0; have HK := Lib.hid hk; have HLEN := Lib.hid hlen
  clear hr hk hr0 hlen
  have x0 : (w.alloc (.cells #[.int .i64 t, B8 K, .int .i64 v, .int .i64 s, .bool G, .slice A n c] 48)).cell? ⟨w.heap.size, 0, none⟩ = some (.int .i64 t) := by rw [World.cell?_alloc_new]; rfl
  have x1 : (w.alloc (.cells #[.int .i64 t, B8 K, .int .i64 v, .int .i64 s, .bool G, .slice A n c] 48)).cell? ⟨w.heap.size, 1, none⟩ = some (B8 K) := by rw [World.cell?_alloc_new]; rfl
  have x2 : (w.alloc (.cells #[.int .i64 t, B8 K, .int .i64 v, .int .i64 s, .bool G, .slice A n c] 48)).cell? ⟨w.heap.size, 2, none⟩ = some (.int .i64 v) := by rw [World.cell?_alloc_new]; rfl
  have x3 : (w.alloc (.cells #[.int .i64 t, B8 K, .int .i64 v, .int .i64 s, .bool G, .slice A n c] 48)).cell? ⟨w.heap.size, 3, none⟩ = some (.int .i64 s) := by rw [World.cell?_alloc_new]; rfl
  have x4 : (w.alloc (.cells #[.int .i64 t, B8 K, .int .i64 v, .int .i64 s, .bool G, .slice A n c] 48)).cell? ⟨w.heap.size, 4, none⟩ = some (.bool G) := by rw [World.cell?_alloc_new]; rfl
  have x5 : (w.alloc (.cells #[.int .i64 t, B8 K, .int .i64 v, .int .i64 s, .bool G, .slice A n c] 48)).cell? ⟨w.heap.size, 5, none⟩ = some (.slice A n c) := by rw [World.cell?_alloc_new]; rfl
  have hb0 : Below w.heap.size w (w.alloc (.cells #[.int .i64 t, B8 K, .int .i64 v, .int .i64 s, .bool G, .slice A n c] 48)) := (Below.refl _ _).alloc (Nat.le_refl _) _
  have hs0 : w.heap.size < (w.alloc (.cells #[.int .i64 t, B8 K, .int .i64 v, .int .i64 s, .bool G, .slice A n c] 48)).heap.size := by simp
  have X0 := Lib.hid x0; have X1 := Lib.hid x1; have X2 := Lib.hid x2; have X3 := Lib.hid x3; have X4 := Lib.hid x4; have X5 := Lib.hid x5; have HB0 := Lib.hid hb0
  clear x0 x1 x2 x3 x4 x5 hb0
  obtain ⟨fl, hfl⟩ : ∃ fl, fl = M.flag G := ⟨_, rfl⟩
  have HFL := Lib.hid hfl
  have hent : M.ent ⟨t, K, v, s, G, bs⟩ = M.num t ++ M.num k ++ M.num v ++ M.num s ++ M.num fl ++ M.blob bs := by rw [HK.out, HFL.out]; rfl
  have HENT := Lib.hid hent
  clear hfl hent
  cases G
  all_goals
    have y0 := X0.out
    have y4 := X4.out
    go_enter Try.func25, Try.ntmps25
    go_wp2_with fail
    clear y0 y4
    generalize World.alloc w _ = w0 at *
    have HFE := HFL
    refine (rnum_any t _).mono ?_
    rintro e w1 ⟨g1, c1, rfl, ho1, hb1⟩
    have HO1 := Lib.hid ho1; have HB1 := Lib.hid hb1
    have hs1 := hb1.size
    clear ho1 hb1
    have y : w1.cell? ⟨w.heap.size, 1, none⟩ = some (B8 K) := (HB1.out.cell (p := ⟨w.heap.size, 1, none⟩) hs0).trans X1.out
    go_wp2_with fail
    refine (rnum_any k _).mono ?_
    rintro e w2 ⟨g2, c2, rfl, ho2, hb2⟩
    have HO2 := Lib.hid (row_kept HO1.out hb2); have HB2 := Lib.hid (HB1.out.trans (hb2.mono HB1.out.size)); have HC2 := Lib.hid (cells_row ho2)
    have hs2 := HB2.out.size
    clear ho2 hb2 HO1 HB1 y
    go_wp2_with (at_builtin; refine wpList_append_any _ rfl _ _ 29 rfl w0.heap.size 5 i0 (.int .u8 0) 1 1 Try.underlying29 hi hz0 hz1 hz2 rfl (by decide) _ 8 (bv (M.num t)) rfl HO2.out (some ⟨g2, 0, none⟩) 8 c2 (bv (M.num k)) rfl (fun h => by cases h) rfl HC2.out (bv_one _) (by unfold maxLen; omega) (by omega) hs2 ?_; intro v3 w3 hown hgrow; rw [← bv_append] at hown; obtain ⟨g3, c3, rfl, _, _⟩ := hown.form (by omega); have hb3 := HB2.out.grown hgrow hs2 (fun k hk => (HO2.out.lt k hk).1); have HO3 := Lib.hid hown; have HB3 := Lib.hid hb3; have hs3 := hb3.size; clear hown hgrow hb3 HO2 HB2 HC2; have y : w3.cell? ⟨w.heap.size, 2, none⟩ = some (.int .i64 v) := (HB3.out.cell (p := ⟨w.heap.size, 2, none⟩) hs0).trans X2.out)
    go_wp2_with fail
    refine (rnum_any v _).mono ?_
    rintro e w4 ⟨g4, c4, rfl, ho4, hb4⟩
    have HO4 := Lib.hid (row_kept HO3.out hb4); have HB4 := Lib.hid (HB3.out.trans (hb4.mono HB3.out.size)); have HC4 := Lib.hid (cells_row ho4)
    have hs4 := HB4.out.size
    clear ho4 hb4 HO3 HB3 y
    go_wp2_with (at_builtin; refine wpList_append_any _ rfl _ _ 29 rfl w0.heap.size 5 i0 (.int .u8 0) 1 1 Try.underlying29 hi hz0 hz1 hz2 rfl (by decide) _ 16 (bv (M.num t ++ M.num k)) rfl HO4.out (some ⟨g4, 0, none⟩) 8 c4 (bv (M.num v)) rfl (fun h => by cases h) rfl HC4.out (bv_one _) (by unfold maxLen; omega) (by omega) hs4 ?_; intro v5 w5 hown hgrow; rw [← bv_append] at hown; obtain ⟨g5, c5, rfl, _, _⟩ := hown.form (by omega); have hb5 := HB4.out.grown hgrow hs4 (fun k hk => (HO4.out.lt k hk).1); have HO5 := Lib.hid hown; have HB5 := Lib.hid hb5; have hs5 := hb5.size; clear hown hgrow hb5 HO4 HB4 HC4; have y : w5.cell? ⟨w.heap.size, 3, none⟩ = some (.int .i64 s) := (HB5.out.cell (p := ⟨w.heap.size, 3, none⟩) hs0).trans X3.out)
    go_wp2_with fail
    refine (rnum_any s _).mono ?_
    rintro e w6 ⟨g6, c6, rfl, ho6, hb6⟩
    have HO6 := Lib.hid (row_kept HO5.out hb6); have HB6 := Lib.hid (HB5.out.trans (hb6.mono HB5.out.size)); have HC6 := Lib.hid (cells_row ho6)
    have hs6 := HB6.out.size
    clear ho6 hb6 HO5 HB5 y
    go_wp2_with (at_builtin; refine wpList_append_any _ rfl _ _ 29 rfl w0.heap.size 5 i0 (.int .u8 0) 1 1 Try.underlying29 hi hz0 hz1 hz2 rfl (by decide) _ 24 (bv (M.num t ++ M.num k ++ M.num v)) rfl HO6.out (some ⟨g6, 0, none⟩) 8 c6 (bv (M.num s)) rfl (fun h => by cases h) rfl HC6.out (bv_one _) (by unfold maxLen; omega) (by omega) hs6 ?_; intro v7 w7 hown hgrow; rw [← bv_append] at hown; obtain ⟨g7, c7, rfl, _, _⟩ := hown.form (by omega); have hb7 := HB6.out.grown hgrow hs6 (fun k hk => (HO6.out.lt k hk).1); have HO7 := Lib.hid hown; have HB7 := Lib.hid hb7; have hs7 := hb7.size; clear hown hgrow hb7 HO6 HB6 HC6)
    go_wp2_with fail
    refine (rnum_any _ _).mono ?_
    rintro e w8 ⟨g8, c8, rfl, ho8, hb8⟩
    replace ho8 := fl_row HFE.out ho8
    have HO8 := Lib.hid (row_kept HO7.out hb8); have HB8 := Lib.hid (HB7.out.trans (hb8.mono HB7.out.size)); have HC8 := Lib.hid (cells_row ho8)
    have hs8 := HB8.out.size
    clear ho8 hb8 HO7 HB7
    go_wp2_with (at_builtin; refine wpList_append_any _ rfl _ _ 29 rfl w0.heap.size 5 i0 (.int .u8 0) 1 1 Try.underlying29 hi hz0 hz1 hz2 rfl (by decide) _ 32 (bv (M.num t ++ M.num k ++ M.num v ++ M.num s)) rfl HO8.out (some ⟨g8, 0, none⟩) 8 c8 (bv (M.num fl)) rfl (fun h => by cases h) rfl HC8.out (bv_one _) (by unfold maxLen; omega) (by omega) hs8 ?_; intro v9 w9 hown hgrow; rw [← bv_append] at hown; obtain ⟨g9, c9, rfl, _, _⟩ := hown.form (by omega); have hb9 := HB8.out.grown hgrow hs8 (fun k hk => (HO8.out.lt k hk).1); have HO9 := Lib.hid hown; have HB9 := Lib.hid hb9; have hs9 := hb9.size; clear hown hgrow hb9 HO8 HB8 HC8; have y : w9.cell? ⟨w.heap.size, 5, none⟩ = some (.slice A n c) := (HB9.out.cell (p := ⟨w.heap.size, 5, none⟩) hs0).trans X5.out)
    go_wp2_with fail
    refine (rbytes_any A n c bs _ (HR.out.below HB9.out) (by omega)).mono ?_
    rintro e w10 ⟨g10, N10, c10, rfl, hN10, ho10, hb10⟩
    have HN10 := Lib.hid hN10
    have hNb : N10 ≤ 2000000000000 := by omega
    have HO10 := Lib.hid (row_kept HO9.out hb10); have HB10 := Lib.hid (HB9.out.trans (hb10.mono HB9.out.size)); have HC10 := Lib.hid (cells_row ho10)
    have hl10 : (bv (M.blob bs)).length = N10 * 1 := ho10.1
    have HL10 := Lib.hid hl10
    have hs10 := HB10.out.size
    clear ho10 hb10 hN10 hl10 y HO9 HB9
    go_wp2_with (at_builtin; refine wpList_append_any _ rfl _ _ 29 rfl w0.heap.size 5 i0 (.int .u8 0) 1 1 Try.underlying29 hi hz0 hz1 hz2 rfl (by decide) _ 40 (bv (M.num t ++ M.num k ++ M.num v ++ M.num s ++ M.num fl)) rfl HO10.out (some ⟨g10, 0, none⟩) N10 c10 (bv (M.blob bs)) rfl (fun h => by cases h) HL10.out HC10.out (bv_one _) (by unfold maxLen; omega) (by omega) hs10 ?_; intro v11 w11 hown hgrow; rw [← bv_append] at hown; obtain ⟨g11, c11, rfl, _, _⟩ := hown.form (by omega); have hb11 := HB10.out.grown hgrow hs10 (fun k hk => (HO10.out.lt k hk).1); have HO11 := Lib.hid hown; have HB11 := Lib.hid hb11; clear hown hgrow hb11 HO10 HB10 HC10)
    go_ret
    refine ⟨g11, 40 + N10, c11, rfl, ?_, ?_, HB0.out.trans (HB11.out.mono (Nat.le_of_lt hs0))⟩
    · rw [HENT.out]
      have := HN10.out; have := HLEN.out
      simp [M.num_length, M.blob_length]; omega
    · rw [HENT.out]
      exact row_weaken HO11.out (Nat.le_of_lt hs0)
end Go.Proofs.Ytdmpphioflcofaa.K

/- The contract of the reference's Put. -/
namespace Go.Proofs.Ytdmpphioflcofaa.K
open Go Go.RowKit

theorem heap_keepL {W : World} {l : Nat} {o : Obj} (x : Obj) (h : W.heap[l]? = some o) : (W.alloc x).heap[l]? = some o := (Below.heap_alloc W x l (Array.getElem?_eq_some_iff.1 h).1).trans h
theorem box10 {w : World} {g : Nat} {t : TypeId} {v0 v1 v2 v3 v4 v5 v6 v7 v8 v9 : Value} (h : w.heap[g]? = some (.cells #[v0, v1, v2, v3, v4, v5, v6, v7, v8, v9] t (0, 0))) : w.cell? ⟨g, 0, none⟩ = some v0 ∧ w.cell? ⟨g, 1, none⟩ = some v1 ∧ w.cell? ⟨g, 2, none⟩ = some v2 ∧ w.cell? ⟨g, 3, none⟩ = some v3 ∧ w.cell? ⟨g, 4, none⟩ = some v4 ∧ w.cell? ⟨g, 5, none⟩ = some v5 ∧ w.cell? ⟨g, 6, none⟩ = some v6 ∧ w.cell? ⟨g, 7, none⟩ = some v7 ∧ w.cell? ⟨g, 8, none⟩ = some v8 ∧ w.cell? ⟨g, 9, none⟩ = some v9 := ⟨block_cell (xs := [v0, v1, v2, v3, v4, v5, v6, v7, v8, v9]) h rfl, block_cell (xs := [v0, v1, v2, v3, v4, v5, v6, v7, v8, v9]) h rfl, block_cell (xs := [v0, v1, v2, v3, v4, v5, v6, v7, v8, v9]) h rfl, block_cell (xs := [v0, v1, v2, v3, v4, v5, v6, v7, v8, v9]) h rfl, block_cell (xs := [v0, v1, v2, v3, v4, v5, v6, v7, v8, v9]) h rfl, block_cell (xs := [v0, v1, v2, v3, v4, v5, v6, v7, v8, v9]) h rfl, block_cell (xs := [v0, v1, v2, v3, v4, v5, v6, v7, v8, v9]) h rfl, block_cell (xs := [v0, v1, v2, v3, v4, v5, v6, v7, v8, v9]) h rfl, block_cell (xs := [v0, v1, v2, v3, v4, v5, v6, v7, v8, v9]) h rfl, block_cell (xs := [v0, v1, v2, v3, v4, v5, v6, v7, v8, v9]) h rfl⟩
theorem rtruth_any (b : Bool) (w : World) : Calls Try.prog 23 #[.bool b] w fun e w' => e = .returned (.int .i64 (M.flag b)) ∧ w = w' := by
  cases b
  · go_enter Try.func23, Try.ntmps23
    go_wp2
    go_ret
    exact ⟨rfl, rfl⟩
  · go_enter Try.func23, Try.ntmps23
    go_wp2
    go_ret
    exact ⟨rfl, rfl⟩
set_option maxHeartbeats 8000000 in
set_option maxRecDepth 100000 in
theorem rLPut_any (l : M.Let) (A : Option Addr) (n c : Nat) (w : World) (hn : l.ents.length = n) (hE : EntsRd w A l.ents) (hD : ∀ e ∈ l.ents, e.data.length ≤ 1000000000000) :
    Calls Try.prog 9 #[.agg #[B8 l.kind, .int .i64 l.src, .int .i64 l.dst, .int .i64 l.term, .int .i64 l.index, .int .i64 l.was, .bool l.ok, .int .i64 l.commit, .int .i64 l.version, .slice A n c]] w (LPut w l) := by
  have HE := Lib.hid hE; have HN := Lib.hid hn; have HD := Lib.hid hD
  have BK0 := Lib.hid ((Bank.nil (Below.refl w.heap.size w)).box #[B8 l.kind, .int .i64 l.src, .int .i64 l.dst, .int .i64 l.term, .int .i64 l.index, .int .i64 l.was, .bool l.ok, .int .i64 l.commit, .int .i64 l.version, .slice A n c] 25 (by simp))
  have hcv := fun w => conv_B8_int (P := Try.prog) w 22 3 l.kind Try.underlying22 Try.underlying3
  clear hE hn hD
  go_enter Try.func9, Try.ntmps9
  go_wp2_with fail
  generalize w.alloc (.cells #[B8 l.kind, .int .i64 l.src, .int .i64 l.dst, .int .i64 l.term, .int .i64 l.index, .int .i64 l.was, .bool l.ok, .int .i64 l.commit, .int .i64 l.version, .slice A n c] 25) = w1 at *
  refine (rRight_any l A n c w1 HN.out (HE.out.since BK0.out.since) (fun e he => Nat.le_trans (HD.out e he) (by omega))).mono ?_
  rintro e w2 ⟨rfl, hs⟩
  have BK1 := Lib.hid (BK0.out.call hs)
  clear hs BK0
  by_cases hR : M.lright l = true
  rotate_left
  · have hR' : M.lright l = false := by simpa using hR
    rw [hR']
    have HFIN := Lib.hid (show LPut w l (.returned (.tuple #[.slice none 0 0, .int .i64 4])) w2 from ⟨none, 0, 0, by rw [(lput_bad hR').2]; rfl, by rw [(lput_bad hR').1]; rfl, by rw [(lput_bad hR').1]; exact ((Bank.nil BK1.out.since).none _ _)⟩)
    clear hR hR'
    go_wp2
    go_ret2
    exact HFIN.out
  have hlen : l.ents.length ≤ 4 := (M.lright_small l hR).2.2.2.2.2.2.2
  rw [hR]
  have hn4 : n ≤ 4 := by rw [← HN.out]; exact hlen
  have HR := Lib.hid hR
  clear hR hlen
  go_wp2_with fail
  have hB := BK1.out.drew
  have x0 := hB.cell 0 rfl 0 rfl
  have x1 := hB.cell 0 rfl 1 rfl
  have x2 := hB.cell 0 rfl 2 rfl
  have x3 := hB.cell 0 rfl 3 rfl
  have x4 := hB.cell 0 rfl 4 rfl
  have x5 := hB.cell 0 rfl 5 rfl
  have x6 := hB.cell 0 rfl 6 rfl
  have x7 := hB.cell 0 rfl 7 rfl
  have x8 := hB.cell 0 rfl 8 rfl
  have x9 := hB.cell 0 rfl 9 rfl
  have HY := Lib.hid (hB.boxAt 0 rfl).2
  go_region_held3 (fun w' => w'.cell? ⟨w.heap.size, 0, none⟩ = some (B8 l.kind) ∧ w'.cell? ⟨w.heap.size, 1, none⟩ = some (.int .i64 l.src) ∧ w'.cell? ⟨w.heap.size, 2, none⟩ = some (.int .i64 l.dst) ∧ w'.cell? ⟨w.heap.size, 3, none⟩ = some (.int .i64 l.term) ∧ w'.cell? ⟨w.heap.size, 4, none⟩ = some (.int .i64 l.index) ∧ w'.cell? ⟨w.heap.size, 5, none⟩ = some (.int .i64 l.was) ∧ w'.cell? ⟨w.heap.size, 6, none⟩ = some (.bool l.ok) ∧ w'.cell? ⟨w.heap.size, 7, none⟩ = some (.int .i64 l.commit) ∧ w'.cell? ⟨w.heap.size, 8, none⟩ = some (.int .i64 l.version) ∧ w'.cell? ⟨w.heap.size, 9, none⟩ = some (.slice A n c))
    (first
      | (go_split_ands; refine ⟨?_, ?_, ?_, ?_, ?_, ?_, ?_, ?_, ?_, ?_⟩ <;> assumption)
      | exact box10 (heap_keepL _ HY.out)
      | fail "keep")
    (first
      | (go_at_call 23; refine (rtruth_any l.ok _).mono ?_; rintro e w3 ⟨rfl, rfl⟩)
      | fail "arm")
  all_goals
    clear x0 x1 x2 x3 x4 x5 x6 x7 x8 x9
    have hnl : (#[.int .i64 (l.kind.toNat : Int), .int .i64 l.src, .int .i64 l.dst, .int .i64 l.term, .int .i64 l.index, .int .i64 l.was, .int .i64 (M.flag l.ok), .int .i64 l.commit, .int .i64 l.version, .int .i64 (n : Int)] : Array Value).toList = (M.lnums l).map (Value.int .i64) := by rw [← HN.out]; rfl
    have BK2 := Lib.hid (show Bank w _ [boxAcc w2.heap.size 3 ((M.lnums l).map (Value.int .i64)), boxAcc w.heap.size 25 #[B8 l.kind, .int .i64 l.src, .int .i64 l.dst, .int .i64 l.term, .int .i64 l.index, .int .i64 l.was, .bool l.ok, .int .i64 l.commit, .int .i64 l.version, .slice A n c].toList] from by
      have h := hB.box #[.int .i64 (l.kind.toNat : Int), .int .i64 l.src, .int .i64 l.dst, .int .i64 l.term, .int .i64 l.index, .int .i64 l.was, .int .i64 (M.flag l.ok), .int .i64 l.commit, .int .i64 l.version, .int .i64 (n : Int)] 3 (by simp)
      rw [hnl] at h
      exact h)
    clear hB BK1 hcv hnl HY
    go_wp2_with fail
    go_loopw [4, 6] (fun v i wr => ∃ (k N c' : Nat) (B : Option Addr), k ≤ 10 ∧ i = .int .i64 (k : Int) ∧ v = .slice B N c' ∧ N = 8 * k ∧ Bank w wr [rowAcc B N c' (M.nums ((M.lnums l).take k)), boxAcc w2.heap.size 3 ((M.lnums l).map (Value.int .i64)), boxAcc w.heap.size 25 #[B8 l.kind, .int .i64 l.src, .int .i64 l.dst, .int .i64 l.term, .int .i64 l.index, .int .i64 l.was, .bool l.ok, .int .i64 l.commit, .int .i64 l.version, .slice A n c].toList]) (fun _ i _ => 10 - (intOf i).toNat)
    case atStart => exact ⟨0, 0, 0, none, by omega, rfl, rfl, rfl, BK2.out.none _ _⟩
    case round =>
      clear BK2
      obtain ⟨k, N, c', B, hk, rfl, rfl, hN, hBk⟩ := hrel
      have BK := Lib.hid hBk; have HNK := Lib.hid hN
      have hNb : N ≤ 80 := by omega
      clear hBk hN
      have k0 : (0 : Int) ≤ (k : Int) := by omega
      rcases Nat.lt_or_ge k 10 with h1 | h1
      · have i1 : (k : Int) < 10 := by omega
        have hkl : k < (M.lnums l).length := h1
        have hc := BK.out.cell 1 rfl k (v := .int .i64 (M.lnums l)[k]) (by simp [hkl])
        go_wp2_with fail
        refine (rnum_made (M.lnums l)[k] wr).mono ?_
        rintro e w5 ⟨g, N1, c1, rfl, hN1, ho, hs⟩
        have hN8 : N1 = 8 := hN1
        subst hN8
        have BK5 := Lib.hid (BK.out.madeB hs ho)
        clear hs ho hN1 hc
        go_wp2_with (at_builtin; refine wpList_append_bytes BK5.out rfl _ _ 29 rfl 5 infoByte Try.underlying29 1 B N c' (M.nums ((M.lnums l).take k)) rfl rfl _ _ _ (M.num (M.lnums l)[k]) rfl (BK5.out.row 0 rfl) (by omega) ?_; intro A' n' c'' w6 hn' hB6; have BK6 := Lib.hid hB6.drop; have HN' := Lib.hid hn'; clear hn' hB6)
        go_roundw
        case rel =>
          refine ⟨k + 1, n', c'', A', by omega, by go_num, rfl, by rw [HN'.out, HNK.out]; omega, ?_⟩
          have h := BK6.out
          rw [List.take_succ_eq_append_getElem hkl, M.nums_snoc]
          exact h
        case measure => simp [intOf]; omega
      · have i1 : ¬ (k : Int) < 10 := by omega
        have BK7 := Lib.hid (show Bank w wr [rowAcc B N c' (M.nums (M.lnums l)), boxAcc w.heap.size 25 #[B8 l.kind, .int .i64 l.src, .int .i64 l.dst, .int .i64 l.term, .int .i64 l.index, .int .i64 l.was, .bool l.ok, .int .i64 l.commit, .int .i64 l.version, .slice A n c].toList] from by
          have h := BK.out.sub (.cons_cons _ (.cons _ (.cons_cons _ .slnil)))
          rw [show k = (M.lnums l).length by show k = 10; omega, List.take_length] at h
          exact h)
        clear BK HNK
        go_wp2_with fail
        go_loopw [4, 7] (fun v i wr => ∃ (k N c' : Nat) (B : Option Addr), k ≤ n ∧ i = .int .i64 (k : Int) ∧ v = .slice B N c' ∧ N ≤ 80 + k * 2000000000000 ∧ Bank w wr [rowAcc B N c' (M.nums (M.lnums l) ++ M.ents (l.ents.take k)), boxAcc w.heap.size 25 #[B8 l.kind, .int .i64 l.src, .int .i64 l.dst, .int .i64 l.term, .int .i64 l.index, .int .i64 l.was, .bool l.ok, .int .i64 l.commit, .int .i64 l.version, .slice A n c].toList]) (fun _ i _ => n - (intOf i).toNat)
        case atStart => exact ⟨0, N, c', B, by omega, rfl, rfl, by omega, by have h := BK7.out; simpa [M.ents] using h⟩
        case round =>
          clear BK7
          obtain ⟨k, N, c', B, hk, rfl, rfl, hNk, hBk⟩ := hrel
          have BK := Lib.hid hBk
          clear hBk
          have k0 : (0 : Int) ≤ (k : Int) := by omega
          rcases Nat.lt_or_ge k n with h1 | h1
          · have i1 : (k : Int) < (n : Int) := by omega
            have hkl : k < l.ents.length := by rw [HN.out]; exact h1
            obtain ⟨b, o, rfl, A', m', c2, ⟨y0, y1, y2, y3, y4, y5⟩, hrd⟩ := HE.out.since BK.out.since k hkl
            obtain ⟨x, hx⟩ : ∃ x, x = l.ents[k] := ⟨_, rfl⟩
            rw [← hx] at y0 y1 y2 y3 y4 hrd
            have hdl : x.data.length ≤ 1000000000000 := by rw [hx]; exact HD.out _ (List.getElem_mem _)
            have hml : x.data.length = m' := hrd.len
            have hel : (M.ent x).length = 48 + m' := by rw [M.ent_length, hml]
            have HX := Lib.hid hx; have HRD := Lib.hid hrd; have HEL := Lib.hid hel
            have hm' : m' ≤ 1000000000000 := by omega
            have x9 := BK.out.cell 1 rfl 9 rfl
            clear hx hrd hdl hml hel
            go_wp2_with fail
            clear y0 y1 y2 y3 y4 y5 x9
            refine (rentry_any x.term (x.kind.toNat : Int) x.version x.server x.kind x.good A' m' c2 x.data _ HRD.out hm' rfl).mono ?_
            rintro e w5 ⟨g5, N5, c5, rfl, hN5, ho5, hb5⟩
            have BK5 := Lib.hid (BK.out.madeB hb5 ho5)
            have hn5 : N5 ≤ 48 + m' := by rw [hN5]; exact Nat.le_of_eq HEL.out
            clear hN5 ho5 hb5
            go_wp2_with (at_builtin; refine wpList_append_bytes BK5.out rfl _ _ 29 rfl 5 infoByte Try.underlying29 1 B N c' (M.nums (M.lnums l) ++ M.ents (l.ents.take k)) rfl rfl _ _ _ (M.ent x) rfl (BK5.out.row 0 rfl) (by omega) ?_; intro A6 n6 c6 w6 hn6 hB6; have BK6 := Lib.hid hB6.drop; have hn6' := Nat.le_of_eq hn6; clear hn6 hB6)
            go_roundw
            case rel =>
              refine ⟨k + 1, n6, c6, A6, by omega, by go_num, rfl, by omega, ?_⟩
              have h := BK6.out
              rw [HX.out] at h
              rw [List.take_succ_eq_append_getElem hkl, M.ents_snoc, ← List.append_assoc]
              exact h
            case measure => simp [intOf]; omega
          · have i1 : ¬ (k : Int) < (n : Int) := by omega
            have hkm : k = l.ents.length := by rw [HN.out]; omega
            have x9 := BK.out.cell 1 rfl 9 rfl
            have HFIN := Lib.hid (show LPut w l (.returned (.tuple #[.slice B N c', .int .i64 0])) wr from by
              have h := BK.out
              rw [hkm, List.take_length] at h
              have h2 := h.sub (.cons_cons _ (.cons _ .slnil))
              refine ⟨B, N, c', by rw [(lput_good HR.out).2]; rfl, ?_, by rw [(lput_good HR.out).1]; exact h2⟩
              rw [(lput_good HR.out).1]
              exact (h.row 0 rfl).len.symm)
            clear hkm
            go_wp2
            go_ret2
            exact HFIN.out
end Go.Proofs.Ytdmpphioflcofaa.K

/- The contracts of barbicankit's markEntry, LentEntries. -/
namespace Go.Proofs.Ytdmpphioflcofaa.K
open Go Go.RowKit

theorem infoEntry : (Try.prog.info? 48).map (fun i => (i.zero, i.size, i.bytes)) = some (some (.agg #[.int .i64 0, .int .u8 0, .int .i64 0, .int .i64 0, .bool false, .slice none 0 0]), 6, 64) := by kernel_rfl
theorem own_fullE {w : World} {base : Nat} {e : TypeId} {g n es : Nat} {xs : List Value} (h : w.ownsRow base e es (.slice (some ⟨g, 0, none⟩) n n) n xs) : base ≤ g ∧ w.heap[g]? = some (.cells xs.toArray e (0, 0)) := by
  rcases h.2 with ⟨h1, _⟩ | ⟨g', cap, cur, hv, hb, hg, _, _, hs, ht⟩
  · simp at h1
  · simp only [Value.slice.injEq, Option.some.injEq, Addr.mk.injEq, and_true, true_and] at hv
    obtain ⟨rfl, rfl⟩ := hv
    refine ⟨hb, ?_⟩
    rw [hg, ← ht, List.take_of_length_le (by simp; omega)]
/-- the mark of a place, an entry's cells -/
def mEnt (k i : Int) : List Value := entL (markI k i) 0 0 0#8 false none 0 0
def zeroEL : List Value := entL 0 0 0 0#8 false none 0 0
theorem entL_oneL (t v s : Int) (K : BitVec 8) (G : Bool) (A : Option Addr) (n c : Nat) : ∀ u ∈ entL t v s K G A n c, u.oneCell' = true := by
  intro u hu
  simp only [entL, List.mem_cons, List.mem_nil_iff, or_false] at hu
  rcases hu with rfl | rfl | rfl | rfl | rfl | rfl <;> rfl
theorem load_ent (t v s : Int) (K : BitVec 8) (G : Bool) (A : Option Addr) (n c : Nat) {w : World} {g : Nat} (h : w.heap[g]? = some (.cells (entL t v s K G A n c).toArray 48 (0, 0))) : (loadVar 48 ⟨g, 0, none⟩).run Try.prog w = .ok (.agg (entL t v s K G A n c).toArray) w := by
  have x0 : w.cell? ⟨g, 0, none⟩ = some (.int .i64 t) := block_cell h rfl
  have x1 : w.cell? ⟨g, 1, none⟩ = some (B8 K) := block_cell h rfl
  have x2 : w.cell? ⟨g, 2, none⟩ = some (.int .i64 v) := block_cell h rfl
  have x3 : w.cell? ⟨g, 3, none⟩ = some (.int .i64 s) := block_cell h rfl
  have x4 : w.cell? ⟨g, 4, none⟩ = some (.bool G) := block_cell h rfl
  have x5 : w.cell? ⟨g, 5, none⟩ = some (.slice A n c) := block_cell h rfl
  simp [go_sem, x0, x1, x2, x3, x4, x5, entL]
set_option maxHeartbeats 4000000 in
set_option maxRecDepth 100000 in
theorem markEntry_any (k i : Int) (w : World) : Calls Try.prog 38 #[.int .i64 k, .int .i64 i] w fun e w' => e = .returned (.agg #[.int .i64 (markI k i), B8 0#8, .int .i64 0, .int .i64 0, .bool false, .slice none 0 0]) ∧ Since w w' := by
  have BK0 := Lib.hid ((Bank.nil (Below.refl w.heap.size w)).box zeroEL.toArray 48 (by decide))
  go_enter Try.func38, Try.ntmps38
  go_wp2_with fail
  generalize hw1 : w.alloc (.cells #[.int .i64 0, .int .u8 0, .int .i64 0, .int .i64 0, .bool false, .slice none 0 0] 48) = w1 at *
  have BK1 := Lib.hid (show Bank w w1 [boxAcc w.heap.size 48 zeroEL] from by rw [← hw1]; exact BK0.out)
  clear hw1 BK0
  refine (mark_any k i _).mono ?_
  rintro e w' ⟨rfl, rfl⟩
  have HRES := Lib.hid (BK1.out.boxAt 0 rfl).2
  have HS := Lib.hid (BK1.out.boxRow 0 rfl (mEnt k i) rfl (by decide)).since
  have hinf : (Try.prog.info? 48).map (·.size) = some (#[.int .i64 (markI k i), .int .u8 0, .int .i64 0, .int .i64 0, .bool false, .slice none 0 0] : Array Value).size := infoEntL (markI k i) 0 0 0#8 false none 0 0
  have hone : (#[.int .i64 (markI k i), .int .u8 0, .int .i64 0, .int .i64 0, .bool false, .slice none 0 0] : Array Value).all (·.oneCell') = true := entL_one (markI k i) 0 0 0#8 false none 0 0
  go_wp2_with (with_reducible refine wpList_store_row rfl 48 (.tmp 4) (.tmp 8) rfl w.heap.size #[.int .i64 (markI k i), .int .u8 0, .int .i64 0, .int .i64 0, .bool false, .slice none 0 0] rfl rfl 48 _ HRES.out hinf rfl hone ?_)
  refine bodyPost_ret (v := .agg (mEnt k i).toArray) ?_ ?_ ?_
  · exact results_cell_row rfl _ _ w.heap.size 48 _ (0, 0) _ rfl (setRow_heap _ _ _ _ _ _ HRES.out) Try.underlying48 rfl (infoEntL _ _ _ _ _ _ _ _)
  · rfl
  · exact ⟨rfl, HS.out⟩
/-- cells of a lent entry: its data lie at block d -/
def lentE (e : M.Ent) (d : Nat) : List Value := entL e.term e.version e.server e.kind e.good (some ⟨d, 0, none⟩) e.data.length (e.data.length + 12)
def lentEs (es : List M.Ent) (d : Nat → Nat) (k : Nat) : List Value := (List.range k).flatMap fun i => lentE (es.getD i M.zeroEnt) (d i)
def markEs (k : Nat) : List Value := (List.range k).flatMap fun (i : Nat) => mEnt 1 i
theorem lentEs_succ (es : List M.Ent) (d : Nat → Nat) (k : Nat) : lentEs es d (k + 1) = lentEs es d k ++ lentE (es.getD k M.zeroEnt) (d k) := by simp [lentEs, List.range_succ]
theorem markEs_succ (k : Nat) : markEs (k + 1) = markEs k ++ mEnt 1 k := by simp [markEs, List.range_succ]
theorem lentE_length (e : M.Ent) (d : Nat) : (lentE e d).length = 6 := rfl
theorem mEnt_length (k i : Int) : (mEnt k i).length = 6 := rfl
theorem lentEs_length (es : List M.Ent) (d : Nat → Nat) : ∀ k, (lentEs es d k).length = k * 6
  | 0 => rfl
  | k + 1 => by rw [lentEs_succ, List.length_append, lentEs_length es d k, lentE_length]; omega
theorem markEs_length : ∀ k, (markEs k).length = k * 6
  | 0 => rfl
  | k + 1 => by rw [markEs_succ, List.length_append, markEs_length k, mEnt_length]; omega
theorem lentEs_congr (es : List M.Ent) (d d' : Nat → Nat) (k : Nat) (h : ∀ j, j < k → d j = d' j) : lentEs es d k = lentEs es d' k := by
  induction k with
  | zero => rfl
  | succ k ih => rw [lentEs_succ, lentEs_succ, ih fun j hj => h j (by omega), h k (by omega)]
theorem cells_lit1 (w : World) (vs : List Value) (t : TypeId) : ∀ j u, vs[j]? = some u → (w.alloc (.cells vs.toArray t)).cell? ((⟨w.heap.size, 0, none⟩ : Addr).add j) = some u := fun j u hu => by
  rw [Addr.add_lit, Nat.zero_add]
  exact block_cell (heap_alloc_new w _) hu
theorem cells_lit2 (w : World) (o : Obj) (vs : List Value) (t : TypeId) : ∀ j u, vs[j]? = some u → ((w.alloc o).alloc (.cells vs.toArray t)).cell? ((⟨w.heap.size + 1, 0, none⟩ : Addr).add j) = some u := fun j u hu => by
  have h := cells_lit1 (w.alloc o) vs t j u hu
  rwa [World.size_alloc] at h
/-- the data of lent entries -/
def LentData (w0 w : World) (es : List M.Ent) (d : Nat → Nat) (k : Nat) : Prop := ∀ j, j < k → w0.heap.size < d j ∧ w.heap[d j]? = some (.cells (bv ((es.getD j M.zeroEnt).data ++ marks 1 0 12)).toArray 5 (0, 0))
theorem LentData.call {w0 w w' : World} {es : List M.Ent} {d : Nat → Nat} {k : Nat} (h : LentData w0 w es d k) (hs : Since w w') : LentData w0 w' es d k := fun j hj => ⟨(h j hj).1, Since.at hs (h j hj).2⟩
theorem LentData.grown {w0 w w' : World} {es : List M.Ent} {d : Nat → Nat} {k : Nat} (h : LentData w0 w es d k) (hg : w.grownBy w' (some w0.heap.size)) : LentData w0 w' es d k := fun j hj =>
  ⟨(h j hj).1, (hg.block _ (Array.getElem?_eq_some_iff.1 (h j hj).2).1 (fun e => by have := (h j hj).1; simp at e; omega)).trans (h j hj).2⟩
/-- an account of entries -/
def entAcc (g k c : Nat) (xs : List Value) : Acc := ⟨.slice (some ⟨g, 0, none⟩) k c, k, 48, 6, xs⟩
/-- lent entries -/
def LentEs (w : World) (n : Nat) (es : List M.Ent) (e : Ending) (w' : World) : Prop := ∃ g d, e = .returned (.slice (some ⟨g, 0, none⟩) n (n + 12)) ∧ w.heap.size ≤ g ∧ w'.heap[g]? = some (.cells (lentEs es d n ++ markEs 12).toArray 48 (0, 0)) ∧ (∀ j, j < n → w.heap.size ≤ d j ∧ w'.heap[d j]? = some (.cells (bv ((es.getD j M.zeroEnt).data ++ marks 1 0 12)).toArray 5 (0, 0))) ∧ Since w w'
set_option maxHeartbeats 8000000 in
set_option maxRecDepth 100000 in
theorem LentEntries_any (A : Option Addr) (n c : Nat) (es : List M.Ent) (w : World) (hl : es.length = n) (hE : EntsRd w A es) (hn : n ≤ 1000000) (hD : ∀ e ∈ es, e.data.length ≤ 140737488000000) :
    Calls Try.prog 20 #[.slice A n c] w (LentEs w n es) := by
  obtain ⟨i0, hi, hz0, hz1, hz2⟩ := info_parts infoEntry
  have HE := Lib.hid hE; have HL := Lib.hid hl; have HD := Lib.hid hD
  have BK0 := Lib.hid (Bank.nil (Below.refl w.heap.size w))
  clear hE hl hD
  go_enter Try.func20, Try.ntmps20
  go_wp2_with (at_make; refine wpList_make_own _ rfl _ _ 23 rfl w.heap.size 48 i0 _ 6 Try.underlying23 hi hz0 hz1 _ _ _ (n + 12) rfl rfl (by omega) (by rw [hz2]; omega) (by unfold maxLen; omega) (Nat.le_refl _) ?_; intro w1 hown1 hgrow1)
  have BK1 := Lib.hid (show Bank w w1 [entAcc w.heap.size 0 (n + 12) []] from ⟨(Below.refl _ _).grown hgrow1 (Nat.le_refl _) (by simp), fun p hp => by rw [List.mem_singleton.1 hp]; exact hown1, .cons (fun _ h => by cases h) .nil⟩)
  clear hown1 hgrow1 BK0
  go_loopw [3, 4] (fun v i wr => ∃ (k : Nat) (d : Nat → Nat), k ≤ n ∧ i = .int .i64 (k : Int) ∧ v = .slice (some ⟨w.heap.size, 0, none⟩) k (n + 12) ∧ Bank w wr [entAcc w.heap.size k (n + 12) (lentEs es d k)] ∧ LentData w wr es d k) (fun _ i _ => n - (intOf i).toNat)
  case atStart => exact ⟨0, fun _ => 0, by omega, rfl, rfl, BK1.out, fun _ h => absurd h (Nat.not_lt_zero _)⟩
  case round =>
    clear BK1
    obtain ⟨k, d, hk, rfl, rfl, hB, hLD⟩ := hrel
    have BK := Lib.hid hB; have LD := Lib.hid hLD
    clear hB hLD
    have k0 : (0 : Int) ≤ (k : Int) := by omega
    rcases Nat.lt_or_ge k n with h1 | h1
    · have i1 : (k : Int) < (n : Int) := by omega
      have hkl : k < es.length := by rw [HL.out]; exact h1
      obtain ⟨b, o, rfl, A', m', c2, ⟨y0, y1, y2, y3, y4, y5⟩, hrd⟩ := HE.out.since BK.out.since k hkl
      obtain ⟨x, hx⟩ : ∃ x, x = es[k] := ⟨_, rfl⟩
      rw [← hx] at y0 y1 y2 y3 y4 hrd
      have HXD := Lib.hid (show es.getD k M.zeroEnt = x by rw [hx]; simp [hkl])
      have HML := Lib.hid (show x.data.length = m' from hrd.len)
      have HMB := Lib.hid (show m' ≤ 140737488000000 by rw [← HML.out, hx]; exact HD.out _ (List.getElem_mem _))
      have HRD := Lib.hid hrd
      clear hx hrd
      go_wp2_with fail
      clear y0 y1 y2 y3 y4 y5
      refine (LentEntry_any x.term x.version x.server x.kind x.good A' m' c2 x.data wr HRD.out HMB.out).mono ?_
      rintro e w1 ⟨g, rfl, hg, hb, hs⟩
      have hGw := (BK.out.lt (List.mem_singleton.2 rfl) (p := entAcc w.heap.size k (n + 12) (lentEs es d k)) (b := w.heap.size) rfl).2
      have HG := Lib.hid (show w.heap.size < g by omega)
      have BK3 := Lib.hid (((BK.out.call hs).alloc (.cells #[.int .i64 x.term, B8 x.kind, .int .i64 x.version, .int .i64 x.server, .bool x.good, .slice (some ⟨g, 0, none⟩) m' (m' + 12)] 48)).alloc (.cells #[.int .i64 x.term, B8 x.kind, .int .i64 x.version, .int .i64 x.server, .bool x.good, .slice (some ⟨g, 0, none⟩) m' (m' + 12)] 48))
      have S3 := Lib.hid (tmBx (w := w1) (c := #[.int .i64 x.term, B8 x.kind, .int .i64 x.version, .int .i64 x.server, .bool x.good, .slice (some ⟨g, 0, none⟩) m' (m' + 12)]) (d := #[.int .i64 x.term, B8 x.kind, .int .i64 x.version, .int .i64 x.server, .bool x.good, .slice (some ⟨g, 0, none⟩) m' (m' + 12)]) (t := 48))
      have LD1 := Lib.hid (show LentData w w1 es (upd d k g) (k + 1) from fun j hj => by
        by_cases h : j = k
        · subst h
          rw [upd_same, HXD.out]
          exact ⟨HG.out, hb⟩
        · rw [upd_other _ _ _ h]
          exact (LD.out.call hs) j (by omega))
      have HCG := Lib.hid (lentEs_congr es (upd d k g) d k (fun j hj => upd_other _ _ _ (by omega)))
      clear hg hb hs hGw BK LD HRD
      go_wp2_with (at_builtin; refine wpList_append_fits _ rfl _ _ 23 rfl w.heap.size 48 i0 6 Try.underlying23 hi hz1 w.heap.size k (n + 12) (lentEs es d k) rfl (BK3.out.at 0 rfl) ⟨w1.heap.size + 1, 0, none⟩ 1 1 (entL x.term x.version x.server x.kind x.good (some ⟨g, 0, none⟩) m' (m' + 12)) rfl rfl (cells_lit2 w1 _ (entL x.term x.version x.server x.kind x.good (some ⟨g, 0, none⟩) m' (m' + 12)) _) (entL_oneL _ _ _ _ _ _ _ _) (by omega) ?_; intro w4 hown4 hgrow4; have HO4 := Lib.hid hown4; have HG4 := Lib.hid hgrow4; clear hown4 hgrow4)
      go_roundw
      case rel =>
        refine ⟨k + 1, upd d k g, by omega, by go_num, rfl, ?_, (LD1.out.call S3.out).grown HG4.out⟩
        rw [lentEs_succ, HCG.out, upd_same, HXD.out, show lentE x g = entL x.term x.version x.server x.kind x.good (some ⟨g, 0, none⟩) m' (m' + 12) by rw [lentE, HML.out]]
        exact BK3.out.put 0 rfl (p' := entAcc w.heap.size (k + 1) (n + 12) _) HO4.out HG4.out (.inl rfl)
      case measure => simp [intOf]; omega
    · have i1 : ¬ (k : Int) < (n : Int) := by omega
      obtain rfl : k = n := by omega
      go_wp2_with fail
      go_loopw [3, 6] (fun v i wr => ∃ q : Nat, q ≤ 12 ∧ i = .int .i64 (q : Int) ∧ v = .slice (some ⟨w.heap.size, 0, none⟩) (k + q) (k + 12) ∧ Bank w wr [entAcc w.heap.size (k + q) (k + 12) (lentEs es d k ++ markEs q)] ∧ LentData w wr es d k) (fun _ i _ => 12 - (intOf i).toNat)
      case atStart => exact ⟨0, by omega, rfl, rfl, by have h := BK.out; simpa [markEs] using h, LD.out⟩
      case round =>
        clear BK LD
        obtain ⟨q, hq, rfl, rfl, hB, hLD⟩ := hrel
        have BK := Lib.hid hB; have LD := Lib.hid hLD
        clear hB hLD
        have q0 : (0 : Int) ≤ (q : Int) := by omega
        rcases Nat.lt_or_ge q 12 with h2 | h2
        · have i2 : (q : Int) < 12 := by omega
          go_wp2_with fail
          refine (markEntry_any 1 (q : Int) wr).mono ?_
          rintro e w1 ⟨rfl, hs⟩
          have BK3 := Lib.hid ((BK.out.call hs).alloc (.cells (mEnt 1 (q : Int)).toArray 48))
          have LD3 := Lib.hid ((LD.out.call hs).call (Since.alloc (Below.refl _ _) (.cells (mEnt 1 (q : Int)).toArray 48)))
          clear hs BK LD
          go_wp2_with (at_builtin; refine wpList_append_fits _ rfl _ _ 23 rfl w.heap.size 48 i0 6 Try.underlying23 hi hz1 w.heap.size (k + q) (k + 12) (lentEs es d k ++ markEs q) rfl (BK3.out.at 0 rfl) ⟨w1.heap.size, 0, none⟩ 1 1 (mEnt 1 (q : Int)) rfl rfl (cells_lit1 w1 (mEnt 1 (q : Int)) _) (entL_oneL _ _ _ _ _ _ _ _) (by omega) ?_; intro w4 hown4 hgrow4; have HO4 := Lib.hid hown4; have HG4 := Lib.hid hgrow4; clear hown4 hgrow4)
          go_roundw
          case rel =>
            refine ⟨q + 1, by omega, by go_num, by rw [Nat.add_assoc], ?_, LD3.out.grown HG4.out⟩
            rw [markEs_succ, ← List.append_assoc, ← Nat.add_assoc]
            exact BK3.out.put 0 rfl (p' := entAcc w.heap.size (k + q + 1) (k + 12) _) HO4.out HG4.out (.inl rfl)
          case measure => simp [intOf]; omega
        · have i2 : ¬ (q : Int) < 12 := by omega
          obtain rfl : q = 12 := by omega
          have hf := own_fullE (BK.out.at 0 rfl)
          have HFIN := Lib.hid (show LentEs w k es (.returned (.slice (some ⟨w.heap.size, 0, none⟩) k (k + 12))) wr from ⟨_, d, rfl, Nat.le_refl _, hf.2, fun j hj => ⟨Nat.le_of_lt (LD.out j hj).1, (LD.out j hj).2⟩, BK.out.since⟩)
          clear hf
          go_wp2
          go_ret
          exact HFIN.out
end Go.Proofs.Ytdmpphioflcofaa.K

/- What comes in: bytes, numbers, entries, lists of them, out of the statement's own reading of the arguments. -/
namespace Go.Proofs.Ytdmpphioflcofaa.K
open Go Go.RowKit Go.ChangeShapes Go.WideShapes Go.Deep

set_option maxRecDepth 100000
theorem own : ownKnob Try.prog.godebug = none := by kernel_rfl
theorem laidOut : laidOutB Try.prog = true := by kernel_rfl
noncomputable def laidWorld (os : Os) : World := World.holding Try.prog os ⟨#[], #[], []⟩

/-- a byte that came in -/
theorem B8_of_wf {n : Int} (h : (Lit.int .u8 n).wf = true) : ∃ b : BitVec 8, Value.int .u8 n = B8 b := by
  have h' : 0 ≤ n ∧ n < 256 := by
    simp [Lit.wf, IntKind.min, IntKind.max, IntKind.bits, IntKind.signed] at h
    omega
  refine ⟨BitVec.ofInt 8 n, ?_⟩
  simp only [B8, BitVec.toNat_ofInt, Value.int.injEq, true_and]
  omega
/-- a slice of bytes that came in reads as a list -/
theorem Rd.of_ints {w : World} {x : Addr} {zs : List Int} (hcell : ∀ i, i < zs.length → w.cell? (x.add i) = some (.int .u8 (zs.getD i 0))) (hwz : ∀ n ∈ zs, (Lit.int .u8 n).wf = true) (n : Nat) :
    Rd w (some x) ((zs.take n).map (BitVec.ofInt 8)) := by
  intro k hk
  have hk2 : k < zs.length := by simp at hk; omega
  have hc := hcell k hk2
  obtain ⟨b, o, s⟩ := x
  have hs : s = none := by simpa [Addr.add] using World.cell?_spot (hcell 0 (by omega))
  subst hs
  refine ⟨b, o, rfl, ?_⟩
  rw [Addr.add_lit] at hc
  rw [hc]
  obtain ⟨y, hy⟩ := B8_of_wf (hwz zs[k] (List.getElem_mem _))
  have e : zs.getD k 0 = zs[k] := by simp [hk2]
  rw [e, hy]
  simp only [B8, Value.int.injEq, true_and] at hy
  simp only [List.getElem_map, List.getElem_take, hy, BitVec.ofInt_natCast, ofNat_self]
theorem inI64_of_wf {n : Int} (h : (Lit.int .i64 n).wf = true) : M.inI64 n := by
  simp [Lit.wf, IntKind.min, IntKind.max, IntKind.bits, IntKind.signed] at h
  exact ⟨by omega, by omega⟩

theorem cellsByte : Try.prog.cellsOf 5 = 1 := by kernel_rfl
theorem cellsInt : Try.prog.cellsOf 3 = 1 := by kernel_rfl
theorem cellsBool : Try.prog.cellsOf 4 = 1 := by kernel_rfl
theorem cellsBytes : Try.prog.cellsOf 29 = 1 := by kernel_rfl
theorem cellsEnt : Try.prog.cellsOf 48 = 6 := by kernel_rfl
theorem cellsKind : Try.prog.cellsOf 46 = 1 := by kernel_rfl

section
variable {H : Type} {enc : TypeId × Value → H} {W : World} {base b0 : Nat} {sp : Nat → Bool} {held : Bool} {r : Reach}
theorem cs_bytes {fuel : Nat} {v : Value} {x : DataW H × List MemPlace} (h : DataW.trod enc Try.prog W base sp held fuel 29 [v] = some x) :
    ∃ A n c bs, v = .slice A n c ∧ RowRd W ⟨A, n, c⟩ bs ∧ n ≤ c ∧ c ≤ 9223372036854775807 := by
  rcases open_ints Try.underlying29 Try.underlying5 cellsByte h with ⟨hcs, _⟩ | ⟨x, l, c, zs, hcs, _, hl, hm, hz, hx, hcell, hwz⟩
  · obtain rfl : v = .slice none 0 0 := by simpa using hcs
    exact ⟨none, 0, 0, [], rfl, ⟨Rd.of_nil _ _, rfl, fun _ => rfl⟩, by omega, by omega⟩
  · obtain rfl : v = .slice (some x) l c := by simpa using hcs
    unfold maxLen at hm
    refine ⟨some x, l, c, _, rfl, ⟨Rd.of_ints hcell hwz l, ?_, fun h => by cases h⟩, hl, hm⟩
    simp only [List.length_map, List.length_take]
    split at hz <;> omega
theorem cs_int {fuel : Nat} {v : Value} {x : DataW H × List MemPlace} (h : DataW.trod enc Try.prog W base sp held fuel 3 [v] = some x) : ∃ n, v = .int .i64 n ∧ M.inI64 n := by
  obtain ⟨n, hcs, _, hw⟩ := DataW.trod_int Try.underlying3 h
  obtain rfl : v = .int .i64 n := by simpa using hcs
  exact ⟨n, rfl, inI64_of_wf hw⟩
theorem cs_bool {fuel : Nat} {v : Value} {x : DataW H × List MemPlace} (h : DataW.trod enc Try.prog W base sp held fuel 4 [v] = some x) : ∃ b, v = .bool b := by
  obtain ⟨b, hcs, _⟩ := DataW.trod_bool Try.underlying4 h
  exact ⟨b, by simpa using hcs⟩
theorem cs_kind {fuel : Nat} {v : Value} {x : DataW H × List MemPlace} (h : DataW.trod enc Try.prog W base sp held fuel 46 [v] = some x) : ∃ b, v = B8 b := by
  obtain ⟨n, hcs, _, hw⟩ := DataW.trod_int Try.underlying46 h
  obtain rfl : v = .int .u8 n := by simpa using hcs
  exact B8_of_wf hw
/-- bytes that came in -/
theorem open_bytes {v : Value} {d : DataW H} {p : List MemPlace} (hv : Value.okWide Try.prog W r b0 29 v) (h : DataW.Trod enc Try.prog W base sp held 29 v d p) :
    ∃ A n c bs, v = .slice A n c ∧ RowRd W ⟨A, n, c⟩ bs ∧ n ≤ c ∧ c ≤ 9223372036854775807 := by
  obtain ⟨A, l, c, rfl⟩ := okWide_slice Try.underlying29 hv
  obtain ⟨fuel, hf⟩ := h
  exact cs_bytes hf
/-- a number that came in -/
theorem open_num {v : Value} {d : DataW H} {p : List MemPlace} (hv : Value.okWide Try.prog W r b0 3 v) (h : DataW.Trod enc Try.prog W base sp held 3 v d p) : ∃ n, v = .int .i64 n ∧ M.inI64 n := by
  obtain ⟨n, rfl, _, _, hw⟩ := open_int Try.underlying3 hv h
  exact ⟨n, rfl, inI64_of_wf hw⟩
/-- numbers that came in: those that are read -/
def Nums (W : World) (A : Option Addr) (n : Nat) : Prop := ∀ i, i < n → ∃ b o z, A = some ⟨b, o, none⟩ ∧ W.cell? ⟨b, o + i, none⟩ = some (.int .i64 z)
theorem Nums.below {w w' : World} {A : Option Addr} {n : Nat} (h : Nums w A n) (hb : Below w.heap.size w w') : Nums w' A n := fun i hi => by
  obtain ⟨b, o, z, e, hc⟩ := h i hi
  exact ⟨b, o, z, e, (hb.cell (p := ⟨b, o + i, none⟩) (block_lt_of_cell hc)).trans hc⟩
theorem open_nums {v : Value} {d : DataW H} {p : List MemPlace} (hv : Value.okWide Try.prog W r b0 51 v) (h : DataW.Trod enc Try.prog W base sp held 51 v d p) :
    ∃ A n c, v = .slice A n c ∧ Nums W A n ∧ n ≤ c ∧ c ≤ 9223372036854775807 := by
  obtain ⟨A, l, c, rfl⟩ := okWide_slice Try.underlying51 hv
  obtain ⟨fuel, hf⟩ := h
  rcases open_ints Try.underlying51 Try.underlying3 cellsInt hf with ⟨hcs, _⟩ | ⟨x, l, c, zs, hcs, _, hl, hm, hz, hx, hcell, hwz⟩
  · simp [Value.cells] at hcs
    obtain ⟨rfl, rfl, rfl⟩ := hcs
    exact ⟨none, 0, 0, rfl, fun i hi => absurd hi (Nat.not_lt_zero _), by omega, by omega⟩
  · simp [Value.cells] at hcs
    obtain ⟨rfl, rfl, rfl⟩ := hcs
    unfold maxLen at hm
    have hlz : l ≤ zs.length := by split at hz <;> omega
    refine ⟨_, _, _, rfl, fun i hi => ?_, hl, hm⟩
    obtain ⟨b, o, s⟩ := x
    have hs : s = none := by simpa [Addr.add] using World.cell?_spot (hcell 0 (by omega))
    subst hs
    exact ⟨b, o, _, rfl, by rw [← Addr.add_lit]; exact hcell i (by omega)⟩
/-- six cells that read as an entry -/
theorem cs_entry {fuel : Nat} {cs : List Value} {x : DataW H × List MemPlace} (h : DataW.trod enc Try.prog W base sp held fuel 48 cs = some x) :
    ∃ (e : M.Ent) (A : Option Addr) (n c : Nat), cs = [.int .i64 e.term, B8 e.kind, .int .i64 e.version, .int .i64 e.server, .bool e.good, .slice A n c] ∧ M.inI64 e.term ∧ M.inI64 e.version ∧ M.inI64 e.server ∧ RowRd W ⟨A, n, c⟩ e.data ∧ n ≤ c ∧ c ≤ 9223372036854775807 := by
  obtain ⟨xs, n, _, _, hlen, hxl, hf⟩ := DataW.trod_struct Try.underlying48 h
  rw [cellsEnt] at hlen
  match cs, hlen with
  | [c0, c1, c2, c3, c4, c5], _ =>
    match xs, hxl with
    | [y0, y1, y2, y3, y4, y5], _ =>
      have f0 : DataW.trod enc Try.prog W base sp held n 3 [c0] = some y0 := by simpa [cellsInt] using hf 0 _ rfl
      have f1 : DataW.trod enc Try.prog W base sp held n 46 [c1] = some y1 := by simpa [cellsKind] using hf 1 _ rfl
      have f2 : DataW.trod enc Try.prog W base sp held n 3 [c2] = some y2 := by simpa [cellsInt] using hf 2 _ rfl
      have f3 : DataW.trod enc Try.prog W base sp held n 3 [c3] = some y3 := by simpa [cellsInt] using hf 3 _ rfl
      have f4 : DataW.trod enc Try.prog W base sp held n 4 [c4] = some y4 := by simpa [cellsBool] using hf 4 _ rfl
      have f5 : DataW.trod enc Try.prog W base sp held n 29 [c5] = some y5 := by simpa [cellsBytes] using hf 5 _ rfl
      obtain ⟨t, rfl, ht⟩ := cs_int f0
      obtain ⟨k, rfl⟩ := cs_kind f1
      obtain ⟨v, rfl, hv⟩ := cs_int f2
      obtain ⟨s, rfl, hs⟩ := cs_int f3
      obtain ⟨g, rfl⟩ := cs_bool f4
      obtain ⟨A, m, c, bs, rfl, hr, h1, h2⟩ := cs_bytes f5
      exact ⟨⟨t, k, v, s, g, bs⟩, A, m, c, rfl, ht, hv, hs, hr, h1, h2⟩
theorem open_entry {v : Value} {d : DataW H} {p : List MemPlace} (hv : Value.okWide Try.prog W r b0 48 v) (h : DataW.Trod enc Try.prog W base sp held 48 v d p) :
    ∃ (e : M.Ent) (A : Option Addr) (n c : Nat), v = .agg #[.int .i64 e.term, B8 e.kind, .int .i64 e.version, .int .i64 e.server, .bool e.good, .slice A n c] ∧ M.inI64 e.term ∧ M.inI64 e.version ∧ M.inI64 e.server ∧ RowRd W ⟨A, n, c⟩ e.data ∧ n ≤ c ∧ c ≤ 9223372036854775807 := by
  obtain ⟨cs, rfl, hsz⟩ := okWide_struct Try.underlying48 hv
  obtain ⟨fuel, hf⟩ := h
  obtain ⟨e, A, n, c, h0, h1⟩ := cs_entry hf
  refine ⟨e, A, n, c, ?_, h1⟩
  have : cs.toList = _ := h0
  rw [← this]
/-- an entry in memory, its first cell at o of block b -/
def EntAt (W : World) (b o : Nat) (e : M.Ent) : Prop := ∃ A n c, (∀ j u, [Value.int .i64 e.term, B8 e.kind, .int .i64 e.version, .int .i64 e.server, .bool e.good, .slice A n c][j]? = some u → W.cell? ⟨b, o + j, none⟩ = some u) ∧ M.inI64 e.term ∧ M.inI64 e.version ∧ M.inI64 e.server ∧ RowRd W ⟨A, n, c⟩ e.data ∧ n ≤ c ∧ c ≤ 9223372036854775807
/-- entries that came in -/
def Ents (W : World) (A : Option Addr) (es : List M.Ent) : Prop := ∀ i, (h : i < es.length) → ∃ b o, A = some ⟨b, o, none⟩ ∧ EntAt W b (o + i * 6) es[i]
theorem EntAt.below {w w' : World} {b o : Nat} {e : M.Ent} (h : EntAt w b o e) (hb : Below w.heap.size w w') : EntAt w' b o e := by
  obtain ⟨A, n, c, hc, h1, h2, h3, h4, h5⟩ := h
  exact ⟨A, n, c, fun j u hu => (hb.cell (p := ⟨b, o + j, none⟩) (block_lt_of_cell (hc j u hu))).trans (hc j u hu), h1, h2, h3, h4.below hb, h5⟩
theorem Ents.below {w w' : World} {A : Option Addr} {es : List M.Ent} (h : Ents w A es) (hb : Below w.heap.size w w') : Ents w' A es := fun i hi => by
  obtain ⟨b, o, e, hc⟩ := h i hi
  exact ⟨b, o, e, hc.below hb⟩
theorem open_entries {v : Value} {d : DataW H} {p : List MemPlace} (hv : Value.okWide Try.prog W r b0 23 v) (h : DataW.Trod enc Try.prog W base sp held 23 v d p) :
    ∃ A n c es, v = .slice A n c ∧ Ents W A es ∧ es.length = n ∧ (A = none → c = 0) ∧ n ≤ c ∧ c ≤ 9223372036854775807 := by
  obtain ⟨A, l, c, rfl⟩ := okWide_slice Try.underlying23 hv
  obtain ⟨fuel, hf⟩ := h
  rcases open_slice Try.underlying23 hf with ⟨hcs, _⟩ | ⟨a, len, cap, m, n, D, Pl, hcs, hb, hl, hm, hmm, hx, hi⟩
  · simp [Value.cells] at hcs
    obtain ⟨rfl, rfl, rfl⟩ := hcs
    exact ⟨none, 0, 0, [], rfl, fun i hi => absurd hi (Nat.not_lt_zero _), rfl, fun _ => rfl, by omega, by omega⟩
  · simp [Value.cells] at hcs
    obtain ⟨rfl, rfl, rfl⟩ := hcs
    unfold maxLen at hm
    have hlm : l ≤ m := by split at hmm <;> omega
    rw [cellsEnt] at hi
    have hev : ∀ i : Nat, ∃ e : M.Ent, i < l → ∃ b o, a = ⟨b, o, none⟩ ∧ EntAt W b (o + i * 6) e := by
      intro i
      by_cases hil : i < l
      · obtain ⟨cs', hc, ht⟩ := hi i (by omega)
        obtain ⟨e, A, n2, c2, rfl, hr⟩ := cs_entry ht
        obtain ⟨_, _, hat⟩ := World.cells?_some hc
        obtain ⟨b, o, s⟩ := a
        obtain ⟨cs0, hc0, ht0⟩ := hi 0 (by omega)
        obtain ⟨_, _, _, _, rfl, _⟩ := cs_entry ht0
        obtain ⟨_, _, hat0⟩ := World.cells?_some hc0
        have hs : s = none := by simpa [Addr.add] using World.cell?_spot ((hat0 0 (by omega)).trans rfl)
        subst hs
        refine ⟨e, fun _ => ⟨b, o, rfl, A, n2, c2, fun j u hu => ?_, hr⟩⟩
        have hj : j < 6 := (List.getElem?_eq_some_iff.1 hu).1
        have h1 := hat j hj
        rw [hu, Addr.add_lit, Addr.add_lit] at h1
        exact h1
      · exact ⟨M.zeroEnt, fun h => absurd h hil⟩
    obtain ⟨f, hf⟩ := Classical.axiomOfChoice hev
    refine ⟨_, _, _, (List.range l).map f, rfl, fun i hi2 => ?_, by simp, (fun h => by cases h), hl, hm⟩
    have hil : i < l := by simpa using hi2
    obtain ⟨b, o, rfl, he⟩ := hf i hil
    exact ⟨b, o, rfl, by simpa using he⟩
end
end Go.Proofs.Ytdmpphioflcofaa.K

/- The contract of barbicankit.EntriesOf. -/
namespace Go.Proofs.Ytdmpphioflcofaa.K
open Go Go.RowKit

def esum (es : List M.Ent) (k : Nat) : Nat := ((es.take k).map fun e => e.data.length / 8).sum
theorem esum_succ (es : List M.Ent) (k : Nat) (h : k < es.length) : esum es (k + 1) = esum es k + es[k].data.length / 8 := by
  unfold esum
  rw [List.take_succ_eq_append_getElem h, List.map_append, List.sum_append]
  simp
theorem esum_le (es : List M.Ent) (k i : Nat) (hk : k ≤ es.length) (hi : i < k) : es[i].data.length / 8 ≤ esum es k := by
  induction k with
  | zero => omega
  | succ k ih =>
    rw [esum_succ es k (by omega)]
    by_cases h : i = k
    · subst h; omega
    · have := ih (by omega) (by omega); omega
/-- so many entries and eighths of bytes; or more than most -/
def EOf (w : World) (most n : Nat) (es : List M.Ent) (e : Ending) (w' : World) : Prop := ∃ r : Nat, e = .returned (.int .i64 (r : Int)) ∧ (r ≤ most → n + esum es n ≤ most) ∧ w = w'
set_option maxHeartbeats 1000000 in
set_option maxRecDepth 100000 in
theorem EntriesOf_any (A : Option Addr) (n c : Nat) (es : List M.Ent) (most : Nat) (w : World) (hE : Ents w A es) (hl : es.length = n) (hn : n ≤ 9223372036854775807) (hmost : most ≤ 100000) :
    Calls Try.prog 19 #[.slice A n c, .int .i64 (most : Int)] w (EOf w most n es) := by
  have HE := Lib.hid hE; have HL := Lib.hid hl
  clear hE hl
  go_enter Try.func19, Try.ntmps19
  go_wp2
  go_loop [5, 6] (fun v i => ∃ k r : Nat, k ≤ n ∧ i = .int .i64 (k : Int) ∧ v = .int .i64 (r : Int) ∧ r = n + esum es k ∧ r ≤ 9223372036854775807) (fun _ i => n - (intOf i).toNat)
  case atStart => exact ⟨0, n, by omega, rfl, rfl, by simp [esum], hn⟩
  case round =>
    obtain ⟨k, r, hk, rfl, rfl, hr, hrm⟩ := hrel
    have HR := Lib.hid hr
    have k0 : (0 : Int) ≤ (k : Int) := by omega
    clear hr
    by_cases hkn : k < n
    · have i1 : (k : Int) < (n : Int) := by omega
      by_cases hrl : r ≤ most
      · have i2 : (r : Int) ≤ (most : Int) := by omega
        obtain ⟨b, o, rfl, A', m, c', hc, _, _, _, hrd, h1, h2⟩ := HE.out k (by rw [HL.out]; exact hkn)
        have c5 := hc 5 _ rfl
        have hkl : k < es.length := by rw [HL.out]; exact hkn
        have hm : es[k].data.length = m := hrd.len
        have HM := Lib.hid hm
        have m0 : (0 : Int) ≤ (m : Int) := by omega
        have q0 : (0 : Int) ≤ (m : Int) / 8 := by omega
        have q1 : (r : Int) + (m : Int) / 8 ≤ 9223372036854775807 := by omega
        have q2 : -9223372036854775808 ≤ (r : Int) + (m : Int) / 8 := by omega
        clear hc hrd hm
        go_wp2
        go_round
        case rel =>
          refine ⟨k + 1, r + m / 8, by omega, by go_num, by rw [show ((r + m / 8 : Nat) : Int) = (r : Int) + (m : Int) / 8 by omega], ?_, by omega⟩
          rw [HR.out, esum_succ es k (by rw [HL.out]; exact hkn), HM.out]; omega
        case measure => simp [intOf]; omega
      · have i2 : ¬ (r : Int) ≤ (most : Int) := by omega
        go_wp2
        go_ret
        exact ⟨r, rfl, fun h => absurd h hrl, rfl⟩
    · have i1 : ¬ (k : Int) < (n : Int) := by omega
      have hkk : k = n := by omega
      have HK := Lib.hid hkk
      clear hkk
      go_wp2
      go_ret
      exact ⟨r, rfl, fun h => by have := HR.out; rw [HK.out] at this; omega, rfl⟩
end Go.Proofs.Ytdmpphioflcofaa.K
