/- The contract of barbicankit.ApartBundles at two lists of one bundle each: rows in blocks of their own are told to lie apart. -/
import Derived.Test.YtidcfjmibljkeaaGreatDoorBqApartBundles
namespace Go.Proofs.YtidcfjmibljkeaaGreatDoor.K
open Go Go.RowKit

def sixR (A0 B0 C0 A1 B1 C1 : Option Addr) (n0 c0 m0 d0 k0 l0 n1 c1 m1 d1 k1 l1 : Nat) : Nat → Rw
  | 0 => ⟨A0, n0, c0⟩ | 1 => ⟨B0, m0, d0⟩ | 2 => ⟨C0, k0, l0⟩ | 3 => ⟨A1, n1, c1⟩ | 4 => ⟨B1, m1, d1⟩ | _ => ⟨C1, k1, l1⟩
def sixF (a b c d e f : List (BitVec 8)) : Nat → List (BitVec 8)
  | 0 => a | 1 => b | 2 => c | 3 => d | 4 => e | _ => f
def twoR (g0 g1 : Nat) : Nat → G.Rw
  | 0 => ⟨some ⟨g0, 0, none⟩, 1, 1⟩ | _ => ⟨some ⟨g1, 0, none⟩, 1, 1⟩
def twoF (x y : List Value) : Nat → List Value
  | 0 => x | _ => y
/-- a block of cells as a row of one element -/
theorem own_one {w : World} {base g es : Nat} {t : TypeId} {vs : List Value} (hg : w.heap[g]? = some (.cells vs.toArray t (0, 0))) (hb : base ≤ g) (hl : vs.length = es) : w.ownsRow base t es (.slice (some ⟨g, 0, none⟩) 1 1) 1 vs :=
  ⟨by omega, .inr ⟨g, 1, vs.toArray, rfl, hb, hg, Nat.le_refl _, by unfold maxLen; omega, by simp; omega, by rw [Nat.one_mul]; show vs.take es = vs; rw [List.take_of_length_le (by omega)]⟩⟩
theorem six_sep {w0 w : World} {L : List Acc} (h : Bank w0 w L) {r : Nat → Rw} (hacc : ∀ j, j < 6 → ∃ p, L[6 + j]? = some p ∧ p.v = (r j).v) : ∀ i j, i < 6 → j < 6 → i ≠ j → ∀ b, (r i).blk = some b → (r j).blk ≠ some b := fun i j hi hj hij b h1 h2 => by
  obtain ⟨p, hp, hpv⟩ := hacc i hi
  obtain ⟨q, hq, hqv⟩ := hacc j hj
  exact h.sepAt hp hq (by omega) b (by rw [hpv]; exact h1) (by rw [hqv]; exact h2)
theorem six_z {w0 w : World} {L : List Acc} (h : Bank w0 w L) {r : Nat → Rw} (hacc : ∀ j, j < 6 → ∃ p, L[6 + j]? = some p ∧ p.v = (r j).v) {k b : Nat} (hk : k < 6) (hb : ∃ p, L[k]? = some p ∧ p.v.ownBlock = some b) : b < w.heap.size ∧ ∀ j, j < 6 → (r j).blk ≠ some b := by
  obtain ⟨q, hq, hqv⟩ := hb
  refine ⟨(h.lt (List.mem_of_getElem? hq) hqv).2, fun j hj h1 => ?_⟩
  obtain ⟨p, hp, hpv⟩ := hacc j hj
  exact h.sepAt hq hp (by omega) b hqv (by rw [hpv]; exact h1)
def nil21 : List Value := List.replicate 21 (.slice none 0 0)
set_option maxHeartbeats 8000000 in
set_option maxRecDepth 100000 in
theorem ApartBundles_any {w0 : World} (S g0 g1 : Nat) (v0 v1 : Int) (A0 B0 C0 A1 B1 C1 : Option Addr) (n0 c0 m0 d0 k0 l0 n1 c1 m1 d1 k1 l1 : Nat) (a0 b0 t0 a1 b1 t1 : List (BitVec 8)) (w : World)
    (hB : Bank w0 w [boxAcc S 34 [.slice (some ⟨g0, 0, none⟩) 1 1, .slice (some ⟨g1, 0, none⟩) 1 1], boxAcc g0 26 [.int .i64 v0, .slice A0 n0 c0, .slice B0 m0 d0, .slice C0 k0 l0], boxAcc g1 26 [.int .i64 v1, .slice A1 n1 c1, .slice B1 m1 d1, .slice C1 k1 l1],
      rowAcc A0 n0 c0 a0, rowAcc B0 m0 d0 b0, rowAcc C0 k0 l0 t0, rowAcc A1 n1 c1 a1, rowAcc B1 m1 d1 b1, rowAcc C1 k1 l1 t1])
    (hn : n0 ≤ 1000000000 ∧ m0 ≤ 1000000000 ∧ k0 ≤ 1000000000 ∧ n1 ≤ 1000000000 ∧ m1 ≤ 1000000000 ∧ k1 ≤ 1000000000) :
    Calls Tryz.prog 14 #[.slice (some ⟨S, 0, none⟩) 2 2] w fun e w' => e = .returned (.bool true) ∧ Since w0 w' := by
  have BK1 := Lib.hid ((((hB.none 22 1).none 34 1).box nil21.toArray 79 (by decide)))
  have HN := Lib.hid hn
  clear hB hn
  go_enter Tryz.func14, Tryz.ntmps14
  go_wp2_with fail
  generalize hX : w.heap.size = X at *
  generalize hw1 : w.alloc (.cells #[.slice none 0 0, .slice none 0 0, .slice none 0 0, .slice none 0 0, .slice none 0 0, .slice none 0 0, .slice none 0 0, .slice none 0 0, .slice none 0 0, .slice none 0 0, .slice none 0 0, .slice none 0 0, .slice none 0 0, .slice none 0 0, .slice none 0 0, .slice none 0 0, .slice none 0 0, .slice none 0 0, .slice none 0 0, .slice none 0 0, .slice none 0 0] 79) = w1 at *
  have BK2 := Lib.hid (show Bank w0 w1 [boxAcc X 79 nil21, lstAcc (.slice none 0 0) 0 34 [], lstAcc (.slice none 0 0) 0 22 [], boxAcc S 34 [.slice (some ⟨g0, 0, none⟩) 1 1, .slice (some ⟨g1, 0, none⟩) 1 1], boxAcc g0 26 [.int .i64 v0, .slice A0 n0 c0, .slice B0 m0 d0, .slice C0 k0 l0], boxAcc g1 26 [.int .i64 v1, .slice A1 n1 c1, .slice B1 m1 d1, .slice C1 k1 l1],
      rowAcc A0 n0 c0 a0, rowAcc B0 m0 d0 b0, rowAcc C0 k0 l0 t0, rowAcc A1 n1 c1 a1, rowAcc B1 m1 d1 b1, rowAcc C1 k1 l1 t1] from by rw [← hw1]; exact BK1.out)
  clear hX hw1 BK1
  have x0 := BK2.out.cell 3 rfl 0 rfl
  refine wp_loop_rounds 3 ?_
  rw [rounds_succ]
  go_wp2_with fail
  clear x0
  refine (putBundlesB_any X 0 2 1 4 g0 nil21 none 0 0 [] none 0 0 [] v0 A0 n0 c0 B0 m0 d0 C0 k0 l0 w1 BK2.out rfl rfl rfl rfl (by decide) (by decide) (by decide) (by decide) (by decide) (by decide) rfl rfl rfl (by omega) (by omega)).mono ?_
  rintro e w2 ⟨A', c', A2, c2, rfl, hB2⟩
  have BK3 := Lib.hid (show Bank w0 w2 [boxAcc X 79 ((nil21.set 14 (.slice A2 1 c2)).set 5 (.slice A' 3 c')), lstAcc (.slice A2 1 c2) 1 34 [.slice (some ⟨g0, 0, none⟩) 1 1], lstAcc (.slice A' 3 c') 3 22 [.slice A0 n0 c0, .slice B0 m0 d0, .slice C0 k0 l0], boxAcc S 34 [.slice (some ⟨g0, 0, none⟩) 1 1, .slice (some ⟨g1, 0, none⟩) 1 1], boxAcc g0 26 [.int .i64 v0, .slice A0 n0 c0, .slice B0 m0 d0, .slice C0 k0 l0], boxAcc g1 26 [.int .i64 v1, .slice A1 n1 c1, .slice B1 m1 d1, .slice C1 k1 l1],
      rowAcc A0 n0 c0 a0, rowAcc B0 m0 d0 b0, rowAcc C0 k0 l0 t0, rowAcc A1 n1 c1 a1, rowAcc B1 m1 d1 b1, rowAcc C1 k1 l1 t1] from hB2)
  clear hB2 BK2
  have x1 := BK3.out.cell 3 rfl 1 rfl
  go_wp2_with fail
  rw [rounds_succ]
  go_wp2_with fail
  clear x1
  refine (putBundlesB_any X 0 2 1 5 g1 ((nil21.set 14 (.slice A2 1 c2)).set 5 (.slice A' 3 c')) A' 3 c' _ A2 1 c2 _ v1 A1 n1 c1 B1 m1 d1 C1 k1 l1 w2 BK3.out rfl rfl rfl rfl (by decide) (by decide) (by decide) (by decide) (by decide) (by decide) rfl rfl rfl (by omega) (by omega)).mono ?_
  rintro e w3 ⟨A5, c5, A6, c6, rfl, hB3⟩
  have BK4 := Lib.hid (show Bank w0 w3 [boxAcc X 79 (bagBundles (.slice A5 6 c5) (.slice A6 2 c6)), lstAcc (.slice A6 2 c6) 2 34 [.slice (some ⟨g0, 0, none⟩) 1 1, .slice (some ⟨g1, 0, none⟩) 1 1], lstAcc (.slice A5 6 c5) 6 22 [.slice A0 n0 c0, .slice B0 m0 d0, .slice C0 k0 l0, .slice A1 n1 c1, .slice B1 m1 d1, .slice C1 k1 l1], boxAcc S 34 [.slice (some ⟨g0, 0, none⟩) 1 1, .slice (some ⟨g1, 0, none⟩) 1 1], boxAcc g0 26 [.int .i64 v0, .slice A0 n0 c0, .slice B0 m0 d0, .slice C0 k0 l0], boxAcc g1 26 [.int .i64 v1, .slice A1 n1 c1, .slice B1 m1 d1, .slice C1 k1 l1],
      rowAcc A0 n0 c0 a0, rowAcc B0 m0 d0 b0, rowAcc C0 k0 l0 t0, rowAcc A1 n1 c1 a1, rowAcc B1 m1 d1 b1, rowAcc C1 k1 l1 t1] from hB3)
  clear hB3 BK3
  go_wp2_with fail
  rw [rounds_succ]
  go_wp2_with fail
  obtain ⟨L5, rfl⟩ := own_someB (BK4.out.at 2 rfl) (by show 0 < 6; omega)
  obtain ⟨L14, rfl⟩ := own_someB (BK4.out.at 1 rfl) (by show 0 < 2; omega)
  have hXb := BK4.out.boxAt 0 rfl
  have hG0 := BK4.out.boxAt 4 rfl
  have hG1 := BK4.out.boxAt 5 rfl
  have hne := BK4.out.ne (i := 4) (j := 5) rfl rfl (by decide)
  have hz0 := fun (k b : Nat) (hk : k < 6) hb => six_z BK4.out (r := sixR A0 B0 C0 A1 B1 C1 n0 c0 m0 d0 k0 l0 n1 c1 m1 d1 k1 l1) (by intro j hj; rcases j with _ | _ | _ | _ | _ | _ | j; all_goals first | exact ⟨_, rfl, rfl⟩ | omega) (k := k) (b := b) hk hb
  have hsix := six_sep BK4.out (r := sixR A0 B0 C0 A1 B1 C1 n0 c0 m0 d0 k0 l0 n1 c1 m1 d1 k1 l1) (by intro j hj; rcases j with _ | _ | _ | _ | _ | _ | j; all_goals first | exact ⟨_, rfl, rfl⟩ | omega)
  have zX := hz0 0 X (by omega) ⟨_, rfl, rfl⟩
  have z14 := hz0 1 L14 (by omega) ⟨_, rfl, rfl⟩
  have z5 := hz0 2 L5 (by omega) ⟨_, rfl, rfl⟩
  have zg0 := hz0 4 g0 (by omega) ⟨_, rfl, rfl⟩
  have zg1 := hz0 5 g1 (by omega) ⟨_, rfl, rfl⟩
  have n14X : L14 ≠ X := fun e => BK4.out.sepAt (i := 1) (j := 0) rfl rfl (by decide) L14 rfl (by rw [e]; rfl)
  have n140 : L14 ≠ g0 := fun e => BK4.out.sepAt (i := 1) (j := 4) rfl rfl (by decide) L14 rfl (by rw [e]; rfl)
  have n141 : L14 ≠ g1 := fun e => BK4.out.sepAt (i := 1) (j := 5) rfl rfl (by decide) L14 rfl (by rw [e]; rfl)
  have nX0 : X ≠ g0 := BK4.out.ne (i := 0) (j := 4) rfl rfl (by decide)
  have nX1 : X ≠ g1 := BK4.out.ne (i := 0) (j := 5) rfl rfl (by decide)
  have h14 := BK4.out.at 1 rfl
  have HNN := HN.out
  refine (apartBundles_any X (.slice (some ⟨L5, 0, none⟩) 6 c5) (.slice (some ⟨L14, 0, none⟩) 2 c6) w0.heap.size (fun b => b = X ∨ b = L5 ∨ b = L14 ∨ b = g0 ∨ b = g1) w3 ⟨_, hXb.2⟩ BK4.out.since.size ?_ (.inl rfl) ?_ ?_).mono ?_
  · rintro b (rfl | rfl | rfl | rfl | rfl)
    · exact zX.1
    · exact z5.1
    · exact z14.1
    · exact zg0.1
    · exact zg1.1
  · intro wa ha
    have BA := BK4.out.call ha
    refine flatBytes_any (fun b => b = X ∨ b = L5 ∨ b = L14 ∨ b = g0 ∨ b = g1) L5 6 c5 (sixR A0 B0 C0 A1 B1 C1 n0 c0 m0 d0 k0 l0 n1 c1 m1 d1 k1 l1) (sixF a0 b0 t0 a1 b1 t1) w0.heap.size wa ⟨?_, hsix, fun _ h => absurd h (Nat.not_lt_zero _), fun _ _ _ h => absurd h (Nat.not_lt_zero _), fun _ _ h => absurd h (Nat.not_lt_zero _), ?_⟩ ?_ (by omega) ?_ BA.since.size (.inr (.inl rfl))
    · intro j hj
      rcases j with _ | _ | _ | _ | _ | _ | j
      · exact BA.at 6 rfl
      · exact BA.at 7 rfl
      · exact BA.at 8 rfl
      · exact BA.at 9 rfl
      · exact BA.at 10 rfl
      · exact BA.at 11 rfl
      · omega
    · intro b hb
      have hs := ha.size
      rcases hb with rfl | rfl | rfl | rfl | rfl
      · exact ⟨by omega, zX.2, fun _ h => absurd h (Nat.not_lt_zero _)⟩
      · exact ⟨by omega, z5.2, fun _ h => absurd h (Nat.not_lt_zero _)⟩
      · exact ⟨by omega, z14.2, fun _ h => absurd h (Nat.not_lt_zero _)⟩
      · exact ⟨by omega, zg0.2, fun _ h => absurd h (Nat.not_lt_zero _)⟩
      · exact ⟨by omega, zg1.2, fun _ h => absurd h (Nat.not_lt_zero _)⟩
    · intro j hj
      have h5 : wa.ownsRow w0.heap.size 22 1 (.slice (some ⟨L5, 0, none⟩) 6 c5) 6 [.slice A0 n0 c0, .slice B0 m0 d0, .slice C0 k0 l0, .slice A1 n1 c1, .slice B1 m1 d1, .slice C1 k1 l1] := BA.at 2 rfl
      rw [h5.cellAt j (by omega)]
      rcases j with _ | _ | _ | _ | _ | _ | j
      all_goals first | rfl | omega
    · intro j hj
      rcases j with _ | _ | _ | _ | _ | _ | j
      all_goals (first | (show n0 ≤ _; omega) | (show m0 ≤ _; omega) | (show k0 ≤ _; omega) | (show n1 ≤ _; omega) | (show m1 ≤ _; omega) | (show k1 ≤ _; omega) | omega)
  · intro wa ha hk
    have hs := ha.size
    refine (G.flatBundles_any (fun b => b = L14 ∨ b = X) L14 2 c6 (twoR g0 g1) (twoF [.int .i64 v0, .slice A0 n0 c0, .slice B0 m0 d0, .slice C0 k0 l0] [.int .i64 v1, .slice A1 n1 c1, .slice B1 m1 d1, .slice C1 k1 l1]) w0.heap.size wa ⟨?_, ?_, fun _ h => absurd h (Nat.not_lt_zero _), fun _ _ _ h => absurd h (Nat.not_lt_zero _), fun _ _ h => absurd h (Nat.not_lt_zero _), ?_⟩ ?_ (by omega) ?_ (Nat.le_trans BK4.out.since.size hs) (.inl rfl)).mono ?_
    · intro j hj
      rcases j with _ | _ | j
      · exact own_one ((hk g0 (.inr (.inr (.inr (.inl rfl))))).trans hG0.2) hG0.1 rfl
      · exact own_one ((hk g1 (.inr (.inr (.inr (.inr rfl))))).trans hG1.2) hG1.1 rfl
      · omega
    · intro i j hi hj hij b h1 h2
      have e1 : ∀ i, i < 2 → (twoR g0 g1 i).blk = some b → (i = 0 ∧ b = g0) ∨ (i = 1 ∧ b = g1) := fun i hi h => by
        rcases i with _ | _ | i
        · exact .inl ⟨rfl, (Option.some.inj h).symm⟩
        · exact .inr ⟨rfl, (Option.some.inj h).symm⟩
        · omega
      rcases e1 i hi h1 with ⟨q1, q2⟩ | ⟨q1, q2⟩ <;> rcases e1 j hj h2 with ⟨q3, q4⟩ | ⟨q3, q4⟩ <;> omega
    · have e2 : ∀ b, b ≠ g0 → b ≠ g1 → ∀ j, j < 2 → (twoR g0 g1 j).blk ≠ some b := fun b h0 h1 j hj h => by
        rcases j with _ | _ | j
        · exact h0 (Option.some.inj h).symm
        · exact h1 (Option.some.inj h).symm
        · omega
      rintro b (rfl | rfl)
      · exact ⟨by have := z14.1; omega, e2 _ n140 n141, fun _ h => absurd h (Nat.not_lt_zero _)⟩
      · exact ⟨by have := zX.1; omega, e2 _ nX0 nX1, fun _ h => absurd h (Nat.not_lt_zero _)⟩
    · intro j hj
      have hc := World.ownsRow.cellAt (show w3.ownsRow w0.heap.size 34 1 (.slice (some ⟨L14, 0, none⟩) 2 c6) 2 [.slice (some ⟨g0, 0, none⟩) 1 1, .slice (some ⟨g1, 0, none⟩) 1 1] from h14) j (by omega)
      rw [World.cell?_of_block (hk L14 (.inr (.inr (.inl rfl)))), hc]
      rcases j with _ | _ | j
      all_goals first | rfl | omega
    · intro j hj
      rcases j with _ | _ | j
      all_goals first | (show 1 ≤ _; omega) | omega
    · rintro e wb ⟨he, hb1, hb2⟩
      exact ⟨he, hb1, hb2 X (.inr rfl)⟩
  · rintro e w4 ⟨rfl, hb⟩
    have HFIN := Lib.hid (show Since w0 w4 from BK4.out.since.trans hb)
    clear hb hXb hG0 hG1 hne hz0 hsix zX z14 z5 zg0 zg1 h14 BK4
    go_wp2_with fail
    go_ret
    exact ⟨rfl, HFIN.out⟩
end Go.Proofs.YtidcfjmibljkeaaGreatDoor.K
