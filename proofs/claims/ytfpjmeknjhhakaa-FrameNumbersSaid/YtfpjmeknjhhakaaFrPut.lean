/- The contract of frame.Put. -/
import Derived.Test.YtfpjmeknjhhakaaFrPutS
namespace Go.Proofs.Ytfpjmeknjhhakaa.K
open Go Go.RowKit

def PutRel (w : World) (fs : List F.Fr) (k : Nat) (i : Value) (wr : World) : Prop := ∃ A N c, k ≤ fs.length ∧ i = .int .i64 (k : Int) ∧ F.perr (fs.take k) = 0 ∧
  Bank w wr [rowAcc A N c (F.pbytes (fs.take k)), boxAcc (w.heap.size + 1) 28 [.int .i64 0], boxAcc w.heap.size 27 [.slice A N c]]
set_option maxHeartbeats 4000000 in
set_option maxRecDepth 100000 in
theorem put_any (A : Option Addr) (n c : Nat) (fs : List F.Fr) (w : World) (hfs : Ones w A fs) (hn : fs.length = n) (hT : (F.pbytes fs).length ≤ 100000000000) :
    Calls Try.prog 14 #[.slice A n c] w (PutPost w fs) := by
  have hmf : ∀ (fn : Fn) (first cap : Array Value) (w : World), (Instr.makeFunc fn first cap).run Try.prog w = .ok (.func fn first cap) w := fun _ _ _ _ => rfl
  have HF := Lib.hid hfs; have HN := Lib.hid hn
  have hB0 : Bank w ((w.alloc (.cells #[.slice none 0 0] 27)).alloc (.cells #[.int .i64 0] 28)) [rowAcc none 0 0 (F.pbytes (fs.take 0)), boxAcc (w.heap.size + 1) 28 [.int .i64 0], boxAcc w.heap.size 27 [.slice none 0 0]] := by
    have h1 := (Bank.nil (Below.refl w.heap.size w)).box #[.slice none 0 0] 27 (by simp)
    have h2 := h1.box #[.int .i64 0] 28 (by simp)
    rw [show (w.alloc (.cells #[.slice none 0 0] 27)).heap.size = w.heap.size + 1 by simp] at h2
    exact h2.none _ _
  have HB0 := Lib.hid hB0
  have hn63 : n ≤ 9223372036854775807 := by
    have : fs.length ≤ (F.pbytes fs).length := by
      clear hT hfs HF HN hB0 HB0 hn
      induction fs with
      | nil => exact Nat.zero_le _
      | cons f fs ih => rw [F.pbytes_cons, List.length_append, F.one_length, List.length_cons]; omega
    omega
  clear hfs hn hB0
  go_enter_defers Try.func14, Try.ntmps14
  go_wp2_with fail
  go_loopw [9] (fun i wr => ∃ k, PutRel w fs k i wr) (fun i _ => n - (intOf i).toNat)
  case atStart => exact ⟨0, none, 0, 0, Nat.zero_le _, rfl, rfl, HB0.out⟩
  case round =>
    clear HB0
    obtain ⟨k, A', N, c', hk, rfl, hpe, hB⟩ := hrel
    have HB := Lib.hid hB; have HPE := Lib.hid hpe
    have k0 : (0 : Int) ≤ (k : Int) := by omega
    clear hB hpe
    by_cases hlt : k < n
    · have i1 : (k : Int) < (n : Int) := by omega
      have hkl : k < fs.length := by rw [HN.out]; exact hlt
      obtain ⟨b, o, hA, D, m, d, hc, _, hr, _, _⟩ := HF.out k hkl
      subst hA
      obtain ⟨kd, ds, hfk⟩ : ∃ kd ds, fs[k] = F.Fr.mk kd ds := ⟨_, _, rfl⟩
      simp only [hfk] at hc hr
      have HFK := Lib.hid hfk
      have c0 := (HB.out.since.cell (p := ⟨b, o + k * 2, none⟩) (block_lt_of_cell (hc 0 _ rfl))).trans (hc 0 _ rfl)
      have c1 := (HB.out.since.cell (p := ⟨b, o + k * 2 + 1, none⟩) (block_lt_of_cell (hc 1 _ rfl))).trans (hc 1 _ rfl)
      have HRD := Lib.hid (show RowRd w ⟨D, m, d⟩ ds from hr); have HLD := Lib.hid (show ds.length = m from hr.len)
      have BK1 := Lib.hid (HB.out.box #[.int .i64 kd, .slice D m d] 36 (by simp))
      clear hc hr hfk HB
      go_wp2_with fail
      refine (check_any kd D m d ds _ HLD.out).mono ?_
      rintro e w2 ⟨rfl, hs2⟩
      have BK2 := Lib.hid (BK1.out.call hs2)
      clear hs2 BK1 c0 c1
      by_cases hbad : F.errOf ⟨kd, ds⟩ = 0
      · rw [if_pos hbad]
        have HBAD := Lib.hid hbad
        clear hbad
        have HT := Lib.hid (show (F.pbytes (fs.take k)).length + (9 + ds.length) ≤ 100000000000 by
          have h1 := pbytes_take_le fs (k + 1)
          rw [pbytes_take fs k hkl, List.length_append, F.one_length, HFK.out] at h1
          have h2 : (F.Fr.mk kd ds).data.length = ds.length := rfl
          omega)
        have HNN := Lib.hid (show (F.pbytes (fs.take k)).length = N from (RowRd.of_row (BK2.out.at 1 rfl)).len)
        have HPK := Lib.hid (perr_take_ok fs k hkl HPE.out (by rw [HFK.out]; exact HBAD.out))
        have HPB := Lib.hid (show F.pbytes (fs.take (k + 1)) = F.pbytes (fs.take k) ++ F.one ⟨kd, ds⟩ by rw [pbytes_take fs k hkl, HFK.out])
        go_wp2_with fail
        have hB := BK2.out.drew
        have cb := BK2.out.cell 3 rfl 0 rfl
        have x0 := BK2.out.cell 0 rfl 0 rfl
        have x1 := BK2.out.cell 0 rfl 1 rfl
        have hm : m ≤ 100000000000 := by have := HT.out; have := HLD.out; omega
        have hNm : N + (9 + m) ≤ 100000000000 := by have := HT.out; have := HLD.out; have := HNN.out; omega
        refine wp_region_noPanic ?_
        go_region_law (first
          | (go_simp; go_at_call 45; refine (start_any kd D m d ds _ (Since.row hB.since HRD.out) (by omega)).mono ?_; rintro e w3 ⟨g3, N3, c3, rfl, hN3, ho3, hb3⟩; have hN3' := Nat.le_of_eq hN3; have hB := hB.madeB hb3 ho3; clear hN3 ho3 hb3; have cb := hB.cell 4 rfl 0 rfl; have x0 := hB.cell 1 rfl 0 rfl; have x1 := hB.cell 1 rfl 1 rfl)
          | (refine step_append_bytes hB rfl (.tmp 15) (.tmp 17) 27 rfl 5 infoByte Try.underlying27 2 _ _ _ _ rfl rfl _ _ _ _ rfl (hB.row 0 rfl) (by simp [F.five_length, F.be4_length] at hN3'; omega) ?_; intro A4 n4 c4 w4 hn4 hB; have hn4' := Nat.le_of_eq hn4; clear hn4; dsimp only [List.set] at hB; have cb := hB.cell 4 rfl 0 rfl; have cf := hB.free 4 rfl 0; have x0 := hB.cell 1 rfl 0 rfl; have x1 := hB.cell 1 rfl 1 rfl)
          | (refine step_append_bytes hB rfl (.tmp 18) (.tmp 20) 27 rfl 5 infoByte Try.underlying27 2 _ _ _ _ rfl rfl _ _ _ _ rfl (Since.row hB.since HRD.out) (by simp [F.five_length, F.be4_length] at hN3'; omega) ?_; intro A5 n5 c5 w5 hn5 hB; have hn5' := Nat.le_of_eq hn5; clear hn5; dsimp only [List.set] at hB; have cb := hB.cell 4 rfl 0 rfl; have cf := hB.free 4 rfl 0)
          | fail "arm")
        all_goals
          have hfin : Bank w (w5.setCell ⟨w.heap.size, 0, none⟩ (.slice A5 n5 c5)) [rowAcc A5 n5 c5 (F.pbytes (fs.take (k + 1))), boxAcc (w.heap.size + 1) 28 [.int .i64 0], boxAcc w.heap.size 27 [.slice A5 n5 c5]] := by
            have h := (hB.boxSet 4 rfl 0 (.slice A5 n5 c5)).drop.drop
            rw [HPB.out, show F.pbytes (fs.take k) ++ F.one ⟨kd, ds⟩ = (F.pbytes (fs.take k) ++ (F.five ⟨kd, ds⟩ ++ F.be4 (F.fsum (F.five ⟨kd, ds⟩ ++ ds)))) ++ ds by simp [F.one, List.append_assoc]]
            exact h
          have HFIN := Lib.hid (show PutRel w fs (k + 1) (.int .i64 ((k : Int) + 1)) (w5.setCell ⟨w.heap.size, 0, none⟩ (.slice A5 n5 c5)) from ⟨A5, n5, c5, by omega, by go_num, HPK.out, hfin⟩)
          clear hfin hB cb cf x0 x1 hn4' hn5' hN3' hm hNm
          refine NoPanic.normal ?_
          go_wp2_with fail
          exact ⟨⟨k + 1, HFIN.out⟩, by simp [intOf]; omega⟩
      · rw [if_neg hbad]
        have HPE2 := Lib.hid (show F.perr fs = F.errOf ⟨kd, ds⟩ by rw [perr_take_bad fs k hkl HPE.out (by rw [HFK.out]; exact hbad), HFK.out])
        have HPO := Lib.hid (show pout fs = [] by unfold pout; rw [if_neg (by rw [HPE2.out]; exact hbad)])
        have e0 := BK2.out.cell 2 rfl 0 rfl
        have ef := BK2.out.free 2 rfl 0
        have hbx := (BK2.out.boxAt 3 rfl).2
        have BKE := Lib.hid ((BK2.out.boxSet 2 rfl 0 (.int .i64 (F.errOf ⟨kd, ds⟩))).boxSet 3 rfl 0 (.slice none 0 0))
        have HEF := Lib.hid (show _ ∧ _ ∧ _ from ⟨e0, ef, hbx⟩)
        clear hbad e0 ef hbx
        go_wp2
        refine leaves_cons (f := 43) (args := #[.pointer (some ⟨w.heap.size + 1, 0, none⟩), .pointer (some ⟨w.heap.size, 0, none⟩)]) (by simp) (by simp [go_sem]) ?_
        refine (catchPut_panicking (w.heap.size + 1) w.heap.size _ _ _ _ HEF.out.1 HEF.out.2.1 HEF.out.2.2 rfl (by omega)).mono ?_
        rintro e u' w'' ⟨rfl, rfl, rfl⟩
        have rb := BKE.out.cell 3 rfl 0 rfl
        have re := BKE.out.cell 2 rfl 0 rfl
        refine ⟨.tuple #[.slice none 0 0, .int .i64 (F.errOf ⟨kd, ds⟩)], by simp [results, Try.results14, go_sem, rb, re], ?_⟩
        exact ⟨none, 0, 0, by rw [HPE2.out], by rw [HPO.out]; rfl, by rw [HPO.out]; exact World.ownsRow_nil _ _ _ _, BKE.out.since⟩
    · have i1 : ¬ (k : Int) < (n : Int) := by omega
      have hkn : k = fs.length := by rw [HN.out]; have := HN.out; omega
      have ht : fs.take k = fs := by rw [hkn, List.take_length]
      have hp0 : F.perr fs = 0 := by rw [← ht]; exact HPE.out
      have hpo : pout fs = F.pbytes fs := by unfold pout; rw [if_pos hp0]
      have hB2 := HB.out
      rw [ht] at hB2
      have cb := hB2.cell 2 rfl 0 rfl
      have ce := hB2.cell 1 rfl 0 rfl
      have fb := hB2.free 2 rfl 0
      have fe := hB2.free 1 rfl 0
      have BKE := Lib.hid ((hB2.boxSet 2 rfl 0 (.slice A' N c')).boxSet 1 rfl 0 (.int .i64 0))
      have HPO := Lib.hid hpo; have HP0 := Lib.hid hp0
      clear hkn ht hp0 hpo hB2
      go_wp2
      refine leaves_cons (f := 43) (args := #[.pointer (some ⟨w.heap.size + 1, 0, none⟩), .pointer (some ⟨w.heap.size, 0, none⟩)]) (by simp) (by simp [go_sem]) ?_
      refine (catchPut_idle _ _ _).mono ?_
      rintro e u' w'' ⟨rfl, rfl, rfl⟩
      have rb := BKE.out.cell 2 rfl 0 rfl
      have re := BKE.out.cell 1 rfl 0 rfl
      have ho := BKE.out.at 0 rfl
      refine ⟨.tuple #[.slice A' N c', .int .i64 0], by simp [results, Try.results14, go_sem, rb, re], ?_⟩
      exact ⟨A', N, c', by rw [HP0.out]; rfl, by rw [HPO.out]; exact (RowRd.of_row ho).len.symm, by rw [HPO.out]; exact ho, BKE.out.since⟩
end Go.Proofs.Ytfpjmeknjhhakaa.K
