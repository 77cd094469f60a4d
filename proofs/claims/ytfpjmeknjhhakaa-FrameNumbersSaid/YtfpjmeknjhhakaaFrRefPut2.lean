/- The contract of the reference's Put. -/
import Derived.Test.YtfpjmeknjhhakaaFrRefPut
namespace Go.Proofs.Ytfpjmeknjhhakaa.K
open Go Go.RowKit

def RPutRel (w : World) (fs : List F.Fr) (k : Nat) (v i : Value) (wr : World) : Prop := ∃ A N c, k ≤ fs.length ∧ i = .int .i64 (k : Int) ∧ v = .slice A N c ∧ F.perr (fs.take k) = 0 ∧ Bank w wr [rowAcc A N c (F.pbytes (fs.take k))]
theorem len_le_pbytes (fs : List F.Fr) : fs.length ≤ (F.pbytes fs).length := by
  induction fs with
  | nil => exact Nat.zero_le _
  | cons f fs ih => rw [F.pbytes_cons, List.length_append, F.one_length, List.length_cons]; omega
set_option maxHeartbeats 4000000 in
set_option maxRecDepth 100000 in
theorem rput_any (A : Option Addr) (n c : Nat) (fs : List F.Fr) (w : World) (hfs : Ones w A fs) (hn : fs.length = n) (hT : (F.pbytes fs).length ≤ 100000000000) :
    Calls Try.prog 15 #[.slice A n c] w (PutPost w fs) := by
  have HF := Lib.hid hfs; have HN := Lib.hid hn
  have hn63 : n ≤ 9223372036854775807 := by have := len_le_pbytes fs; omega
  have HB0 := Lib.hid (show Bank w w [rowAcc none 0 0 (F.pbytes (fs.take 0))] from (Bank.nil (Below.refl w.heap.size w)).none _ _)
  clear hfs hn
  go_enter Try.func15, Try.ntmps15
  go_wp2
  go_loopw [4, 5] (fun v i wr => ∃ k, RPutRel w fs k v i wr) (fun _ i _ => n - (intOf i).toNat)
  case atStart => exact ⟨0, none, 0, 0, Nat.zero_le _, rfl, rfl, rfl, HB0.out⟩
  case round =>
    clear HB0
    obtain ⟨k, A', N, c', hk, rfl, rfl, hpe, hB⟩ := hrel
    have HB := Lib.hid hB; have HPE := Lib.hid hpe
    have k0 : (0 : Int) ≤ (k : Int) := by omega
    clear hB hpe
    by_cases hlt : k < n
    · have i1 : (k : Int) < (n : Int) := by omega
      have hkl : k < fs.length := by rw [HN.out]; exact hlt
      obtain ⟨b, o, hA, D, m, d, hc, _, hr, _, _⟩ := HF.out k hkl
      subst hA
      obtain ⟨kd, ds, hfk⟩ : ∃ kd ds, fs[k] = F.Fr.mk kd ds := ⟨_, _, rfl⟩
      simp only [hfk] at hc hr
      have HFK := Lib.hid hfk
      have c0 := (HB.out.since.cell (p := ⟨b, o + k * 2, none⟩) (block_lt_of_cell (hc 0 _ rfl))).trans (hc 0 _ rfl)
      have c1 := (HB.out.since.cell (p := ⟨b, o + k * 2 + 1, none⟩) (block_lt_of_cell (hc 1 _ rfl))).trans (hc 1 _ rfl)
      have HRD := Lib.hid (show RowRd w ⟨D, m, d⟩ ds from hr); have HLD := Lib.hid (show ds.length = m from hr.len)
      clear hc hr hfk
      by_cases hbad : F.errOf ⟨kd, ds⟩ = 0
      · obtain ⟨b1, b2, b3⟩ := (F.errOf_ok _).1 hbad
        have b1' : (0 : Int) ≤ kd := b1
        have b2' : kd ≤ 255 := b2
        have d1 : decide (kd < 0) = false := by simp; omega
        have b3' : ¬ (262144 : Int) < (m : Int) := by have : ds.length ≤ 262144 := b3; have := HLD.out; omega
        have HBAD := Lib.hid hbad
        have HT := Lib.hid (show (F.pbytes (fs.take k)).length + (9 + ds.length) ≤ 100000000000 by
          have h1 := pbytes_take_le fs (k + 1)
          rw [pbytes_take fs k hkl, List.length_append, F.one_length, HFK.out] at h1
          have h2 : (F.Fr.mk kd ds).data.length = ds.length := rfl
          omega)
        have HNN := Lib.hid (show (F.pbytes (fs.take k)).length = N from (RowRd.of_row (HB.out.at 0 rfl)).len)
        have HPK := Lib.hid (perr_take_ok fs k hkl HPE.out (by rw [HFK.out]; exact HBAD.out))
        have HPB := Lib.hid (show F.pbytes (fs.take (k + 1)) = F.pbytes (fs.take k) ++ F.one ⟨kd, ds⟩ by rw [pbytes_take fs k hkl, HFK.out])
        have hm : m ≤ 100000000000 := by have := HT.out; have := HLD.out; omega
        have hNm : N + (9 + m) ≤ 100000000000 := by have := HT.out; have := HLD.out; have := HNN.out; omega
        clear hbad b1 b2 b3
        go_wp2_with fail
        refine (rone_any kd D m d ds _ (Since.row HB.out.since HRD.out) hm).mono ?_
        rintro e w2 ⟨g2, N2, c2, rfl, hN2, ho2, hb2⟩
        have hN2' : N2 = 9 + m := by rw [hN2, F.one_length]; have := HLD.out; show 9 + ds.length = _; omega
        have HN2 := Lib.hid hN2'
        have hn2 : N2 ≤ 9 + m := by omega
        have BK2 := Lib.hid (HB.out.madeB hb2 ho2)
        clear hN2 hN2' ho2 hb2 c0 c1 d1
        go_wp2_with (at_builtin; refine wpList_append_bytes BK2.out rfl _ _ 27 rfl 5 infoByte Try.underlying27 1 _ _ _ _ rfl rfl _ _ _ _ rfl (BK2.out.row 0 rfl) (by omega) ?_; intro A3 n3 c3 w3 hn3 hB3; dsimp only [List.set] at hB3; have BK3 := Lib.hid hB3.drop; clear hB3 hn3)
        go_roundw
        case rel => exact ⟨k + 1, A3, n3, c3, by omega, by go_num, rfl, HPK.out, by rw [HPB.out]; exact BK3.out⟩
        case measure => simp [intOf]; omega
      · have HPE2 := Lib.hid (show F.perr fs = F.errOf ⟨kd, ds⟩ by rw [perr_take_bad fs k hkl HPE.out (by rw [HFK.out]; exact hbad), HFK.out])
        have HPO := Lib.hid (show pout fs = [] by unfold pout; rw [if_neg (by rw [HPE2.out]; exact hbad)])
        have HFIN := Lib.hid (show PutPost w fs (.returned (.tuple #[.slice none 0 0, .int .i64 (F.errOf ⟨kd, ds⟩)])) wr from ⟨none, 0, 0, by rw [HPE2.out], by rw [HPO.out]; rfl, by rw [HPO.out]; exact World.ownsRow_nil _ _ _ _, HB.out.since⟩)
        have HBD := Lib.hid hbad
        clear hbad
        by_cases h1 : kd < 0
        · have HE := Lib.hid (show F.errOf ⟨kd, ds⟩ = 2 by unfold F.errOf; rw [if_pos (.inl h1)])
          have d1 : decide (kd < 0) = true := by simpa using h1
          rw [HE.out] at HFIN
          go_wp2_with fail
          go_ret2
          exact HFIN.out
        · have d1 : decide (kd < 0) = false := by simpa using h1
          by_cases h2 : 255 < kd
          · have HE := Lib.hid (show F.errOf ⟨kd, ds⟩ = 2 by unfold F.errOf; rw [if_pos (.inr h2)])
            rw [HE.out] at HFIN
            go_wp2_with fail
            go_ret2
            exact HFIN.out
          · have h3 : 262144 < ds.length := by
              refine Classical.byContradiction fun h3 => HBD.out ?_
              exact (F.errOf_ok _).2 ⟨by show 0 ≤ kd; omega, by show kd ≤ 255; omega, by show ds.length ≤ _; omega⟩
            have HE := Lib.hid (show F.errOf ⟨kd, ds⟩ = 3 by unfold F.errOf; rw [if_neg (by show ¬ (kd < 0 ∨ 255 < kd); omega), if_pos (by show _ < ds.length; exact h3)])
            have i3 : (262144 : Int) < (m : Int) := by have := HLD.out; omega
            rw [HE.out] at HFIN
            go_wp2_with fail
            go_ret2
            exact HFIN.out
    · have i1 : ¬ (k : Int) < (n : Int) := by omega
      have hkn : k = fs.length := by have := HN.out; omega
      have ht : fs.take k = fs := by rw [hkn, List.take_length]
      have hp0 : F.perr fs = 0 := by rw [← ht]; exact HPE.out
      have hpo : pout fs = F.pbytes fs := by unfold pout; rw [if_pos hp0]
      have hB2 := HB.out
      rw [ht] at hB2
      have HFIN := Lib.hid (show PutPost w fs (.returned (.tuple #[.slice A' N c', .int .i64 0])) wr from ⟨A', N, c', by rw [hp0]; rfl, by rw [hpo]; exact (RowRd.of_row (hB2.at 0 rfl)).len.symm, by rw [hpo]; exact hB2.at 0 rfl, hB2.since⟩)
      clear hkn ht hp0 hpo hB2
      go_wp2_with fail
      go_ret2
      exact HFIN.out
end Go.Proofs.Ytfpjmeknjhhakaa.K
