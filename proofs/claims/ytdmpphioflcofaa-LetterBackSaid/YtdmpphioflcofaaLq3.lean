/- Merged: FlatNil, FlatBytes, Apart, ApartBytes, Parts, Lit, Box. -/
import Derived.Test.YtdmpphioflcofaaLq2
import Derived.Deep.RegionLaw
/- The contracts of the flat functions of barbicankit at nil: they tell true. -/
namespace Go.Proofs.Ytdmpphioflcofaa.K
open Go Go.RowKit

theorem infoFlatLimbs : (Try.prog.info? 127).map (fun i => (i.zero, i.size, i.bytes)) = some (some (.slice none 0 0), 1, 24) := by kernel_rfl
set_option maxHeartbeats 1000000 in
set_option maxRecDepth 100000 in
theorem flatLimbs_nil (w : World) : Calls Try.prog 50 #[.slice none 0 0] w fun e w' => e = .returned (.bool true) ∧ Below w.heap.size w w' := by
  obtain ⟨i0, hi, hz0, hz1, hz2⟩ := info_parts infoFlatLimbs
  go_enter Try.func50, Try.ntmps50
  go_wp2
  refine wp_loop_rounds 1 ?_
  rw [rounds_succ]
  go_wp2_with (at_make; refine wpList_make_own _ rfl _ _ 59 rfl w.heap.size 127 i0 (.slice none 0 0) 1 Try.underlying59 hi hz0 hz1 _ _ _ 0 rfl rfl (by omega) (by rw [hz2]; omega) (by unfold maxLen; omega) (Nat.le_refl _) ?_; intro w1 hown1 hgrow1)
  refine wp_loop_rounds 1 ?_
  rw [rounds_succ]
  go_wp2
  refine wp_loop_rounds 1 ?_
  rw [rounds_succ]
  go_wp2
  refine wp_loop_rounds 1 ?_
  rw [rounds_succ]
  go_wp2
  refine wp_loop_rounds 1 ?_
  rw [rounds_succ]
  go_wp2
  go_ret
  exact ⟨rfl, (Below.refl _ _).grown hgrow1 (Nat.le_refl _) (by simp)⟩

theorem infoFlatWords : (Try.prog.info? 129).map (fun i => (i.zero, i.size, i.bytes)) = some (some (.slice none 0 0), 1, 24) := by kernel_rfl
set_option maxHeartbeats 1000000 in
set_option maxRecDepth 100000 in
theorem flatWords_nil (w : World) : Calls Try.prog 51 #[.slice none 0 0] w fun e w' => e = .returned (.bool true) ∧ Below w.heap.size w w' := by
  obtain ⟨i0, hi, hz0, hz1, hz2⟩ := info_parts infoFlatWords
  go_enter Try.func51, Try.ntmps51
  go_wp2
  refine wp_loop_rounds 1 ?_
  rw [rounds_succ]
  go_wp2_with (at_make; refine wpList_make_own _ rfl _ _ 60 rfl w.heap.size 129 i0 (.slice none 0 0) 1 Try.underlying60 hi hz0 hz1 _ _ _ 0 rfl rfl (by omega) (by rw [hz2]; omega) (by unfold maxLen; omega) (Nat.le_refl _) ?_; intro w1 hown1 hgrow1)
  refine wp_loop_rounds 1 ?_
  rw [rounds_succ]
  go_wp2
  refine wp_loop_rounds 1 ?_
  rw [rounds_succ]
  go_wp2
  refine wp_loop_rounds 1 ?_
  rw [rounds_succ]
  go_wp2
  refine wp_loop_rounds 1 ?_
  rw [rounds_succ]
  go_wp2
  go_ret
  exact ⟨rfl, (Below.refl _ _).grown hgrow1 (Nat.le_refl _) (by simp)⟩

theorem infoFlatInts : (Try.prog.info? 51).map (fun i => (i.zero, i.size, i.bytes)) = some (some (.slice none 0 0), 1, 24) := by kernel_rfl
set_option maxHeartbeats 1000000 in
set_option maxRecDepth 100000 in
theorem flatInts_nil (w : World) : Calls Try.prog 52 #[.slice none 0 0] w fun e w' => e = .returned (.bool true) ∧ Below w.heap.size w w' := by
  obtain ⟨i0, hi, hz0, hz1, hz2⟩ := info_parts infoFlatInts
  go_enter Try.func52, Try.ntmps52
  go_wp2
  refine wp_loop_rounds 1 ?_
  rw [rounds_succ]
  go_wp2_with (at_make; refine wpList_make_own _ rfl _ _ 61 rfl w.heap.size 51 i0 (.slice none 0 0) 1 Try.underlying61 hi hz0 hz1 _ _ _ 0 rfl rfl (by omega) (by rw [hz2]; omega) (by unfold maxLen; omega) (Nat.le_refl _) ?_; intro w1 hown1 hgrow1)
  refine wp_loop_rounds 1 ?_
  rw [rounds_succ]
  go_wp2
  refine wp_loop_rounds 1 ?_
  rw [rounds_succ]
  go_wp2
  refine wp_loop_rounds 1 ?_
  rw [rounds_succ]
  go_wp2
  refine wp_loop_rounds 1 ?_
  rw [rounds_succ]
  go_wp2
  go_ret
  exact ⟨rfl, (Below.refl _ _).grown hgrow1 (Nat.le_refl _) (by simp)⟩

theorem infoFlatLongs : (Try.prog.info? 130).map (fun i => (i.zero, i.size, i.bytes)) = some (some (.slice none 0 0), 1, 24) := by kernel_rfl
set_option maxHeartbeats 1000000 in
set_option maxRecDepth 100000 in
theorem flatLongs_nil (w : World) : Calls Try.prog 53 #[.slice none 0 0] w fun e w' => e = .returned (.bool true) ∧ Below w.heap.size w w' := by
  obtain ⟨i0, hi, hz0, hz1, hz2⟩ := info_parts infoFlatLongs
  go_enter Try.func53, Try.ntmps53
  go_wp2
  refine wp_loop_rounds 1 ?_
  rw [rounds_succ]
  go_wp2_with (at_make; refine wpList_make_own _ rfl _ _ 62 rfl w.heap.size 130 i0 (.slice none 0 0) 1 Try.underlying62 hi hz0 hz1 _ _ _ 0 rfl rfl (by omega) (by rw [hz2]; omega) (by unfold maxLen; omega) (Nat.le_refl _) ?_; intro w1 hown1 hgrow1)
  refine wp_loop_rounds 1 ?_
  rw [rounds_succ]
  go_wp2
  refine wp_loop_rounds 1 ?_
  rw [rounds_succ]
  go_wp2
  refine wp_loop_rounds 1 ?_
  rw [rounds_succ]
  go_wp2
  refine wp_loop_rounds 1 ?_
  rw [rounds_succ]
  go_wp2
  go_ret
  exact ⟨rfl, (Below.refl _ _).grown hgrow1 (Nat.le_refl _) (by simp)⟩

theorem infoFlatTexts : (Try.prog.info? 131).map (fun i => (i.zero, i.size, i.bytes)) = some (some (.slice none 0 0), 1, 24) := by kernel_rfl
set_option maxHeartbeats 1000000 in
set_option maxRecDepth 100000 in
theorem flatTexts_nil (w : World) : Calls Try.prog 54 #[.slice none 0 0] w fun e w' => e = .returned (.bool true) ∧ Below w.heap.size w w' := by
  obtain ⟨i0, hi, hz0, hz1, hz2⟩ := info_parts infoFlatTexts
  go_enter Try.func54, Try.ntmps54
  go_wp2
  refine wp_loop_rounds 1 ?_
  rw [rounds_succ]
  go_wp2_with (at_make; refine wpList_make_own _ rfl _ _ 63 rfl w.heap.size 131 i0 (.slice none 0 0) 1 Try.underlying63 hi hz0 hz1 _ _ _ 0 rfl rfl (by omega) (by rw [hz2]; omega) (by unfold maxLen; omega) (Nat.le_refl _) ?_; intro w1 hown1 hgrow1)
  refine wp_loop_rounds 1 ?_
  rw [rounds_succ]
  go_wp2
  refine wp_loop_rounds 1 ?_
  rw [rounds_succ]
  go_wp2
  refine wp_loop_rounds 1 ?_
  rw [rounds_succ]
  go_wp2
  refine wp_loop_rounds 1 ?_
  rw [rounds_succ]
  go_wp2
  go_ret
  exact ⟨rfl, (Below.refl _ _).grown hgrow1 (Nat.le_refl _) (by simp)⟩

theorem infoFlatBytes : (Try.prog.info? 29).map (fun i => (i.zero, i.size, i.bytes)) = some (some (.slice none 0 0), 1, 24) := by kernel_rfl
set_option maxHeartbeats 1000000 in
set_option maxRecDepth 100000 in
theorem flatBytes_nil (w : World) : Calls Try.prog 55 #[.slice none 0 0] w fun e w' => e = .returned (.bool true) ∧ Below w.heap.size w w' := by
  obtain ⟨i0, hi, hz0, hz1, hz2⟩ := info_parts infoFlatBytes
  go_enter Try.func55, Try.ntmps55
  go_wp2
  refine wp_loop_rounds 1 ?_
  rw [rounds_succ]
  go_wp2_with (at_make; refine wpList_make_own _ rfl _ _ 37 rfl w.heap.size 29 i0 (.slice none 0 0) 1 Try.underlying37 hi hz0 hz1 _ _ _ 0 rfl rfl (by omega) (by rw [hz2]; omega) (by unfold maxLen; omega) (Nat.le_refl _) ?_; intro w1 hown1 hgrow1)
  refine wp_loop_rounds 1 ?_
  rw [rounds_succ]
  go_wp2
  refine wp_loop_rounds 1 ?_
  rw [rounds_succ]
  go_wp2
  refine wp_loop_rounds 1 ?_
  rw [rounds_succ]
  go_wp2
  refine wp_loop_rounds 1 ?_
  rw [rounds_succ]
  go_wp2
  go_ret
  exact ⟨rfl, (Below.refl _ _).grown hgrow1 (Nat.le_refl _) (by simp)⟩

theorem infoFlatTruths : (Try.prog.info? 126).map (fun i => (i.zero, i.size, i.bytes)) = some (some (.slice none 0 0), 1, 24) := by kernel_rfl
set_option maxHeartbeats 1000000 in
set_option maxRecDepth 100000 in
theorem flatTruths_nil (w : World) : Calls Try.prog 56 #[.slice none 0 0] w fun e w' => e = .returned (.bool true) ∧ Below w.heap.size w w' := by
  obtain ⟨i0, hi, hz0, hz1, hz2⟩ := info_parts infoFlatTruths
  go_enter Try.func56, Try.ntmps56
  go_wp2
  refine wp_loop_rounds 1 ?_
  rw [rounds_succ]
  go_wp2_with (at_make; refine wpList_make_own _ rfl _ _ 64 rfl w.heap.size 126 i0 (.slice none 0 0) 1 Try.underlying64 hi hz0 hz1 _ _ _ 0 rfl rfl (by omega) (by rw [hz2]; omega) (by unfold maxLen; omega) (Nat.le_refl _) ?_; intro w1 hown1 hgrow1)
  refine wp_loop_rounds 1 ?_
  rw [rounds_succ]
  go_wp2
  refine wp_loop_rounds 1 ?_
  rw [rounds_succ]
  go_wp2
  refine wp_loop_rounds 1 ?_
  rw [rounds_succ]
  go_wp2
  refine wp_loop_rounds 1 ?_
  rw [rounds_succ]
  go_wp2
  go_ret
  exact ⟨rfl, (Below.refl _ _).grown hgrow1 (Nat.le_refl _) (by simp)⟩

theorem infoFlatIns : (Try.prog.info? 134).map (fun i => (i.zero, i.size, i.bytes)) = some (some (.slice none 0 0), 1, 24) := by kernel_rfl
set_option maxHeartbeats 1000000 in
set_option maxRecDepth 100000 in
theorem flatIns_nil (w : World) : Calls Try.prog 57 #[.slice none 0 0] w fun e w' => e = .returned (.bool true) ∧ Below w.heap.size w w' := by
  obtain ⟨i0, hi, hz0, hz1, hz2⟩ := info_parts infoFlatIns
  go_enter Try.func57, Try.ntmps57
  go_wp2
  refine wp_loop_rounds 1 ?_
  rw [rounds_succ]
  go_wp2_with (at_make; refine wpList_make_own _ rfl _ _ 65 rfl w.heap.size 134 i0 (.slice none 0 0) 1 Try.underlying65 hi hz0 hz1 _ _ _ 0 rfl rfl (by omega) (by rw [hz2]; omega) (by unfold maxLen; omega) (Nat.le_refl _) ?_; intro w1 hown1 hgrow1)
  refine wp_loop_rounds 1 ?_
  rw [rounds_succ]
  go_wp2
  refine wp_loop_rounds 1 ?_
  rw [rounds_succ]
  go_wp2
  refine wp_loop_rounds 1 ?_
  rw [rounds_succ]
  go_wp2
  refine wp_loop_rounds 1 ?_
  rw [rounds_succ]
  go_wp2
  go_ret
  exact ⟨rfl, (Below.refl _ _).grown hgrow1 (Nat.le_refl _) (by simp)⟩

theorem infoFlatSpans : (Try.prog.info? 139).map (fun i => (i.zero, i.size, i.bytes)) = some (some (.slice none 0 0), 1, 24) := by kernel_rfl
set_option maxHeartbeats 1000000 in
set_option maxRecDepth 100000 in
theorem flatSpans_nil (w : World) : Calls Try.prog 58 #[.slice none 0 0] w fun e w' => e = .returned (.bool true) ∧ Below w.heap.size w w' := by
  obtain ⟨i0, hi, hz0, hz1, hz2⟩ := info_parts infoFlatSpans
  go_enter Try.func58, Try.ntmps58
  go_wp2
  refine wp_loop_rounds 1 ?_
  rw [rounds_succ]
  go_wp2_with (at_make; refine wpList_make_own _ rfl _ _ 66 rfl w.heap.size 139 i0 (.slice none 0 0) 1 Try.underlying66 hi hz0 hz1 _ _ _ 0 rfl rfl (by omega) (by rw [hz2]; omega) (by unfold maxLen; omega) (Nat.le_refl _) ?_; intro w1 hown1 hgrow1)
  refine wp_loop_rounds 1 ?_
  rw [rounds_succ]
  go_wp2
  refine wp_loop_rounds 1 ?_
  rw [rounds_succ]
  go_wp2
  refine wp_loop_rounds 1 ?_
  rw [rounds_succ]
  go_wp2
  refine wp_loop_rounds 1 ?_
  rw [rounds_succ]
  go_wp2
  go_ret
  exact ⟨rfl, (Below.refl _ _).grown hgrow1 (Nat.le_refl _) (by simp)⟩

theorem infoFlatKnowns : (Try.prog.info? 143).map (fun i => (i.zero, i.size, i.bytes)) = some (some (.slice none 0 0), 1, 24) := by kernel_rfl
set_option maxHeartbeats 1000000 in
set_option maxRecDepth 100000 in
theorem flatKnowns_nil (w : World) : Calls Try.prog 59 #[.slice none 0 0] w fun e w' => e = .returned (.bool true) ∧ Below w.heap.size w w' := by
  obtain ⟨i0, hi, hz0, hz1, hz2⟩ := info_parts infoFlatKnowns
  go_enter Try.func59, Try.ntmps59
  go_wp2
  refine wp_loop_rounds 1 ?_
  rw [rounds_succ]
  go_wp2_with (at_make; refine wpList_make_own _ rfl _ _ 67 rfl w.heap.size 143 i0 (.slice none 0 0) 1 Try.underlying67 hi hz0 hz1 _ _ _ 0 rfl rfl (by omega) (by rw [hz2]; omega) (by unfold maxLen; omega) (Nat.le_refl _) ?_; intro w1 hown1 hgrow1)
  refine wp_loop_rounds 1 ?_
  rw [rounds_succ]
  go_wp2
  refine wp_loop_rounds 1 ?_
  rw [rounds_succ]
  go_wp2
  refine wp_loop_rounds 1 ?_
  rw [rounds_succ]
  go_wp2
  refine wp_loop_rounds 1 ?_
  rw [rounds_succ]
  go_wp2
  go_ret
  exact ⟨rfl, (Below.refl _ _).grown hgrow1 (Nat.le_refl _) (by simp)⟩

theorem infoFlatPlaces : (Try.prog.info? 148).map (fun i => (i.zero, i.size, i.bytes)) = some (some (.slice none 0 0), 1, 24) := by kernel_rfl
set_option maxHeartbeats 1000000 in
set_option maxRecDepth 100000 in
theorem flatPlaces_nil (w : World) : Calls Try.prog 60 #[.slice none 0 0] w fun e w' => e = .returned (.bool true) ∧ Below w.heap.size w w' := by
  obtain ⟨i0, hi, hz0, hz1, hz2⟩ := info_parts infoFlatPlaces
  go_enter Try.func60, Try.ntmps60
  go_wp2
  refine wp_loop_rounds 1 ?_
  rw [rounds_succ]
  go_wp2_with (at_make; refine wpList_make_own _ rfl _ _ 68 rfl w.heap.size 148 i0 (.slice none 0 0) 1 Try.underlying68 hi hz0 hz1 _ _ _ 0 rfl rfl (by omega) (by rw [hz2]; omega) (by unfold maxLen; omega) (Nat.le_refl _) ?_; intro w1 hown1 hgrow1)
  refine wp_loop_rounds 1 ?_
  rw [rounds_succ]
  go_wp2
  refine wp_loop_rounds 1 ?_
  rw [rounds_succ]
  go_wp2
  refine wp_loop_rounds 1 ?_
  rw [rounds_succ]
  go_wp2
  refine wp_loop_rounds 1 ?_
  rw [rounds_succ]
  go_wp2
  go_ret
  exact ⟨rfl, (Below.refl _ _).grown hgrow1 (Nat.le_refl _) (by simp)⟩

theorem infoFlatFaults : (Try.prog.info? 153).map (fun i => (i.zero, i.size, i.bytes)) = some (some (.slice none 0 0), 1, 24) := by kernel_rfl
set_option maxHeartbeats 1000000 in
set_option maxRecDepth 100000 in
theorem flatFaults_nil (w : World) : Calls Try.prog 61 #[.slice none 0 0] w fun e w' => e = .returned (.bool true) ∧ Below w.heap.size w w' := by
  obtain ⟨i0, hi, hz0, hz1, hz2⟩ := info_parts infoFlatFaults
  go_enter Try.func61, Try.ntmps61
  go_wp2
  refine wp_loop_rounds 1 ?_
  rw [rounds_succ]
  go_wp2_with (at_make; refine wpList_make_own _ rfl _ _ 69 rfl w.heap.size 153 i0 (.slice none 0 0) 1 Try.underlying69 hi hz0 hz1 _ _ _ 0 rfl rfl (by omega) (by rw [hz2]; omega) (by unfold maxLen; omega) (Nat.le_refl _) ?_; intro w1 hown1 hgrow1)
  refine wp_loop_rounds 1 ?_
  rw [rounds_succ]
  go_wp2
  refine wp_loop_rounds 1 ?_
  rw [rounds_succ]
  go_wp2
  refine wp_loop_rounds 1 ?_
  rw [rounds_succ]
  go_wp2
  refine wp_loop_rounds 1 ?_
  rw [rounds_succ]
  go_wp2
  go_ret
  exact ⟨rfl, (Below.refl _ _).grown hgrow1 (Nat.le_refl _) (by simp)⟩

theorem infoFlatOutcomes : (Try.prog.info? 157).map (fun i => (i.zero, i.size, i.bytes)) = some (some (.slice none 0 0), 1, 24) := by kernel_rfl
set_option maxHeartbeats 1000000 in
set_option maxRecDepth 100000 in
theorem flatOutcomes_nil (w : World) : Calls Try.prog 62 #[.slice none 0 0] w fun e w' => e = .returned (.bool true) ∧ Below w.heap.size w w' := by
  obtain ⟨i0, hi, hz0, hz1, hz2⟩ := info_parts infoFlatOutcomes
  go_enter Try.func62, Try.ntmps62
  go_wp2
  refine wp_loop_rounds 1 ?_
  rw [rounds_succ]
  go_wp2_with (at_make; refine wpList_make_own _ rfl _ _ 70 rfl w.heap.size 157 i0 (.slice none 0 0) 1 Try.underlying70 hi hz0 hz1 _ _ _ 0 rfl rfl (by omega) (by rw [hz2]; omega) (by unfold maxLen; omega) (Nat.le_refl _) ?_; intro w1 hown1 hgrow1)
  refine wp_loop_rounds 1 ?_
  rw [rounds_succ]
  go_wp2
  refine wp_loop_rounds 1 ?_
  rw [rounds_succ]
  go_wp2
  refine wp_loop_rounds 1 ?_
  rw [rounds_succ]
  go_wp2
  refine wp_loop_rounds 1 ?_
  rw [rounds_succ]
  go_wp2
  go_ret
  exact ⟨rfl, (Below.refl _ _).grown hgrow1 (Nat.le_refl _) (by simp)⟩

theorem infoFlatFlats : (Try.prog.info? 161).map (fun i => (i.zero, i.size, i.bytes)) = some (some (.slice none 0 0), 1, 24) := by kernel_rfl
set_option maxHeartbeats 1000000 in
set_option maxRecDepth 100000 in
theorem flatFlats_nil (w : World) : Calls Try.prog 63 #[.slice none 0 0] w fun e w' => e = .returned (.bool true) ∧ Below w.heap.size w w' := by
  obtain ⟨i0, hi, hz0, hz1, hz2⟩ := info_parts infoFlatFlats
  go_enter Try.func63, Try.ntmps63
  go_wp2
  refine wp_loop_rounds 1 ?_
  rw [rounds_succ]
  go_wp2_with (at_make; refine wpList_make_own _ rfl _ _ 71 rfl w.heap.size 161 i0 (.slice none 0 0) 1 Try.underlying71 hi hz0 hz1 _ _ _ 0 rfl rfl (by omega) (by rw [hz2]; omega) (by unfold maxLen; omega) (Nat.le_refl _) ?_; intro w1 hown1 hgrow1)
  refine wp_loop_rounds 1 ?_
  rw [rounds_succ]
  go_wp2
  refine wp_loop_rounds 1 ?_
  rw [rounds_succ]
  go_wp2
  refine wp_loop_rounds 1 ?_
  rw [rounds_succ]
  go_wp2
  refine wp_loop_rounds 1 ?_
  rw [rounds_succ]
  go_wp2
  go_ret
  exact ⟨rfl, (Below.refl _ _).grown hgrow1 (Nat.le_refl _) (by simp)⟩

theorem infoFlatBundles : (Try.prog.info? 166).map (fun i => (i.zero, i.size, i.bytes)) = some (some (.slice none 0 0), 1, 24) := by kernel_rfl
set_option maxHeartbeats 1000000 in
set_option maxRecDepth 100000 in
theorem flatBundles_nil (w : World) : Calls Try.prog 64 #[.slice none 0 0] w fun e w' => e = .returned (.bool true) ∧ Below w.heap.size w w' := by
  obtain ⟨i0, hi, hz0, hz1, hz2⟩ := info_parts infoFlatBundles
  go_enter Try.func64, Try.ntmps64
  go_wp2
  refine wp_loop_rounds 1 ?_
  rw [rounds_succ]
  go_wp2_with (at_make; refine wpList_make_own _ rfl _ _ 72 rfl w.heap.size 166 i0 (.slice none 0 0) 1 Try.underlying72 hi hz0 hz1 _ _ _ 0 rfl rfl (by omega) (by rw [hz2]; omega) (by unfold maxLen; omega) (Nat.le_refl _) ?_; intro w1 hown1 hgrow1)
  refine wp_loop_rounds 1 ?_
  rw [rounds_succ]
  go_wp2
  refine wp_loop_rounds 1 ?_
  rw [rounds_succ]
  go_wp2
  refine wp_loop_rounds 1 ?_
  rw [rounds_succ]
  go_wp2
  refine wp_loop_rounds 1 ?_
  rw [rounds_succ]
  go_wp2
  go_ret
  exact ⟨rfl, (Below.refl _ _).grown hgrow1 (Nat.le_refl _) (by simp)⟩

theorem infoFlatEntries : (Try.prog.info? 23).map (fun i => (i.zero, i.size, i.bytes)) = some (some (.slice none 0 0), 1, 24) := by kernel_rfl
set_option maxHeartbeats 1000000 in
set_option maxRecDepth 100000 in
theorem flatEntries_nil (w : World) : Calls Try.prog 65 #[.slice none 0 0] w fun e w' => e = .returned (.bool true) ∧ Below w.heap.size w w' := by
  obtain ⟨i0, hi, hz0, hz1, hz2⟩ := info_parts infoFlatEntries
  go_enter Try.func65, Try.ntmps65
  go_wp2
  refine wp_loop_rounds 1 ?_
  rw [rounds_succ]
  go_wp2_with (at_make; refine wpList_make_own _ rfl _ _ 73 rfl w.heap.size 23 i0 (.slice none 0 0) 1 Try.underlying73 hi hz0 hz1 _ _ _ 0 rfl rfl (by omega) (by rw [hz2]; omega) (by unfold maxLen; omega) (Nat.le_refl _) ?_; intro w1 hown1 hgrow1)
  refine wp_loop_rounds 1 ?_
  rw [rounds_succ]
  go_wp2
  refine wp_loop_rounds 1 ?_
  rw [rounds_succ]
  go_wp2
  refine wp_loop_rounds 1 ?_
  rw [rounds_succ]
  go_wp2
  refine wp_loop_rounds 1 ?_
  rw [rounds_succ]
  go_wp2
  go_ret
  exact ⟨rfl, (Below.refl _ _).grown hgrow1 (Nat.le_refl _) (by simp)⟩

theorem infoFlatHeldRow : (Try.prog.info? 171).map (fun i => (i.zero, i.size, i.bytes)) = some (some (.slice none 0 0), 1, 24) := by kernel_rfl
set_option maxHeartbeats 1000000 in
set_option maxRecDepth 100000 in
theorem flatHeldRow_nil (w : World) : Calls Try.prog 66 #[.slice none 0 0] w fun e w' => e = .returned (.bool true) ∧ Below w.heap.size w w' := by
  obtain ⟨i0, hi, hz0, hz1, hz2⟩ := info_parts infoFlatHeldRow
  go_enter Try.func66, Try.ntmps66
  go_wp2
  refine wp_loop_rounds 1 ?_
  rw [rounds_succ]
  go_wp2_with (at_make; refine wpList_make_own _ rfl _ _ 74 rfl w.heap.size 171 i0 (.slice none 0 0) 1 Try.underlying74 hi hz0 hz1 _ _ _ 0 rfl rfl (by omega) (by rw [hz2]; omega) (by unfold maxLen; omega) (Nat.le_refl _) ?_; intro w1 hown1 hgrow1)
  refine wp_loop_rounds 1 ?_
  rw [rounds_succ]
  go_wp2
  refine wp_loop_rounds 1 ?_
  rw [rounds_succ]
  go_wp2
  refine wp_loop_rounds 1 ?_
  rw [rounds_succ]
  go_wp2
  refine wp_loop_rounds 1 ?_
  rw [rounds_succ]
  go_wp2
  go_ret
  exact ⟨rfl, (Below.refl _ _).grown hgrow1 (Nat.le_refl _) (by simp)⟩

theorem infoFlatRegistries : (Try.prog.info? 176).map (fun i => (i.zero, i.size, i.bytes)) = some (some (.slice none 0 0), 1, 24) := by kernel_rfl
set_option maxHeartbeats 1000000 in
set_option maxRecDepth 100000 in
theorem flatRegistries_nil (w : World) : Calls Try.prog 67 #[.slice none 0 0] w fun e w' => e = .returned (.bool true) ∧ Below w.heap.size w w' := by
  obtain ⟨i0, hi, hz0, hz1, hz2⟩ := info_parts infoFlatRegistries
  go_enter Try.func67, Try.ntmps67
  go_wp2
  refine wp_loop_rounds 1 ?_
  rw [rounds_succ]
  go_wp2_with (at_make; refine wpList_make_own _ rfl _ _ 75 rfl w.heap.size 176 i0 (.slice none 0 0) 1 Try.underlying75 hi hz0 hz1 _ _ _ 0 rfl rfl (by omega) (by rw [hz2]; omega) (by unfold maxLen; omega) (Nat.le_refl _) ?_; intro w1 hown1 hgrow1)
  refine wp_loop_rounds 1 ?_
  rw [rounds_succ]
  go_wp2
  refine wp_loop_rounds 1 ?_
  rw [rounds_succ]
  go_wp2
  refine wp_loop_rounds 1 ?_
  rw [rounds_succ]
  go_wp2
  refine wp_loop_rounds 1 ?_
  rw [rounds_succ]
  go_wp2
  go_ret
  exact ⟨rfl, (Below.refl _ _).grown hgrow1 (Nat.le_refl _) (by simp)⟩

theorem infoFlatLetters : (Try.prog.info? 181).map (fun i => (i.zero, i.size, i.bytes)) = some (some (.slice none 0 0), 1, 24) := by kernel_rfl
set_option maxHeartbeats 1000000 in
set_option maxRecDepth 100000 in
theorem flatLetters_nil (w : World) : Calls Try.prog 68 #[.slice none 0 0] w fun e w' => e = .returned (.bool true) ∧ Below w.heap.size w w' := by
  obtain ⟨i0, hi, hz0, hz1, hz2⟩ := info_parts infoFlatLetters
  go_enter Try.func68, Try.ntmps68
  go_wp2
  refine wp_loop_rounds 1 ?_
  rw [rounds_succ]
  go_wp2_with (at_make; refine wpList_make_own _ rfl _ _ 76 rfl w.heap.size 181 i0 (.slice none 0 0) 1 Try.underlying76 hi hz0 hz1 _ _ _ 0 rfl rfl (by omega) (by rw [hz2]; omega) (by unfold maxLen; omega) (Nat.le_refl _) ?_; intro w1 hown1 hgrow1)
  refine wp_loop_rounds 1 ?_
  rw [rounds_succ]
  go_wp2
  refine wp_loop_rounds 1 ?_
  rw [rounds_succ]
  go_wp2
  refine wp_loop_rounds 1 ?_
  rw [rounds_succ]
  go_wp2
  refine wp_loop_rounds 1 ?_
  rw [rounds_succ]
  go_wp2
  go_ret
  exact ⟨rfl, (Below.refl _ _).grown hgrow1 (Nat.le_refl _) (by simp)⟩

theorem infoFlatSteps : (Try.prog.info? 183).map (fun i => (i.zero, i.size, i.bytes)) = some (some (.slice none 0 0), 1, 24) := by kernel_rfl
set_option maxHeartbeats 1000000 in
set_option maxRecDepth 100000 in
theorem flatSteps_nil (w : World) : Calls Try.prog 69 #[.slice none 0 0] w fun e w' => e = .returned (.bool true) ∧ Below w.heap.size w w' := by
  obtain ⟨i0, hi, hz0, hz1, hz2⟩ := info_parts infoFlatSteps
  go_enter Try.func69, Try.ntmps69
  go_wp2
  refine wp_loop_rounds 1 ?_
  rw [rounds_succ]
  go_wp2_with (at_make; refine wpList_make_own _ rfl _ _ 77 rfl w.heap.size 183 i0 (.slice none 0 0) 1 Try.underlying77 hi hz0 hz1 _ _ _ 0 rfl rfl (by omega) (by rw [hz2]; omega) (by unfold maxLen; omega) (Nat.le_refl _) ?_; intro w1 hown1 hgrow1)
  refine wp_loop_rounds 1 ?_
  rw [rounds_succ]
  go_wp2
  refine wp_loop_rounds 1 ?_
  rw [rounds_succ]
  go_wp2
  refine wp_loop_rounds 1 ?_
  rw [rounds_succ]
  go_wp2
  refine wp_loop_rounds 1 ?_
  rw [rounds_succ]
  go_wp2
  go_ret
  exact ⟨rfl, (Below.refl _ _).grown hgrow1 (Nat.le_refl _) (by simp)⟩

theorem infoFlatTales : (Try.prog.info? 189).map (fun i => (i.zero, i.size, i.bytes)) = some (some (.slice none 0 0), 1, 24) := by kernel_rfl
set_option maxHeartbeats 1000000 in
set_option maxRecDepth 100000 in
theorem flatTales_nil (w : World) : Calls Try.prog 70 #[.slice none 0 0] w fun e w' => e = .returned (.bool true) ∧ Below w.heap.size w w' := by
  obtain ⟨i0, hi, hz0, hz1, hz2⟩ := info_parts infoFlatTales
  go_enter Try.func70, Try.ntmps70
  go_wp2
  refine wp_loop_rounds 1 ?_
  rw [rounds_succ]
  go_wp2_with (at_make; refine wpList_make_own _ rfl _ _ 78 rfl w.heap.size 189 i0 (.slice none 0 0) 1 Try.underlying78 hi hz0 hz1 _ _ _ 0 rfl rfl (by omega) (by rw [hz2]; omega) (by unfold maxLen; omega) (Nat.le_refl _) ?_; intro w1 hown1 hgrow1)
  refine wp_loop_rounds 1 ?_
  rw [rounds_succ]
  go_wp2
  refine wp_loop_rounds 1 ?_
  rw [rounds_succ]
  go_wp2
  refine wp_loop_rounds 1 ?_
  rw [rounds_succ]
  go_wp2
  refine wp_loop_rounds 1 ?_
  rw [rounds_succ]
  go_wp2
  go_ret
  exact ⟨rfl, (Below.refl _ _).grown hgrow1 (Nat.le_refl _) (by simp)⟩
end Go.Proofs.Ytdmpphioflcofaa.K

/- The contract of barbicankit.flatBytes: rows that lie apart are told to. -/
namespace Go.Proofs.Ytdmpphioflcofaa.K
open Go Go.RowKit

theorem infoBytes : (Try.prog.info? 29).map (fun i => (i.zero, i.size, i.bytes)) = some (some (.slice none 0 0), 1, 24) := by kernel_rfl
def r0 : Nat → Rw := fun _ => ⟨none, 0, 0⟩
def F0 : Nat → List (BitVec 8) := fun _ => []
theorem st_same {P : Program} {f : FuncId} {args : Array Value} {w : World} {v : Value} (h : Calls P f args w fun e w' => e = .returned v ∧ w = w') : Calls P f args w fun e w'' => e = .returned v ∧ w'' = w :=
  h.mono fun _ _ ⟨he, hm⟩ => ⟨he, hm.symm⟩
theorem marks_take (k n i : Nat) (h : i ≤ n) : (marks k 0 n).take i = marks k 0 i := by
  apply List.ext_getElem?
  intro j
  simp only [marks, List.getElem?_take, List.getElem?_map, List.getElem?_range']
  by_cases hj : j < i
  · simp [hj, show j < n by omega]
  · simp [hj]
theorem marks_at (k n i : Nat) (h : i < n) : (marks k 0 n).getD i 0 = markB k (i : Nat) := by
  simp [marks, h]

theorem getD_left (a b : List (BitVec 8)) {i : Nat} (h : i < a.length) : (a ++ b).getD i 0 = a.getD i 0 := by
  simp [List.getElem?_append_left h]
theorem made64 {w : World} {base : Nat} {e : TypeId} {v : Value} (h : w.ownsRow base e 1 v 64 (madeCells (Value.int .u8 0).cells (64 * 1)).toList) : w.ownsRow base e 1 v 64 (bv (List.replicate 64 0#8)) := by
  have e1 : (madeCells (Value.int .u8 0).cells (64 * 1)).toList = bv (List.replicate 64 0#8) := by
    rw [show (Value.int IntKind.u8 0).cells = #[Value.int .u8 0] from rfl, toList_madeCells_one]
    simp [bv, B8]
  rw [e1] at h; exact h
def Ph1 (K : Nat → Prop) (base e m L : Nat) (r : Nat → Rw) (w0 wr : World) (k : Nat) : Prop := ∃ f, Sit wr base e m K r f 0 r0 F0 ∧ (∀ j, j < k → f j = marks j 0 (r j).n) ∧ (∀ j, j < m → wr.cell? ⟨L, j, none⟩ = some (r j).v) ∧ Below base w0 wr ∧ base ≤ w0.heap.size ∧ K L ∧ ∀ b, K b → wr.heap[b]? = w0.heap[b]?
def Ph1i (K : Nat → Prop) (base e m L : Nat) (r : Nat → Rw) (w0 wr : World) (k i : Nat) : Prop := ∃ f, Sit wr base e m K r f 0 r0 F0 ∧ (∀ j, j < k → f j = marks j 0 (r j).n) ∧ (f k).take i = marks k 0 i ∧ (∀ j, j < m → wr.cell? ⟨L, j, none⟩ = some (r j).v) ∧ Below base w0 wr ∧ base ≤ w0.heap.size ∧ K L ∧ ∀ b, K b → wr.heap[b]? = w0.heap[b]?
section
variable {K : Nat → Prop} {base e m L : Nat} {r : Nat → Rw} {w0 wr : World} {k i : Nat}
theorem Ph1.start (h : Ph1 K base e m L r w0 wr k) : Ph1i K base e m L r w0 wr k 0 := by
  obtain ⟨f, h1, h2, h3, h4, h6, h7, h8⟩ := h
  exact ⟨f, h1, h2, by simp [marks], h3, h4, h6, h7, h8⟩
theorem Ph1i.done (h : Ph1i K base e m L r w0 wr k (r k).n) (hk : k < m) : Ph1 K base e m L r w0 wr (k + 1) := by
  obtain ⟨f, h1, h2, h3, h4, h5, h6, h7, h8⟩ := h
  refine ⟨f, h1, fun j hj => ?_, h4, h5, h6, h7, h8⟩
  by_cases e : j = k
  · subst e
    rw [← h3, List.take_of_length_le (by rw [(h1.own j hk).len]; exact Nat.le_refl _)]
  · exact h2 j (by omega)
theorem Ph1i.step (h : Ph1i K base e m L r w0 wr k i) (hk : k < m) (hi : i < (r k).n) : ∃ g x, (r k).A = some ⟨g, 0, none⟩ ∧ wr.cell? ⟨g, i, none⟩ = some (B8 x) ∧ wr.frozen? ⟨g, i, none⟩ = false ∧ Ph1i K base e m L r w0 (wr.setCell ⟨g, i, none⟩ (B8 (markB k i))) k (i + 1) := by
  obtain ⟨f, h1, h2, h3, h4, h5, h6, h7, h8⟩ := h
  obtain ⟨g, hA, hb, hc, hf, hz, hS⟩ := h1.store hk hi (markB k i)
  have hl := (h1.own k hk).len
  refine ⟨g, _, hA, hc, hf, _, hS, fun j hj => ?_, ?_, fun j hj => ?_, h5.setCell hb _, h6, h7, fun b hK => (heap_setCell_other wr ⟨g, i, none⟩ b _ (hz b hK)).trans (h8 b hK)⟩
  · rw [upd_other _ _ _ (by omega)]; exact h2 j hj
  · rw [upd_same, marks_succ, ← h3, Nat.zero_add, List.take_succ_eq_append_getElem (by rw [List.length_set]; omega), List.getElem_set_self, List.take_set_of_le (by omega)]
  · rw [cell_setCell_ne _ (hz L h7)]
    exact h4 j hj
theorem Ph1i.drew (h : Ph1i K base e m L r w0 wr k i) : Ph1i K base e m L r w0 wr.drew k i := by
  obtain ⟨f, h1, h2, h3, h4, h5, h6, h7, h8⟩ := h
  exact ⟨f, h1.drew, h2, h3, h4, h5.drew, h6, h7, h8⟩
end

/-- the marks of the rows -/
def mk (r : Nat → Rw) (j : Nat) : List (BitVec 8) := marks j 0 (r j).n
/-- k rows have been grown by 64 and lie in the list G -/
structure Gs (K : Nat → Prop) (base e es m L G : Nat) (r : Nat → Rw) (F : Nat → List (BitVec 8)) (w0 wr : World) (k : Nat) (r' : Nat → Rw) (gl : List Value) : Prop where
  sit : Sit wr base e m (fun b => K b ∨ b = G) r (mk r) k r' F
  n : ∀ j, j < k → (r' j).n = (r j).n + 64
  own : wr.ownsRow G es 1 (.slice (some ⟨G, 0, none⟩) m m) m gl
  pos : ∀ j, j < k → gl[j]? = some (r' j).v
  l : ∀ j, j < m → wr.cell? ⟨L, j, none⟩ = some (r j).v
  bel : Below base w0 wr
  kl : K L
  ne : ∀ b, K b → b ≠ G
  kp : ∀ b, K b → wr.heap[b]? = w0.heap[b]?
  gb : base ≤ G
  bas0 : base ≤ w0.heap.size
def PhG (K : Nat → Prop) (base e es m L G : Nat) (r : Nat → Rw) (F : Nat → List (BitVec 8)) (w0 wr : World) (k : Nat) : Prop := ∃ r' gl, Gs K base e es m L G r F w0 wr k r' gl
/-- and the next one is being grown: x reads bs -/
def PhGi (K : Nat → Prop) (base e es m L G : Nat) (r : Nat → Rw) (F : Nat → List (BitVec 8)) (w0 wr : World) (k : Nat) (x : Rw) (bs : List (BitVec 8)) : Prop :=
  ∃ r' gl, Gs K base e es m L G r F w0 wr k r' gl ∧ Cur wr base e m (fun b => K b ∨ b = G) r (mk r) k r' x bs
/-- and a block M of marks lies by -/
def PhM (K : Nat → Prop) (base e es m L G M : Nat) (r : Nat → Rw) (F : Nat → List (BitVec 8)) (w0 wr : World) (k q : Nat) : Prop :=
  ∃ r' gl bs, Gs K base e es m L G r F w0 wr k r' gl ∧ Sit wr base e m (fun b => (K b ∨ b = G) ∨ b = M) r (mk r) k r' F ∧ (∀ b, K b → b ≠ M) ∧ M ≠ G ∧ base ≤ M ∧ wr.ownsRow M e 1 (.slice (some ⟨M, 0, none⟩) 64 64) 64 (bv bs) ∧ bs.take q = marks (k + m) 0 q
section
variable {K : Nat → Prop} {base e es m L G M q : Nat} {r : Nat → Rw} {F : Nat → List (BitVec 8)} {w0 wr w' : World} {k : Nat} {x x' : Rw} {bs news : List (BitVec 8)}
theorem Ph1.made (h : Ph1 K base e m L r w0 wr m) {gl : List Value} (hg : wr.grownBy w' none) (ho : w'.ownsRow wr.heap.size es 1 (.slice (some ⟨wr.heap.size, 0, none⟩) m m) m gl) : PhG K base e es m L wr.heap.size r F w0 w' 0 := by
  obtain ⟨f, h1, h2, h3, h4, h6, h7, h8⟩ := h
  have hbs : base ≤ wr.heap.size := Nat.le_trans h6 h4.size
  have hlt : wr.heap.size < w'.heap.size := (ho.lt _ rfl).2
  refine ⟨r0, gl, ?_, fun _ h => absurd h (Nat.not_lt_zero _), ho, fun _ h => absurd h (Nat.not_lt_zero _), fun j hj => ?_, h4.grown hg hbs (fun _ h => by cases h), h7, fun b hK => by have := (h1.z b hK).1; omega, fun b hK => (hg.block b (h1.z b hK).1 (by simp)).trans (h8 b hK), hbs, h6⟩
  · have S := (h1.congr h2).grown hg
    exact (S.addZ wr.heap.size hlt (fun j hj h => by have := h1.lt hj h; omega) (fun _ h => absurd h (Nat.not_lt_zero _))).congr' fun _ h => absurd h (Nat.not_lt_zero _)
  · exact hg.cell (h3 j hj) (by simp)
theorem Gs.bas {r' : Nat → Rw} {gl : List Value} (h : Gs K base e es m L G r F w0 wr k r' gl) : base ≤ wr.heap.size := Nat.le_trans h.bas0 h.bel.size
theorem Gs.grown {r' : Nat → Rw} {gl : List Value} (h : Gs K base e es m L G r F w0 wr k r' gl) (hg : wr.grownBy w' none) : Gs K base e es m L G r F w0 w' k r' gl :=
  ⟨h.sit.grown hg, h.n, h.own.kept hg (.inr (by simp [Value.ownBlock])), h.pos, fun j hj => hg.cell (h.l j hj) (by simp), h.bel.grown hg h.bas (fun _ h => by cases h), h.kl, h.ne, fun b hK => (hg.block b (h.sit.z b (.inl hK)).1 (by simp)).trans (h.kp b hK), h.gb, h.bas0⟩
theorem PhG.grown (h : PhG K base e es m L G r F w0 wr k) (hg : wr.grownBy w' none) : PhG K base e es m L G r F w0 w' k := by
  obtain ⟨r', gl, h⟩ := h
  exact ⟨r', gl, h.grown hg⟩
theorem PhG.zero (h : PhG K base e es m L G r F w0 wr k) (F' : Nat → List (BitVec 8)) : PhG K base e es m L G r F' w0 wr 0 := by
  obtain ⟨r', gl, h⟩ := h
  exact ⟨r', gl, h.sit.zero.congr' fun _ h => absurd h (Nat.not_lt_zero _), fun _ h => absurd h (Nat.not_lt_zero _), h.own, fun _ h => absurd h (Nat.not_lt_zero _), h.l, h.bel, h.kl, h.ne, h.kp, h.gb, h.bas0⟩
theorem PhG.drewN (h : PhG K base e es m L G r F w0 wr k) (n : Nat) : PhG K base e es m L G r F w0 (wr.drewN n) k := by
  obtain ⟨r', gl, h⟩ := h
  exact ⟨r', gl, h.sit.drewN n, h.n, h.own, h.pos, h.l, below_drewN h.bel n, h.kl, h.ne, h.kp, h.gb, h.bas0⟩
theorem PhG.start (h : PhG K base e es m L G r F w0 wr k) (hk : k < m) : PhGi K base e es m L G r F w0 wr k (r k) (mk r k) := by
  obtain ⟨r', gl, h⟩ := h
  exact ⟨r', gl, h, Cur.start h.sit hk⟩
theorem PhGi.own (h : PhGi K base e es m L G r F w0 wr k x bs) : x.own wr base e bs := by
  obtain ⟨_, _, _, C⟩ := h
  exact C.own
theorem PhGi.grown (h : PhGi K base e es m L G r F w0 wr k x bs) (hg : wr.grownBy w' none) : PhGi K base e es m L G r F w0 w' k x bs := by
  obtain ⟨r', gl, h, C⟩ := h
  exact ⟨r', gl, h.grown hg, C.grown hg⟩
theorem PhGi.alloc (h : PhGi K base e es m L G r F w0 wr k x bs) (o : Obj) : PhGi K base e es m L G r F w0 (wr.alloc o) k x bs := h.grown (World.grownBy_alloc wr o none)
theorem PhGi.size (h : PhGi K base e es m L G r F w0 wr k x bs) : base ≤ wr.heap.size := by
  obtain ⟨_, _, h, _⟩ := h
  exact h.bas
theorem PhGi.l (h : PhGi K base e es m L G r F w0 wr k x bs) {j : Nat} (hj : j < m) : wr.cell? ⟨L, j, none⟩ = some (r j).v := by
  obtain ⟨_, _, h, _⟩ := h
  exact h.l j hj
theorem PhGi.grew (h : PhGi K base e es m L G r F w0 wr k x bs) (hk : k < m) {mm : Nat} (hG : Grew wr w' base e x x' mm bs news) : PhGi K base e es m L G r F w0 w' k x' (bs ++ news) := by
  obtain ⟨r', gl, h, C⟩ := h
  obtain ⟨S', C'⟩ := C.grew h.sit hk hG
  have hGz := C.z G (.inr rfl)
  have hLz := C.z L (.inl h.kl)
  refine ⟨r', gl, ⟨S', h.n, ?_, h.pos, fun j hj => ?_, hG.below C.own (Nat.le_refl _) h.bas h.bel, h.kl, h.ne, fun b hK => (hG.block (h.sit.z b (.inl hK)).1 (C.z b (.inl hK))).trans (h.kp b hK), h.gb, h.bas0⟩, C'⟩
  · rcases hG.2.2 with ⟨_, _, g, hg, hgr⟩ | ⟨_, _, _, hgr⟩
    · exact h.own.kept hgr (.inr fun e => hGz (by simp [Value.ownBlock] at e; simp [Rw.blk, Rw.v, hg, Value.ownBlock, e]))
    · exact h.own.kept hgr (.inr (by simp [Value.ownBlock]))
  · exact (World.cell?_of_block (hG.block (b := L) (h.sit.z L (.inl h.kl)).1 hLz)).trans (h.l j hj)
theorem PhGi.place (h : PhGi K base e es m L G r F w0 wr k x bs) (hk : k < m) : (∃ v, wr.cell? ⟨G, k, none⟩ = some v) ∧ wr.frozen? ⟨G, k, none⟩ = false := by
  obtain ⟨r', gl, h, C⟩ := h
  have hgl : gl.length = m := by have := h.own.1; omega
  exact ⟨⟨gl[k], by rw [h.own.cellAt k (by omega)]; simp [hgl, hk]⟩, h.own.frozenAt k⟩
theorem PhGi.push (h : PhGi K base e es m L G r F w0 wr k x bs) (hk : k < m) (hn : x.n = (r k).n + 64) (hb : bs = F k) : PhG K base e es m L G r F w0 (wr.setCell ⟨G, k, none⟩ x.v) (k + 1) := by
  obtain ⟨r', gl, h, C⟩ := h
  have hgl : gl.length = m := by have := h.own.1; omega
  refine ⟨upd r' k x, gl.set k x.v, ⟨?_, fun j hj => ?_, (h.own.stored k x.v).1, fun j hj => ?_, fun j hj => ?_, h.bel.setCell h.gb _, h.kl, h.ne, fun b hK => (heap_setCell_other wr ⟨G, k, none⟩ b _ (h.ne b hK)).trans (h.kp b hK), h.gb, h.bas0⟩⟩
  · have S := (h.sit.push C).storeZ (g := G) (.inr rfl) k x.v
    refine S.congr' fun j hj => ?_
    by_cases e : j = k
    · subst e; rw [upd_same]; exact hb
    · rw [upd_other _ _ _ e]
  · by_cases e : j = k
    · subst e; rw [upd_same]; exact hn
    · rw [upd_other _ _ _ e]; exact h.n j (by omega)
  · by_cases e : j = k
    · subst e
      rw [upd_same, List.getElem?_set_self (by omega)]
    · rw [upd_other _ _ _ e, List.getElem?_set_ne (Ne.symm e)]; exact h.pos j (by omega)
  · rw [cell_setCell_ne _ (h.ne L h.kl)]; exact h.l j hj
theorem PhG.gcell (h : PhG K base e es m L G r F w0 wr k) {j : Nat} (hj : j < k) (hk : k ≤ m) : ∃ A c, wr.cell? ⟨G, j, none⟩ = some (.slice A ((r j).n + 64) c) ∧ ∀ i, i < (r j).n + 64 → ∃ g, A = some ⟨g, 0, none⟩ ∧ wr.cell? ⟨g, i, none⟩ = some (B8 ((F j).getD i 0)) := by
  obtain ⟨r', gl, h⟩ := h
  refine ⟨(r' j).A, (r' j).c, ?_, fun i hi => h.sit.at' hj (by rw [h.n j hj]; exact hi)⟩
  rw [h.own.cellAt j (by omega), h.pos j hj, Rw.v, h.n j hj]
theorem PhG.lcell (h : PhG K base e es m L G r F w0 wr k) {j : Nat} (hj : j < m) : wr.cell? ⟨L, j, none⟩ = some (r j).v ∧ ∀ i, i < (r j).n → ∃ g, (r j).A = some ⟨g, 0, none⟩ ∧ wr.cell? ⟨g, i, none⟩ = some (B8 (markB j i)) := by
  obtain ⟨r', gl, h⟩ := h
  refine ⟨h.l j hj, fun i hi => ?_⟩
  obtain ⟨g, h1, h2⟩ := h.sit.at hj hi
  exact ⟨g, h1, by rw [h2, mk, marks_at _ _ _ hi]⟩
theorem PhG.below (h : PhG K base e es m L G r F w0 wr k) : Below base w0 wr := by
  obtain ⟨_, _, h⟩ := h
  exact h.bel
theorem PhG.kept (h : PhG K base e es m L G r F w0 wr k) : ∀ b, K b → wr.heap[b]? = w0.heap[b]? := by
  obtain ⟨_, _, h⟩ := h
  exact h.kp
theorem PhG.mark (h : PhG K base e es m L G r F w0 wr k) {b0 : List (BitVec 8)} (hg : wr.grownBy w' none) (ho : w'.ownsRow wr.heap.size e 1 (.slice (some ⟨wr.heap.size, 0, none⟩) 64 64) 64 (bv b0)) : PhM K base e es m L G wr.heap.size r F w0 w' k 0 := by
  obtain ⟨r', gl, h⟩ := h
  have hlt : wr.heap.size < w'.heap.size := (ho.lt _ rfl).2
  have h1 := (h.sit.z L (.inl h.kl)).1
  have h2 := (h.sit.z G (.inr rfl)).1
  refine ⟨r', gl, b0, h.grown hg, (h.sit.grown hg).addZ wr.heap.size hlt (fun j hj h' => by have := h.sit.lt hj h'; omega) (fun j hj h' => by have := h.sit.lt' hj h'; omega), fun b hK => by have := (h.sit.z b (.inl hK)).1; omega, by omega, h.bas, ho, by simp [marks]⟩
theorem PhM.step (h : PhM K base e es m L G M r F w0 wr k q) (hq : q < 64) : (∃ y, wr.cell? ⟨M, q, none⟩ = some (B8 y)) ∧ wr.frozen? ⟨M, q, none⟩ = false ∧ PhM K base e es m L G M r F w0 (wr.setCell ⟨M, q, none⟩ (B8 (markB ((k + m : Nat)) q))) k (q + 1) := by
  obtain ⟨r', gl, bs, h, S, h1, h2, h3, h4, h5⟩ := h
  have hl : bs.length = 64 := by have := h4.1; rw [bv_length] at this; omega
  refine ⟨⟨bs[q], by rw [h4.cellAt q (by omega)]; simp [bv, hl, hq]⟩, h4.frozenAt q, r', gl, bs.set q (markB ((k + m : Nat)) q), ⟨(S.storeZ (.inr rfl) q _).less fun b hb => .inl hb, h.n, ?_, h.pos, fun j hj => ?_, h.bel.setCell h3 _, h.kl, h.ne, fun b hK => (heap_setCell_other wr ⟨M, q, none⟩ b _ (h1 b hK)).trans (h.kp b hK), h.gb, h.bas0⟩, S.storeZ (.inr rfl) q _, h1, h2, h3, ?_, ?_⟩
  · exact h.own.kept (grownBy_setCell wr M q _) (.inr (by simp [Value.ownBlock]; exact Ne.symm h2))
  · rw [cell_setCell_ne _ (h1 L h.kl)]; exact h.l j hj
  · have e2 : bv (bs.set q (markB ((k + m : Nat)) q)) = (bv bs).set q (B8 (markB ((k + m : Nat)) q)) := by simp [bv]
    rw [e2]; exact (h4.stored q _).1
  · rw [marks_succ, ← h5, Nat.zero_add, List.take_succ_eq_append_getElem (by rw [List.length_set]; omega), List.getElem_set_self, List.take_set_of_le (by omega)]
theorem PhM.g (h : PhM K base e es m L G M r F w0 wr k q) : PhG K base e es m L G r F w0 wr k := by
  obtain ⟨r', gl, bs, h, _⟩ := h
  exact ⟨r', gl, h⟩
theorem PhM.cells (h : PhM K base e es m L G M r F w0 wr k 64) : ∀ j u, (bv (marks (k + m) 0 64))[j]? = some u → wr.cell? ((⟨M, 0, none⟩ : Addr).add j) = some u := by
  obtain ⟨r', gl, bs, h, S, h1, h2, h3, h4, h5⟩ := h
  have hl : bs.length = 64 := by have := h4.1; rw [bv_length] at this; omega
  rw [← h5, List.take_of_length_le (by omega)]
  intro j u hu
  have hj : j < 64 := by have := (List.getElem?_eq_some_iff.1 hu).1; rw [bv_length] at this; omega
  rw [Addr.add_lit, Nat.zero_add, h4.cellAt j (by omega), hu]
end

set_option maxHeartbeats 4000000 in
set_option maxRecDepth 100000 in
theorem flatBytes_any (K : Nat → Prop) (L m cL : Nat) (r : Nat → Rw) (f : Nat → List (BitVec 8)) (base : Nat) (w : World) (S : Sit w base 5 m K r f 0 r0 F0) (hL : ∀ j, j < m → w.cell? ⟨L, j, none⟩ = some (r j).v)
    (hm : m ≤ 1000000) (hn : ∀ j, j < m → (r j).n ≤ 1000000000000) (hbase : base ≤ w.heap.size) (hK : K L) :
    Calls Try.prog 55 #[.slice (some ⟨L, 0, none⟩) m cL] w fun e w' => e = .returned (.bool true) ∧ Below base w w' ∧ ∀ b, K b → w'.heap[b]? = w.heap[b]? := by
  obtain ⟨i0, hi, hz0, hz1, hz2⟩ := info_parts infoByte
  obtain ⟨j0, hj0, hy0, hy1, hy2⟩ := info_parts infoBytes
  have hp1 : Ph1 K base 5 m L r w w 0 := ⟨f, S, fun j hj => absurd hj (Nat.not_lt_zero _), hL, (Below.refl _ _).mono hbase, hbase, hK, fun _ _ => rfl⟩
  have HP1 := Lib.hid hp1; have HN := Lib.hid hn
  clear S hL hn hp1 hK
  go_enter Try.func55, Try.ntmps55
  go_wp2
  go_loopw [3, 4] (fun i _ wr => ∃ k : Nat, k ≤ m ∧ i = .int .i64 (k : Int) ∧ Ph1 K base 5 m L r w wr k) (fun i _ _ => m - (intOf i).toNat)
  case atStart => exact ⟨0, Nat.zero_le _, rfl, HP1.out⟩
  case round =>
    clear HP1
    obtain ⟨k, hk, rfl, hp⟩ := hrel
    rcases Nat.lt_or_ge k m with h1 | h1
    · have i1 : (k : Int) < (m : Int) := by omega
      have k0 : (0 : Int) ≤ (k : Int) := by omega
      obtain ⟨A, n, c, hr⟩ : ∃ A n c, r k = ⟨A, n, c⟩ := ⟨_, _, _, rfl⟩
      have hnk : n ≤ 1000000000000 := by have := HN.out k h1; rw [hr] at this; exact this
      have HR := Lib.hid hr; have HP := Lib.hid hp.start
      clear hr hp
      go_wp2
      go_loopw [4] (fun i wx => ∃ q : Nat, q ≤ n ∧ i = .int .i64 (q : Int) ∧ Ph1i K base 5 m L r w wx k q) (fun i _ => n - (intOf i).toNat)
      case atStart => exact ⟨0, Nat.zero_le _, rfl, HP.out⟩
      case round =>
        clear HP
        obtain ⟨q, hq, rfl, hp⟩ := hrel
        have q0 : (0 : Int) ≤ (q : Int) := by omega
        have cl : wr.cell? ⟨L, k, none⟩ = some (.slice A n c) := by
          obtain ⟨_, _, _, _, h4, _⟩ := hp
          rw [h4 k h1, HR.out]; rfl
        rcases Nat.lt_or_ge q n with h2 | h2
        · have q1 : (q : Int) < (n : Int) := by omega
          obtain ⟨g, x, hA, hc, hf, hstep⟩ := hp.step h1 (i := q) (by rw [HR.out]; exact h2)
          rw [HR.out] at hA
          obtain rfl : A = some ⟨g, 0, none⟩ := hA
          have HS := Lib.hid hstep
          clear hstep hp
          go_wp2_with fail
          refine wp_region_still_tail 9 (by kernel_rfl) (by kernel_rfl) ?_
          simp only [List.take_succ_cons, List.take_zero, List.drop_succ_cons, List.drop_zero]
          repeat (first | still_step | still_call (st_same (markByte_any _ _ _)))
          refine wpStill_nil ?_
          change wpList _ _ _ _ _ wr.drew
          refine wpList_store_one rfl _ _ _ rfl _ _ _ rfl rfl rfl (by kernel_rfl) hc hf ?_
          go_wp2
          go_roundw
          case rel => exact ⟨q + 1, by omega, by go_num, HS.out.drew⟩
          case measure => simp [intOf]; omega
        · have hqn : q = n := by omega
          have q1 : ¬ (q : Int) < (n : Int) := by omega
          have hd : Ph1 K base 5 m L r w wr (k + 1) := by
            rw [hqn] at hp
            exact Ph1i.done (by rw [HR.out]; exact hp) h1
          have HD := Lib.hid hd
          clear hp hqn hd
          go_wp2
          go_roundw
          case rel => exact ⟨k + 1, by omega, by go_num, HD.out⟩
          case measure => simp [intOf]; omega
    · have hkm : k = m := by omega
      have i1 : ¬ (k : Int) < (m : Int) := by omega
      rw [hkm] at hp
      have HP := Lib.hid hp
      clear hp hkm
      go_wp2_with (at_make; refine wpList_make_full _ rfl _ _ 37 rfl wr.heap.size 29 j0 (.slice none 0 0) 1 Try.underlying37 hj0 hy0 hy1 _ _ _ _ m rfl rfl rfl rfl (by rw [hy2]; omega) (by unfold maxLen; omega) (Nat.le_refl _) ?_; intro w1 hown1 hgrow1)
      have hp2 : PhG K base 5 29 m L wr.heap.size r (fun j => marks j 0 ((r j).n + 64)) w w1 0 := HP.out.made hgrow1 hown1
      have HP2 := Lib.hid hp2
      clear hp2 HP hgrow1 hown1
      generalize wr.heap.size = G at *
      go_loopw [6, 7, 8] (fun i _ _ wy => ∃ k : Nat, k ≤ m ∧ i = .int .i64 (k : Int) ∧ PhG K base 5 29 m L G r (fun j => marks j 0 ((r j).n + 64)) w wy k) (fun i _ _ _ => m - (intOf i).toNat)
      case atStart => exact ⟨0, Nat.zero_le _, rfl, HP2.out⟩
      case round =>
        clear HP2
        obtain ⟨k, hk, rfl, hp⟩ := hrel
        rcases Nat.lt_or_ge k m with h2 | h2
        · have i1 : (k : Int) < (m : Int) := by omega
          have k0 : (0 : Int) ≤ (k : Int) := by omega
          obtain ⟨A, n, c, hr⟩ : ∃ A n c, r k = ⟨A, n, c⟩ := ⟨_, _, _, rfl⟩
          have hnk : n ≤ 1000000000000 := by have := HN.out k h2; rw [hr] at this; exact this
          have cl : wr.cell? ⟨L, k, none⟩ = some (.slice A n c) := by rw [(hp.lcell h2).1, hr]; rfl
          have hp1 : PhGi K base 5 29 m L G r (fun j => marks j 0 ((r j).n + 64)) w wr k ⟨A, n, c⟩ (marks k 0 n) := by
            have := hp.start h2
            rw [mk, hr] at this; exact this
          have HR := Lib.hid hr; have HP1 := Lib.hid hp1
          clear hr hp hp1
          go_wp2
          clear cl
          go_loopw [7, 8] (fun v i wz => ∃ (q N c' : Nat) (A' : Option Addr), q ≤ 64 ∧ i = .int .i64 (q : Int) ∧ v = .slice A' N c' ∧ N = n + q ∧ PhGi K base 5 29 m L G r (fun j => marks j 0 ((r j).n + 64)) w wz k ⟨A', N, c'⟩ (marks k 0 N)) (fun _ i _ => 64 - (intOf i).toNat)
          case atStart => exact ⟨0, n, c, A, by omega, rfl, rfl, rfl, HP1.out⟩
          case round =>
            clear HP1
            obtain ⟨q, N, c', A', hq, rfl, rfl, hNq, hp⟩ := hrel
            have hN2 : N ≤ n + 64 := by omega
            have HNQ := Lib.hid hNq
            clear hNq
            rcases Nat.lt_or_ge q 64 with h3 | h3
            · have q1 : (q : Int) < 64 := by omega
              have q0 : (0 : Int) ≤ (q : Int) := by omega
              have cl : wr.cell? ⟨L, k, none⟩ = some (.slice A n c) := by rw [hp.l h2, HR.out]; rfl
              have HP := Lib.hid hp
              have hsz := hp.size
              clear hp
              go_wp2_with (first
                | (go_at_call 83; refine (markByte_any _ _ _).mono ?_; rintro e w' ⟨rfl, rfl⟩)
                | (at_builtin; refine wpList_append_either _ rfl _ _ 29 rfl base 5 i0 (.int .u8 0) 1 Try.underlying29 hi hz0 hz1 hz2 rfl ⟨A', N, c'⟩ (marks k 0 N) rfl (HP.out.alloc _).own ⟨wr.heap.size, 0, none⟩ 1 1 [markB (k : Int) ((n : Int) + (q : Int))] rfl rfl (cell_last _ _ _) (by omega) (by show N + 1 ≤ _; unfold maxLen; omega) (by show (N + 1) * 1 ≤ _; omega) (by simp; omega) ?_; intro A2 c2 w3 hG))
              have hp3 := (HP.out.alloc _).grew h2 hG
              have HP3 := Lib.hid hp3
              clear hp3 hG cl
              go_roundw
              case rel =>
                refine ⟨q + 1, N + 1, c2, A2, by omega, by go_num, rfl, by have := HNQ.out; omega, ?_⟩
                rw [marks_succ, show ((0 + N : Nat) : Int) = (n : Int) + (q : Int) by have := HNQ.out; omega]
                exact HP3.out
              case measure => simp [intOf]; omega
            · have hq64 : q = 64 := by omega
              have q1 : ¬ (q : Int) < 64 := by omega
              obtain ⟨⟨v0, hv0⟩, hf0⟩ := hp.place h2
              have hp4 := hp.push h2 (by rw [HR.out]; show N = n + 64; have := HNQ.out; omega) (by show marks k 0 N = marks k 0 ((r k).n + 64); rw [HR.out]; show marks k 0 N = marks k 0 (n + 64); rw [HNQ.out, hq64])
              have HP4 := Lib.hid hp4
              clear hp hp4 hq64
              go_wp2
              go_roundw
              case rel => exact ⟨k + 1, by omega, by go_num, HP4.out⟩
              case measure => simp [intOf]; omega
        · have hkm : k = m := by omega
          have i1 : ¬ (k : Int) < (m : Int) := by omega
          rw [hkm] at hp
          have HP := Lib.hid hp
          clear hp hkm
          obtain ⟨wq, rfl⟩ : ∃ wq : World, wq = wr := ⟨_, rfl⟩
          go_wp2
          go_loopw [9, 10] (fun i _ wz => ∃ k : Nat, k ≤ m ∧ i = .int .i64 (k : Int) ∧ ∃ q, wz = wq.drewN q) (fun i _ _ => m - (intOf i).toNat)
          case atStart => exact ⟨0, Nat.zero_le _, rfl, 0, rfl⟩
          case round =>
            obtain ⟨k, hk, rfl, qd, rfl⟩ := hrel
            rcases Nat.lt_or_ge k m with h3 | h3
            · have i1 : (k : Int) < (m : Int) := by omega
              have k0 : (0 : Int) ≤ (k : Int) := by omega
              obtain ⟨A, n, c, hr⟩ : ∃ A n c, r k = ⟨A, n, c⟩ := ⟨_, _, _, rfl⟩
              have hnk : n ≤ 1000000000000 := by have := HN.out k h3; rw [hr] at this; exact this
              obtain ⟨cl, hlx⟩ := HP.out.lcell h3
              obtain ⟨A2, c2, cg, hgx⟩ := HP.out.gcell h3 (Nat.le_refl _)
              rw [hr] at cl hlx cg hgx
              have cl' : wq.cell? ⟨L, k, none⟩ = some (.slice A n c) := cl
              obtain ⟨N, hN⟩ : ∃ N, N = n + 64 := ⟨_, rfl⟩
              have cg' : wq.cell? ⟨G, k, none⟩ = some (.slice A2 N c2) := by rw [hN]; exact cg
              have hN2 : N ≤ n + 64 := by omega
              have hN3 : n + 64 ≤ N := by omega
              have HLX := Lib.hid hlx; have HGX := Lib.hid hgx
              clear hr cl cg hN hlx hgx
              go_wp2
              go_loopw [10] (fun i wz => ∃ p : Nat, p ≤ N ∧ i = .int .i64 (p : Int) ∧ ∃ q, wz = wq.drewN q) (fun i _ => N - (intOf i).toNat)
              case atStart => exact ⟨0, Nat.zero_le _, rfl, _, rfl⟩
              case round =>
                obtain ⟨p, hp, rfl, qe, rfl⟩ := hrel
                have p0 : (0 : Int) ≤ (p : Int) := by omega
                rcases Nat.lt_or_ge p N with h4 | h4
                · have p1 : (p : Int) < (N : Int) := by omega
                  obtain ⟨gg, rfl, cgg⟩ := HGX.out p (by show p < n + 64; omega)
                  have cgg' : wq.cell? ⟨gg, p, none⟩ = some (B8 (markB (k : Int) (p : Int))) := by
                    rw [cgg]; show some (B8 ((marks k 0 (n + 64)).getD p 0)) = _
                    rw [marks_at _ _ _ (by omega)]
                  rcases Nat.lt_or_ge p n with h5 | h5
                  · have p2 : (p : Int) < (n : Int) := by omega
                    have d1 : decide ((p : Int) < (n : Int)) = true := by simpa using p2
                    have d2 : decide (p < n) = true := by simpa using h5
                    obtain ⟨gl, hgl, cll⟩ := HLX.out p h5
                    obtain rfl : A = some ⟨gl, 0, none⟩ := hgl
                    clear cgg
                    go_wp2_with fail
                    go_quiet ((go_at_call 83; first | (with_reducible exact q_add (markByte_any _ _ _)) | (with_reducible exact q_same (markByte_any _ _ _))))
                    go_wp2
                    go_roundw
                    case rel => exact ⟨p + 1, by omega, by go_num, _, rfl⟩
                    case measure => simp [intOf]; omega
                  · have p2 : ¬ (p : Int) < (n : Int) := by omega
                    have d1 : decide ((p : Int) < (n : Int)) = false := by simpa using p2
                    have d2 : decide (p < n) = false := by simp; omega
                    clear cgg
                    go_wp2_with fail
                    go_quiet ((go_at_call 83; first | (with_reducible exact q_add (markByte_any _ _ _)) | (with_reducible exact q_same (markByte_any _ _ _))))
                    go_wp2
                    go_roundw
                    case rel => exact ⟨p + 1, by omega, by go_num, _, rfl⟩
                    case measure => simp [intOf]; omega
                · have p1 : ¬ (p : Int) < (N : Int) := by omega
                  go_wp2
                  go_roundw
                  case rel => exact ⟨k + 1, by omega, by go_num, _, rfl⟩
                  case measure => simp [intOf]; omega
            · have i1 : ¬ (k : Int) < (m : Int) := by omega
              have hp4 := (HP.out.drewN qd).zero (fun j => mk r j ++ marks (j + m) 0 64)
              have HP4 := Lib.hid hp4
              clear hp4 HP
              go_wp2
              generalize wq.drewN qd = wq at *
              go_loopw [11, 12, 13] (fun i _ _ wz => ∃ k : Nat, k ≤ m ∧ i = .int .i64 (k : Int) ∧ PhG K base 5 29 m L G r (fun j => mk r j ++ marks (j + m) 0 64) w wz k) (fun i _ _ _ => m - (intOf i).toNat)
              case atStart => exact ⟨0, Nat.zero_le _, rfl, HP4.out⟩
              case round =>
                clear HP4
                obtain ⟨k, hk, rfl, hp⟩ := hrel
                rcases Nat.lt_or_ge k m with h4 | h4
                · have i1 : (k : Int) < (m : Int) := by omega
                  have k0 : (0 : Int) ≤ (k : Int) := by omega
                  obtain ⟨A, n, c, hr⟩ : ∃ A n c, r k = ⟨A, n, c⟩ := ⟨_, _, _, rfl⟩
                  have hnk : n ≤ 1000000000000 := by have := HN.out k h4; rw [hr] at this; exact this
                  have HR := Lib.hid hr; have HP := Lib.hid hp
                  have hwr := hp.below.size
                  clear hr hp
                  go_wp2_with (at_make; refine wpList_make_full _ rfl _ _ 29 rfl wr.heap.size 5 i0 (.int .u8 0) 1 Try.underlying29 hi hz0 hz1 _ _ _ _ 64 rfl rfl rfl rfl (by rw [hz2]; omega) (by unfold maxLen; omega) (Nat.le_refl _) ?_; intro w1 hown1 hgrow1)
                  have hpm : PhM K base 5 29 m L G wr.heap.size r (fun j => mk r j ++ marks (j + m) 0 64) w w1 k 0 := HP.out.mark (b0 := List.replicate 64 0#8) hgrow1 (made64 hown1)
                  have HPM := Lib.hid hpm
                  clear hpm hgrow1 hown1 HP
                  generalize wr.heap.size = M at *
                  go_loopw [13] (fun i wx => ∃ q : Nat, q ≤ 64 ∧ i = .int .i64 (q : Int) ∧ PhM K base 5 29 m L G M r (fun j => mk r j ++ marks (j + m) 0 64) w wx k q) (fun i _ => 64 - (intOf i).toNat)
                  case atStart => exact ⟨0, Nat.zero_le _, rfl, HPM.out⟩
                  case round =>
                    clear HPM
                    obtain ⟨q, hq, rfl, hp⟩ := hrel
                    rcases Nat.lt_or_ge q 64 with h5 | h5
                    · have q1 : (q : Int) < 64 := by omega
                      have q0 : (0 : Int) ≤ (q : Int) := by omega
                      obtain ⟨⟨y, hy⟩, hf, hs⟩ := hp.step h5
                      rw [show ((k + m : Nat) : Int) = (k : Int) + (m : Int) by omega] at hs
                      have HS := Lib.hid hs
                      clear hp hs
                      go_wp2_with (first | (with_reducible refine wpList_store_one rfl 5 (.tmp 142) (.tmp 141) rfl ⟨M, q, none⟩ _ _ rfl rfl rfl (by kernel_rfl) hy hf ?_) | (go_at_call 83; refine (markByte_any _ _ _).mono ?_; rintro e w' ⟨rfl, rfl⟩))
                      go_roundw
                      case rel => exact ⟨q + 1, by omega, by go_num, HS.out⟩
                      case measure => simp [intOf]; omega
                    · have hq64 : q = 64 := by omega
                      have q1 : ¬ (q : Int) < 64 := by omega
                      rw [hq64] at hp
                      have hst := hp.g.start h4
                      rw [mk, HR.out] at hst
                      have hst' : PhGi K base 5 29 m L G r (fun j => mk r j ++ marks (j + m) 0 64) w wr k ⟨A, n, c⟩ (marks k 0 n) := hst
                      have hcs := hp.cells
                      have cl : wr.cell? ⟨L, k, none⟩ = some (.slice A n c) := by rw [hst'.l h4, HR.out]; rfl
                      have hsz := hst'.size
                      have HST := Lib.hid hst'; have HCS := Lib.hid hcs
                      clear hp hq64 hst hst' hcs
                      go_wp2_with (at_builtin; refine wpList_append_either _ rfl _ _ 29 rfl base 5 i0 (.int .u8 0) 1 Try.underlying29 hi hz0 hz1 hz2 rfl ⟨A, n, c⟩ (marks k 0 n) rfl HST.out.own ⟨M, 0, none⟩ 64 64 (marks (k + m) 0 64) rfl (marks_length _ _ _) HCS.out (by omega) (by show n + 64 ≤ _; unfold maxLen; omega) (by show (n + 64) * 1 ≤ _; omega) hsz ?_; intro A2 c2 w3 hG; have hp3 := HST.out.grew h4 hG; obtain ⟨⟨v0, hv0⟩, hf0⟩ := hp3.place h4; have HP3 := Lib.hid hp3; clear hp3 hG)
                      have hp4 := HP3.out.push h4 (by rw [HR.out]) (by show _ = mk r k ++ _; rw [mk, HR.out])
                      have HP4 := Lib.hid hp4
                      clear hp4
                      go_roundw
                      case rel => exact ⟨k + 1, by omega, by go_num, HP4.out⟩
                      case measure => simp [intOf]; omega
                · have hkm : k = m := by omega
                  have i1 : ¬ (k : Int) < (m : Int) := by omega
                  rw [hkm] at hp
                  have HP := Lib.hid hp
                  clear hp hkm
                  obtain ⟨wq, rfl⟩ : ∃ wq : World, wq = wr := ⟨_, rfl⟩
                  go_wp2
                  go_loopw [14, 15] (fun i _ wz => ∃ k : Nat, k ≤ m ∧ i = .int .i64 (k : Int) ∧ ∃ q, wz = wq.drewN q) (fun i _ _ => m - (intOf i).toNat)
                  case atStart => exact ⟨0, Nat.zero_le _, rfl, 0, rfl⟩
                  case round =>
                    obtain ⟨k, hk, rfl, qd, rfl⟩ := hrel
                    rcases Nat.lt_or_ge k m with h5 | h5
                    · have i1 : (k : Int) < (m : Int) := by omega
                      have k0 : (0 : Int) ≤ (k : Int) := by omega
                      obtain ⟨A, n, c, hr⟩ : ∃ A n c, r k = ⟨A, n, c⟩ := ⟨_, _, _, rfl⟩
                      have hnk : n ≤ 1000000000000 := by have := HN.out k h5; rw [hr] at this; exact this
                      obtain ⟨cl, hlx⟩ := HP.out.lcell h5
                      obtain ⟨A2, c2, cg, hgx⟩ := HP.out.gcell h5 (Nat.le_refl _)
                      rw [mk, hr] at hgx
                      rw [hr] at cl hlx cg
                      have cl' : wq.cell? ⟨L, k, none⟩ = some (.slice A n c) := cl
                      obtain ⟨N, hN⟩ : ∃ N, N = n + 64 := ⟨_, rfl⟩
                      have cg' : wq.cell? ⟨G, k, none⟩ = some (.slice A2 N c2) := by rw [hN]; exact cg
                      have hN2 : N ≤ n + 64 := by omega
                      have hN3 : n + 64 ≤ N := by omega
                      have HLX := Lib.hid hlx; have HGX := Lib.hid hgx
                      clear hr cl cg hN hlx hgx
                      go_wp2
                      go_loopw [15] (fun i wz => ∃ p : Nat, p ≤ n ∧ i = .int .i64 (p : Int) ∧ ∃ q, wz = wq.drewN q) (fun i _ => n - (intOf i).toNat)
                      case atStart => exact ⟨0, Nat.zero_le _, rfl, _, rfl⟩
                      case round =>
                        obtain ⟨p, hp, rfl, qe, rfl⟩ := hrel
                        have p0 : (0 : Int) ≤ (p : Int) := by omega
                        rcases Nat.lt_or_ge p n with h6 | h6
                        · have p1 : (p : Int) < (n : Int) := by omega
                          have p2 : (p : Int) < (N : Int) := by omega
                          obtain ⟨gg, rfl, cgg⟩ := HGX.out p (by show p < n + 64; omega)
                          have cgg' : wq.cell? ⟨gg, p, none⟩ = some (B8 (markB (k : Int) (p : Int))) := by
                            rw [cgg]; show some (B8 ((marks k 0 n ++ marks (k + m) 0 64).getD p 0)) = _
                            rw [getD_left _ _ (by rw [marks_length]; exact h6), marks_at _ _ _ (by omega)]
                          obtain ⟨gl, hgl, cll⟩ := HLX.out p h6
                          obtain rfl : A = some ⟨gl, 0, none⟩ := hgl
                          clear cgg
                          go_wp2_with fail
                          go_quiet ((go_at_call 83; first | (with_reducible exact q_add (markByte_any _ _ _)) | (with_reducible exact q_same (markByte_any _ _ _))))
                          go_wp2
                          go_roundw
                          case rel => exact ⟨p + 1, by omega, by go_num, _, rfl⟩
                          case measure => simp [intOf]; omega
                        · have p1 : ¬ (p : Int) < (n : Int) := by omega
                          go_wp2
                          go_roundw
                          case rel => exact ⟨k + 1, by omega, by go_num, _, rfl⟩
                          case measure => simp [intOf]; omega
                    · have i1 : ¬ (k : Int) < (m : Int) := by omega
                      go_wp2
                      go_ret
                      exact ⟨rfl, below_drewN HP.out.below _, HP.out.kept⟩
end Go.Proofs.Ytdmpphioflcofaa.K

/- The contract of barbicankit's apart at a bag that holds rows of bytes alone. -/
namespace Go.Proofs.Ytdmpphioflcofaa.K
open Go Go.RowKit

def nilS : Value := .slice none 0 0
def bagCells (v : Value) : List Value := [.slice none 0 0, .slice none 0 0, .slice none 0 0, .slice none 0 0, .slice none 0 0, v, .slice none 0 0, .slice none 0 0, .slice none 0 0, .slice none 0 0, .slice none 0 0, .slice none 0 0, .slice none 0 0, .slice none 0 0, .slice none 0 0, .slice none 0 0, .slice none 0 0, .slice none 0 0, .slice none 0 0, .slice none 0 0, .slice none 0 0]
theorem bag_at (v : Value) (j : Nat) (hj : j < 21) (h5 : j ≠ 5) : (bagCells v)[j]? = some (.slice none 0 0) := by
  rcases j with _ | _ | _ | _ | _ | _ | _ | _ | _ | _ | _ | _ | _ | _ | _ | _ | _ | _ | _ | _ | _ | j
  all_goals first | rfl | (exact absurd rfl h5) | omega
theorem bag_five (v : Value) : (bagCells v)[5]? = some v := rfl
/-- the block g holds a bag whose lists of bytes are v -/
def IsBag (w : World) (g : Nat) (v : Value) : Prop := ∃ t, w.heap[g]? = some (.cells (bagCells v).toArray t (0, 0))
theorem IsBag.nil {w : World} {g : Nat} {v : Value} (h : IsBag w g v) (j : Nat) (hj : j < 21) (h5 : j ≠ 5) : w.cell? ⟨g, j, none⟩ = some (.slice none 0 0) := by
  obtain ⟨t, h⟩ := h
  exact block_cell h (bag_at v j hj h5)
theorem IsBag.five {w : World} {g : Nat} {v : Value} (h : IsBag w g v) : w.cell? ⟨g, 5, none⟩ = some v := by
  obtain ⟨t, h⟩ := h
  exact block_cell h (bag_five v)
theorem IsBag.lt {w : World} {g : Nat} {v : Value} (h : IsBag w g v) : g < w.heap.size := by
  obtain ⟨t, h⟩ := h
  exact (Array.getElem?_eq_some_iff.1 h).1
theorem IsBag.below {w w' : World} {g : Nat} {v : Value} (h : IsBag w g v) (hb : Below w.heap.size w w') : IsBag w' g v := by
  have hl := h.lt
  obtain ⟨t, h⟩ := h
  exact ⟨t, (hb.block g hl).trans h⟩

set_option maxHeartbeats 4000000 in
set_option maxRecDepth 100000 in
theorem apart_any (g : Nat) (v : Value) (base : Nat) (w : World) (hg : IsBag w g v) (hbase : base ≤ w.heap.size) (hf : ∀ w1, Below w.heap.size w w1 → Calls Try.prog 55 #[v] w1 fun e w' => e = .returned (.bool true) ∧ Below base w1 w' ∧ w'.heap[g]? = w1.heap[g]?) :
    Calls Try.prog 32 #[.pointer (some ⟨g, 0, none⟩)] w fun e w' => e = .returned (.bool true) ∧ Below base w w' := by
  have hb0 : Below w.heap.size w w := Below.refl _ _
  have HF := Lib.hid hf; have HG0 := Lib.hid hg; have HB0 := Lib.hid hb0
  clear hf hg hb0
  go_enter Try.func32, Try.ntmps32
  have c0 : w.cell? ⟨g, 0, none⟩ = some (.slice none 0 0) := HG0.out.nil 0 (by omega) (by omega)
  go_wp2_with fail
  refine (flatLimbs_nil _).mono ?_
  rintro e w1 ⟨rfl, hb⟩
  have HG1 := Lib.hid (HG0.out.below hb)
  have HB1 := Lib.hid (HB0.out.trans (hb.mono HB0.out.size))
  clear c0 hb HG0 HB0
  have c1 : w1.cell? ⟨g, 1, none⟩ = some (.slice none 0 0) := HG1.out.nil 1 (by omega) (by omega)
  go_wp2_with fail
  refine (flatWords_nil _).mono ?_
  rintro e w2 ⟨rfl, hb⟩
  have HG2 := Lib.hid (HG1.out.below hb)
  have HB2 := Lib.hid (HB1.out.trans (hb.mono HB1.out.size))
  clear c1 hb HG1 HB1
  have c2 : w2.cell? ⟨g, 2, none⟩ = some (.slice none 0 0) := HG2.out.nil 2 (by omega) (by omega)
  go_wp2_with fail
  refine (flatInts_nil _).mono ?_
  rintro e w3 ⟨rfl, hb⟩
  have HG3 := Lib.hid (HG2.out.below hb)
  have HB3 := Lib.hid (HB2.out.trans (hb.mono HB2.out.size))
  clear c2 hb HG2 HB2
  have c3 : w3.cell? ⟨g, 3, none⟩ = some (.slice none 0 0) := HG3.out.nil 3 (by omega) (by omega)
  go_wp2_with fail
  refine (flatLongs_nil _).mono ?_
  rintro e w4 ⟨rfl, hb⟩
  have HG4 := Lib.hid (HG3.out.below hb)
  have HB4 := Lib.hid (HB3.out.trans (hb.mono HB3.out.size))
  clear c3 hb HG3 HB3
  have c4 : w4.cell? ⟨g, 4, none⟩ = some (.slice none 0 0) := HG4.out.nil 4 (by omega) (by omega)
  go_wp2_with fail
  refine (flatTexts_nil _).mono ?_
  rintro e w5 ⟨rfl, hb⟩
  have HG5 := Lib.hid (HG4.out.below hb)
  have HB5 := Lib.hid (HB4.out.trans (hb.mono HB4.out.size))
  clear c4 hb HG4 HB4
  have c5 : w5.cell? ⟨g, 5, none⟩ = some v := HG5.out.five
  go_wp2_with fail
  refine (HF.out _ HB5.out).mono ?_
  rintro e w6 ⟨rfl, hb, hbg⟩
  have hg6 : IsBag w6 g v := by
    obtain ⟨t, h⟩ := HG5.out
    exact ⟨t, hbg.trans h⟩
  have HG6 := Lib.hid hg6
  have HB6 := Lib.hid ((HB5.out.mono hbase).trans hb)
  clear c5 hb hbg hg6 HG5 HB5
  have c6 : w6.cell? ⟨g, 6, none⟩ = some (.slice none 0 0) := HG6.out.nil 6 (by omega) (by omega)
  go_wp2_with fail
  refine (flatTruths_nil _).mono ?_
  rintro e w7 ⟨rfl, hb⟩
  have HG7 := Lib.hid (HG6.out.below hb)
  have HB7 := Lib.hid (HB6.out.trans (hb.mono (Nat.le_trans hbase HB6.out.size)))
  clear c6 hb HG6 HB6
  have c7 : w7.cell? ⟨g, 7, none⟩ = some (.slice none 0 0) := HG7.out.nil 7 (by omega) (by omega)
  go_wp2_with fail
  refine (flatIns_nil _).mono ?_
  rintro e w8 ⟨rfl, hb⟩
  have HG8 := Lib.hid (HG7.out.below hb)
  have HB8 := Lib.hid (HB7.out.trans (hb.mono (Nat.le_trans hbase HB7.out.size)))
  clear c7 hb HG7 HB7
  have c8 : w8.cell? ⟨g, 8, none⟩ = some (.slice none 0 0) := HG8.out.nil 8 (by omega) (by omega)
  go_wp2_with fail
  refine (flatSpans_nil _).mono ?_
  rintro e w9 ⟨rfl, hb⟩
  have HG9 := Lib.hid (HG8.out.below hb)
  have HB9 := Lib.hid (HB8.out.trans (hb.mono (Nat.le_trans hbase HB8.out.size)))
  clear c8 hb HG8 HB8
  have c9 : w9.cell? ⟨g, 9, none⟩ = some (.slice none 0 0) := HG9.out.nil 9 (by omega) (by omega)
  go_wp2_with fail
  refine (flatKnowns_nil _).mono ?_
  rintro e w10 ⟨rfl, hb⟩
  have HG10 := Lib.hid (HG9.out.below hb)
  have HB10 := Lib.hid (HB9.out.trans (hb.mono (Nat.le_trans hbase HB9.out.size)))
  clear c9 hb HG9 HB9
  have c10 : w10.cell? ⟨g, 10, none⟩ = some (.slice none 0 0) := HG10.out.nil 10 (by omega) (by omega)
  go_wp2_with fail
  refine (flatPlaces_nil _).mono ?_
  rintro e w11 ⟨rfl, hb⟩
  have HG11 := Lib.hid (HG10.out.below hb)
  have HB11 := Lib.hid (HB10.out.trans (hb.mono (Nat.le_trans hbase HB10.out.size)))
  clear c10 hb HG10 HB10
  have c11 : w11.cell? ⟨g, 11, none⟩ = some (.slice none 0 0) := HG11.out.nil 11 (by omega) (by omega)
  go_wp2_with fail
  refine (flatFaults_nil _).mono ?_
  rintro e w12 ⟨rfl, hb⟩
  have HG12 := Lib.hid (HG11.out.below hb)
  have HB12 := Lib.hid (HB11.out.trans (hb.mono (Nat.le_trans hbase HB11.out.size)))
  clear c11 hb HG11 HB11
  have c12 : w12.cell? ⟨g, 12, none⟩ = some (.slice none 0 0) := HG12.out.nil 12 (by omega) (by omega)
  go_wp2_with fail
  refine (flatOutcomes_nil _).mono ?_
  rintro e w13 ⟨rfl, hb⟩
  have HG13 := Lib.hid (HG12.out.below hb)
  have HB13 := Lib.hid (HB12.out.trans (hb.mono (Nat.le_trans hbase HB12.out.size)))
  clear c12 hb HG12 HB12
  have c13 : w13.cell? ⟨g, 13, none⟩ = some (.slice none 0 0) := HG13.out.nil 13 (by omega) (by omega)
  go_wp2_with fail
  refine (flatFlats_nil _).mono ?_
  rintro e w14 ⟨rfl, hb⟩
  have HG14 := Lib.hid (HG13.out.below hb)
  have HB14 := Lib.hid (HB13.out.trans (hb.mono (Nat.le_trans hbase HB13.out.size)))
  clear c13 hb HG13 HB13
  have c14 : w14.cell? ⟨g, 14, none⟩ = some (.slice none 0 0) := HG14.out.nil 14 (by omega) (by omega)
  go_wp2_with fail
  refine (flatBundles_nil _).mono ?_
  rintro e w15 ⟨rfl, hb⟩
  have HG15 := Lib.hid (HG14.out.below hb)
  have HB15 := Lib.hid (HB14.out.trans (hb.mono (Nat.le_trans hbase HB14.out.size)))
  clear c14 hb HG14 HB14
  have c15 : w15.cell? ⟨g, 15, none⟩ = some (.slice none 0 0) := HG15.out.nil 15 (by omega) (by omega)
  go_wp2_with fail
  refine (flatEntries_nil _).mono ?_
  rintro e w16 ⟨rfl, hb⟩
  have HG16 := Lib.hid (HG15.out.below hb)
  have HB16 := Lib.hid (HB15.out.trans (hb.mono (Nat.le_trans hbase HB15.out.size)))
  clear c15 hb HG15 HB15
  have c16 : w16.cell? ⟨g, 16, none⟩ = some (.slice none 0 0) := HG16.out.nil 16 (by omega) (by omega)
  go_wp2_with fail
  refine (flatHeldRow_nil _).mono ?_
  rintro e w17 ⟨rfl, hb⟩
  have HG17 := Lib.hid (HG16.out.below hb)
  have HB17 := Lib.hid (HB16.out.trans (hb.mono (Nat.le_trans hbase HB16.out.size)))
  clear c16 hb HG16 HB16
  have c17 : w17.cell? ⟨g, 17, none⟩ = some (.slice none 0 0) := HG17.out.nil 17 (by omega) (by omega)
  go_wp2_with fail
  refine (flatRegistries_nil _).mono ?_
  rintro e w18 ⟨rfl, hb⟩
  have HG18 := Lib.hid (HG17.out.below hb)
  have HB18 := Lib.hid (HB17.out.trans (hb.mono (Nat.le_trans hbase HB17.out.size)))
  clear c17 hb HG17 HB17
  have c18 : w18.cell? ⟨g, 18, none⟩ = some (.slice none 0 0) := HG18.out.nil 18 (by omega) (by omega)
  go_wp2_with fail
  refine (flatLetters_nil _).mono ?_
  rintro e w19 ⟨rfl, hb⟩
  have HG19 := Lib.hid (HG18.out.below hb)
  have HB19 := Lib.hid (HB18.out.trans (hb.mono (Nat.le_trans hbase HB18.out.size)))
  clear c18 hb HG18 HB18
  have c19 : w19.cell? ⟨g, 19, none⟩ = some (.slice none 0 0) := HG19.out.nil 19 (by omega) (by omega)
  go_wp2_with fail
  refine (flatSteps_nil _).mono ?_
  rintro e w20 ⟨rfl, hb⟩
  have HG20 := Lib.hid (HG19.out.below hb)
  have HB20 := Lib.hid (HB19.out.trans (hb.mono (Nat.le_trans hbase HB19.out.size)))
  clear c19 hb HG19 HB19
  have c20 : w20.cell? ⟨g, 20, none⟩ = some (.slice none 0 0) := HG20.out.nil 20 (by omega) (by omega)
  go_wp2_with fail
  refine (flatTales_nil _).mono ?_
  rintro e w21 ⟨rfl, hb⟩
  have HG21 := Lib.hid (HG20.out.below hb)
  have HB21 := Lib.hid (HB20.out.trans (hb.mono (Nat.le_trans hbase HB20.out.size)))
  clear c20 hb HG20 HB20
  go_wp2
  go_ret
  exact ⟨rfl, HB21.out⟩
end Go.Proofs.Ytdmpphioflcofaa.K

/- The contracts of barbicankit's putBytes and ApartBytes: rows of bytes that lie apart are told to. -/
namespace Go.Proofs.Ytdmpphioflcofaa.K
open Go Go.RowKit

theorem IsBag.set {w : World} {g : Nat} {v : Value} (h : IsBag w g v) (v' : Value) : IsBag (w.setCell ⟨g, 5, none⟩ v') g v' := by
  obtain ⟨t, h⟩ := h
  exact ⟨t, block_set h 5 v'⟩
theorem IsBag.grown {w w1 : World} {g B k : Nat} {v x : Value} {e t : TypeId} {vals : List Value} (h : IsBag w g v) (ho : w.ownsRow B e 1 v k vals) (hB : g < B) (hg : (w.alloc (.cells #[x] t)).grownBy w1 v.ownBlock) : IsBag w1 g v := by
  have hl := h.lt
  have hvg : v.ownBlock ≠ some g := fun h => by
    have := (ho.lt g h).1; omega
  obtain ⟨t, h⟩ := h
  exact ⟨t, (hg.block g (by simp; omega) (Ne.symm hvg)).trans ((heap_alloc_old w _ hl).trans h)⟩
theorem IsBag.free {w : World} {g : Nat} {v : Value} (h : IsBag w g v) (j : Nat) : w.frozen? ⟨g, j, none⟩ = false := by
  obtain ⟨t, h⟩ := h
  exact frozen_of_row w g j _ t h

set_option maxHeartbeats 1000000 in
set_option maxRecDepth 100000 in
theorem putBytes_any (g B : Nat) (v : Value) (k : Nat) (vals : List Value) (A : Option Addr) (n c : Nat) (w : World) (hg : IsBag w g v) (hown : w.ownsRow B 29 1 v k vals) (hgB : g < B) (hB : B ≤ w.heap.size) (hk : k ≤ 1000000) :
    Calls Try.prog 31 #[.pointer (some ⟨g, 0, none⟩), .slice A n c] w fun e w' => e = .returned (.tuple #[]) ∧ ∃ v', IsBag w' g v' ∧ w'.ownsRow B 29 1 v' (k + 1) (vals ++ [.slice A n c]) ∧ Below g w w' := by
  obtain ⟨j0, hj0, hy0, hy1, hy2⟩ := info_parts infoBytes
  have c5 := hg.five
  have hgl := hg.lt
  have HG := Lib.hid hg; have HO := Lib.hid hown
  clear hg hown
  go_enter Try.func31, Try.ntmps31
  go_wp2_with (first
    | (at_builtin; refine wpList_append_own _ rfl _ _ 37 rfl B 29 j0 (.slice none 0 0) 1 24 Try.underlying37 hj0 hy0 hy1 hy2 rfl (by decide) v k vals rfl (HO.out.alloc _) ⟨w.heap.size, 0, none⟩ 1 1 [.slice A n c] rfl rfl (cell_last _ _ _) (by intro u hu; simp at hu; subst hu; rfl) (by unfold maxLen; omega) (by omega) (by simp; omega) ?_; intro v' w1 hown1 hgrow1 _; obtain ⟨L, cL, rfl, hgL, _⟩ := hown1.form (Nat.succ_pos _); have hg1 : IsBag w1 g v := IsBag.grown HG.out HO.out hgB hgrow1; have d5 := hg1.five; have f5 := hg1.free 5; have HG1 := Lib.hid hg1; have HO1 := Lib.hid hown1; clear hg1 hown1)
    | (with_reducible refine wpList_store_one rfl 37 (.tmp 13) (.tmp 11) rfl ⟨g, 5, none⟩ _ _ rfl rfl rfl (by kernel_rfl) d5 f5 ?_))
  go_end0
  refine ⟨rfl, _, HG1.out.set _, ?_, ?_⟩
  · exact HO1.out.kept (grownBy_setCell w1 g 5 _) (.inr (by simp [Value.ownBlock]; omega))
  · exact (((Below.refl _ _).mono (Nat.le_of_lt hgl)).alloc (Nat.le_of_lt hgl) _).grown hgrow1 (by simp; omega) (fun k' hk' => by have := (HO.out.lt k' hk').1; omega) |>.setCell (Nat.le_refl _) _

set_option maxHeartbeats 2000000 in
set_option maxRecDepth 100000 in
theorem ApartBytes_any (S : Option Addr) (m cS : Nat) (r : Nat → Rw) (f : Nat → List (BitVec 8)) (base : Nat) (w : World)
    (hS : ∀ j, j < m → ∃ b o, S = some ⟨b, o, none⟩ ∧ w.cell? ⟨b, o + j, none⟩ = some (r j).v) (hown : ∀ j, j < m → (r j).own w base 5 (f j))
    (hsep : ∀ i j, i < m → j < m → i ≠ j → ∀ b, (r i).blk = some b → (r j).blk ≠ some b) (hm : m ≤ 1000000) (hn : ∀ j, j < m → (r j).n ≤ 1000000000000) (hbase : base ≤ w.heap.size) :
    Calls Try.prog 14 #[.slice S m cS] w fun e w' => e = .returned (.bool true) ∧ Below base w w' := by
  have hlt : ∀ j, j < m → ∀ b, (r j).blk = some b → b < w.heap.size := fun j hj b hb => ((hown j hj).lt b hb).2
  have HS := Lib.hid hS; have HOWN := Lib.hid hown; have HSEP := Lib.hid hsep; have HN := Lib.hid hn; have HLT := Lib.hid hlt
  clear hS hown hsep hn hlt
  go_enter Try.func14, Try.ntmps14
  go_wp2
  have hbag : IsBag (w.alloc (.cells (bagCells nilS).toArray 80)) w.heap.size nilS := ⟨_, heap_alloc_new w _⟩
  have hb0 : Below w.heap.size w (w.alloc (.cells (bagCells nilS).toArray 80)) := (Below.refl _ _).alloc (Nat.le_refl _) _
  have hsz : (w.alloc (.cells (bagCells nilS).toArray 80)).heap.size = w.heap.size + 1 := by simp
  have hsz1 : w.heap.size + 1 ≤ (w.alloc (.cells (bagCells nilS).toArray 80)).heap.size := by omega
  have HBAG := Lib.hid hbag; have HB0 := Lib.hid hb0; have HZ := Lib.hid hsz1
  clear hbag hb0 hsz hsz1
  go_loopw [4] (fun i wr => ∃ k : Nat, k ≤ m ∧ i = .int .i64 (k : Int) ∧ ∃ v, IsBag wr w.heap.size v ∧ wr.ownsRow (w.heap.size + 1) 29 1 v k ((List.range k).map fun j => (r j).v) ∧ (k = 0 → v = nilS) ∧ Below w.heap.size w wr ∧ w.heap.size + 1 ≤ wr.heap.size) (fun i _ => m - (intOf i).toNat)
  case atStart => exact ⟨0, Nat.zero_le _, rfl, nilS, HBAG.out, World.ownsRow_nil _ _ _ _, fun _ => rfl, HB0.out, HZ.out⟩
  case round =>
    clear HBAG HB0 HZ
    obtain ⟨k, hk, rfl, v, hbag, hown, hv0, hb, hsz⟩ := hrel
    have k0 : (0 : Int) ≤ (k : Int) := by omega
    have HBAG := Lib.hid hbag; have HO := Lib.hid hown; have HV := Lib.hid hv0
    clear hbag hown hv0
    rcases Nat.lt_or_ge k m with h1 | h1
    · have i1 : (k : Int) < (m : Int) := by omega
      obtain ⟨b, o, rfl, hc⟩ := HS.out k h1
      obtain ⟨A, n, c, hr⟩ : ∃ A n c, r k = ⟨A, n, c⟩ := ⟨_, _, _, rfl⟩
      have hc1 : wr.cell? ⟨b, o + k, none⟩ = some (.slice A n c) := (hb.cell (block_lt_of_cell hc)).trans (by rw [hc, hr]; rfl)
      have HR := Lib.hid hr
      clear hc hr
      go_wp2_with fail
      refine (putBytes_any w.heap.size (w.heap.size + 1) v k _ A n c wr HBAG.out HO.out (by omega) hsz (by omega)).mono ?_
      rintro e w2 ⟨rfl, v', hg', ho', hb'⟩
      have HG' := Lib.hid hg'; have HO' := Lib.hid ho'; have HB' := Lib.hid (hb.trans hb')
      have hsz2 := hb'.size
      clear hg' ho' hb' hc1
      go_wp2
      go_roundw
      case rel =>
        refine ⟨k + 1, by omega, by go_num, v', HG'.out, ?_, fun h => by omega, HB'.out, by omega⟩
        have o := HO'.out
        rw [List.range_succ, List.map_append, List.map_cons, List.map_nil, HR.out]
        exact o
      case measure => simp [intOf]; omega
    · have hkm : k = m := by omega
      have i1 : ¬ (k : Int) < (m : Int) := by omega
      rw [hkm] at HO HV
      go_wp2_with fail
      have hcall : ∀ w1, Below wr.heap.size wr w1 → Calls Try.prog 55 #[v] w1 fun e w' => e = .returned (.bool true) ∧ Below base w1 w' ∧ w'.heap[w.heap.size]? = w1.heap[w.heap.size]? := by
        intro w1 hb1
        have hb01 : Below w.heap.size w w1 := hb.trans (hb1.mono hb.size)
        rcases Nat.eq_zero_or_pos m with hm0 | hm0
        · rw [HV.out hm0]
          refine (flatBytes_nil w1).mono ?_
          rintro e w2 ⟨he, hb2⟩
          exact ⟨he, hb2.mono (Nat.le_trans hbase hb01.size), hb2.block _ (by have := hb1.size; omega)⟩
        · obtain ⟨L, cL, rfl, hL1, hL2⟩ := HO.out.form (by omega)
          have hs1 := hb1.size
          refine (flatBytes_any (fun b => b = L ∨ b = w.heap.size) L m cL r f base w1 ⟨fun j hj => ?_, HSEP.out, fun _ h => absurd h (Nat.not_lt_zero _), fun _ _ _ h => absurd h (Nat.not_lt_zero _), fun _ _ h => absurd h (Nat.not_lt_zero _), fun b hb2 => ⟨?_, fun j hj h => ?_, fun _ h => absurd h (Nat.not_lt_zero _)⟩⟩ (fun j hj => ?_) hm HN.out (Nat.le_trans hbase hb01.size) (.inl rfl)).mono ?_
          · exact World.ownsRow.kept (HOWN.out j hj) (row := none) ⟨hb01.os, hb01.tape, hb01.output, hb01.size, fun k' hk' _ => hb01.block k' hk'⟩ (by cases h : (r j).v.ownBlock <;> simp)
          · rcases hb2 with rfl | rfl <;> omega
          · have := HLT.out j hj b h
            rcases hb2 with rfl | rfl <;> omega
          · have hc := (HO.out).cellAt j (by omega)
            refine (hb1.cell (p := ⟨L, j, none⟩) hL2).trans (hc.trans ?_)
            simp [hj]
          · rintro e w2 ⟨he, h2, h3⟩
            exact ⟨he, h2, h3 _ (.inr rfl)⟩
      refine (apart_any w.heap.size v base wr HBAG.out (by omega) hcall).mono ?_
      rintro e w2 ⟨rfl, hb2⟩
      have HB2 := Lib.hid ((hb.mono hbase).trans hb2)
      clear hb2 hcall
      go_wp2
      go_ret
      exact ⟨rfl, HB2.out⟩
end Go.Proofs.Ytdmpphioflcofaa.K

/- Slices of bytes that lie in a row, as they are handed to a variadic call. -/
namespace Go.Proofs.Ytdmpphioflcofaa.K
open Go Go.RowKit

/-- m slices of bytes lie at S and read f -/
def Parts (w : World) (S : Option Addr) (m : Nat) (r : Nat → Rw) (f : Nat → List (BitVec 8)) : Prop :=
  ∀ j, j < m → (∃ b o, S = some ⟨b, o, none⟩ ∧ w.cell? ⟨b, o + j, none⟩ = some (.slice (r j).A (r j).n (r j).c)) ∧ Rd w (r j).A (f j) ∧ (f j).length = (r j).n ∧ ((r j).A = none → (r j).c = 0)
theorem Parts.below {w w' : World} {S : Option Addr} {m : Nat} {r : Nat → Rw} {f : Nat → List (BitVec 8)} (h : Parts w S m r f) (hb : Below w.heap.size w w') : Parts w' S m r f := fun j hj => by
  obtain ⟨⟨b, o, h1, h2⟩, h3, h4, h5⟩ := h j hj
  exact ⟨⟨b, o, h1, (hb.cell (block_lt_of_cell h2)).trans h2⟩, h3.below hb, h4, h5⟩
/-- what k of them are, one behind the other -/
def joined (f : Nat → List (BitVec 8)) : Nat → List (BitVec 8)
  | 0 => []
  | k + 1 => joined f k ++ f k
theorem joined_le (f : Nat → List (BitVec 8)) {k m : Nat} (h : k ≤ m) : (joined f k).length ≤ (joined f m).length := by
  induction m with
  | zero => obtain rfl : k = 0 := by omega
            exact Nat.le_refl _
  | succ m ih =>
    by_cases e : k = m + 1
    · subst e; exact Nat.le_refl _
    · have := ih (by omega)
      rw [joined, List.length_append]; omega

def rowsOf (l : List (Rw × List (BitVec 8))) (j : Nat) : Rw := (l.getD j (⟨none, 0, 0⟩, [])).1
def bytesAt (l : List (Rw × List (BitVec 8))) (j : Nat) : List (BitVec 8) := (l.getD j (⟨none, 0, 0⟩, [])).2
theorem parts_of {w w1 : World} {t : TypeId} (l : List (Rw × List (BitVec 8))) (hw : w1 = w.alloc (.cells (l.map fun p => p.1.v).toArray t)) (h : ∀ p ∈ l, RowRd w p.1 p.2) :
    Parts w1 (some ⟨w.heap.size, 0, none⟩) l.length (rowsOf l) (bytesAt l) := by
  subst hw
  intro j hj
  have hm : l.getD j (⟨none, 0, 0⟩, []) = l[j] := by simp [hj]
  have h1 := (h l[j] (List.getElem_mem _)).below ((Below.refl w.heap.size w).alloc (Nat.le_refl _) (.cells (l.map fun p => p.1.v).toArray t))
  refine ⟨⟨w.heap.size, 0, rfl, ?_⟩, ?_, ?_, ?_⟩
  · rw [World.cell?_alloc_new, rowsOf, hm]
    simp [hj, Rw.v]
  · rw [rowsOf, bytesAt, hm]; exact h1.rd
  · rw [rowsOf, bytesAt, hm]; exact h1.len
  · rw [rowsOf, hm]; exact h1.none
theorem joined_flat (l : List (Rw × List (BitVec 8))) (k : Nat) (hk : k ≤ l.length) : joined (bytesAt l) k = ((l.take k).map (·.2)).flatten := by
  induction k with
  | zero => rfl
  | succ k ih =>
    rw [joined, ih (by omega), List.take_succ_eq_append_getElem (by omega), List.map_append, List.flatten_append]
    simp [bytesAt, show k < l.length by omega]
theorem joined_all (l : List (Rw × List (BitVec 8))) : joined (bytesAt l) l.length = (l.map (·.2)).flatten := by
  rw [joined_flat l _ (Nat.le_refl _), List.take_length]

end Go.Proofs.Ytdmpphioflcofaa.K

/- Literal slices, lent ones, and the kit's questions about them. -/
namespace Go.Proofs.Ytdmpphioflcofaa.K
open Go Go.RowKit

theorem row_lit (w : World) (cs : Array Value) (t : TypeId) (bs : List (BitVec 8)) (n c : Nat) (h : cs.toList = bv bs) (hn : bs.length = n) : RowRd (w.alloc (.cells cs t)) ⟨some ⟨w.heap.size, 0, none⟩, n, c⟩ bs :=
  ⟨Rd.of_block (heap_alloc_new w _) (by rw [h, ← bv_length, List.take_length]), hn, fun h => by cases h⟩
/-- two rows that read the same -/
theorem SameBytes_eq (A B : Option Addr) (n m c d : Nat) (bs : List (BitVec 8)) (w : World) (hx : RowRd w ⟨A, n, c⟩ bs) (hy : RowRd w ⟨B, m, d⟩ bs) (hn2 : n ≤ 4611686018427387904) :
    Calls Try.prog 12 #[.slice A n c, .slice B m d] w fun e w' => e = .returned (.bool true) ∧ Below w.heap.size w w' := by
  have hnm : m ≤ 4611686018427387904 := by have := hx.len; have := hy.len; simp at *; omega
  refine (SameBytes_any A B n m c d bs bs w hx.rd hy.rd hx.len hy.len hn2 hnm).mono ?_
  rintro e w1 ⟨rfl, q, rfl⟩
  exact ⟨by rw [decide_eq_true rfl], below_drewN (Below.refl _ _) q⟩
theorem grown_none_of_below {w w1 : World} (h : Below w.heap.size w w1) : w.grownBy w1 none := ⟨h.os, h.tape, h.output, h.size, fun k hk _ => h.block k hk⟩
abbrev RB := Rw × List (BitVec 8)
def flat (l : List RB) : List (BitVec 8) := (l.map (·.2)).flatten
def accOf (p : RB) : Acc := ⟨p.1.v, p.1.n, 5, 1, bv p.2⟩
theorem apart_lit {w0 w : World} (l : List RB) (cs : Array Value) (k c : Nat) (hcs : cs = (l.map fun p => p.1.v).toArray) (hk : k = l.length) (hB : Bank w0 w (l.reverse.map accOf)) (hm : l.length ≤ 1000000) (hn : ∀ p ∈ l, p.1.n ≤ 1000000000000) :
    Calls Try.prog 14 #[.slice (some ⟨w.heap.size, 0, none⟩) k c] (w.alloc (.cells cs 29)) fun e w' => e = .returned (.bool true) ∧ Since w0 w' := by
  subst hcs hk
  have hB2 := hB.alloc (.cells (l.map fun p => p.1.v).toArray 29)
  have hrow : ∀ j, (h : j < l.length) → rowsOf l j = l[j].1 ∧ bytesAt l j = l[j].2 := fun j h => by simp [rowsOf, bytesAt, h]
  refine (ApartBytes_any (some ⟨w.heap.size, 0, none⟩) l.length c (rowsOf l) (bytesAt l) w0.heap.size (w.alloc (.cells (l.map fun p => p.1.v).toArray 29)) (fun j hj => ?_) (fun j hj => ?_) (fun i j hi hj hij => ?_) hm (fun j hj => ?_) hB2.since.size).mono ?_
  · refine ⟨w.heap.size, 0, rfl, ?_⟩
    rw [World.cell?_alloc_new, (hrow j hj).1]
    simp [hj]
  · have := hB2.own (accOf l[j]) (List.mem_map.2 ⟨l[j], by simp, rfl⟩)
    unfold Rw.own
    rw [(hrow j hj).1, (hrow j hj).2]
    exact this
  · have h1 : (l.reverse.map accOf)[l.length - 1 - i]? = some (accOf l[i]) := by
      rw [List.getElem?_map, List.getElem?_reverse (by omega)]
      simp [show l.length - 1 - (l.length - 1 - i) = i by omega, hi]
    have h2 : (l.reverse.map accOf)[l.length - 1 - j]? = some (accOf l[j]) := by
      rw [List.getElem?_map, List.getElem?_reverse (by omega)]
      simp [show l.length - 1 - (l.length - 1 - j) = j by omega, hj]
    rw [(hrow i hi).1, (hrow j hj).1]
    exact hB2.sepAt h1 h2 (by omega)
  · rw [(hrow j hj).1]; exact hn _ (List.getElem_mem _)
  · rintro e w' ⟨he, hb⟩
    exact ⟨he, hB2.since.trans hb⟩
/-- lent bytes -/
def Lent1 (w0 : World) (n : Nat) (bs : List (BitVec 8)) (e : Ending) (w' : World) : Prop := ∃ g, e = .returned (.slice (some ⟨g, 0, none⟩) n (n + 12)) ∧ w0.heap.size ≤ g ∧ w'.heap[g]? = some (.cells (bv (bs ++ marks 1 0 12)).toArray 5 (0, 0)) ∧ Since w0 w'
theorem lent_from (w0 : World) (A : Option Addr) (n c : Nat) (bs : List (BitVec 8)) (hr : RowRd w0 ⟨A, n, c⟩ bs) (hn2 : n ≤ 140737488000000) {w : World} (h : Since w0 w) :
    Calls Try.prog 74 #[.slice A n c] w (Lent1 w n bs) := by
  have hr' := h.row hr
  exact (LentBytes_any A n c bs w hr'.rd hr'.len hn2 hr'.none).mono fun e w' ⟨g, he, hg, hb, hbe⟩ => ⟨g, he, hg, hb, hbe⟩
/-- kept, as lent -/
theorem kept_made {w0 : World} {g : Nat} {A : Option Addr} {n c : Nat} {bs : List (BitVec 8)} (hg : w0.heap[g]? = some (.cells (bv (bs ++ marks 1 0 12)).toArray 5 (0, 0))) (hr : RowRd w0 ⟨A, n, c⟩ bs) (hn2 : n ≤ 140737488000000) {w : World} (h : Since w0 w) :
    Calls Try.prog 81 #[.slice (some ⟨g, 0, none⟩) n (n + 12), .slice A n c] w fun e w' => e = .returned (.bool true) ∧ Below w.heap.size w w' :=
  (KeptBytes_any g A n c bs w (h.at hg) (h.row hr).rd hr.len hn2).mono fun e w' ⟨he, q, hw⟩ => ⟨he, by subst hw; exact below_drewN (Below.refl _ _) q⟩
theorem same_made {w0 : World} {A B : Option Addr} {n m c d : Nat} {bs : List (BitVec 8)} (hx : RowRd w0 ⟨A, n, c⟩ bs) (hy : RowRd w0 ⟨B, m, d⟩ bs) (hn2 : n ≤ 4611686018427387904) {w : World} (h : Since w0 w) :
    Calls Try.prog 12 #[.slice A n c, .slice B m d] w fun e w' => e = .returned (.bool true) ∧ Below w.heap.size w w' :=
  SameBytes_eq A B n m c d bs w (h.row hx) (h.row hy) hn2
/-- lent bytes read as the bytes -/
theorem lent_row {w : World} {g n : Nat} {bs : List (BitVec 8)} (hg : w.heap[g]? = some (.cells (bv (bs ++ marks 1 0 12)).toArray 5 (0, 0))) (hn : bs.length = n) : RowRd w ⟨some ⟨g, 0, none⟩, n, n + 12⟩ bs :=
  ⟨Rd.of_block hg (by rw [List.toList_toArray, bv_append, List.take_left' (bv_length bs)]), hn, fun h => by cases h⟩
end Go.Proofs.Ytdmpphioflcofaa.K

/- Boxes as accounts of a bank: blocks of cells that the call made, written cell by cell or whole. -/
namespace Go.Proofs.Ytdmpphioflcofaa.K
open Go Go.RowKit

def rowAcc (A : Option Addr) (N c : Nat) (bs : List (BitVec 8)) : Acc := ⟨.slice A N c, N, 5, 1, bv bs⟩
/-- a block of cells as a row -/
def boxAcc (g : Nat) (t : TypeId) (vs : List Value) : Acc := ⟨.slice (some ⟨g, 0, none⟩) vs.length vs.length, vs.length, t, 1, vs⟩
theorem Bank.box {w0 w : World} {L : List Acc} (h : Bank w0 w L) (cs : Array Value) (t : TypeId) (hs : cs.size ≤ 1000000) : Bank w0 (w.alloc (.cells cs t)) (boxAcc w.heap.size t cs.toList :: L) := by
  have := h.litV cs t hs
  exact this
/-- a box's block -/
theorem Bank.boxAt {w0 w : World} {L : List Acc} (h : Bank w0 w L) (i : Nat) {g : Nat} {t : TypeId} {vs : List Value} (hi : L[i]? = some (boxAcc g t vs)) : w0.heap.size ≤ g ∧ w.heap[g]? = some (.cells vs.toArray t (0, 0)) := own_full (h.at i hi)
/-- a cell of a box is written -/
theorem Bank.boxSet {w0 w : World} {L : List Acc} (h : Bank w0 w L) (i : Nat) {g : Nat} {t : TypeId} {vs : List Value} (hi : L[i]? = some (boxAcc g t vs)) (j : Nat) (v : Value) : Bank w0 (w.setCell ⟨g, j, Option.none⟩ v) (L.set i (boxAcc g t (vs.set j v))) := by
  obtain ⟨ho, hg⟩ := (h.at i hi).stored j v
  refine h.put i hi ?_ hg (.inl ?_)
  · show (w.setCell ⟨g, j, Option.none⟩ v).ownsRow _ _ _ (.slice _ (vs.set j v).length (vs.set j v).length) (vs.set j v).length _
    rw [List.length_set]
    exact ho
  · show Value.ownBlock (.slice _ (vs.set j v).length (vs.set j v).length) = _
    rw [List.length_set]
    rfl
theorem Bank.ne {w0 w : World} {L : List Acc} (h : Bank w0 w L) {i j : Nat} {g g' : Nat} {t t' : TypeId} {vs vs' : List Value} (hi : L[i]? = some (boxAcc g t vs)) (hj : L[j]? = some (boxAcc g' t' vs')) (hij : i ≠ j) : g ≠ g' := by
  intro e
  subst e
  exact h.sepAt hi hj hij g rfl rfl
theorem Bank.cell {w0 w : World} {L : List Acc} (h : Bank w0 w L) (i : Nat) {g : Nat} {t : TypeId} {vs : List Value} (hi : L[i]? = some (boxAcc g t vs)) (j : Nat) {v : Value} (hv : vs[j]? = some v) : w.cell? ⟨g, j, Option.none⟩ = some v := block_cell (h.boxAt i hi).2 hv
theorem Bank.free {w0 w : World} {L : List Acc} (h : Bank w0 w L) (i : Nat) {g : Nat} {t : TypeId} {vs : List Value} (hi : L[i]? = some (boxAcc g t vs)) (j : Nat) : w.frozen? ⟨g, j, Option.none⟩ = false := frozen_of_row w g j _ _ (h.boxAt i hi).2
theorem own_someB {w : World} {base : Nat} {e : TypeId} {A : Option Addr} {n c : Nat} {xs : List Value} (h : w.ownsRow base e 1 (.slice A n c) n xs) (hp : 0 < n) : ∃ g, A = some ⟨g, 0, none⟩ := by
  rcases h.2 with ⟨h0, h1⟩ | ⟨g, cap, cur, hv, _⟩
  · cases h0; omega
  · simp only [Value.slice.injEq, true_and] at hv
    exact ⟨g, hv.1⟩
/-- a box is written whole -/
theorem Bank.boxRow {w0 w : World} {L : List Acc} (h : Bank w0 w L) (i : Nat) {g : Nat} {t : TypeId} {vs : List Value} (hi : L[i]? = some (boxAcc g t vs)) (vs' : List Value) (hl : vs'.length = vs.length) (hs : vs.length ≤ 1000000) : Bank w0 (w.setRow g vs'.toArray) (L.set i (boxAcc g t vs')) := by
  obtain ⟨hb, hg⟩ := h.boxAt i hi
  refine h.put i hi ?_ (show w.grownBy (w.setRow g vs'.toArray) (some g) from ⟨rfl, rfl, rfl, by simp [World.setRow], fun k hk hne => setRow_other w g k _ (fun e => hne (by rw [e]))⟩) (.inl ?_)
  · refine ⟨?_, .inr ⟨g, _, _, rfl, hb, setRow_heap _ _ _ _ _ _ hg, Nat.le_refl _, ?_, ?_, ?_⟩⟩
    · show vs'.length = vs'.length * 1; omega
    · show vs'.length ≤ maxLen; unfold maxLen; omega
    · show _ = vs'.length * 1; simp
    · show vs'.toArray.toList.take (vs'.length * 1) = vs'; simp
  · show Value.ownBlock (.slice _ vs'.length vs'.length) = _
    rw [hl]; rfl
end Go.Proofs.Ytdmpphioflcofaa.K
