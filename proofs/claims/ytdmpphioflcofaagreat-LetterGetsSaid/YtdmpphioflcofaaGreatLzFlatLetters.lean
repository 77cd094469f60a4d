/- The contract of barbicankit.flatLetters: rows that lie apart are told to. -/
import Derived.Test.YtdmpphioflcofaaGreatLzFlatQ
import Derived.Test.YtdmpphioflcofaaGreatLz9
import Derived.Deep.RegionHeld3
import Derived.Lib.QuietBelow
import Derived.Deep.DeepCutAuto
namespace Go.Proofs.YtdmpphioflcofaaGreat.K.G
open Go Go.RowKit

theorem infoLetters : (Tryz.prog.info? 28).map (fun i => (i.zero, i.size, i.bytes)) = some (some (.agg #[.int .u8 0, .int .i64 0, .int .i64 0, .int .i64 0, .int .i64 0, .int .i64 0, .bool false, .int .i64 0, .int .i64 0, .slice none 0 0]), 10, 96) := by kernel_rfl
theorem sizeLetters : (Tryz.prog.info? 28).map (·.size) = some 10 := by kernel_rfl
theorem infoLLetters : (Tryz.prog.info? 35).map (fun i => (i.zero, i.size, i.bytes)) = some (some (.slice none 0 0), 1, 24) := by kernel_rfl
def meLetters (k i : Int) : List Value := [.int .u8 0, .int .i64 0, .int .i64 0, .int .i64 (markI k i), .int .i64 0, .int .i64 0, .bool false, .int .i64 0, .int .i64 0, .slice none 0 0]
theorem meLetters_length (k i : Int) : (meLetters k i).length = 10 := rfl
theorem meLetters_one (k i : Int) : ∀ u ∈ meLetters k i, u.oneCell' = true := by
  intro u hu
  simp only [meLetters, List.mem_cons, List.mem_nil_iff, or_false] at hu
  rcases hu with rfl | rfl | rfl | rfl | rfl | rfl | rfl | rfl | rfl | rfl <;> rfl
set_option maxHeartbeats 4000000 in
set_option maxRecDepth 100000 in
theorem markLetters_any (k i : Int) (w : World) : Calls Tryz.prog 110 #[.int .i64 k, .int .i64 i] w fun e w' => e = .returned (.agg #[.int .u8 0, .int .i64 0, .int .i64 0, .int .i64 (markI k i), .int .i64 0, .int .i64 0, .bool false, .int .i64 0, .int .i64 0, .slice none 0 0]) ∧ Since w w' := by
  have BK0 := Lib.hid ((Bank.nil (Below.refl w.heap.size w)).box #[.int .u8 0, .int .i64 0, .int .i64 0, .int .i64 0, .int .i64 0, .int .i64 0, .bool false, .int .i64 0, .int .i64 0, .slice none 0 0] 28 (by decide))
  go_enter Tryz.func110, Tryz.ntmps110
  go_wp2_with fail
  generalize w.alloc (.cells #[.int .u8 0, .int .i64 0, .int .i64 0, .int .i64 0, .int .i64 0, .int .i64 0, .bool false, .int .i64 0, .int .i64 0, .slice none 0 0] 28) = w1 at *
  refine (mark_any k i _).mono ?_
  rintro e w' ⟨rfl, rfl⟩
  have HRES := Lib.hid (BK0.out.boxAt 0 rfl).2
  have HS := Lib.hid (BK0.out.boxRow 0 rfl (meLetters k i) rfl (by simp)).since
  have hinf : (Tryz.prog.info? 28).map (·.size) = some (#[.int .u8 0, .int .i64 0, .int .i64 0, .int .i64 (markI k i), .int .i64 0, .int .i64 0, .bool false, .int .i64 0, .int .i64 0, .slice none 0 0] : Array Value).size := infoLetL ⟨0#8, 0, 0, markI k i, 0, 0, false, 0, 0, []⟩ none 0 0
  have hone : (#[.int .u8 0, .int .i64 0, .int .i64 0, .int .i64 (markI k i), .int .i64 0, .int .i64 0, .bool false, .int .i64 0, .int .i64 0, .slice none 0 0] : Array Value).all (·.oneCell') = true := letL_one ⟨0#8, 0, 0, markI k i, 0, 0, false, 0, 0, []⟩ none 0 0
  go_wp2_with (with_reducible refine wpList_store_row rfl 28 (.tmp 4) (.tmp 8) rfl w.heap.size #[.int .u8 0, .int .i64 0, .int .i64 0, .int .i64 (markI k i), .int .i64 0, .int .i64 0, .bool false, .int .i64 0, .int .i64 0, .slice none 0 0] rfl rfl 28 _ HRES.out hinf rfl hone ?_)
  refine bodyPost_ret (v := .agg #[.int .u8 0, .int .i64 0, .int .i64 0, .int .i64 (markI k i), .int .i64 0, .int .i64 0, .bool false, .int .i64 0, .int .i64 0, .slice none 0 0]) ?_ rfl ⟨rfl, HS.out⟩
  exact results_cell_row rfl _ _ w.heap.size 28 _ (0, 0) _ rfl (setRow_heap _ _ _ _ _ _ HRES.out) Tryz.underlying28 rfl hinf
theorem sameLetters_any (k i : Int) (w : World) : Calls Tryz.prog 9 #[.agg #[.int .u8 0, .int .i64 0, .int .i64 0, .int .i64 (markI k i), .int .i64 0, .int .i64 0, .bool false, .int .i64 0, .int .i64 0, .slice none 0 0], .agg #[.int .u8 0, .int .i64 0, .int .i64 0, .int .i64 (markI k i), .int .i64 0, .int .i64 0, .bool false, .int .i64 0, .int .i64 0, .slice none 0 0]] w fun e w' => e = .returned (.bool true) ∧ Since w w' :=
  SameLetter_eq ⟨0#8, 0, 0, markI k i, 0, 0, false, 0, 0, []⟩ none 0 0 none 0 w rfl (EntsRd.nil _ _) (EntsRd.nil _ _) (by omega) (fun e he => by cases he)
theorem thereLetters {w : World} {g o : Nat} (h : w.there g o 10) : ∃ v0 v1 v2 v3 v4 v5 v6 v7 v8 v9, (w.cell? ⟨g, o, none⟩ = some v0 ∧ w.cell? ⟨g, o + 1, none⟩ = some v1 ∧ w.cell? ⟨g, o + 2, none⟩ = some v2 ∧ w.cell? ⟨g, o + 3, none⟩ = some v3 ∧ w.cell? ⟨g, o + 4, none⟩ = some v4 ∧ w.cell? ⟨g, o + 5, none⟩ = some v5 ∧ w.cell? ⟨g, o + 6, none⟩ = some v6 ∧ w.cell? ⟨g, o + 7, none⟩ = some v7 ∧ w.cell? ⟨g, o + 8, none⟩ = some v8 ∧ w.cell? ⟨g, o + 9, none⟩ = some v9) ∧ (w.frozen? ⟨g, o, none⟩ = false ∧ w.frozen? ⟨g, o + 1, none⟩ = false ∧ w.frozen? ⟨g, o + 2, none⟩ = false ∧ w.frozen? ⟨g, o + 3, none⟩ = false ∧ w.frozen? ⟨g, o + 4, none⟩ = false ∧ w.frozen? ⟨g, o + 5, none⟩ = false ∧ w.frozen? ⟨g, o + 6, none⟩ = false ∧ w.frozen? ⟨g, o + 7, none⟩ = false ∧ w.frozen? ⟨g, o + 8, none⟩ = false ∧ w.frozen? ⟨g, o + 9, none⟩ = false) := by
  have hc : ∀ j, j < 10 → ∃ v, w.cell? ⟨g, o + j, none⟩ = some v := fun j hj => Option.isSome_iff_exists.1 (h j hj).1
  have hf : ∀ j, j < 10 → w.frozen? ⟨g, o + j, none⟩ = false := fun j hj => (h j hj).2
  obtain ⟨v0, c0⟩ := hc 0 (by omega)
  obtain ⟨v1, c1⟩ := hc 1 (by omega)
  obtain ⟨v2, c2⟩ := hc 2 (by omega)
  obtain ⟨v3, c3⟩ := hc 3 (by omega)
  obtain ⟨v4, c4⟩ := hc 4 (by omega)
  obtain ⟨v5, c5⟩ := hc 5 (by omega)
  obtain ⟨v6, c6⟩ := hc 6 (by omega)
  obtain ⟨v7, c7⟩ := hc 7 (by omega)
  obtain ⟨v8, c8⟩ := hc 8 (by omega)
  obtain ⟨v9, c9⟩ := hc 9 (by omega)
  exact ⟨v0, v1, v2, v3, v4, v5, v6, v7, v8, v9, ⟨c0, c1, c2, c3, c4, c5, c6, c7, c8, c9⟩, ⟨hf 0 (by omega), hf 1 (by omega), hf 2 (by omega), hf 3 (by omega), hf 4 (by omega), hf 5 (by omega), hf 6 (by omega), hf 7 (by omega), hf 8 (by omega), hf 9 (by omega)⟩⟩
theorem keepLetters1 {w w1 : World} {a0 : Addr} {v0 : Value} (h : w.cell? a0 = some v0) (hs : Since w w1) : w1.cell? a0 = some v0 := (hs.cell (block_lt_of_cell h)).trans h
theorem keepLetters12 {w w1 : World} {a0 : Addr} {v0 : Value} {a1 : Addr} {v1 : Value} {a2 : Addr} {v2 : Value} {a3 : Addr} {v3 : Value} {a4 : Addr} {v4 : Value} {a5 : Addr} {v5 : Value} {a6 : Addr} {v6 : Value} {a7 : Addr} {v7 : Value} {a8 : Addr} {v8 : Value} {a9 : Addr} {v9 : Value} {a10 : Addr} {v10 : Value} {a11 : Addr} {v11 : Value} (h : w.cell? a0 = some v0 ∧ w.cell? a1 = some v1 ∧ w.cell? a2 = some v2 ∧ w.cell? a3 = some v3 ∧ w.cell? a4 = some v4 ∧ w.cell? a5 = some v5 ∧ w.cell? a6 = some v6 ∧ w.cell? a7 = some v7 ∧ w.cell? a8 = some v8 ∧ w.cell? a9 = some v9 ∧ w.cell? a10 = some v10 ∧ w.cell? a11 = some v11) (hs : Since w w1) : w1.cell? a0 = some v0 ∧ w1.cell? a1 = some v1 ∧ w1.cell? a2 = some v2 ∧ w1.cell? a3 = some v3 ∧ w1.cell? a4 = some v4 ∧ w1.cell? a5 = some v5 ∧ w1.cell? a6 = some v6 ∧ w1.cell? a7 = some v7 ∧ w1.cell? a8 = some v8 ∧ w1.cell? a9 = some v9 ∧ w1.cell? a10 = some v10 ∧ w1.cell? a11 = some v11 := by
  obtain ⟨h0, h1, h2, h3, h4, h5, h6, h7, h8, h9, h10, h11⟩ := h
  exact ⟨(hs.cell (block_lt_of_cell h0)).trans h0, (hs.cell (block_lt_of_cell h1)).trans h1, (hs.cell (block_lt_of_cell h2)).trans h2, (hs.cell (block_lt_of_cell h3)).trans h3, (hs.cell (block_lt_of_cell h4)).trans h4, (hs.cell (block_lt_of_cell h5)).trans h5, (hs.cell (block_lt_of_cell h6)).trans h6, (hs.cell (block_lt_of_cell h7)).trans h7, (hs.cell (block_lt_of_cell h8)).trans h8, (hs.cell (block_lt_of_cell h9)).trans h9, (hs.cell (block_lt_of_cell h10)).trans h10, (hs.cell (block_lt_of_cell h11)).trans h11⟩
theorem keepLetters22 {w w1 : World} {a0 : Addr} {v0 : Value} {a1 : Addr} {v1 : Value} {a2 : Addr} {v2 : Value} {a3 : Addr} {v3 : Value} {a4 : Addr} {v4 : Value} {a5 : Addr} {v5 : Value} {a6 : Addr} {v6 : Value} {a7 : Addr} {v7 : Value} {a8 : Addr} {v8 : Value} {a9 : Addr} {v9 : Value} {a10 : Addr} {v10 : Value} {a11 : Addr} {v11 : Value} {a12 : Addr} {v12 : Value} {a13 : Addr} {v13 : Value} {a14 : Addr} {v14 : Value} {a15 : Addr} {v15 : Value} {a16 : Addr} {v16 : Value} {a17 : Addr} {v17 : Value} {a18 : Addr} {v18 : Value} {a19 : Addr} {v19 : Value} {a20 : Addr} {v20 : Value} {a21 : Addr} {v21 : Value} (h : w.cell? a0 = some v0 ∧ w.cell? a1 = some v1 ∧ w.cell? a2 = some v2 ∧ w.cell? a3 = some v3 ∧ w.cell? a4 = some v4 ∧ w.cell? a5 = some v5 ∧ w.cell? a6 = some v6 ∧ w.cell? a7 = some v7 ∧ w.cell? a8 = some v8 ∧ w.cell? a9 = some v9 ∧ w.cell? a10 = some v10 ∧ w.cell? a11 = some v11 ∧ w.cell? a12 = some v12 ∧ w.cell? a13 = some v13 ∧ w.cell? a14 = some v14 ∧ w.cell? a15 = some v15 ∧ w.cell? a16 = some v16 ∧ w.cell? a17 = some v17 ∧ w.cell? a18 = some v18 ∧ w.cell? a19 = some v19 ∧ w.cell? a20 = some v20 ∧ w.cell? a21 = some v21) (hs : Since w w1) : w1.cell? a0 = some v0 ∧ w1.cell? a1 = some v1 ∧ w1.cell? a2 = some v2 ∧ w1.cell? a3 = some v3 ∧ w1.cell? a4 = some v4 ∧ w1.cell? a5 = some v5 ∧ w1.cell? a6 = some v6 ∧ w1.cell? a7 = some v7 ∧ w1.cell? a8 = some v8 ∧ w1.cell? a9 = some v9 ∧ w1.cell? a10 = some v10 ∧ w1.cell? a11 = some v11 ∧ w1.cell? a12 = some v12 ∧ w1.cell? a13 = some v13 ∧ w1.cell? a14 = some v14 ∧ w1.cell? a15 = some v15 ∧ w1.cell? a16 = some v16 ∧ w1.cell? a17 = some v17 ∧ w1.cell? a18 = some v18 ∧ w1.cell? a19 = some v19 ∧ w1.cell? a20 = some v20 ∧ w1.cell? a21 = some v21 := by
  obtain ⟨h0, h1, h2, h3, h4, h5, h6, h7, h8, h9, h10, h11, h12, h13, h14, h15, h16, h17, h18, h19, h20, h21⟩ := h
  exact ⟨(hs.cell (block_lt_of_cell h0)).trans h0, (hs.cell (block_lt_of_cell h1)).trans h1, (hs.cell (block_lt_of_cell h2)).trans h2, (hs.cell (block_lt_of_cell h3)).trans h3, (hs.cell (block_lt_of_cell h4)).trans h4, (hs.cell (block_lt_of_cell h5)).trans h5, (hs.cell (block_lt_of_cell h6)).trans h6, (hs.cell (block_lt_of_cell h7)).trans h7, (hs.cell (block_lt_of_cell h8)).trans h8, (hs.cell (block_lt_of_cell h9)).trans h9, (hs.cell (block_lt_of_cell h10)).trans h10, (hs.cell (block_lt_of_cell h11)).trans h11, (hs.cell (block_lt_of_cell h12)).trans h12, (hs.cell (block_lt_of_cell h13)).trans h13, (hs.cell (block_lt_of_cell h14)).trans h14, (hs.cell (block_lt_of_cell h15)).trans h15, (hs.cell (block_lt_of_cell h16)).trans h16, (hs.cell (block_lt_of_cell h17)).trans h17, (hs.cell (block_lt_of_cell h18)).trans h18, (hs.cell (block_lt_of_cell h19)).trans h19, (hs.cell (block_lt_of_cell h20)).trans h20, (hs.cell (block_lt_of_cell h21)).trans h21⟩
theorem cells_litLetters (w : World) (vs : List Value) (t : TypeId) : ∀ j u, vs[j]? = some u → (w.alloc (.cells vs.toArray t)).cell? ((⟨w.heap.size, 0, none⟩ : Addr).add j) = some u := fun j u hu => by
  rw [Addr.add_lit, Nat.zero_add]
  exact block_cell (heap_alloc_new w _) hu
set_option maxHeartbeats 16000000 in
set_option maxRecDepth 100000 in
theorem flatLetters_any (K : Nat → Prop) (L m cL : Nat) (r : Nat → Rw) (f : Nat → List Value) (base : Nat) (w : World) (S : Sit w base 28 10 m K r f 0 r0 F0) (hL : ∀ j, j < m → w.cell? ⟨L, j, none⟩ = some (r j).v)
    (hm : m ≤ 1000000) (hn : ∀ j, j < m → (r j).n ≤ 100000000) (hbase : base ≤ w.heap.size) (hK : K L) :
    Calls Tryz.prog 73 #[.slice (some ⟨L, 0, none⟩) m cL] w fun e w' => e = .returned (.bool true) ∧ Below base w w' ∧ ∀ b, K b → w'.heap[b]? = w.heap[b]? := by
  obtain ⟨i0, hi, hz0, hz1, hz2⟩ := info_parts infoLetters
  obtain ⟨j0, hj0, hy0, hy1, hy2⟩ := info_parts infoLLetters
  have hE : ∀ k i, (meLetters k i).length = 10 := meLetters_length
  have hp1 : Ph1 meLetters K base 28 10 m L r w w 0 := ⟨f, S, fun j hj => absurd hj (Nat.not_lt_zero _), hL, (Below.refl _ _).mono hbase, hbase, hK, fun _ _ => rfl⟩
  have HP1 := Lib.hid hp1; have HN := Lib.hid hn; have HE := Lib.hid hE
  clear S hL hn hp1 hK hE
  go_enter Tryz.func73, Tryz.ntmps73
  go_wp2
  go_loopw [3, 4] (fun i _ wr => ∃ k : Nat, k ≤ m ∧ i = .int .i64 (k : Int) ∧ Ph1 meLetters K base 28 10 m L r w wr k) (fun i _ _ => m - (intOf i).toNat)
  case atStart => exact ⟨0, Nat.zero_le _, rfl, HP1.out⟩
  case round =>
    clear HP1
    obtain ⟨k, hk, rfl, hp⟩ := hrel
    rcases Nat.lt_or_ge k m with h1 | h1
    · have i1 : (k : Int) < (m : Int) := by omega
      have k0 : (0 : Int) ≤ (k : Int) := by omega
      obtain ⟨A, n, c, hr⟩ : ∃ A n c, r k = ⟨A, n, c⟩ := ⟨_, _, _, rfl⟩
      have hnk : n ≤ 100000000 := by have := HN.out k h1; rw [hr] at this; exact this
      have HR := Lib.hid hr; have HP := Lib.hid hp.start
      clear hr hp
      go_wp2
      go_loopw [4] (fun i wx => ∃ q : Nat, q ≤ n ∧ i = .int .i64 (q : Int) ∧ Ph1i meLetters K base 28 10 m L r w wx k q) (fun i _ => n - (intOf i).toNat)
      case atStart => exact ⟨0, Nat.zero_le _, rfl, HP.out⟩
      case round =>
        clear HP
        obtain ⟨q, hq, rfl, hp⟩ := hrel
        have q0 : (0 : Int) ≤ (q : Int) := by omega
        have cl : wr.cell? ⟨L, k, none⟩ = some (.slice A n c) := by
          obtain ⟨_, _, _, _, h4, _⟩ := hp
          rw [h4 k h1, HR.out]; rfl
        rcases Nat.lt_or_ge q n with h2 | h2
        · have q1 : (q : Int) < (n : Int) := by omega
          have HP := Lib.hid hp
          obtain ⟨g, hA, _, _⟩ := hp.step HE.out h1 (i := q) (by rw [HR.out]; exact h2)
          rw [HR.out] at hA
          obtain rfl : A = some ⟨g, 0, none⟩ := hA
          clear hp
          have HCL := Lib.hid cl
          go_upto_region 7 with fail
          have HS := Lib.hid (Since.drew (Below.refl wr.heap.size wr))
          go_region_held3 (fun w9 => w9.cell? ⟨L, k, none⟩ = some (.slice (some ⟨g, 0, none⟩) n c)) (first | with_reducible exact (keepLetters1 HCL.out HS.out) | exact HK3.out)
            (first | (go_simp; go_at_call 110; refine (markLetters_any _ _ _).mono ?_; rintro e w3 ⟨rfl, hs3⟩; have HS := Lib.hid (Since.add HS.out hs3); have hp3 := HP.out.grown (below_grown HS.out); obtain ⟨g', hA', hth, hst⟩ := hp3.step HE.out h1 (i := q) (by rw [HR.out]; exact h2); (have hgg : g = g' := by (rw [HR.out] at hA'; simp at hA'; exact hA')); subst hgg; obtain ⟨v0, v1, v2, v3, v4, v5, v6, v7, v8, v9, ⟨hc0, hc1, hc2, hc3, hc4, hc5, hc6, hc7, hc8, hc9⟩, ⟨hf0, hf1, hf2, hf3, hf4, hf5, hf6, hf7, hf8, hf9⟩⟩ := thereLetters hth; (have HK3 := Lib.hid (show (w3.setCells g (q * 10) [.int .u8 0, .int .i64 0, .int .i64 0, .int .i64 (markI (k : Int) (q : Int)), .int .i64 0, .int .i64 0, .bool false, .int .i64 0, .int .i64 0, .slice none 0 0]).cell? ⟨L, k, none⟩ = some (.slice (some ⟨g, 0, none⟩) n c) from by (obtain ⟨_, _, _, _, h4, _⟩ := hst; exact (h4 k h1).trans (by rw [HR.out]; rfl)))); have HST := Lib.hid hst; clear hs3 hp3 hA' hth hst))
          go_wp2_with fail
          go_roundw
          case rel => exact ⟨q + 1, by omega, by go_num, HST.out⟩
          case measure => simp [intOf]; omega
        · have hqn : q = n := by omega
          have q1 : ¬ (q : Int) < (n : Int) := by omega
          have hd : Ph1 meLetters K base 28 10 m L r w wr (k + 1) := by
            rw [hqn] at hp
            exact Ph1i.done (by rw [HR.out]; exact hp) h1
          have HD := Lib.hid hd
          clear hp hqn hd
          go_wp2
          go_roundw
          case rel => exact ⟨k + 1, by omega, by go_num, HD.out⟩
          case measure => simp [intOf]; omega
    · have hkm : k = m := by omega
      have i1 : ¬ (k : Int) < (m : Int) := by omega
      rw [hkm] at hp
      have HP := Lib.hid hp
      clear hp hkm
      go_wp2_with (at_make; refine wpList_make_full _ rfl _ _ 36 rfl wr.heap.size 35 j0 (.slice none 0 0) 1 Tryz.underlying36 hj0 hy0 hy1 _ _ _ _ m rfl rfl rfl rfl (by rw [hy2]; omega) (by unfold maxLen; omega) (Nat.le_refl _) ?_; intro w1 hown1 hgrow1)
      have hp2 : PhG meLetters K base 28 10 35 m L wr.heap.size r (fun j => marksE meLetters j ((r j).n + 64)) w w1 0 := HP.out.made hgrow1 hown1
      have HP2 := Lib.hid hp2
      clear hp2 HP hgrow1 hown1
      generalize wr.heap.size = G at *
      go_loopw [6, 7, 8] (fun i _ _ wy => ∃ k : Nat, k ≤ m ∧ i = .int .i64 (k : Int) ∧ PhG meLetters K base 28 10 35 m L G r (fun j => marksE meLetters j ((r j).n + 64)) w wy k) (fun i _ _ _ => m - (intOf i).toNat)
      case atStart => exact ⟨0, Nat.zero_le _, rfl, HP2.out⟩
      case round =>
        clear HP2
        obtain ⟨k, hk, rfl, hp⟩ := hrel
        rcases Nat.lt_or_ge k m with h2 | h2
        · have i1 : (k : Int) < (m : Int) := by omega
          have k0 : (0 : Int) ≤ (k : Int) := by omega
          obtain ⟨A, n, c, hr⟩ : ∃ A n c, r k = ⟨A, n, c⟩ := ⟨_, _, _, rfl⟩
          have hnk : n ≤ 100000000 := by have := HN.out k h2; rw [hr] at this; exact this
          have cl : wr.cell? ⟨L, k, none⟩ = some (.slice A n c) := by rw [(hp.lcell HE.out h2).1, hr]; rfl
          have hp1 : PhGi meLetters K base 28 10 35 m L G r (fun j => marksE meLetters j ((r j).n + 64)) w wr k ⟨A, n, c⟩ (marksE meLetters k n) := by
            have := hp.start h2
            rw [mk, hr] at this; exact this
          have HR := Lib.hid hr; have HP1 := Lib.hid hp1
          clear hr hp hp1
          go_wp2
          clear cl
          go_loopw [7, 8] (fun g i wz => ∃ (q N c' : Nat) (A' : Option Addr), q ≤ 64 ∧ i = .int .i64 (q : Int) ∧ g = .slice A' N c' ∧ N = n + q ∧ PhGi meLetters K base 28 10 35 m L G r (fun j => marksE meLetters j ((r j).n + 64)) w wz k ⟨A', N, c'⟩ (marksE meLetters k N)) (fun _ i _ => 64 - (intOf i).toNat)
          case atStart => exact ⟨0, n, c, A, by omega, rfl, rfl, rfl, HP1.out⟩
          case round =>
            clear HP1
            obtain ⟨q, N, c', A', hq, rfl, rfl, hNq, hp⟩ := hrel
            have hN2 : N ≤ n + 64 := by omega
            have HNQ := Lib.hid hNq
            clear hNq
            rcases Nat.lt_or_ge q 64 with h3 | h3
            · have q1 : (q : Int) < 64 := by omega
              have q0 : (0 : Int) ≤ (q : Int) := by omega
              have cl : wr.cell? ⟨L, k, none⟩ = some (.slice A n c) := by rw [hp.l h2, HR.out]; rfl
              have HP := Lib.hid hp
              have hsz := hp.size
              clear hp
              go_wp2_with (first
                | (go_at_call 110; refine (markLetters_any _ _ _).mono ?_; rintro e w2 ⟨rfl, hs2⟩; have hp2 := HP.out.grown (below_grown hs2); have HP2 := Lib.hid hp2; have hsz2 := hp2.size; clear hp2 hs2)
                | (at_builtin; refine wpList_append_either _ rfl _ _ 35 rfl base 28 i0 (.agg #[.int .u8 0, .int .i64 0, .int .i64 0, .int .i64 0, .int .i64 0, .int .i64 0, .bool false, .int .i64 0, .int .i64 0, .slice none 0 0]) 10 96 Tryz.underlying35 hi hz0 hz1 hz2 rfl (by omega) ⟨A', N, c'⟩ (marksE meLetters k N) rfl (HP2.out.alloc _).own ⟨w2.heap.size, 0, none⟩ 1 1 (meLetters (k : Int) ((n : Int) + (q : Int))) rfl rfl (cells_litLetters _ _ _) (meLetters_one _ _) (by omega) (by show N + 1 ≤ _; unfold maxLen; omega) (by show (N + 1) * 96 ≤ _; omega) (by simp; omega) ?_; intro A2 c2 w3 hG))
              have hp3 := (HP2.out.alloc _).grew h2 hG
              have HP3 := Lib.hid hp3
              clear hp3 hG cl
              go_roundw
              case rel =>
                refine ⟨q + 1, N + 1, c2, A2, by omega, by go_num, rfl, by have := HNQ.out; omega, ?_⟩
                rw [marksE_succ, show ((N : Nat) : Int) = (n : Int) + (q : Int) by have := HNQ.out; omega]
                exact HP3.out
              case measure => simp [intOf]; omega
            · have hq64 : q = 64 := by omega
              have q1 : ¬ (q : Int) < 64 := by omega
              obtain ⟨⟨v0, hv0⟩, hf0⟩ := hp.place h2
              have hp4 := hp.push h2 (by rw [HR.out]; show N = n + 64; have := HNQ.out; omega) (by show marksE meLetters k N = marksE meLetters k ((r k).n + 64); rw [HR.out]; show marksE meLetters k N = marksE meLetters k (n + 64); rw [HNQ.out, hq64])
              have HP4 := Lib.hid hp4
              clear hp hp4 hq64
              go_wp2
              go_roundw
              case rel => exact ⟨k + 1, by omega, by go_num, HP4.out⟩
              case measure => simp [intOf]; omega
        · have hkm : k = m := by omega
          have i1 : ¬ (k : Int) < (m : Int) := by omega
          rw [hkm] at hp
          have HP := Lib.hid hp
          clear hp hkm
          go_wp2
          go_loopw [9, 10] (fun i _ wz => ∃ k : Nat, k ≤ m ∧ i = .int .i64 (k : Int) ∧ PhG meLetters K base 28 10 35 m L G r (fun j => marksE meLetters j ((r j).n + 64)) w wz m) (fun i _ _ => m - (intOf i).toNat)
          case atStart => exact ⟨0, Nat.zero_le _, rfl, HP.out⟩
          case round =>
            clear HP
            obtain ⟨k, hk, rfl, hp⟩ := hrel
            have HP := Lib.hid hp
            clear hp
            rcases Nat.lt_or_ge k m with h3 | h3
            · have i1 : (k : Int) < (m : Int) := by omega
              have k0 : (0 : Int) ≤ (k : Int) := by omega
              obtain ⟨A, n, c, hr⟩ : ∃ A n c, r k = ⟨A, n, c⟩ := ⟨_, _, _, rfl⟩
              have hnk : n ≤ 100000000 := by have := HN.out k h3; rw [hr] at this; exact this
              have HR := Lib.hid hr
              obtain ⟨A2, c2, cg, hgx⟩ := HP.out.gcell h3 (Nat.le_refl _)
              rw [hr] at cg
              obtain ⟨N, hN⟩ : ∃ N, N = n + 64 := ⟨_, rfl⟩
              have hN2 : N ≤ n + 64 := by omega
              have hN3 : n + 64 ≤ N := by omega
              clear hr hgx cg A2 c2 hN
              go_wp2
              go_loopw [10] (fun i wz => ∃ p : Nat, p ≤ N ∧ i = .int .i64 (p : Int) ∧ PhG meLetters K base 28 10 35 m L G r (fun j => marksE meLetters j ((r j).n + 64)) w wz m) (fun i _ => N - (intOf i).toNat)
              case atStart => exact ⟨0, Nat.zero_le _, rfl, HP.out⟩
              case round =>
                clear HP
                obtain ⟨p, hp, rfl, hpg⟩ := hrel
                have HP := Lib.hid hpg
                have p0 : (0 : Int) ≤ (p : Int) := by omega
                obtain ⟨cl0, hlx⟩ := hpg.lcell HE.out h3
                obtain ⟨A2, c2, cg0, hgx⟩ := hpg.gcell h3 (Nat.le_refl _)
                rw [HR.out] at cl0 hlx cg0 hgx
                have cl : wr.cell? ⟨L, k, none⟩ = some (.slice A n c) := cl0
                have cg : wr.cell? ⟨G, k, none⟩ = some (.slice A2 N c2) := by rw [show N = n + 64 by omega]; exact cg0
                clear cl0 cg0 hpg
                rcases Nat.lt_or_ge p N with h4 | h4
                · have p1 : (p : Int) < (N : Int) := by omega
                  obtain ⟨gg, hA2, hrg⟩ := hgx p (meLetters k p) (by show p < n + 64; omega) (marksE_at HE.out (by show p < n + 64; omega)) (HE.out _ _)
                  obtain rfl : A2 = some ⟨gg, 0, none⟩ := hA2
                  have HRG := Lib.hid (range_regrown (show wr.rangeAt gg (p * 10) (meLetters (k : Int) (p : Int)) from hrg))
                  rcases Nat.lt_or_ge p n with h5 | h5
                  · have p2 : (p : Int) < (n : Int) := by omega
                    have d1 : decide ((p : Int) < (n : Int)) = true := by simpa using p2
                    have d2 : decide (p < n) = true := by simpa using h5
                    obtain ⟨gl, hgl, hrl⟩ := hlx p h5
                    obtain rfl : A = some ⟨gl, 0, none⟩ := hgl
                    have HRL := Lib.hid (range_regrown (show wr.rangeAt gl (p * 10) (meLetters (k : Int) (p : Int)) from hrl))
                    clear hlx hgx hrg hrl
                    go_upto_region 24 with fail
                    have rcg := cell_regrown cg
                    have rcl := cell_regrown cl
                    clear cg cl
                    refine WQ.region (by kernel_rfl) (by kernel_rfl) ?_
                    repeat (first | (refine @WQ.load _ _ _ _ _ _ _ (by simp [Region.wanted, yielded]) 28 _ rfl gg (p * 10) rfl (meLetters (k : Int) (p : Int)) _ HRG.out Tryz.underlying28 rfl sizeLetters ?_; simp only [Act.put, meLetters, List.setIfInBounds_toArray, List.set_cons_zero, List.set_cons_succ]) | (refine @WQ.load _ _ _ _ _ _ _ (by simp [Region.wanted, yielded]) 28 _ rfl gl (p * 10) rfl (meLetters (k : Int) (p : Int)) _ HRL.out Tryz.underlying28 rfl sizeLetters ?_; simp only [Act.put, meLetters, List.setIfInBounds_toArray, List.set_cons_zero, List.set_cons_succ]) | (refine @WQ.step _ _ _ _ _ _ _ ?_; intro K hK; go_simp; first | (refine hK _ ?_; clear hK K) | (apply Exists.intro; refine ⟨fun _ => ?_, hK _ ?_⟩; (first | (with_reducible exact Calls.regrown_of (markLetters_any _ _ _)) | (with_reducible exact Calls.regrown_of (sameLetters_any _ _ _))); clear hK K)))
                    refine WQ.nil ?_
                    intro _ hw'
                    obtain ⟨⟨dq, osq⟩, hw''⟩ := hw'
                    subst hw''
                    have HS := Lib.hid (below_regrown wr dq osq)
                    clear rcg rcl
                    have HP3 := Lib.hid (HP.out.grown (below_grown HS.out))
                    go_wp2_with fail
                    go_roundw
                    case rel => exact ⟨p + 1, by omega, by go_num, HP3.out⟩
                    case measure => simp [intOf]; omega
                  · have p2 : ¬ (p : Int) < (n : Int) := by omega
                    have d1 : decide ((p : Int) < (n : Int)) = false := by simpa using p2
                    have d2 : decide (p < n) = false := by simp; omega
                    clear hlx hgx hrg
                    go_upto_region 24 with fail
                    have rcg := cell_regrown cg
                    have rcl := cell_regrown cl
                    clear cg cl
                    refine WQ.region (by kernel_rfl) (by kernel_rfl) ?_
                    repeat (first | (refine @WQ.load _ _ _ _ _ _ _ (by simp [Region.wanted, yielded]) 28 _ rfl gg (p * 10) rfl (meLetters (k : Int) (p : Int)) _ HRG.out Tryz.underlying28 rfl sizeLetters ?_; simp only [Act.put, meLetters, List.setIfInBounds_toArray, List.set_cons_zero, List.set_cons_succ]) | (refine @WQ.step _ _ _ _ _ _ _ ?_; intro K hK; go_simp; first | (refine hK _ ?_; clear hK K) | (apply Exists.intro; refine ⟨fun _ => ?_, hK _ ?_⟩; (first | (with_reducible exact Calls.regrown_of (markLetters_any _ _ _)) | (with_reducible exact Calls.regrown_of (sameLetters_any _ _ _))); clear hK K)))
                    refine WQ.nil ?_
                    intro _ hw'
                    obtain ⟨⟨dq, osq⟩, hw''⟩ := hw'
                    subst hw''
                    have HS := Lib.hid (below_regrown wr dq osq)
                    clear rcg rcl
                    have HP3 := Lib.hid (HP.out.grown (below_grown HS.out))
                    go_wp2_with fail
                    go_roundw
                    case rel => exact ⟨p + 1, by omega, by go_num, HP3.out⟩
                    case measure => simp [intOf]; omega
                · have p1 : ¬ (p : Int) < (N : Int) := by omega
                  clear hlx hgx
                  go_wp2
                  go_roundw
                  case rel => exact ⟨k + 1, by omega, by go_num, HP.out⟩
                  case measure => simp [intOf]; omega
            · have i1 : ¬ (k : Int) < (m : Int) := by omega
              have hp4 := HP.out.zero (fun j => mk meLetters r j ++ marksE meLetters (j + m) 64)
              have HP4 := Lib.hid hp4
              clear hp4 HP
              go_wp2
              go_loopw [11, 12, 13] (fun i _ _ wz => ∃ k : Nat, k ≤ m ∧ i = .int .i64 (k : Int) ∧ PhG meLetters K base 28 10 35 m L G r (fun j => mk meLetters r j ++ marksE meLetters (j + m) 64) w wz k) (fun i _ _ _ => m - (intOf i).toNat)
              case atStart => exact ⟨0, Nat.zero_le _, rfl, HP4.out⟩
              case round =>
                clear HP4
                obtain ⟨k, hk, rfl, hp⟩ := hrel
                rcases Nat.lt_or_ge k m with h4 | h4
                · have i1 : (k : Int) < (m : Int) := by omega
                  have k0 : (0 : Int) ≤ (k : Int) := by omega
                  obtain ⟨A, n, c, hr⟩ : ∃ A n c, r k = ⟨A, n, c⟩ := ⟨_, _, _, rfl⟩
                  have hnk : n ≤ 100000000 := by have := HN.out k h4; rw [hr] at this; exact this
                  have HR := Lib.hid hr; have HP := Lib.hid hp
                  have hwr := hp.below.size
                  clear hr hp
                  go_wp2_with (at_make; refine wpList_make_full _ rfl _ _ 35 rfl wr.heap.size 28 i0 (.agg #[.int .u8 0, .int .i64 0, .int .i64 0, .int .i64 0, .int .i64 0, .int .i64 0, .bool false, .int .i64 0, .int .i64 0, .slice none 0 0]) 10 Tryz.underlying35 hi hz0 hz1 _ _ _ _ 64 rfl rfl rfl rfl (by rw [hz2]; omega) (by unfold maxLen; omega) (Nat.le_refl _) ?_; intro w1 hown1 hgrow1)
                  have hpm : PhM meLetters K base 28 10 35 m L G wr.heap.size r (fun j => mk meLetters r j ++ marksE meLetters (j + m) 64) w w1 k 0 := HP.out.mark hgrow1 hown1
                  have HPM := Lib.hid hpm
                  clear hpm hgrow1 hown1 HP
                  generalize wr.heap.size = M at *
                  go_loopw [13] (fun i wx => ∃ q : Nat, q ≤ 64 ∧ i = .int .i64 (q : Int) ∧ PhM meLetters K base 28 10 35 m L G M r (fun j => mk meLetters r j ++ marksE meLetters (j + m) 64) w wx k q) (fun i _ => 64 - (intOf i).toNat)
                  case atStart => exact ⟨0, Nat.zero_le _, rfl, HPM.out⟩
                  case round =>
                    clear HPM
                    obtain ⟨q, hq, rfl, hp⟩ := hrel
                    rcases Nat.lt_or_ge q 64 with h5 | h5
                    · have q1 : (q : Int) < 64 := by omega
                      have q0 : (0 : Int) ≤ (q : Int) := by omega
                      have HP := Lib.hid hp
                      clear hp
                      go_wp2_with (first
                        | (go_at_call 110; refine (markLetters_any _ _ _).mono ?_; rintro e w2 ⟨rfl, hs2⟩; have hp2 := HP.out.grown (below_grown hs2); obtain ⟨hth, hst⟩ := hp2.step HE.out h5; rw [show ((k + m : Nat) : Int) = (k : Int) + (m : Int) by omega] at hst; have HST := Lib.hid hst; clear hst hp2 hs2)
                        | ((with_reducible refine at_storeL 28 (.tmp 142) (.tmp 141) ?_); refine wpList_store_mid rfl 28 (.tmp 142) (.tmp 141) rfl M (q * 10) #[.int .u8 0, .int .i64 0, .int .i64 0, .int .i64 (markI ((k : Int) + (m : Int)) (q : Int)), .int .i64 0, .int .i64 0, .bool false, .int .i64 0, .int .i64 0, .slice none 0 0] rfl rfl hth sizeLetters (all_oneCell_toArray (cs := [.int .u8 0, .int .i64 0, .int .i64 0, .int .i64 (markI ((k : Int) + (m : Int)) (q : Int)), .int .i64 0, .int .i64 0, .bool false, .int .i64 0, .int .i64 0, .slice none 0 0]) (meLetters_one _ _)) ?_))
                      go_roundw
                      case rel => exact ⟨q + 1, by omega, by go_num, HST.out⟩
                      case measure => simp [intOf]; omega
                    · have hq64 : q = 64 := by omega
                      have q1 : ¬ (q : Int) < 64 := by omega
                      rw [hq64] at hp
                      have hst := hp.g.start h4
                      rw [mk, HR.out] at hst
                      have hst' : PhGi meLetters K base 28 10 35 m L G r (fun j => mk meLetters r j ++ marksE meLetters (j + m) 64) w wr k ⟨A, n, c⟩ (marksE meLetters k n) := hst
                      have hcs := hp.cells
                      have cl : wr.cell? ⟨L, k, none⟩ = some (.slice A n c) := by rw [hst'.l h4, HR.out]; rfl
                      have hsz := hst'.size
                      have HST := Lib.hid hst'; have HCS := Lib.hid hcs
                      clear hp hq64 hst hst' hcs
                      go_wp2_with (at_builtin; refine wpList_append_either _ rfl _ _ 35 rfl base 28 i0 (.agg #[.int .u8 0, .int .i64 0, .int .i64 0, .int .i64 0, .int .i64 0, .int .i64 0, .bool false, .int .i64 0, .int .i64 0, .slice none 0 0]) 10 96 Tryz.underlying35 hi hz0 hz1 hz2 rfl (by omega) ⟨A, n, c⟩ (marksE meLetters k n) rfl HST.out.own ⟨M, 0, none⟩ 64 64 (marksE meLetters (k + m) 64) rfl (marksE_length HE.out _ _) HCS.out (marksE_one meLetters_one _ _) (by omega) (by show n + 64 ≤ _; unfold maxLen; omega) (by show (n + 64) * 96 ≤ _; omega) hsz ?_; intro A2 c2 w3 hG; have hp3 := HST.out.grew h4 hG; obtain ⟨⟨v0, hv0⟩, hf0⟩ := hp3.place h4; have HP3 := Lib.hid hp3; clear hp3 hG)
                      have hp4 := HP3.out.push h4 (by rw [HR.out]) (by show _ = mk meLetters r k ++ _; rw [mk, HR.out])
                      have HP4 := Lib.hid hp4
                      clear hp4
                      go_roundw
                      case rel => exact ⟨k + 1, by omega, by go_num, HP4.out⟩
                      case measure => simp [intOf]; omega
                · have hkm : k = m := by omega
                  have i1 : ¬ (k : Int) < (m : Int) := by omega
                  rw [hkm] at hp
                  have HP := Lib.hid hp
                  clear hp hkm
                  go_wp2
                  go_loopw [14, 15] (fun i _ wz => ∃ k : Nat, k ≤ m ∧ i = .int .i64 (k : Int) ∧ PhG meLetters K base 28 10 35 m L G r (fun j => mk meLetters r j ++ marksE meLetters (j + m) 64) w wz m) (fun i _ _ => m - (intOf i).toNat)
                  case atStart => exact ⟨0, Nat.zero_le _, rfl, HP.out⟩
                  case round =>
                    clear HP
                    obtain ⟨k, hk, rfl, hp⟩ := hrel
                    have HP := Lib.hid hp
                    clear hp
                    rcases Nat.lt_or_ge k m with h5 | h5
                    · have i1 : (k : Int) < (m : Int) := by omega
                      have k0 : (0 : Int) ≤ (k : Int) := by omega
                      obtain ⟨A, n, c, hr⟩ : ∃ A n c, r k = ⟨A, n, c⟩ := ⟨_, _, _, rfl⟩
                      have hnk : n ≤ 100000000 := by have := HN.out k h5; rw [hr] at this; exact this
                      have HR := Lib.hid hr
                      clear hr
                      go_wp2
                      go_loopw [15] (fun i wz => ∃ p : Nat, p ≤ n ∧ i = .int .i64 (p : Int) ∧ PhG meLetters K base 28 10 35 m L G r (fun j => mk meLetters r j ++ marksE meLetters (j + m) 64) w wz m) (fun i _ => n - (intOf i).toNat)
                      case atStart => exact ⟨0, Nat.zero_le _, rfl, HP.out⟩
                      case round =>
                        clear HP
                        obtain ⟨p, hp, rfl, hpg⟩ := hrel
                        have HP := Lib.hid hpg
                        have p0 : (0 : Int) ≤ (p : Int) := by omega
                        obtain ⟨cl0, hlx⟩ := hpg.lcell HE.out h5
                        obtain ⟨A2, c2, cg0, hgx⟩ := hpg.gcell h5 (Nat.le_refl _)
                        rw [HR.out] at cl0 hlx cg0 hgx
                        obtain ⟨N, hN⟩ : ∃ N, N = n + 64 := ⟨_, rfl⟩
                        have cl : wr.cell? ⟨L, k, none⟩ = some (.slice A n c) := cl0
                        have cg : wr.cell? ⟨G, k, none⟩ = some (.slice A2 N c2) := by rw [hN]; exact cg0
                        have hN3 : n + 64 ≤ N := by omega
                        clear cl0 cg0 hpg hN
                        rcases Nat.lt_or_ge p n with h6 | h6
                        · have p1 : (p : Int) < (n : Int) := by omega
                          have p2 : (p : Int) < (N : Int) := by omega
                          obtain ⟨gg, hA2, hrg⟩ := hgx p (meLetters k p) (by show p < n + 64; omega) (by rw [mk, HR.out]; exact marksE_left HE.out h6 _) (HE.out _ _)
                          obtain rfl : A2 = some ⟨gg, 0, none⟩ := hA2
                          have HRG := Lib.hid (range_regrown (show wr.rangeAt gg (p * 10) (meLetters (k : Int) (p : Int)) from hrg))
                          obtain ⟨gl, hgl, hrl⟩ := hlx p h6
                          obtain rfl : A = some ⟨gl, 0, none⟩ := hgl
                          have HRL := Lib.hid (range_regrown (show wr.rangeAt gl (p * 10) (meLetters (k : Int) (p : Int)) from hrl))
                          clear hlx hgx hrg hrl
                          go_upto_region 41 with fail
                          have rcg := cell_regrown cg
                          have rcl := cell_regrown cl
                          clear cg cl
                          refine WQ.region (by kernel_rfl) (by kernel_rfl) ?_
                          repeat (first | (refine @WQ.load _ _ _ _ _ _ _ (by simp [Region.wanted, yielded]) 28 _ rfl gg (p * 10) rfl (meLetters (k : Int) (p : Int)) _ HRG.out Tryz.underlying28 rfl sizeLetters ?_; simp only [Act.put, meLetters, List.setIfInBounds_toArray, List.set_cons_zero, List.set_cons_succ]) | (refine @WQ.load _ _ _ _ _ _ _ (by simp [Region.wanted, yielded]) 28 _ rfl gl (p * 10) rfl (meLetters (k : Int) (p : Int)) _ HRL.out Tryz.underlying28 rfl sizeLetters ?_; simp only [Act.put, meLetters, List.setIfInBounds_toArray, List.set_cons_zero, List.set_cons_succ]) | (refine @WQ.step _ _ _ _ _ _ _ ?_; intro K hK; go_simp; first | (refine hK _ ?_; clear hK K) | (apply Exists.intro; refine ⟨fun _ => ?_, hK _ ?_⟩; (first | (with_reducible exact Calls.regrown_of (markLetters_any _ _ _)) | (with_reducible exact Calls.regrown_of (sameLetters_any _ _ _))); clear hK K)))
                          refine WQ.nil ?_
                          intro _ hw'
                          obtain ⟨⟨dq, osq⟩, hw''⟩ := hw'
                          subst hw''
                          have HS := Lib.hid (below_regrown wr dq osq)
                          clear rcg rcl
                          have HP3 := Lib.hid (HP.out.grown (below_grown HS.out))
                          go_wp2_with fail
                          go_roundw
                          case rel => exact ⟨p + 1, by omega, by go_num, HP3.out⟩
                          case measure => simp [intOf]; omega
                        · have p1 : ¬ (p : Int) < (n : Int) := by omega
                          clear hlx hgx
                          go_wp2
                          go_roundw
                          case rel => exact ⟨k + 1, by omega, by go_num, HP.out⟩
                          case measure => simp [intOf]; omega
                    · have i1 : ¬ (k : Int) < (m : Int) := by omega
                      go_wp2
                      go_ret
                      exact ⟨rfl, HP.out.below, HP.out.kept⟩
end Go.Proofs.YtdmpphioflcofaaGreat.K.G
