/- The contract of barbicankit.flatBundles: rows that lie apart are told to. -/
import Derived.Test.YtidcfjmibljkeaaGreatDoorBqFlatG
import Derived.Test.YtidcfjmibljkeaaGreatDoorBq9
import Derived.Deep.RegionHeld3
import Derived.Lib.QuietBelow
namespace Go.Proofs.YtidcfjmibljkeaaGreatDoor.K.G
open Go Go.RowKit

theorem infoBundles : (Tryz.prog.info? 26).map (fun i => (i.zero, i.size, i.bytes)) = some (some (.agg #[.int .i64 0, .slice none 0 0, .slice none 0 0, .slice none 0 0]), 4, 80) := by kernel_rfl
theorem sizeBundles : (Tryz.prog.info? 26).map (·.size) = some 4 := by kernel_rfl
theorem infoLBundles : (Tryz.prog.info? 34).map (fun i => (i.zero, i.size, i.bytes)) = some (some (.slice none 0 0), 1, 24) := by kernel_rfl
def meBundles (k i : Int) : List Value := [.int .i64 (markI k i), .slice none 0 0, .slice none 0 0, .slice none 0 0]
theorem meBundles_length (k i : Int) : (meBundles k i).length = 4 := rfl
theorem meBundles_one (k i : Int) : ∀ u ∈ meBundles k i, u.oneCell' = true := by
  intro u hu
  simp only [meBundles, List.mem_cons, List.mem_nil_iff, or_false] at hu
  rcases hu with rfl | rfl | rfl | rfl <;> rfl
set_option maxHeartbeats 4000000 in
set_option maxRecDepth 100000 in
theorem markBundles_any (k i : Int) (w : World) : Calls Tryz.prog 121 #[.int .i64 k, .int .i64 i] w fun e w' => e = .returned (.agg #[.int .i64 (markI k i), .slice none 0 0, .slice none 0 0, .slice none 0 0]) ∧ Since w w' := by
  have BK0 := Lib.hid ((Bank.nil (Below.refl w.heap.size w)).box zeroV.toArray 26 (by decide))
  go_enter Tryz.func121, Tryz.ntmps121
  go_wp2_with fail
  generalize hw1 : w.alloc (.cells #[.int .i64 0, .slice none 0 0, .slice none 0 0, .slice none 0 0] 26) = w1 at *
  have BK1 := Lib.hid (show Bank w w1 [boxAcc w.heap.size 26 zeroV] from by rw [← hw1]; exact BK0.out)
  clear hw1 BK0
  refine (mark_any k i _).mono ?_
  rintro e w' ⟨rfl, rfl⟩
  have HRES := Lib.hid (BK1.out.boxAt 0 rfl).2
  have HS := Lib.hid (BK1.out.boxRow 0 rfl (bunL (markI k i) none 0 0 none 0 0 none 0 0) rfl (by decide)).since
  go_wp2_with (with_reducible refine wpList_store_row rfl 26 (.tmp 4) (.tmp 8) rfl w.heap.size (bunL (markI k i) none 0 0 none 0 0 none 0 0).toArray rfl rfl 26 _ HRES.out (infoBunL (markI k i) none 0 0 none 0 0 none 0 0) rfl (bunL_one _ _ _ _ _ _ _ _ _ _) ?_)
  refine bodyPost_ret (v := .agg (bunL (markI k i) none 0 0 none 0 0 none 0 0).toArray) ?_ rfl ⟨rfl, HS.out⟩
  exact results_cell_one rfl _ _ w.heap.size _ rfl (load_bun _ _ _ _ _ _ _ _ _ _ (setRow_heap _ _ _ _ _ _ HRES.out))
theorem sameBundles_any (k i : Int) (w : World) : Calls Tryz.prog 11 #[.agg #[.int .i64 (markI k i), .slice none 0 0, .slice none 0 0, .slice none 0 0], .agg #[.int .i64 (markI k i), .slice none 0 0, .slice none 0 0, .slice none 0 0]] w fun e w' => e = .returned (.bool true) ∧ Since w w' :=
  SameBundle_eq ⟨markI k i, [], [], []⟩ none 0 0 none 0 0 none 0 0 none 0 0 none 0 0 none 0 0 w ⟨⟨Rd.of_nil _ _, rfl, fun _ => rfl⟩, ⟨Rd.of_nil _ _, rfl, fun _ => rfl⟩, ⟨Rd.of_nil _ _, rfl, fun _ => rfl⟩⟩ ⟨⟨Rd.of_nil _ _, rfl, fun _ => rfl⟩, ⟨Rd.of_nil _ _, rfl, fun _ => rfl⟩, ⟨Rd.of_nil _ _, rfl, fun _ => rfl⟩⟩ (by omega) (by omega) (by omega)
theorem keep1 {w w1 : World} {a0 : Addr} {v0 : Value} (h : w.cell? a0 = some v0) (hs : Since w w1) : w1.cell? a0 = some v0 := (hs.cell (block_lt_of_cell h)).trans h
theorem keep6 {w w1 : World} {a0 : Addr} {v0 : Value} {a1 : Addr} {v1 : Value} {a2 : Addr} {v2 : Value} {a3 : Addr} {v3 : Value} {a4 : Addr} {v4 : Value} {a5 : Addr} {v5 : Value} (h : w.cell? a0 = some v0 ∧ w.cell? a1 = some v1 ∧ w.cell? a2 = some v2 ∧ w.cell? a3 = some v3 ∧ w.cell? a4 = some v4 ∧ w.cell? a5 = some v5) (hs : Since w w1) : w1.cell? a0 = some v0 ∧ w1.cell? a1 = some v1 ∧ w1.cell? a2 = some v2 ∧ w1.cell? a3 = some v3 ∧ w1.cell? a4 = some v4 ∧ w1.cell? a5 = some v5 := by
  obtain ⟨h0, h1, h2, h3, h4, h5⟩ := h
  exact ⟨(hs.cell (block_lt_of_cell h0)).trans h0, (hs.cell (block_lt_of_cell h1)).trans h1, (hs.cell (block_lt_of_cell h2)).trans h2, (hs.cell (block_lt_of_cell h3)).trans h3, (hs.cell (block_lt_of_cell h4)).trans h4, (hs.cell (block_lt_of_cell h5)).trans h5⟩
theorem keep10 {w w1 : World} {a0 : Addr} {v0 : Value} {a1 : Addr} {v1 : Value} {a2 : Addr} {v2 : Value} {a3 : Addr} {v3 : Value} {a4 : Addr} {v4 : Value} {a5 : Addr} {v5 : Value} {a6 : Addr} {v6 : Value} {a7 : Addr} {v7 : Value} {a8 : Addr} {v8 : Value} {a9 : Addr} {v9 : Value} (h : w.cell? a0 = some v0 ∧ w.cell? a1 = some v1 ∧ w.cell? a2 = some v2 ∧ w.cell? a3 = some v3 ∧ w.cell? a4 = some v4 ∧ w.cell? a5 = some v5 ∧ w.cell? a6 = some v6 ∧ w.cell? a7 = some v7 ∧ w.cell? a8 = some v8 ∧ w.cell? a9 = some v9) (hs : Since w w1) : w1.cell? a0 = some v0 ∧ w1.cell? a1 = some v1 ∧ w1.cell? a2 = some v2 ∧ w1.cell? a3 = some v3 ∧ w1.cell? a4 = some v4 ∧ w1.cell? a5 = some v5 ∧ w1.cell? a6 = some v6 ∧ w1.cell? a7 = some v7 ∧ w1.cell? a8 = some v8 ∧ w1.cell? a9 = some v9 := by
  obtain ⟨h0, h1, h2, h3, h4, h5, h6, h7, h8, h9⟩ := h
  exact ⟨(hs.cell (block_lt_of_cell h0)).trans h0, (hs.cell (block_lt_of_cell h1)).trans h1, (hs.cell (block_lt_of_cell h2)).trans h2, (hs.cell (block_lt_of_cell h3)).trans h3, (hs.cell (block_lt_of_cell h4)).trans h4, (hs.cell (block_lt_of_cell h5)).trans h5, (hs.cell (block_lt_of_cell h6)).trans h6, (hs.cell (block_lt_of_cell h7)).trans h7, (hs.cell (block_lt_of_cell h8)).trans h8, (hs.cell (block_lt_of_cell h9)).trans h9⟩
theorem cells_lit (w : World) (vs : List Value) (t : TypeId) : ∀ j u, vs[j]? = some u → (w.alloc (.cells vs.toArray t)).cell? ((⟨w.heap.size, 0, none⟩ : Addr).add j) = some u := fun j u hu => by
  rw [Addr.add_lit, Nat.zero_add]
  exact block_cell (heap_alloc_new w _) hu
set_option maxHeartbeats 16000000 in
set_option maxRecDepth 100000 in
theorem flatBundles_any (K : Nat → Prop) (L m cL : Nat) (r : Nat → Rw) (f : Nat → List Value) (base : Nat) (w : World) (S : Sit w base 26 4 m K r f 0 r0 F0) (hL : ∀ j, j < m → w.cell? ⟨L, j, none⟩ = some (r j).v)
    (hm : m ≤ 1000000) (hn : ∀ j, j < m → (r j).n ≤ 100000000) (hbase : base ≤ w.heap.size) (hK : K L) :
    Calls Tryz.prog 86 #[.slice (some ⟨L, 0, none⟩) m cL] w fun e w' => e = .returned (.bool true) ∧ Below base w w' ∧ ∀ b, K b → w'.heap[b]? = w.heap[b]? := by
  obtain ⟨i0, hi, hz0, hz1, hz2⟩ := info_parts infoBundles
  obtain ⟨j0, hj0, hy0, hy1, hy2⟩ := info_parts infoLBundles
  have hE : ∀ k i, (meBundles k i).length = 4 := meBundles_length
  have hp1 : Ph1 meBundles K base 26 4 m L r w w 0 := ⟨f, S, fun j hj => absurd hj (Nat.not_lt_zero _), hL, (Below.refl _ _).mono hbase, hbase, hK, fun _ _ => rfl⟩
  have HP1 := Lib.hid hp1; have HN := Lib.hid hn; have HE := Lib.hid hE
  clear S hL hn hp1 hK hE
  go_enter Tryz.func86, Tryz.ntmps86
  go_wp2
  go_loopw [3, 4] (fun i _ wr => ∃ k : Nat, k ≤ m ∧ i = .int .i64 (k : Int) ∧ Ph1 meBundles K base 26 4 m L r w wr k) (fun i _ _ => m - (intOf i).toNat)
  case atStart => exact ⟨0, Nat.zero_le _, rfl, HP1.out⟩
  case round =>
    clear HP1
    obtain ⟨k, hk, rfl, hp⟩ := hrel
    rcases Nat.lt_or_ge k m with h1 | h1
    · have i1 : (k : Int) < (m : Int) := by omega
      have k0 : (0 : Int) ≤ (k : Int) := by omega
      obtain ⟨A, n, c, hr⟩ : ∃ A n c, r k = ⟨A, n, c⟩ := ⟨_, _, _, rfl⟩
      have hnk : n ≤ 100000000 := by have := HN.out k h1; rw [hr] at this; exact this
      have HR := Lib.hid hr; have HP := Lib.hid hp.start
      clear hr hp
      go_wp2
      go_loopw [4] (fun i wx => ∃ q : Nat, q ≤ n ∧ i = .int .i64 (q : Int) ∧ Ph1i meBundles K base 26 4 m L r w wx k q) (fun i _ => n - (intOf i).toNat)
      case atStart => exact ⟨0, Nat.zero_le _, rfl, HP.out⟩
      case round =>
        clear HP
        obtain ⟨q, hq, rfl, hp⟩ := hrel
        have q0 : (0 : Int) ≤ (q : Int) := by omega
        have cl : wr.cell? ⟨L, k, none⟩ = some (.slice A n c) := by
          obtain ⟨_, _, _, _, h4, _⟩ := hp
          rw [h4 k h1, HR.out]; rfl
        rcases Nat.lt_or_ge q n with h2 | h2
        · have q1 : (q : Int) < (n : Int) := by omega
          have HP := Lib.hid hp
          obtain ⟨g, hA, _, _⟩ := hp.step HE.out h1 (i := q) (by rw [HR.out]; exact h2)
          rw [HR.out] at hA
          obtain rfl : A = some ⟨g, 0, none⟩ := hA
          clear hp
          have HCL := Lib.hid cl
          go_upto_region 7 with fail
          have HS := Lib.hid (Since.drew (Below.refl wr.heap.size wr))
          go_region_held3 (fun w9 => w9.cell? ⟨L, k, none⟩ = some (.slice (some ⟨g, 0, none⟩) n c)) (first | exact (keep1 HCL.out HS.out) | exact HK3.out)
            (first | (go_simp; go_at_call 121; refine (markBundles_any _ _ _).mono ?_; rintro e w3 ⟨rfl, hs3⟩; have HS := Lib.hid (Since.add HS.out hs3); have hp3 := HP.out.grown (below_grown HS.out); obtain ⟨g', hA', hth, hst⟩ := hp3.step HE.out h1 (i := q) (by rw [HR.out]; exact h2); (have hgg : g = g' := by (rw [HR.out] at hA'; simp at hA'; exact hA')); subst hgg; obtain ⟨v0, hc0⟩ := Option.isSome_iff_exists.1 (hth 0 (by omega)).1; have hf0 := (hth 0 (by omega)).2; obtain ⟨v1, hc1⟩ := Option.isSome_iff_exists.1 (hth 1 (by omega)).1; have hf1 := (hth 1 (by omega)).2; obtain ⟨v2, hc2⟩ := Option.isSome_iff_exists.1 (hth 2 (by omega)).1; have hf2 := (hth 2 (by omega)).2; obtain ⟨v3, hc3⟩ := Option.isSome_iff_exists.1 (hth 3 (by omega)).1; have hf3 := (hth 3 (by omega)).2; try simp only [Nat.add_zero] at hc0 hf0; (have HK3 := Lib.hid (show (w3.setCells g (q * 4) [.int .i64 (markI (k : Int) (q : Int)), .slice none 0 0, .slice none 0 0, .slice none 0 0]).cell? ⟨L, k, none⟩ = some (.slice (some ⟨g, 0, none⟩) n c) from by (obtain ⟨_, _, _, _, h4, _⟩ := hst; exact (h4 k h1).trans (by rw [HR.out]; rfl)))); have HST := Lib.hid hst; clear hs3 hp3 hA' hth hst))
          go_wp2_with fail
          go_roundw
          case rel => exact ⟨q + 1, by omega, by go_num, HST.out⟩
          case measure => simp [intOf]; omega
        · have hqn : q = n := by omega
          have q1 : ¬ (q : Int) < (n : Int) := by omega
          have hd : Ph1 meBundles K base 26 4 m L r w wr (k + 1) := by
            rw [hqn] at hp
            exact Ph1i.done (by rw [HR.out]; exact hp) h1
          have HD := Lib.hid hd
          clear hp hqn hd
          go_wp2
          go_roundw
          case rel => exact ⟨k + 1, by omega, by go_num, HD.out⟩
          case measure => simp [intOf]; omega
    · have hkm : k = m := by omega
      have i1 : ¬ (k : Int) < (m : Int) := by omega
      rw [hkm] at hp
      have HP := Lib.hid hp
      clear hp hkm
      go_wp2_with (at_make; refine wpList_make_full _ rfl _ _ 35 rfl wr.heap.size 34 j0 (.slice none 0 0) 1 Tryz.underlying35 hj0 hy0 hy1 _ _ _ _ m rfl rfl rfl rfl (by rw [hy2]; omega) (by unfold maxLen; omega) (Nat.le_refl _) ?_; intro w1 hown1 hgrow1)
      have hp2 : PhG meBundles K base 26 4 34 m L wr.heap.size r (fun j => marksE meBundles j ((r j).n + 64)) w w1 0 := HP.out.made hgrow1 hown1
      have HP2 := Lib.hid hp2
      clear hp2 HP hgrow1 hown1
      generalize wr.heap.size = G at *
      go_loopw [6, 7, 8] (fun i _ _ wy => ∃ k : Nat, k ≤ m ∧ i = .int .i64 (k : Int) ∧ PhG meBundles K base 26 4 34 m L G r (fun j => marksE meBundles j ((r j).n + 64)) w wy k) (fun i _ _ _ => m - (intOf i).toNat)
      case atStart => exact ⟨0, Nat.zero_le _, rfl, HP2.out⟩
      case round =>
        clear HP2
        obtain ⟨k, hk, rfl, hp⟩ := hrel
        rcases Nat.lt_or_ge k m with h2 | h2
        · have i1 : (k : Int) < (m : Int) := by omega
          have k0 : (0 : Int) ≤ (k : Int) := by omega
          obtain ⟨A, n, c, hr⟩ : ∃ A n c, r k = ⟨A, n, c⟩ := ⟨_, _, _, rfl⟩
          have hnk : n ≤ 100000000 := by have := HN.out k h2; rw [hr] at this; exact this
          have cl : wr.cell? ⟨L, k, none⟩ = some (.slice A n c) := by rw [(hp.lcell HE.out h2).1, hr]; rfl
          have hp1 : PhGi meBundles K base 26 4 34 m L G r (fun j => marksE meBundles j ((r j).n + 64)) w wr k ⟨A, n, c⟩ (marksE meBundles k n) := by
            have := hp.start h2
            rw [mk, hr] at this; exact this
          have HR := Lib.hid hr; have HP1 := Lib.hid hp1
          clear hr hp hp1
          go_wp2
          clear cl
          go_loopw [7, 8] (fun g i wz => ∃ (q N c' : Nat) (A' : Option Addr), q ≤ 64 ∧ i = .int .i64 (q : Int) ∧ g = .slice A' N c' ∧ N = n + q ∧ PhGi meBundles K base 26 4 34 m L G r (fun j => marksE meBundles j ((r j).n + 64)) w wz k ⟨A', N, c'⟩ (marksE meBundles k N)) (fun _ i _ => 64 - (intOf i).toNat)
          case atStart => exact ⟨0, n, c, A, by omega, rfl, rfl, rfl, HP1.out⟩
          case round =>
            clear HP1
            obtain ⟨q, N, c', A', hq, rfl, rfl, hNq, hp⟩ := hrel
            have hN2 : N ≤ n + 64 := by omega
            have HNQ := Lib.hid hNq
            clear hNq
            rcases Nat.lt_or_ge q 64 with h3 | h3
            · have q1 : (q : Int) < 64 := by omega
              have q0 : (0 : Int) ≤ (q : Int) := by omega
              have cl : wr.cell? ⟨L, k, none⟩ = some (.slice A n c) := by rw [hp.l h2, HR.out]; rfl
              have HP := Lib.hid hp
              have hsz := hp.size
              clear hp
              go_wp2_with (first
                | (go_at_call 121; refine (markBundles_any _ _ _).mono ?_; rintro e w2 ⟨rfl, hs2⟩; have hp2 := HP.out.grown (below_grown hs2); have HP2 := Lib.hid hp2; have hsz2 := hp2.size; clear hp2 hs2)
                | (at_builtin; refine wpList_append_either _ rfl _ _ 34 rfl base 26 i0 (.agg #[.int .i64 0, .slice none 0 0, .slice none 0 0, .slice none 0 0]) 4 80 Tryz.underlying34 hi hz0 hz1 hz2 rfl (by omega) ⟨A', N, c'⟩ (marksE meBundles k N) rfl (HP2.out.alloc _).own ⟨w2.heap.size, 0, none⟩ 1 1 (meBundles (k : Int) ((n : Int) + (q : Int))) rfl rfl (cells_lit _ _ _) (meBundles_one _ _) (by omega) (by show N + 1 ≤ _; unfold maxLen; omega) (by show (N + 1) * 80 ≤ _; omega) (by simp; omega) ?_; intro A2 c2 w3 hG))
              have hp3 := (HP2.out.alloc _).grew h2 hG
              have HP3 := Lib.hid hp3
              clear hp3 hG cl
              go_roundw
              case rel =>
                refine ⟨q + 1, N + 1, c2, A2, by omega, by go_num, rfl, by have := HNQ.out; omega, ?_⟩
                rw [marksE_succ, show ((N : Nat) : Int) = (n : Int) + (q : Int) by have := HNQ.out; omega]
                exact HP3.out
              case measure => simp [intOf]; omega
            · have hq64 : q = 64 := by omega
              have q1 : ¬ (q : Int) < 64 := by omega
              obtain ⟨⟨v0, hv0⟩, hf0⟩ := hp.place h2
              have hp4 := hp.push h2 (by rw [HR.out]; show N = n + 64; have := HNQ.out; omega) (by show marksE meBundles k N = marksE meBundles k ((r k).n + 64); rw [HR.out]; show marksE meBundles k N = marksE meBundles k (n + 64); rw [HNQ.out, hq64])
              have HP4 := Lib.hid hp4
              clear hp hp4 hq64
              go_wp2
              go_roundw
              case rel => exact ⟨k + 1, by omega, by go_num, HP4.out⟩
              case measure => simp [intOf]; omega
        · have hkm : k = m := by omega
          have i1 : ¬ (k : Int) < (m : Int) := by omega
          rw [hkm] at hp
          have HP := Lib.hid hp
          clear hp hkm
          go_wp2
          go_loopw [9, 10] (fun i _ wz => ∃ k : Nat, k ≤ m ∧ i = .int .i64 (k : Int) ∧ PhG meBundles K base 26 4 34 m L G r (fun j => marksE meBundles j ((r j).n + 64)) w wz m) (fun i _ _ => m - (intOf i).toNat)
          case atStart => exact ⟨0, Nat.zero_le _, rfl, HP.out⟩
          case round =>
            clear HP
            obtain ⟨k, hk, rfl, hp⟩ := hrel
            have HP := Lib.hid hp
            clear hp
            rcases Nat.lt_or_ge k m with h3 | h3
            · have i1 : (k : Int) < (m : Int) := by omega
              have k0 : (0 : Int) ≤ (k : Int) := by omega
              obtain ⟨A, n, c, hr⟩ : ∃ A n c, r k = ⟨A, n, c⟩ := ⟨_, _, _, rfl⟩
              have hnk : n ≤ 100000000 := by have := HN.out k h3; rw [hr] at this; exact this
              have HR := Lib.hid hr
              obtain ⟨A2, c2, cg, hgx⟩ := HP.out.gcell h3 (Nat.le_refl _)
              rw [hr] at cg
              obtain ⟨N, hN⟩ : ∃ N, N = n + 64 := ⟨_, rfl⟩
              have hN2 : N ≤ n + 64 := by omega
              have hN3 : n + 64 ≤ N := by omega
              clear hr hgx cg A2 c2 hN
              go_wp2
              go_loopw [10] (fun i wz => ∃ p : Nat, p ≤ N ∧ i = .int .i64 (p : Int) ∧ PhG meBundles K base 26 4 34 m L G r (fun j => marksE meBundles j ((r j).n + 64)) w wz m) (fun i _ => N - (intOf i).toNat)
              case atStart => exact ⟨0, Nat.zero_le _, rfl, HP.out⟩
              case round =>
                clear HP
                obtain ⟨p, hp, rfl, hpg⟩ := hrel
                have HP := Lib.hid hpg
                have p0 : (0 : Int) ≤ (p : Int) := by omega
                obtain ⟨cl0, hlx⟩ := hpg.lcell HE.out h3
                obtain ⟨A2, c2, cg0, hgx⟩ := hpg.gcell h3 (Nat.le_refl _)
                rw [HR.out] at cl0 hlx cg0 hgx
                have cl : wr.cell? ⟨L, k, none⟩ = some (.slice A n c) := cl0
                have cg : wr.cell? ⟨G, k, none⟩ = some (.slice A2 N c2) := by rw [show N = n + 64 by omega]; exact cg0
                clear cl0 cg0 hpg
                rcases Nat.lt_or_ge p N with h4 | h4
                · have p1 : (p : Int) < (N : Int) := by omega
                  obtain ⟨gg, hA2, hrg⟩ := hgx p (meBundles k p) (by show p < n + 64; omega) (marksE_at HE.out (by show p < n + 64; omega)) (HE.out _ _)
                  obtain rfl : A2 = some ⟨gg, 0, none⟩ := hA2
                  have cg0 : wr.cell? ⟨gg, p * 4, none⟩ = some (.int .i64 (markI (k : Int) (p : Int))) := hrg 0 _ rfl
                  have cg1 : wr.cell? ⟨gg, p * 4 + 1, none⟩ = some (.slice none 0 0) := hrg 1 _ rfl
                  have cg2 : wr.cell? ⟨gg, p * 4 + 2, none⟩ = some (.slice none 0 0) := hrg 2 _ rfl
                  have cg3 : wr.cell? ⟨gg, p * 4 + 3, none⟩ = some (.slice none 0 0) := hrg 3 _ rfl
                  rcases Nat.lt_or_ge p n with h5 | h5
                  · have p2 : (p : Int) < (n : Int) := by omega
                    have d1 : decide ((p : Int) < (n : Int)) = true := by simpa using p2
                    have d2 : decide (p < n) = true := by simpa using h5
                    obtain ⟨gl, hgl, hrl⟩ := hlx p h5
                    obtain rfl : A = some ⟨gl, 0, none⟩ := hgl
                    have ce0 : wr.cell? ⟨gl, p * 4, none⟩ = some (.int .i64 (markI (k : Int) (p : Int))) := hrl 0 _ rfl
                    have ce1 : wr.cell? ⟨gl, p * 4 + 1, none⟩ = some (.slice none 0 0) := hrl 1 _ rfl
                    have ce2 : wr.cell? ⟨gl, p * 4 + 2, none⟩ = some (.slice none 0 0) := hrl 2 _ rfl
                    have ce3 : wr.cell? ⟨gl, p * 4 + 3, none⟩ = some (.slice none 0 0) := hrl 3 _ rfl
                    clear hlx hgx hrg hrl
                    go_upto_region 24 with fail
                    have rcg := cell_regrown cg
                    have rcl := cell_regrown cl
                    have rcg0 := cell_regrown cg0
                    have rcg1 := cell_regrown cg1
                    have rcg2 := cell_regrown cg2
                    have rcg3 := cell_regrown cg3
                    have rce0 := cell_regrown ce0
                    have rce1 := cell_regrown ce1
                    have rce2 := cell_regrown ce2
                    have rce3 := cell_regrown ce3
                    clear cg cl cg0 cg1 cg2 cg3 ce0 ce1 ce2 ce3
                    refine wp_region_quiet_below (by kernel_rfl) (by kernel_rfl) ?_
                    repeat (refine @wpQuiet_step _ _ _ _ _ _ _ ?_; intro K hK; go_simp; first | (refine hK _ ?_; clear hK K) | (apply Exists.intro; refine ⟨fun _ => ?_, hK _ ?_⟩; (first | (with_reducible exact Calls.regrown_of (markBundles_any _ _ _)) | (with_reducible exact Calls.regrown_of (sameBundles_any _ _ _))); clear hK K))
                    refine wpQuiet_nil ?_
                    intro _ hw'
                    obtain ⟨⟨dq, osq⟩, hw''⟩ := hw'
                    subst hw''
                    have HS := Lib.hid (below_regrown wr dq osq)
                    clear rcg rcl rcg0 rcg1 rcg2 rcg3 rce0 rce1 rce2 rce3
                    have HP3 := Lib.hid (HP.out.grown (below_grown HS.out))
                    go_wp2_with fail
                    go_roundw
                    case rel => exact ⟨p + 1, by omega, by go_num, HP3.out⟩
                    case measure => simp [intOf]; omega
                  · have p2 : ¬ (p : Int) < (n : Int) := by omega
                    have d1 : decide ((p : Int) < (n : Int)) = false := by simpa using p2
                    have d2 : decide (p < n) = false := by simp; omega
                    clear hlx hgx hrg
                    go_upto_region 24 with fail
                    have rcg := cell_regrown cg
                    have rcl := cell_regrown cl
                    have rcg0 := cell_regrown cg0
                    have rcg1 := cell_regrown cg1
                    have rcg2 := cell_regrown cg2
                    have rcg3 := cell_regrown cg3
                    clear cg cl cg0 cg1 cg2 cg3
                    refine wp_region_quiet_below (by kernel_rfl) (by kernel_rfl) ?_
                    repeat (refine @wpQuiet_step _ _ _ _ _ _ _ ?_; intro K hK; go_simp; first | (refine hK _ ?_; clear hK K) | (apply Exists.intro; refine ⟨fun _ => ?_, hK _ ?_⟩; (first | (with_reducible exact Calls.regrown_of (markBundles_any _ _ _)) | (with_reducible exact Calls.regrown_of (sameBundles_any _ _ _))); clear hK K))
                    refine wpQuiet_nil ?_
                    intro _ hw'
                    obtain ⟨⟨dq, osq⟩, hw''⟩ := hw'
                    subst hw''
                    have HS := Lib.hid (below_regrown wr dq osq)
                    clear rcg rcl rcg0 rcg1 rcg2 rcg3
                    have HP3 := Lib.hid (HP.out.grown (below_grown HS.out))
                    go_wp2_with fail
                    go_roundw
                    case rel => exact ⟨p + 1, by omega, by go_num, HP3.out⟩
                    case measure => simp [intOf]; omega
                · have p1 : ¬ (p : Int) < (N : Int) := by omega
                  clear hlx hgx
                  go_wp2
                  go_roundw
                  case rel => exact ⟨k + 1, by omega, by go_num, HP.out⟩
                  case measure => simp [intOf]; omega
            · have i1 : ¬ (k : Int) < (m : Int) := by omega
              have hp4 := HP.out.zero (fun j => mk meBundles r j ++ marksE meBundles (j + m) 64)
              have HP4 := Lib.hid hp4
              clear hp4 HP
              go_wp2
              go_loopw [11, 12, 13] (fun i _ _ wz => ∃ k : Nat, k ≤ m ∧ i = .int .i64 (k : Int) ∧ PhG meBundles K base 26 4 34 m L G r (fun j => mk meBundles r j ++ marksE meBundles (j + m) 64) w wz k) (fun i _ _ _ => m - (intOf i).toNat)
              case atStart => exact ⟨0, Nat.zero_le _, rfl, HP4.out⟩
              case round =>
                clear HP4
                obtain ⟨k, hk, rfl, hp⟩ := hrel
                rcases Nat.lt_or_ge k m with h4 | h4
                · have i1 : (k : Int) < (m : Int) := by omega
                  have k0 : (0 : Int) ≤ (k : Int) := by omega
                  obtain ⟨A, n, c, hr⟩ : ∃ A n c, r k = ⟨A, n, c⟩ := ⟨_, _, _, rfl⟩
                  have hnk : n ≤ 100000000 := by have := HN.out k h4; rw [hr] at this; exact this
                  have HR := Lib.hid hr; have HP := Lib.hid hp
                  have hwr := hp.below.size
                  clear hr hp
                  go_wp2_with (at_make; refine wpList_make_full _ rfl _ _ 34 rfl wr.heap.size 26 i0 (.agg #[.int .i64 0, .slice none 0 0, .slice none 0 0, .slice none 0 0]) 4 Tryz.underlying34 hi hz0 hz1 _ _ _ _ 64 rfl rfl rfl rfl (by rw [hz2]; omega) (by unfold maxLen; omega) (Nat.le_refl _) ?_; intro w1 hown1 hgrow1)
                  have hpm : PhM meBundles K base 26 4 34 m L G wr.heap.size r (fun j => mk meBundles r j ++ marksE meBundles (j + m) 64) w w1 k 0 := HP.out.mark hgrow1 hown1
                  have HPM := Lib.hid hpm
                  clear hpm hgrow1 hown1 HP
                  generalize wr.heap.size = M at *
                  go_loopw [13] (fun i wx => ∃ q : Nat, q ≤ 64 ∧ i = .int .i64 (q : Int) ∧ PhM meBundles K base 26 4 34 m L G M r (fun j => mk meBundles r j ++ marksE meBundles (j + m) 64) w wx k q) (fun i _ => 64 - (intOf i).toNat)
                  case atStart => exact ⟨0, Nat.zero_le _, rfl, HPM.out⟩
                  case round =>
                    clear HPM
                    obtain ⟨q, hq, rfl, hp⟩ := hrel
                    rcases Nat.lt_or_ge q 64 with h5 | h5
                    · have q1 : (q : Int) < 64 := by omega
                      have q0 : (0 : Int) ≤ (q : Int) := by omega
                      have HP := Lib.hid hp
                      clear hp
                      go_wp2_with (first
                        | (go_at_call 121; refine (markBundles_any _ _ _).mono ?_; rintro e w2 ⟨rfl, hs2⟩; have hp2 := HP.out.grown (below_grown hs2); obtain ⟨hth, hst⟩ := hp2.step HE.out h5; rw [show ((k + m : Nat) : Int) = (k : Int) + (m : Int) by omega] at hst; have HST := Lib.hid hst; clear hst hp2 hs2)
                        | (refine wpList_store_mid rfl 26 (.tmp 142) (.tmp 141) rfl M (q * 4) #[.int .i64 (markI ((k : Int) + (m : Int)) (q : Int)), .slice none 0 0, .slice none 0 0, .slice none 0 0] rfl rfl hth sizeBundles (all_oneCell_toArray (cs := [.int .i64 (markI ((k : Int) + (m : Int)) (q : Int)), .slice none 0 0, .slice none 0 0, .slice none 0 0]) (meBundles_one _ _)) ?_))
                      go_roundw
                      case rel => exact ⟨q + 1, by omega, by go_num, HST.out⟩
                      case measure => simp [intOf]; omega
                    · have hq64 : q = 64 := by omega
                      have q1 : ¬ (q : Int) < 64 := by omega
                      rw [hq64] at hp
                      have hst := hp.g.start h4
                      rw [mk, HR.out] at hst
                      have hst' : PhGi meBundles K base 26 4 34 m L G r (fun j => mk meBundles r j ++ marksE meBundles (j + m) 64) w wr k ⟨A, n, c⟩ (marksE meBundles k n) := hst
                      have hcs := hp.cells
                      have cl : wr.cell? ⟨L, k, none⟩ = some (.slice A n c) := by rw [hst'.l h4, HR.out]; rfl
                      have hsz := hst'.size
                      have HST := Lib.hid hst'; have HCS := Lib.hid hcs
                      clear hp hq64 hst hst' hcs
                      go_wp2_with (at_builtin; refine wpList_append_either _ rfl _ _ 34 rfl base 26 i0 (.agg #[.int .i64 0, .slice none 0 0, .slice none 0 0, .slice none 0 0]) 4 80 Tryz.underlying34 hi hz0 hz1 hz2 rfl (by omega) ⟨A, n, c⟩ (marksE meBundles k n) rfl HST.out.own ⟨M, 0, none⟩ 64 64 (marksE meBundles (k + m) 64) rfl (marksE_length HE.out _ _) HCS.out (marksE_one meBundles_one _ _) (by omega) (by show n + 64 ≤ _; unfold maxLen; omega) (by show (n + 64) * 80 ≤ _; omega) hsz ?_; intro A2 c2 w3 hG; have hp3 := HST.out.grew h4 hG; obtain ⟨⟨v0, hv0⟩, hf0⟩ := hp3.place h4; have HP3 := Lib.hid hp3; clear hp3 hG)
                      have hp4 := HP3.out.push h4 (by rw [HR.out]) (by show _ = mk meBundles r k ++ _; rw [mk, HR.out])
                      have HP4 := Lib.hid hp4
                      clear hp4
                      go_roundw
                      case rel => exact ⟨k + 1, by omega, by go_num, HP4.out⟩
                      case measure => simp [intOf]; omega
                · have hkm : k = m := by omega
                  have i1 : ¬ (k : Int) < (m : Int) := by omega
                  rw [hkm] at hp
                  have HP := Lib.hid hp
                  clear hp hkm
                  go_wp2
                  go_loopw [14, 15] (fun i _ wz => ∃ k : Nat, k ≤ m ∧ i = .int .i64 (k : Int) ∧ PhG meBundles K base 26 4 34 m L G r (fun j => mk meBundles r j ++ marksE meBundles (j + m) 64) w wz m) (fun i _ _ => m - (intOf i).toNat)
                  case atStart => exact ⟨0, Nat.zero_le _, rfl, HP.out⟩
                  case round =>
                    clear HP
                    obtain ⟨k, hk, rfl, hp⟩ := hrel
                    have HP := Lib.hid hp
                    clear hp
                    rcases Nat.lt_or_ge k m with h5 | h5
                    · have i1 : (k : Int) < (m : Int) := by omega
                      have k0 : (0 : Int) ≤ (k : Int) := by omega
                      obtain ⟨A, n, c, hr⟩ : ∃ A n c, r k = ⟨A, n, c⟩ := ⟨_, _, _, rfl⟩
                      have hnk : n ≤ 100000000 := by have := HN.out k h5; rw [hr] at this; exact this
                      have HR := Lib.hid hr
                      clear hr
                      go_wp2
                      go_loopw [15] (fun i wz => ∃ p : Nat, p ≤ n ∧ i = .int .i64 (p : Int) ∧ PhG meBundles K base 26 4 34 m L G r (fun j => mk meBundles r j ++ marksE meBundles (j + m) 64) w wz m) (fun i _ => n - (intOf i).toNat)
                      case atStart => exact ⟨0, Nat.zero_le _, rfl, HP.out⟩
                      case round =>
                        clear HP
                        obtain ⟨p, hp, rfl, hpg⟩ := hrel
                        have HP := Lib.hid hpg
                        have p0 : (0 : Int) ≤ (p : Int) := by omega
                        obtain ⟨cl0, hlx⟩ := hpg.lcell HE.out h5
                        obtain ⟨A2, c2, cg0, hgx⟩ := hpg.gcell h5 (Nat.le_refl _)
                        rw [HR.out] at cl0 hlx cg0 hgx
                        obtain ⟨N, hN⟩ : ∃ N, N = n + 64 := ⟨_, rfl⟩
                        have cl : wr.cell? ⟨L, k, none⟩ = some (.slice A n c) := cl0
                        have cg : wr.cell? ⟨G, k, none⟩ = some (.slice A2 N c2) := by rw [hN]; exact cg0
                        have hN3 : n + 64 ≤ N := by omega
                        clear cl0 cg0 hpg hN
                        rcases Nat.lt_or_ge p n with h6 | h6
                        · have p1 : (p : Int) < (n : Int) := by omega
                          have p2 : (p : Int) < (N : Int) := by omega
                          obtain ⟨gg, hA2, hrg⟩ := hgx p (meBundles k p) (by show p < n + 64; omega) (by rw [mk, HR.out]; exact marksE_left HE.out h6 _) (HE.out _ _)
                          obtain rfl : A2 = some ⟨gg, 0, none⟩ := hA2
                          have cg0 : wr.cell? ⟨gg, p * 4, none⟩ = some (.int .i64 (markI (k : Int) (p : Int))) := hrg 0 _ rfl
                          have cg1 : wr.cell? ⟨gg, p * 4 + 1, none⟩ = some (.slice none 0 0) := hrg 1 _ rfl
                          have cg2 : wr.cell? ⟨gg, p * 4 + 2, none⟩ = some (.slice none 0 0) := hrg 2 _ rfl
                          have cg3 : wr.cell? ⟨gg, p * 4 + 3, none⟩ = some (.slice none 0 0) := hrg 3 _ rfl
                          obtain ⟨gl, hgl, hrl⟩ := hlx p h6
                          obtain rfl : A = some ⟨gl, 0, none⟩ := hgl
                          have ce0 : wr.cell? ⟨gl, p * 4, none⟩ = some (.int .i64 (markI (k : Int) (p : Int))) := hrl 0 _ rfl
                          have ce1 : wr.cell? ⟨gl, p * 4 + 1, none⟩ = some (.slice none 0 0) := hrl 1 _ rfl
                          have ce2 : wr.cell? ⟨gl, p * 4 + 2, none⟩ = some (.slice none 0 0) := hrl 2 _ rfl
                          have ce3 : wr.cell? ⟨gl, p * 4 + 3, none⟩ = some (.slice none 0 0) := hrl 3 _ rfl
                          clear hlx hgx hrg hrl
                          go_upto_region 41 with fail
                          have rcg := cell_regrown cg
                          have rcl := cell_regrown cl
                          have rcg0 := cell_regrown cg0
                          have rcg1 := cell_regrown cg1
                          have rcg2 := cell_regrown cg2
                          have rcg3 := cell_regrown cg3
                          have rce0 := cell_regrown ce0
                          have rce1 := cell_regrown ce1
                          have rce2 := cell_regrown ce2
                          have rce3 := cell_regrown ce3
                          clear cg cl cg0 cg1 cg2 cg3 ce0 ce1 ce2 ce3
                          refine wp_region_quiet_below (by kernel_rfl) (by kernel_rfl) ?_
                          repeat (refine @wpQuiet_step _ _ _ _ _ _ _ ?_; intro K hK; go_simp; first | (refine hK _ ?_; clear hK K) | (apply Exists.intro; refine ⟨fun _ => ?_, hK _ ?_⟩; (first | (with_reducible exact Calls.regrown_of (markBundles_any _ _ _)) | (with_reducible exact Calls.regrown_of (sameBundles_any _ _ _))); clear hK K))
                          refine wpQuiet_nil ?_
                          intro _ hw'
                          obtain ⟨⟨dq, osq⟩, hw''⟩ := hw'
                          subst hw''
                          have HS := Lib.hid (below_regrown wr dq osq)
                          clear rcg rcl rcg0 rcg1 rcg2 rcg3 rce0 rce1 rce2 rce3
                          have HP3 := Lib.hid (HP.out.grown (below_grown HS.out))
                          go_wp2_with fail
                          go_roundw
                          case rel => exact ⟨p + 1, by omega, by go_num, HP3.out⟩
                          case measure => simp [intOf]; omega
                        · have p1 : ¬ (p : Int) < (n : Int) := by omega
                          clear hlx hgx
                          go_wp2
                          go_roundw
                          case rel => exact ⟨k + 1, by omega, by go_num, HP.out⟩
                          case measure => simp [intOf]; omega
                    · have i1 : ¬ (k : Int) < (m : Int) := by omega
                      go_wp2
                      go_ret
                      exact ⟨rfl, HP.out.below, HP.out.kept⟩
end Go.Proofs.YtidcfjmibljkeaaGreatDoor.K.G
