/- The law WireReads as a function: it answers true. -/
import Derived.Test.YtjnhfmicadcmnaaWireRdS
import Derived.Test.YtjnhfmicadcmnaaOpen
namespace Go.Proofs.Ytjnhfmicadcmnaa.K
open Go Go.RowKit

/-- what holds at each round's head -/
def RdRel (w0 : World) (P R : Nat) (A0 Bd : Option Addr) (n cB : Nat) (bs : List (BitVec 8)) (v i : Value) (wr : World) : Prop :=
  ∃ (k : Nat) (s : M.Rdr) (l : List RB), k ≤ 300 ∧ i = .int .i64 (k : Int) ∧ l.length ≤ k ∧ WR w0 wr P R s s A0 Bd n cB bs (toldAcc v l :: l.reverse.map accOf) ∧ rlen s ≤ 20000 ∧ ∀ x ∈ l, x.1.n ≤ 20000
theorem pick3 (z : Int) : pick z 3 = 0 ∨ pick z 3 = 1 ∨ pick z 3 = 2 := by
  have h1 := pick_lo z 3 (by omega)
  have h2 := pick_hi z 3 (by omega)
  omega
theorem told_form {w0 w : World} {P R : Nat} {sp sr : M.Rdr} {A0 Bd : Option Addr} {n cB : Nat} {bs : List (BitVec 8)} {v : Value} {l : List RB} {L : List Acc} (h : WR w0 w P R sp sr A0 Bd n cB bs (toldAcc v l :: L)) : ∃ S cS, v = .slice S l.length cS := by
  have ho := h.bank.at 0 rfl
  rcases ho.2 with ⟨h0, h2⟩ | ⟨g, cp, cur, h2, _⟩
  · exact ⟨_, _, by rw [show l.length = 0 from h2]; exact h0⟩
  · exact ⟨_, _, h2⟩
theorem snoc_le {l : List RB} {x : RB} (h : ∀ y ∈ l, y.1.n ≤ 20000) (hx : x.1.n ≤ 20000) : ∀ y ∈ l ++ [x], y.1.n ≤ 20000 := fun y hy => by
  rcases List.mem_append.1 hy with hy | hy
  · exact h y hy
  · rw [List.mem_singleton.1 hy]; exact hx

set_option maxHeartbeats 4000000 in
set_option maxRecDepth 100000 in
theorem wreads_any (A : Option Addr) (n c : Nat) (bs : List (BitVec 8)) (O : Option Addr) (mo co : Nat) (w : World) (hb : RowRd w ⟨A, n, c⟩ bs) (hO : Nums w O mo) (hn : n ≤ 9223372036854775807) (hmo : mo ≤ 9223372036854775807) :
    Calls Try.prog 4 #[.slice A n c, .slice O mo co] w fun e w' => e = .returned (.bool true) ∧ Below w.heap.size w w' := by
  have HB := Lib.hid hb; have HNU := Lib.hid hO
  clear hb hO
  by_cases hbig : 20000 < n
  · have e1 : (20000 : Int) < (n : Int) := by omega
    go_enter Try.func4, Try.ntmps4
    go_wp2_with fail
    refine (awake_any _).mono ?_
    rintro e w1 ⟨rfl, hb⟩
    have SZ := Lib.hid hb
    clear hb
    go_wp2
    go_ret
    exact ⟨rfl, SZ.out⟩
  · have e1 : ¬ (20000 : Int) < (n : Int) := by omega
    have HLB := Lib.hid (show bs.length = n from HB.out.len)
    go_enter Try.func4, Try.ntmps4
    go_wp2_with fail
    refine (lent_from w A n c bs HB.out (by omega) (Below.refl _ _)).mono ?_
    rintro e w1 ⟨g, rfl, hg, hlb, hb1⟩
    have HL1 := Lib.hid hlb; have S1 := Lib.hid hb1
    clear hlb hb1
    go_wp2_with fail
    refine (pNew_any (some ⟨g, 0, none⟩) n (n + 12) bs w1 (lent_row HL1.out HLB.out) (by omega)).mono ?_
    rintro e w2 ⟨P, A0, rfl, hP, hN, hA, hb2⟩
    have HN2 := Lib.hid hN; have HA := Lib.hid hA; have S2 := Lib.hid hb2
    clear hN hA hb2
    go_wp2_with fail
    refine (rNew_any A n c bs w2 (Since.row (Since.add S1.out S2.out) HB.out) (by omega)).mono ?_
    rintro e w3 ⟨R, Bd, cB, rfl, hR, hr, hBd, hb3⟩
    have HR3 := Lib.hid hr; have HBD := Lib.hid hBd; have S3 := Lib.hid hb3; have HN3 := Lib.hid (HN2.out.below hb3)
    clear hr hBd hb3
    go_wp2_with fail
    refine (kept_made (w0 := w3) (Since.at S3.out (Since.at S2.out HL1.out)) (Since.row (Since.add (Since.add S1.out S2.out) S3.out) HB.out) (by omega) (Below.refl _ _)).mono ?_
    rintro e w4 ⟨rfl, hb4⟩
    have S4 := Lib.hid hb4
    clear hb4
    go_wp2_with fail
    refine (OverBytes_any g n (bs ++ marks 1 0 12) _ w4 (Since.at S4.out (Since.at S3.out (Since.at S2.out HL1.out))) (by rw [List.length_append, marks_length, HLB.out]) (by omega)).mono ?_
    rintro e w5 ⟨rfl, hg5⟩
    have hgl : g < w1.heap.size := lt_of_row HL1.out
    have hs2 := (S2.out).size
    have hs1 := (S1.out).size
    have hs3 := (S3.out).size
    have hs4 := (S4.out).size
    have hPl : P < w2.heap.size := by
      obtain ⟨l, A', n', c', h⟩ := HN2.out
      exact h.1.lt
    have hstart : RdRel w P R A0 Bd n cB bs (.slice none 0 0) (.int .i64 0) w5 := by
      refine ⟨0, some bs, [], by omega, rfl, Nat.le_refl _, ?_, by simp only [rlen, HLB.out]; omega, (fun _ h => by cases h)⟩
      have hSw : Since w w4 := Since.add (Since.add (Since.add S1.out S2.out) S3.out) S4.out
      have hSw5 : Since w w5 := Below.grown hSw hg5 hSw.size (by rintro k ⟨⟩; exact hg)
      have hRl := HR3.out.lt
      refine ⟨(Bank.nil hSw5).none _ _, fun p hp b hb => ?_, (HN3.out.below S4.out).grown hg5 (by simp; omega) (fun a ha => by have := HA.out a ha; simp; omega), RefN.grown (RefN.grown ⟨0, false, HR3.out⟩ (grown_none_of_below S4.out) (by simp) (fun _ _ => by simp)) hg5 (by simp; omega) (fun a ha => by have := HBD.out a ha; simp; omega), fun b hz => ?_, by omega, by omega, by omega, fun a ha => by have := HA.out a ha; omega, fun a ha => by have := HBD.out a ha; omega⟩
      · rw [List.mem_singleton.1 hp] at hb; cases hb
      · have h5 := hg5.size
        rcases hz with rfl | rfl | ⟨a, ha, rfl⟩ | ⟨a, ha, rfl⟩
        · omega
        · omega
        · have := HA.out a ha; omega
        · have := HBD.out a ha; omega
    have HST := Lib.hid hstart
    clear hstart hg5 hgl hs1 hs2 hs3 hs4 hPl HN2 HN3 HR3 HA HBD HL1 S1 S2 S3 S4
    go_wp2
    go_loopw [8, 9] (fun v i wr => RdRel w P R A0 Bd n cB bs v i wr) (fun _ i _ => 300 - (intOf i).toNat)
    case atStart => exact HST.out
    case round =>
      clear HST
      obtain ⟨k, s, l, hk, rfl, hlk, hw, hrl, hln⟩ := hrel
      have k0 : (0 : Int) ≤ (k : Int) := by omega
      obtain ⟨S, cS, rfl⟩ := told_form hw
      have HW := Lib.hid hw; have HLN := Lib.hid hln
      clear hln
      by_cases hlt : k < mo ∧ k < 300
      · obtain ⟨h1, h2⟩ := hlt
        have i1 : (k : Int) < (mo : Int) := by omega
        have i2 : (k : Int) < 300 := by omega
        obtain ⟨ob, oo, z, rfl, hc⟩ := HNU.out k h1
        have hc1 : wr.cell? ⟨ob, oo + k, none⟩ = some (.int .i64 z) := (hw.bank.since.cell (p := ⟨ob, oo + k, none⟩) (block_lt_of_cell hc)).trans hc
        clear hc hw
        go_wp2_with fail
        refine (Pick_any z 3 _ (by omega) (by omega)).mono ?_
        rintro e w1 ⟨rfl, rfl⟩
        clear hc1
        rcases pick3 z with hp | hp | hp <;> rw [hp] <;> clear hp
        · go_wp2_with fail
          refine (pNumber_any P s A0 wr HW.out.prg HW.out.pa).mono ?_
          rintro e w1 ⟨rfl, hp, hg⟩
          have HW1 := Lib.hid (HW.out.prgStep hp hg); have hrn := rlen_number s
          clear hp hg
          go_wp2_with fail
          obtain ⟨ta, ba, hra⟩ := HW1.out.ref
          refine (rNumber_any R s Bd n cB ta ba bs w1 hra).mono ?_
          rintro e w2 ⟨rfl, hr, hg⟩
          have HW2 := Lib.hid (HW1.out.refStep hr hg)
          clear hr hg hra HW1 HW
          obtain ⟨⟨x, s'⟩, hx⟩ : ∃ p : Int × M.Rdr, p = M.rdNumber s := ⟨_, rfl⟩
          rw [← hx] at HW2 hrn ⊢
          clear hx
          dsimp only at HW2 hrn ⊢
          go_wp2_with fail
          refine (pBadN P s' A0 _ HW2.out.prg).mono ?_
          rintro e wa ⟨rfl, rfl⟩
          go_wp2_with fail
          obtain ⟨ta, ba, hra⟩ := HW2.out.ref
          refine (rBad_any R s' Bd n cB ta ba bs _ hra).mono ?_
          rintro e wa ⟨rfl, rfl⟩
          clear hra
          go_wp2_with fail
          refine (pDoneN P s' A0 _ HW2.out.prg).mono ?_
          rintro e wa ⟨rfl, rfl⟩
          go_wp2_with fail
          obtain ⟨tb, bb, hrb⟩ := HW2.out.ref
          refine (rDone_any R s' Bd n cB tb bb bs _ hrb).mono ?_
          rintro e wa ⟨rfl, q, rfl⟩
          clear hrb
          have HZ := Lib.hid (HW2.out.below (below_drewN (Below.refl _ _) q))
          generalize World.drewN _ q = wz at *
          go_wp2_with fail
          go_roundw
          case rel => exact ⟨k + 1, s', l, by omega, by go_num, by omega, HZ.out, Nat.le_trans hrn hrl, HLN.out⟩
          case measure => simp [intOf]; omega
        · go_wp2_with fail
          refine (pBytes_any P s A0 wr HW.out.prg HW.out.pa).mono ?_
          rintro e w1 ⟨B, m, c', rfl, ho, hp, hg⟩
          have hm : m = (M.rdBytes s).1.length := by have := ho.1; rw [bv_length] at this; omega
          have HW1 := Lib.hid (HW.out.made hp hg ho); have hrn := rlen_bytes s
          have hm2 : m ≤ 20000 := by omega
          clear hp hg ho hm HW
          go_wp2_with fail
          obtain ⟨ta, ba, hra⟩ := HW1.out.ref
          refine (rBytes_any R s Bd n cB ta ba bs w1 hra).mono ?_
          rintro e w2 ⟨B2, m2, c2, rfl, ho2, hr, hg⟩
          have HW2 := Lib.hid (HW1.out.refStep hr hg); have HO2 := Lib.hid (RowRd.of_row ho2)
          clear hr hg hra HW1 ho2
          obtain ⟨⟨x, s'⟩, hx⟩ : ∃ p : List (BitVec 8) × M.Rdr, p = M.rdBytes s := ⟨_, rfl⟩
          rw [← hx] at HW2 HO2 hrn
          clear hx
          dsimp only at HW2 HO2 hrn
          go_wp2_with fail
          refine (SameBytes_eq B B2 m m2 c' c2 x w2 (HW2.out.bank.row 0 rfl) HO2.out (by omega)).mono ?_
          rintro e w3 ⟨rfl, hb⟩
          have HW3 := Lib.hid (HW2.out.below hb)
          clear hb HW2 HO2
          go_wp2_with (at_builtin; refine wpList_append_bankG (HW3.out.below ((Below.refl _ _).alloc (Nat.le_refl _) (.cells #[.slice B m c'] 22))).bank rfl _ _ 35 rfl 22 (.slice none 0 0) 1 24 infoBytes Try.underlying35 rfl (by decide) 1 S l.length cS (l.map (·.1.v)) rfl rfl ⟨w3.heap.size, 0, none⟩ 1 1 [.slice B m c'] rfl rfl (cell_last _ _ _) (by intro u hu; simp at hu; subst hu; rfl) (by unfold maxLen; omega) (by omega) ?_; intro A' n' c'' w5 hn' hbk hgr hob; have HW5 := Lib.hid (told_snoc (x := (⟨B, m, c'⟩, x)) (WR.put (HW3.out.below ((Below.refl _ _).alloc (Nat.le_refl _) (.cells #[.slice B m c'] 22))) (i := 1) rfl hbk hgr hob) hn'); have hnn' := Nat.le_of_eq hn'; clear hn' hbk hgr hob)
          clear HW3
          go_wp2_with fail
          refine (pBadN P s' A0 _ HW5.out.prg).mono ?_
          rintro e wa ⟨rfl, rfl⟩
          go_wp2_with fail
          obtain ⟨ta, ba, hra⟩ := HW5.out.ref
          refine (rBad_any R s' Bd n cB ta ba bs _ hra).mono ?_
          rintro e wa ⟨rfl, rfl⟩
          clear hra
          go_wp2_with fail
          refine (pDoneN P s' A0 _ HW5.out.prg).mono ?_
          rintro e wa ⟨rfl, rfl⟩
          go_wp2_with fail
          obtain ⟨tb, bb, hrb⟩ := HW5.out.ref
          refine (rDone_any R s' Bd n cB tb bb bs _ hrb).mono ?_
          rintro e wa ⟨rfl, q, rfl⟩
          clear hrb
          have HZ := Lib.hid (HW5.out.below (below_drewN (Below.refl _ _) q))
          generalize World.drewN _ q = wz at *
          go_wp2_with fail
          go_roundw
          case rel => exact ⟨k + 1, s', l ++ [(⟨B, m, c'⟩, x)], by omega, by go_num, by simp; omega, HZ.out, Nat.le_trans hrn.2 hrl, snoc_le HLN.out hm2⟩
          case measure => simp [intOf]; omega
        · go_wp2_with fail
          refine (pEntry_any P s A0 wr HW.out.prg HW.out.pa).mono ?_
          rintro e w1 ⟨B, m, c', rfl, ho, hp, hg⟩
          have hm : m = (M.rdEntry s).1.data.length := by have := ho.1; rw [bv_length] at this; omega
          have HW1 := Lib.hid (HW.out.made hp hg ho); have hrn := rlen_entry s
          have hm2 : m ≤ 20000 := by omega
          clear hp hg ho hm HW
          obtain ⟨⟨x, s'⟩, hx⟩ : ∃ p : M.Ent × M.Rdr, p = M.rdEntry s := ⟨_, rfl⟩
          have HX := Lib.hid hx
          rw [← hx] at HW1 hrn ⊢
          clear hx
          dsimp only at HW1 hrn ⊢
          unfold entL
          go_wp2_with fail
          have hal := (Below.refl w1.heap.size w1).alloc (Nat.le_refl _) (.cells (entL x.term x.version x.server x.kind x.good B m c').toArray 25)
          have HY1 := Lib.hid (show (w1.alloc (.cells (entL x.term x.version x.server x.kind x.good B m c').toArray 25)).drew.heap[w1.heap.size]? = _ from heap_alloc_new w1 (.cells (entL x.term x.version x.server x.kind x.good B m c').toArray 25))
          have HWA := Lib.hid (HW1.out.below (Since.drew hal))
          have hYR : R ≠ w1.heap.size := by have := HW1.out.z R (.inr (.inl rfl)); omega
          clear hal HW1
          go_region_held3 (fun w' => w'.cell? ⟨w1.heap.size, 0, none⟩ = some (.int .i64 x.term) ∧ w'.cell? ⟨w1.heap.size, 1, none⟩ = some (B8 x.kind) ∧ w'.cell? ⟨w1.heap.size, 2, none⟩ = some (.int .i64 x.version) ∧ w'.cell? ⟨w1.heap.size, 3, none⟩ = some (.int .i64 x.server) ∧ w'.cell? ⟨w1.heap.size, 4, none⟩ = some (.bool x.good) ∧ w'.cell? ⟨w1.heap.size, 5, none⟩ = some (.slice B m c'))
            (first
              | with_reducible exact boxE_of HY3.out
              | with_reducible exact boxE_of HY2.out
              | exact boxE_of HY1.out)
            (first
              | (go_at_call 32; obtain ⟨ta, ba, hra⟩ := HWA.out.ref; refine (rEntry_any R s Bd n cB ta ba bs _ hra HWA.out.rb).mono ?_; rintro e w2 ⟨B2, m2, c2, rfl, ho2, hr, hg⟩; have HW2 := Lib.hid (HWA.out.refStep hr hg); have HO2 := Lib.hid (RowRd.of_row ho2); have HY2 := Lib.hid ((hg.block w1.heap.size (by simp) (by simp; omega)).trans HY1.out); rw [← HX.out] at HW2 HO2 ⊢; clear hr hg hra ho2; dsimp only at HW2 HO2 ⊢)
              | (go_at_call 31; refine (SameEntry_eq x.term x.version x.server x.kind x.good B B2 m c' m2 c2 x.data w2 (HW2.out.bank.row 0 rfl) HO2.out (by omega)).mono ?_; rintro e w3 ⟨rfl, hb⟩; have HW3 := Lib.hid (HW2.out.below hb); have HY3 := Lib.hid (Since.at hb HY2.out); clear hb))
          have hy5 : w3.cell? ⟨w1.heap.size, 5, none⟩ = some (.slice B m c') := (boxE_of HY3.out).2.2.2.2.2
          clear HWA HW2 HO2
          go_wp2_with (at_builtin; refine wpList_append_bankG (HW3.out.below ((Below.refl _ _).alloc (Nat.le_refl _) (.cells #[.slice B m c'] 22))).bank rfl _ _ 35 rfl 22 (.slice none 0 0) 1 24 infoBytes Try.underlying35 rfl (by decide) 1 S l.length cS (l.map (·.1.v)) rfl rfl ⟨w3.heap.size, 0, none⟩ 1 1 [.slice B m c'] rfl rfl (cell_last _ _ _) (by intro u hu; simp at hu; subst hu; rfl) (by unfold maxLen; omega) (by omega) ?_; intro A' n' c'' w5 hn' hbk hgr hob; have HW5 := Lib.hid (told_snoc (x := (⟨B, m, c'⟩, x.data)) (WR.put (HW3.out.below ((Below.refl _ _).alloc (Nat.le_refl _) (.cells #[.slice B m c'] 22))) (i := 1) rfl hbk hgr hob) hn'); have hnn' := Nat.le_of_eq hn'; clear hn' hbk hgr hob)
          clear HW3 hy5
          go_wp2_with fail
          refine (pBadN P s' A0 _ HW5.out.prg).mono ?_
          rintro e wa ⟨rfl, rfl⟩
          go_wp2_with fail
          obtain ⟨ta, ba, hra⟩ := HW5.out.ref
          refine (rBad_any R s' Bd n cB ta ba bs _ hra).mono ?_
          rintro e wa ⟨rfl, rfl⟩
          clear hra
          go_wp2_with fail
          refine (pDoneN P s' A0 _ HW5.out.prg).mono ?_
          rintro e wa ⟨rfl, rfl⟩
          go_wp2_with fail
          obtain ⟨tb, bb, hrb⟩ := HW5.out.ref
          refine (rDone_any R s' Bd n cB tb bb bs _ hrb).mono ?_
          rintro e wa ⟨rfl, q, rfl⟩
          clear hrb
          have HZ := Lib.hid (HW5.out.below (below_drewN (Below.refl _ _) q))
          generalize World.drewN _ q = wz at *
          go_wp2_with fail
          go_roundw
          case rel => exact ⟨k + 1, s', l ++ [(⟨B, m, c'⟩, x.data)], by omega, by go_num, by simp; omega, HZ.out, Nat.le_trans hrn.2 hrl, snoc_le HLN.out hm2⟩
          case measure => simp [intOf]; omega
      · clear hw
        have hend : (k : Int) < (mo : Int) → ¬ (k : Int) < 300 := fun h => by omega
        have HEND := Lib.hid hend
        clear hend
        by_cases i1 : (k : Int) < (mo : Int)
        all_goals
          first
            | have i2 : ¬ (k : Int) < 300 := HEND.out i1
            | skip
          go_wp2_with fail
          refine (apart_told _ l HW.out.bank (by omega) (fun p hp => Nat.le_trans (HLN.out p hp) (by omega))).mono ?_
          rintro e w1 ⟨rfl, hb⟩
          have SF := Lib.hid hb
          clear hb
          go_wp2_with fail
          refine (awake_any _).mono ?_
          rintro e w2 ⟨rfl, hb⟩
          have SZ := Lib.hid (Since.add SF.out hb)
          clear hb
          go_wp2
          go_ret
          exact ⟨rfl, SZ.out⟩
end Go.Proofs.Ytjnhfmicadcmnaa.K
