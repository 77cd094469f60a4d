/- The law WireBack as a function: it answers true. -/
import Derived.Test.YtjnhfmicadcmnaaWireBackS
namespace Go.Proofs.Ytjnhfmicadcmnaa.K
open Go Go.RowKit

theorem not_nil_of_len {l : List (BitVec 8)} (h : 0 < l.length) : ¬ (some l : M.Rdr) = some [] := fun e => by rw [Option.some.inj e] at h; simp at h
def BRel1 (w : World) (x : Int) (bs : List (BitVec 8)) (es : List M.Ent) (v i : Value) (wr : World) : Prop :=
  ∃ (k : Nat) (A : Option Addr) (N c : Nat), k ≤ es.length ∧ i = .int .i64 (k : Int) ∧ v = .slice A N c ∧ wr.ownsRow w.heap.size 5 1 (.slice A N c) N (bv (enc x bs es k)) ∧ Since w wr
def BRel2 (w : World) (P Q : Nat) (A0 A1 : Option Addr) (t : M.Rdr) (es : List M.Ent) (i : Value) (wr : World) : Prop :=
  ∃ k : Nat, k ≤ es.length ∧ i = .int .i64 (k : Int) ∧ WB w wr P Q (some (M.ents (es.drop k))) (M.rdAll (es.take k) t) A0 A1

set_option maxHeartbeats 4000000 in
set_option maxRecDepth 100000 in
theorem wback_any (A : Option Addr) (n0 c : Nat) (es : List M.Ent) (x : Int) (B : Option Addr) (nb cb : Nat) (bs : List (BitVec 8)) (cut : Int) (w : World) (hE : Ents w A es) (hlen : es.length = n0) (hb : RowRd w ⟨B, nb, cb⟩ bs) (hx : M.inI64 x) (hn : n0 ≤ 9223372036854775807) (hnb : nb ≤ 9223372036854775807) :
    Calls Try.prog 7 #[.slice A n0 c, .int .i64 x, .slice B nb cb, .int .i64 cut] w fun e w' => e = .returned (.bool true) ∧ Below w.heap.size w w' := by
  have HE := Lib.hid hE; have HLEN := Lib.hid hlen; have HB := Lib.hid hb; have HX := Lib.hid hx; have HLB := Lib.hid (show bs.length = nb from hb.len)
  clear hE hlen hb hx
  go_enter Try.func7, Try.ntmps7
  go_wp2_with fail
  refine (awake_any _).mono ?_
  rintro e w1 ⟨rfl, hb⟩
  have S1 := Lib.hid hb
  clear hb
  go_wp2_with fail
  refine (EntriesOf_any A n0 c es 2500 w1 (HE.out.below S1.out) HLEN.out hn (by omega)).mono ?_
  rintro e w2 ⟨r, rfl, hr, rfl⟩
  have HR := Lib.hid hr
  clear hr
  by_cases b1 : 2500 < r
  · have i1 : (2500 : Int) < (r : Int) := by omega
    go_wp2
    go_ret
    exact ⟨rfl, S1.out⟩
  by_cases b2 : 200 < n0
  · have i1 : ¬ (2500 : Int) < (r : Int) := by omega
    have d1 : decide ((2500 : Int) < (r : Int)) = false := by simpa using i1
    have i2 : (200 : Int) < (n0 : Int) := by omega
    go_wp2
    go_ret
    exact ⟨rfl, S1.out⟩
  by_cases b3 : 20000 < nb
  · have i1 : ¬ (2500 : Int) < (r : Int) := by omega
    have d1 : decide ((2500 : Int) < (r : Int)) = false := by simpa using i1
    have i2 : ¬ (200 : Int) < (n0 : Int) := by omega
    have d2 : decide ((200 : Int) < (n0 : Int)) = false := by simpa using i2
    have i3 : (20000 : Int) < (nb : Int) := by omega
    go_wp2
    go_ret
    exact ⟨rfl, S1.out⟩
  have i1 : ¬ (2500 : Int) < (r : Int) := by omega
  have d1 : decide ((2500 : Int) < (r : Int)) = false := by simpa using i1
  have i2 : ¬ (200 : Int) < (n0 : Int) := by omega
  have d2 : decide ((200 : Int) < (n0 : Int)) = false := by simpa using i2
  have i3 : ¬ (20000 : Int) < (nb : Int) := by omega
  have d3 : decide ((20000 : Int) < (nb : Int)) = false := by simpa using i3
  have hdat : ∀ e ∈ es, e.data.length ≤ 20007 := by
    intro e he
    obtain ⟨i, hi, rfl⟩ := List.mem_iff_getElem.1 he
    have h1 := HR.out (by omega)
    have h2 := esum_le es n0 i (by rw [HLEN.out]; omega) (by rw [← HLEN.out]; exact hi)
    omega
  have hok : ∀ e ∈ es, M.Ent.Ok e := by
    intro e he
    have hd := hdat e he
    obtain ⟨i, hi, rfl⟩ := List.mem_iff_getElem.1 he
    obtain ⟨b, o, _, A', m, c', _, t1, t2, t3, _⟩ := HE.out i hi
    exact ⟨t1, t2, t3, by omega⟩
  have HDAT := Lib.hid hdat; have HOK := Lib.hid hok
  clear hdat hok HR
  have l200 : es.length ≤ 200 := by rw [HLEN.out]; omega
  have HLE := Lib.hid (fun k => enc_le x bs es k (by rw [HLB.out]; omega) HDAT.out l200)
  go_wp2_with fail
  refine (num_made x _).mono ?_
  rintro e w3 ⟨g1, N1, c1, rfl, hN1, ho1, hb1⟩
  have S3 := Lib.hid (Since.add S1.out hb1); have R1 := Lib.hid (RowRd.of_row ho1); have HN1 := Lib.hid hN1
  clear hN1 ho1 hb1
  go_wp2_with fail
  refine (bytes_made (Since.row S3.out HB.out) (by omega) (Below.refl _ _)).mono ?_
  rintro e w4 ⟨g2, N2, c2, rfl, hN2, ho2, hb2⟩
  have S4 := Lib.hid (Since.add S3.out hb2); have R1' := Lib.hid (R1.out.below hb2); have R2 := Lib.hid (RowRd.of_row ho2); have HN2 := Lib.hid hN2
  clear hN2 ho2 hb2 R1
  go_wp2_with fail
  have hfl : flat [(⟨some ⟨g1, 0, none⟩, N1, c1⟩, M.num x), (⟨some ⟨g2, 0, none⟩, N2, c2⟩, M.blob bs)] = enc x bs es 0 := by rw [enc_zero]; simp [flat]
  refine (join_lit [(⟨some ⟨g1, 0, none⟩, N1, c1⟩, M.num x), (⟨some ⟨g2, 0, none⟩, N2, c2⟩, M.blob bs)] w4 _ 2 2 rfl rfl (fun p hp => ?_) (by simp) ?_).mono ?_
  · simp only [List.mem_cons, List.mem_nil_iff, or_false] at hp
    rcases hp with rfl | rfl
    · exact R1'.out
    · exact R2.out
  · rw [hfl]; have := HLE.out 0; omega
  rintro e w5 ⟨A5, N5, c5, rfl, hN5, ho5, hb5⟩
  rw [hfl] at ho5
  have hal := (Below.refl w4.heap.size w4).alloc (Nat.le_refl _) (.cells #[.slice (some ⟨g1, 0, none⟩) N1 c1, .slice (some ⟨g2, 0, none⟩) N2 c2] 22)
  have S5 := Lib.hid (Since.add S4.out (Since.add hal hb5))
  have HO5 := Lib.hid (row_base ho5 (show w.heap.size ≤ _ from (Since.add S4.out hal).size))
  clear hfl hN5 ho5 hb5 hal R1' R2 S3 S4 HN1 HN2
  go_wp2_with fail
  go_loopw [9, 10] (fun v i wr => BRel1 w x bs es v i wr) (fun _ i _ => es.length - (intOf i).toNat)
  case atStart => exact ⟨0, A5, N5, c5, by omega, rfl, rfl, HO5.out, S5.out⟩
  case round =>
    clear HO5 S5 S1
    obtain ⟨k, A5, N5, c5, hk, rfl, rfl, ho5, hs5⟩ := hrel
    have k0 : (0 : Int) ≤ (k : Int) := by omega
    have HO5 := Lib.hid ho5; have S5 := Lib.hid hs5
    clear ho5 hs5
    by_cases hlt : k < n0
    · have i4 : (k : Int) < (n0 : Int) := by omega
      have hkl : k < es.length := by rw [HLEN.out]; exact hlt
      obtain ⟨b, o, rfl, hea⟩ := HE.out k hkl
      obtain ⟨e, he⟩ : ∃ e, e = es[k] := ⟨_, rfl⟩
      rw [← he] at hea
      obtain ⟨A', m, c', h6, hrd, t1, t2, t3⟩ := hea.six
      have hm : m ≤ 20007 := by have h1 := HDAT.out e (by rw [he]; exact List.getElem_mem _); have h2 : e.data.length = m := hrd.len; omega
      have HRD := Lib.hid (Since.row S5.out hrd)
      obtain ⟨q0, q1, q2, q3, q4, q5⟩ := Cells6.since h6 S5.out
      have HEK := Lib.hid he
      clear hea h6 hrd t1 t2 t3 he
      go_wp2_with fail
      clear q0 q1 q2 q3 q4 q5
      refine (entry_made HRD.out (by omega) (Below.refl _ _)).mono ?_
      rintro e' w6 ⟨g6, N6, c6, rfl, hN6, ho6, hb6⟩
      have S6 := Lib.hid (Since.add S5.out hb6); have R5 := Lib.hid ((RowRd.of_row HO5.out).below hb6); have R6 := Lib.hid (RowRd.of_row ho6); have HN6 := Lib.hid hN6
      clear hN6 ho6 hb6
      go_wp2_with fail
      have hfl : flat [(⟨A5, N5, c5⟩, enc x bs es k), (⟨some ⟨g6, 0, none⟩, N6, c6⟩, M.ent e)] = enc x bs es (k + 1) := by rw [enc_succ x bs es k hkl, ← HEK.out]; simp [flat]
      refine (join_lit [(⟨A5, N5, c5⟩, enc x bs es k), (⟨some ⟨g6, 0, none⟩, N6, c6⟩, M.ent e)] w6 _ 2 2 rfl rfl (fun p hp => ?_) (by simp) ?_).mono ?_
      · simp only [List.mem_cons, List.mem_nil_iff, or_false] at hp
        rcases hp with rfl | rfl
        · exact R5.out
        · exact R6.out
      · rw [hfl]; have := HLE.out (k + 1); omega
      rintro e' w7 ⟨A7, N7, c7, rfl, hN7, ho7, hb7⟩
      rw [hfl] at ho7
      have hal := (Below.refl w6.heap.size w6).alloc (Nat.le_refl _) (.cells #[.slice A5 N5 c5, .slice (some ⟨g6, 0, none⟩) N6 c6] 22)
      have S7 := Lib.hid (Since.add S6.out (Since.add hal hb7))
      have HO7 := Lib.hid (row_base ho7 (show w.heap.size ≤ _ from (Since.add S6.out hal).size))
      clear hfl hN7 ho7 hb7 hal R5 R6 S6 HN6 HO5
      go_wp2_with fail
      go_roundw
      case rel => exact ⟨k + 1, A7, N7, c7, by omega, by go_num, rfl, HO7.out, S7.out⟩
      case measure => simp [intOf]; omega
    · have i4 : ¬ (k : Int) < (n0 : Int) := by omega
      have hkl : k = es.length := by have := HLEN.out; omega
      rw [hkl] at HO5
      have HKL := Lib.hid hkl
      clear hkl
      have hNl : N5 = (enc x bs es es.length).length := by have h1 := HO5.out.1; rw [bv_length] at h1; omega
      have hge := enc_ge x bs es es.length
      have hle := HLE.out es.length
      obtain ⟨g5, c5', e5, _, _⟩ := HO5.out.form (by omega)
      simp only [Value.slice.injEq, true_and] at e5
      obtain ⟨rfl, rfl⟩ := e5
      have hroom := (row_room HO5.out).1
      have hcm := (row_room HO5.out).2.1
      have hN16 : 16 ≤ N5 := by omega
      have hN5m : N5 ≤ 5000000 := by omega
      have HNL := Lib.hid hNl
      clear hNl hge hle
      go_wp2_with fail
      refine (Pick_any cut (N5 : Int) _ (by omega) (by omega)).mono ?_
      rintro e' w6 ⟨rfl, rfl⟩
      have hp0 := pick_lo cut (N5 : Int) (by omega)
      have hp1 := pick_hi cut (N5 : Int) (by omega)
      obtain ⟨q, hq⟩ : ∃ q : Nat, pick cut (N5 : Int) = (q : Int) := ⟨(pick cut (N5 : Int)).toNat, by omega⟩
      rw [hq] at hp0 hp1 ⊢
      have hqN : q < N5 := by omega
      have q1 : (q : Int) ≤ (c5 : Int) := by omega
      have q2 : q ≤ c5 := by omega
      clear hq hp1
      have RA := Lib.hid (RowRd.of_row HO5.out)
      have RC := Lib.hid (show RowRd wr ⟨some ⟨g5, 0, none⟩, q, c5⟩ ((enc x bs es es.length).take q) from ⟨fun j hj => by
        have hj2 : j < (enc x bs es es.length).length := by rw [List.length_take] at hj; omega
        obtain ⟨b, o, e, hc⟩ := RA.out.rd j hj2
        exact ⟨b, o, e, by rw [hc, List.getElem_take]⟩, by show _ = q; rw [List.length_take, ← HNL.out]; omega, fun h => by cases h⟩)
      go_wp2_with fail
      have hsd : Since wr wr.drew := Since.drew (Below.refl _ _)
      go_region_held3 (fun w' => Since wr w')
        (first
          | with_reducible exact hse2
          | with_reducible exact hse1
          | with_reducible exact hsd)
        (first
          | (go_at_call 22; ((with_reducible refine (pNew_any (some ⟨g5, 0, none⟩) N5 c5 (enc x bs es es.length) _ (Since.row hsd RA.out) (by omega)).mono ?_); rintro e w7 ⟨P, A0, rfl, hP, hN, hA, hb7⟩; have hse1 := Since.add hsd hb7))
          | (go_at_call 22; ((with_reducible refine (pNew_any (some ⟨g5, 0, none⟩) q c5 ((enc x bs es es.length).take q) _ (Since.row hse1 RC.out) (by omega)).mono ?_); rintro e w8 ⟨Q, A1, rfl, hQ, hN', hA', hb8⟩; have hse2 := Since.add hse1 hb8)))
      have HW := Lib.hid (WB.start (Since.drew S5.out) hP hN hA hb7 hQ hN' hA' hb8)
      clear hP hN hA hb7 hQ hN' hA' hb8 hse1 hse2 hsd RA RC HO5 S5
      have HCUT := Lib.hid (cut_bad x bs es q HX.out (by rw [HLB.out]; omega) HOK.out (by rw [← HNL.out]; exact hqN))
      obtain ⟨t0, ht0⟩ : ∃ t0 : M.Rdr, t0 = some ((enc x bs es es.length).take q) := ⟨_, rfl⟩
      rw [← ht0] at HW HCUT
      rw [enc_all] at HW
      clear ht0
      -- the first two are read back
      go_wp2_with fail
      refine (pDoneN P _ A0 _ HW.out.p).mono ?_
      rintro e' wa ⟨rfl, rfl⟩
      rw [decide_eq_false (not_nil_of_len (by rw [List.length_append, M.num_length]; omega))]
      go_wp2_with fail
      refine (pNumber_any P _ A0 _ HW.out.p (fun a ha => (HW.out.pl a ha).1)).mono ?_
      rintro e' w9 ⟨rfl, hp, hg⟩
      rw [M.rdNumber_num x _ HX.out] at hp ⊢
      have HW9 := Lib.hid (HW.out.pStep hp hg)
      clear hp hg HW
      go_wp2_with fail
      refine (pBytes_any P _ A0 _ HW9.out.p (fun a ha => (HW9.out.pl a ha).1)).mono ?_
      rintro e' w10 ⟨Bx, mx, cx, rfl, hox, hp, hg⟩
      have hrb := M.rdBytes_blob bs (M.ents es) (by rw [HLB.out]; omega)
      rw [show M.rdBytes ((x, some (M.blob bs ++ M.ents es)) : Int × M.Rdr).2 = (bs, some (M.ents es)) from hrb] at hp hox
      have HW10 := Lib.hid (HW9.out.pStep hp hg); have RX := Lib.hid (RowRd.of_row hox)
      clear hp hg HW9 hox hrb
      go_wp2_with fail
      have hmx : mx ≤ 20000 := by have h1 : bs.length = mx := RX.out.len; have := HLB.out; omega
      refine (SameBytes_eq Bx B mx nb cx cb bs _ RX.out (Since.row HW10.out.since HB.out) (by omega)).mono ?_
      rintro e' w11 ⟨rfl, hb⟩
      have HW11 := Lib.hid (HW10.out.below hb)
      clear hb HW10 RX
      go_wp2_with fail
      refine (pNumber_any Q _ A1 _ HW11.out.q (fun a ha => (HW11.out.ql a ha).1)).mono ?_
      rintro e' w12 ⟨rfl, hp, hg⟩
      have HW12 := Lib.hid (HW11.out.qStep hp hg)
      clear hp hg HW11
      go_wp2_with fail
      refine (pBytes_any Q _ A1 _ HW12.out.q (fun a ha => (HW12.out.ql a ha).1)).mono ?_
      rintro e' w13 ⟨By, my, cy, rfl, hoy, hp, hg⟩
      have HW13 := Lib.hid (HW12.out.qStep hp hg)
      clear hp hg HW12 hoy
      obtain ⟨t2, ht2⟩ : ∃ t2 : M.Rdr, t2 = (M.rdBytes (M.rdNumber t0).2).2 := ⟨_, rfl⟩
      rw [← ht2] at HW13 HCUT
      clear ht2
      go_wp2_with fail
      go_loopw [13] (fun i wr => BRel2 w P Q A0 A1 t2 es i wr) (fun i _ => es.length - (intOf i).toNat)
      case atStart => exact ⟨0, by omega, rfl, HW13.out⟩
      case round =>
        clear HW13
        obtain ⟨j, hj, rfl, hw⟩ := hrel
        have j0 : (0 : Int) ≤ (j : Int) := by omega
        have HW := Lib.hid hw
        clear hw
        by_cases hjt : j < n0
        · have i5 : (j : Int) < (n0 : Int) := by omega
          have hjl : j < es.length := by rw [HLEN.out]; exact hjt
          obtain ⟨b, o, hAa, hea⟩ := HE.out j hjl
          obtain ⟨e, he⟩ : ∃ e, e = es[j] := ⟨_, rfl⟩
          have hde := drop_ents es j hjl
          rw [← he] at hea hde
          have hoke : e.Ok := HOK.out e (by rw [he]; exact List.getElem_mem _)
          have hre := M.rdEntry_ent e (M.ents (es.drop (j + 1))) hoke
          rw [hde] at HW
          obtain ⟨A', m, c', h6, hrd, _, _, _⟩ := hea.six
          have hm : m ≤ 20007 := by have h1 := HDAT.out e (by rw [he]; exact List.getElem_mem _); have h2 : e.data.length = m := hrd.len; omega
          have HRD := Lib.hid hrd; have H6 := Lib.hid (show Cells6 w b (o + j * 6) e A' m c' from h6); have HRE := Lib.hid hre
          subst hAa
          clear hea h6 hrd he hde hre hoke
          have HWD := Lib.hid (HW.out.below (Since.drew (Below.refl _ _)))
          clear HW
          go_wp2_with fail
          go_region_held3 (fun w' => w'.cell? ⟨b, o + j * 6, none⟩ = some (.int .i64 e.term) ∧ w'.cell? ⟨b, o + j * 6 + 1, none⟩ = some (B8 e.kind) ∧ w'.cell? ⟨b, o + j * 6 + 2, none⟩ = some (.int .i64 e.version) ∧ w'.cell? ⟨b, o + j * 6 + 3, none⟩ = some (.int .i64 e.server) ∧ w'.cell? ⟨b, o + j * 6 + 4, none⟩ = some (.bool e.good) ∧ w'.cell? ⟨b, o + j * 6 + 5, none⟩ = some (.slice A' m c'))
            (first
              | with_reducible exact Cells6.since H6.out HW2.out.since
              | with_reducible exact Cells6.since H6.out HW1.out.since
              | with_reducible exact Cells6.since H6.out HWD.out.since)
            (first
              | (go_at_call 35; refine (pDoneN P _ A0 _ HWD.out.p).mono ?_; rintro e' wa ⟨rfl, rfl⟩; rw [decide_eq_false (not_nil_of_len (by rw [List.length_append, M.ent_length]; omega))])
              | (go_at_call 30; refine (pEntry_any P _ A0 _ HWD.out.p (fun a ha => (HWD.out.pl a ha).1)).mono ?_; rintro e' w1 ⟨Bz, mz, cz, rfl, hoz, hp, hg⟩; rw [HRE.out] at hp hoz ⊢; have HW1 := Lib.hid (HWD.out.pStep hp hg); have RZ := Lib.hid (RowRd.of_row hoz); clear hp hg hoz; dsimp only)
              | (go_at_call 31; refine (SameEntry_eq e.term e.version e.server e.kind e.good Bz A' mz cz m c' e.data w1 RZ.out (Since.row HW1.out.since HRD.out) (by have h1 : e.data.length = mz := RZ.out.len; have h2 : e.data.length = m := HRD.out.len; omega)).mono ?_; rintro e' w2 ⟨rfl, hb⟩; have HW2 := Lib.hid (HW1.out.below hb); clear hb))
          clear HWD HW1 RZ
          go_wp2_with fail
          refine (pEntry_any Q _ A1 _ HW2.out.q (fun a ha => (HW2.out.ql a ha).1)).mono ?_
          rintro e' w3 ⟨Bu, mu, cu, rfl, hou, hp, hg⟩
          rw [← rdAll_take es j hjl] at hp
          have HW3 := Lib.hid (HW2.out.qStep hp hg)
          clear hp hg hou HW2
          go_wp2_with fail
          go_roundw
          case rel => exact ⟨j + 1, by omega, by go_num, HW3.out⟩
          case measure => simp [intOf]; omega
        · have i5 : ¬ (j : Int) < (n0 : Int) := by omega
          have hjl : j = es.length := by have := HLEN.out; omega
          rw [hjl, List.drop_length, List.take_length, HCUT.out] at HW
          clear hjl
          have HW' : Hid (WB w wr P Q (some []) none A0 A1) := HW
          clear HW
          go_wp2_with fail
          refine (pDoneN P _ A0 _ HW'.out.p).mono ?_
          rintro e' wa ⟨rfl, rfl⟩
          rw [show decide ((some [] : M.Rdr) = some []) = true from rfl]
          go_wp2_with fail
          refine (pBadN P _ A0 _ HW'.out.p).mono ?_
          rintro e' wa ⟨rfl, rfl⟩
          go_wp2_with fail
          refine (pBadN Q _ A1 _ HW'.out.q).mono ?_
          rintro e' wa ⟨rfl, rfl⟩
          go_wp2_with fail
          refine (pDoneN Q _ A1 _ HW'.out.q).mono ?_
          rintro e' wa ⟨rfl, rfl⟩
          rw [show decide ((none : M.Rdr) = some []) = false from rfl]
          go_wp2_with fail
          refine (pNumber_any P _ A0 _ HW'.out.p (fun a ha => (HW'.out.pl a ha).1)).mono ?_
          rintro e' w2 ⟨rfl, hp, hg⟩
          rw [show M.rdNumber (some []) = (0, none) from rfl] at hp ⊢
          have HW2 := Lib.hid (HW'.out.pStep hp hg)
          clear hp hg HW'
          go_wp2_with fail
          refine (pBadN P _ A0 _ HW2.out.p).mono ?_
          rintro e' wa ⟨rfl, rfl⟩
          go_wp2_with fail
          go_ret
          exact ⟨rfl, HW2.out.since⟩
end Go.Proofs.Ytjnhfmicadcmnaa.K
