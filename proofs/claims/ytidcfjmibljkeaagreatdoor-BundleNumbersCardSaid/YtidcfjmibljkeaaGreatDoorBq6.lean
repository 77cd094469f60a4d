/- Merged: RefSum, MacTag, MacFits, BunRef, BunRef2, BunRef3, BunPrg. -/
import Derived.Test.YtidcfjmibljkeaaGreatDoorBq5
import Derived.Deep.RegionHeld3
import Derived.Deep.MidRow
import Derived.Stop.BytesEq
/- The contract of the reference's Sum: it is the digest too. -/
namespace Go.Proofs.YtidcfjmibljkeaaGreatDoor.K
open Go Go.RowKit

theorem Rd.sub {w : World} {g : Nat} {m : List (BitVec 8)} (h : Rd w (some ⟨g, 0, none⟩) m) (o n : Nat) : Rd w (some ⟨g, o, none⟩) ((m.drop o).take n) := by
  intro k hk
  have hk2 : o + k < m.length := by simp at hk; omega
  obtain ⟨b, o', e, hc⟩ := h (o + k) hk2
  obtain ⟨rfl, rfl⟩ : g = b ∧ 0 = o' := by simpa using e
  refine ⟨g, o, rfl, ?_⟩
  rw [show 0 + (o + k) = o + k by omega] at hc
  rw [hc]; simp
theorem own_litU {w : World} {base : Nat} (hb : base ≤ w.heap.size) : (w.alloc (.cells #[] 93)).ownsRow base 93 1 (.slice (some ⟨w.heap.size, 0, none⟩) 0 0) 0 [] :=
  World.ownsRow_lit w #[] 0 hb (by unfold maxLen; omega) rfl
theorem own_keptB {w w' : World} {base : Nat} {e : TypeId} {g n c : Nat} {xs : List Value} (h : w.ownsRow base e 1 (.slice (some ⟨g, 0, none⟩) n c) n xs) (hb : Below w.heap.size w w') : w'.ownsRow base e 1 (.slice (some ⟨g, 0, none⟩) n c) n xs := by
  refine h.kept (row := none) ⟨hb.os, hb.tape, hb.output, hb.size, fun k hk _ => hb.block k hk⟩ ?_
  cases hv : (Value.slice (some ⟨g, 0, none⟩) n c).ownBlock with
  | none => exact .inl rfl
  | some x => exact .inr (by simp)
theorem own_ltB {w : World} {base : Nat} {e : TypeId} {g n c : Nat} {xs : List Value} (h : w.ownsRow base e 1 (.slice (some ⟨g, 0, none⟩) n c) n xs) : base ≤ g ∧ g < w.heap.size := h.lt g rfl
theorem own_cap {w : World} {base : Nat} {e : TypeId} {g n c : Nat} {xs : List Value} (h : w.ownsRow base e 1 (.slice (some ⟨g, 0, none⟩) n c) n xs) : n ≤ c ∧ c ≤ 9223372036854775807 := by
  rcases h.2 with ⟨h', _⟩ | ⟨g', cap', cur, h', _, _, hnc, hcm, _⟩
  · simp at h'
  · simp only [Value.slice.injEq, Option.some.injEq, Addr.mk.injEq, and_true, true_and] at h'
    obtain ⟨rfl, rfl⟩ := h'
    exact ⟨hnc, by unfold maxLen at hcm; omega⟩
theorem stl_length (s : M.St) : (ups s.list).length = 8 := rfl

theorem one_low (s : M.St) (k w : BitVec 32) : (M.up s.h + (M.up (M.rot s.e 6) ^^^ M.up (M.rot s.e 11) ^^^ M.up (M.rot s.e 25)) + M.up (M.ch s.e s.f s.g) + M.up k + M.up w).setWidth 32 = M.one s k w := by
  simp only [BitVec.setWidth_add _ _ (show 32 ≤ 64 by omega), BitVec.setWidth_xor, M.low_up, M.one, M.bs1]
theorem two_low (s : M.St) : ((M.up (M.rot s.a 2) ^^^ M.up (M.rot s.a 13) ^^^ M.up (M.rot s.a 22)) + M.up (M.maj s.a s.b s.c)).setWidth 32 = M.two s := by
  simp only [BitVec.setWidth_add _ _ (show 32 ≤ 64 by omega), BitVec.setWidth_xor, M.low_up, M.two, M.bs0]
theorem add_mask (x y : BitVec 64) : (x + y) &&& M.mask = M.up (x.setWidth 32 + y.setWidth 32) := by
  rw [M.mask_low, BitVec.setWidth_add _ _ (show 32 ≤ 64 by omega)]

theorem kList_length : M.kList.length = 64 := by decide
theorem rdU_cell {w : World} {g : Nat} {l : List (BitVec 32)} (h : RdU w (some ⟨g, 0, none⟩) (ups l)) (k : Nat) (hk : k < l.length) : w.cell? ⟨g, k, none⟩ = some (W64 (M.up (M.at32 l k))) := by
  obtain ⟨b, o, e, hc⟩ := h k (by rw [ups_length]; exact hk)
  obtain ⟨rfl, rfl⟩ : g = b ∧ 0 = o := by simpa using e
  rw [Nat.zero_add] at hc
  rw [hc]; simp [M.at32, hk]

theorem cell_setCell_other {w : World} {g b i j : Nat} (v : Value) (hb : g ≠ b) : (w.setCell ⟨b, i, none⟩ v).cell? ⟨g, j, none⟩ = w.cell? ⟨g, j, none⟩ := by
  refine World.cell?_setCell_other _ _ _ _ (fun e => hb ?_)
  injection e with e1 _
  exact e1.symm
theorem up_byte (x : BitVec 32) (n : Nat) : (M.up x >>> n).setWidth 8 = (x >>> n).setWidth 8 := by
  rw [M.moved_up, BitVec.setWidth_setWidth_of_le _ (by omega)]
theorem up_byte0 (x : BitVec 32) : (M.up x).setWidth 8 = x.setWidth 8 := BitVec.setWidth_setWidth_of_le _ (by omega)
theorem own_weaken {w : World} {base base' : Nat} {e : TypeId} {v : Value} {n : Nat} {xs : List Value} (h : w.ownsRow base e 1 v n xs) (hb : base' ≤ base) : w.ownsRow base' e 1 v n xs :=
  ⟨h.1, h.2.elim .inl fun ⟨a, b, cur, hv, hbb, r⟩ => .inr ⟨a, b, cur, hv, Nat.le_trans hb hbb, r⟩⟩
/-- the sums when i of them are done -/
def addTo (a b : List (BitVec 32)) : Nat → List (BitVec 32)
  | 0 => a
  | i + 1 => (addTo a b i).set i (M.at32 (addTo a b i) i + M.at32 b i)
theorem addTo_length (a b : List (BitVec 32)) (i : Nat) : (addTo a b i).length = a.length := by
  induction i with
  | zero => rfl
  | succ i ih => simp [addTo, ih]
theorem addTo_eight (s o : M.St) : addTo s.list o.list 8 = (o.add s).list := by
  rw [M.St.add, BitVec.add_comm o.a, BitVec.add_comm o.b, BitVec.add_comm o.c, BitVec.add_comm o.d, BitVec.add_comm o.e, BitVec.add_comm o.f, BitVec.add_comm o.g, BitVec.add_comm o.h]
  rfl
theorem uv_setU (l : List (BitVec 32)) (i : Nat) (x : BitVec 32) : uv (ups (l.set i x)) = (uv (ups l)).set i (W64 (M.up x)) := by simp [uv]
theorem RdU.setCell {w : World} {g : Nat} {l : List (BitVec 64)} (h : RdU w (some ⟨g, 0, none⟩) l) {b i : Nat} (hb : g ≠ b) (v : Value) : RdU (w.setCell ⟨b, i, none⟩ v) (some ⟨g, 0, none⟩) l := fun k hk => by
  obtain ⟨g', o, e, hc⟩ := h k hk
  obtain ⟨rfl, rfl⟩ : g = g' ∧ 0 = o := by simpa using e
  exact ⟨g, 0, rfl, by rw [cell_setCell_other _ hb]; exact hc⟩
theorem Rd.setCell {w : World} {g : Nat} {l : List (BitVec 8)} (h : Rd w (some ⟨g, 0, none⟩) l) {b i : Nat} (hb : g ≠ b) (v : Value) : Rd (w.setCell ⟨b, i, none⟩ v) (some ⟨g, 0, none⟩) l := fun k hk => by
  obtain ⟨g', o, e, hc⟩ := h k hk
  obtain ⟨rfl, rfl⟩ : g = g' ∧ 0 = o := by simpa using e
  exact ⟨g, 0, rfl, by rw [cell_setCell_other _ hb]; exact hc⟩

set_option maxHeartbeats 4000000 in
set_option maxRecDepth 100000 in
theorem RefSum_any (A : Option Addr) (n c : Nat) (bs : List (BitVec 8)) (w : World) (hr : Rd w A bs) (hn : bs.length = n) (hn2 : n ≤ 1000000000000) (hnone : A = none → c = 0) :
    Calls Tryz.prog 36 #[.slice A n c] w fun e w' => ∃ g cap, e = .returned (.slice (some ⟨g, 0, none⟩) 32 cap) ∧
      w'.ownsRow w.heap.size 5 1 (.slice (some ⟨g, 0, none⟩) 32 cap) 32 (bv (M.sum bs)) ∧ Below w.heap.size w w' := by
  obtain ⟨i0, hi, hz0, hz1, hz2⟩ := info_parts infoByte
  obtain ⟨j0, hj0, hy0, hy1, hy2⟩ := info_parts infoU
  have HR := Lib.hid hr; have HN := Lib.hid hn
  clear hr hn
  go_enter Tryz.func36, Tryz.ntmps36
  go_wp2_with fail
  refine (roots_any 8 2 20 w (by omega) (by omega) (by rw [M.roots8]; rfl) (by omega) (by omega) (by omega) (by omega)).mono ?_
  rintro e w1 ⟨gh, ch, rfl, hh1, b1⟩
  rw [M.roots8] at hh1
  have HH1 := Lib.hid hh1; clear hh1
  go_wp2_with fail
  refine (roots_any 64 3 312 w1 (by omega) (by omega) (by rw [M.roots64]; rfl) (by omega) (by omega) (by omega) (by omega)).mono ?_
  rintro e w2 ⟨gk, ck, rfl, hk2, b2⟩
  rw [M.roots64] at hk2
  have HK2 := Lib.hid hk2; clear hk2
  have HH2 := Lib.hid (own_keptB HH1.out b2)
  have hgh := own_ltB HH1.out
  have b12 : Below w.heap.size w w2 := b1.trans (b2.mono b1.size)
  clear HH1 b1 b2
  go_wp2_with fail
  refine (rmessage_any A n c bs w2 (HR.out.below (b12.mono (Nat.le_refl _))) HN.out hn2 hnone).mono ?_
  rintro e w3 ⟨gm, cm, rfl, hm3, b3⟩
  have hgk := own_ltB HK2.out
  have hgm := own_ltB hm3
  have hcm := own_cap hm3
  have hch := own_cap HH2.out
  have HH3 := Lib.hid (own_keptB HH2.out b3)
  have hrk := (RdU.of_own HK2.out).below b3
  have hrm := Rd.of_own hm3
  have b13 : Below w.heap.size w w3 := b12.trans (b3.mono b12.size)
  have HRK := Lib.hid hrk; have HRM := Lib.hid hrm
  clear HH2 HK2 hm3 hrk hrm b12 b3
  have ht1 := M.total_ge n
  have ht2 := M.total_mod n
  have ht3 : M.total n ≤ n + 72 := by unfold M.total; omega
  have hml := M.message_length bs
  rw [HN.out] at hml
  have hsum : M.sum bs = M.digest (M.after (M.message bs) (M.total n / 64)) := by rw [M.sum, HN.out]
  obtain ⟨q, hq⟩ : ∃ q, M.total n = 64 * q := ⟨M.total n / 64, by omega⟩
  have hq2 : M.total n / 64 = q := by omega
  rw [hq2] at hsum
  obtain ⟨T, hT⟩ : ∃ T, T = M.total n := ⟨_, rfl⟩
  rw [← hT] at ht1 ht3 hq hml hcm
  rw [← hT]
  have hqT : T ≤ 64 * q := by omega
  have hqT2 : 64 * q ≤ T := by omega
  have HML := Lib.hid hml; have HSUM := Lib.hid hsum
  clear hT ht2 hq hml hsum hq2
  obtain ⟨msg, hmsg⟩ : ∃ msg, msg = M.message bs := ⟨_, rfl⟩
  rw [← hmsg] at HML HSUM HRM
  clear hmsg HR
  obtain ⟨N, hN⟩ : ∃ N, N = w3.heap.size := ⟨_, rfl⟩
  go_wp2
  go_loopw [6, 7, 8, 9, 10, 11, 12, 13, 14, 15, 16] (fun v _ _ _ _ _ _ _ _ _ _ wr => ∃ j : Nat, j ≤ q ∧ v = .int .i64 ((64 * j : Nat) : Int) ∧ wr.ownsRow w.heap.size 93 1 (.slice (some ⟨gh, 0, none⟩) 8 ch) 8 (uv (ups (M.after msg j).list)) ∧
      RdU wr (some ⟨gk, 0, none⟩) (ups M.kList) ∧ Rd wr (some ⟨gm, 0, none⟩) msg ∧ Below w.heap.size w wr) (fun v _ _ _ _ _ _ _ _ _ _ _ => T - (intOf v).toNat)
  case atStart => exact ⟨0, Nat.zero_le _, rfl, HH3.out, HRK.out, HRM.out, b13⟩
  case round =>
    clear HH3 HRK HRM b13 hN
    obtain ⟨j, hj, rfl, hown, hrk, hrm, hb⟩ := hrel
    have HOWN := Lib.hid hown; have HRK := Lib.hid hrk; have HRM := Lib.hid hrm
    clear hown hrk hrm
    obtain ⟨at', hat⟩ : ∃ a, a = 64 * j := ⟨_, rfl⟩
    rw [← hat]
    have HAT := Lib.hid hat
    rcases Nat.lt_or_ge j q with h1 | h1
    · have i1 : (at' : Int) < (T : Int) := by omega
      have i2 : (at' : Int) + 64 ≤ (T : Int) := by omega
      have i3 : at' + 64 ≤ T := by omega
      clear hat
      have i4 : at' + 64 ≤ cm := by omega
      have i5 : (at' : Int) + 64 ≤ (cm : Int) := by omega
      have hwsz := hb.size
      go_wp2_with fail
      have hblk := Rd.sub HRM.out at' 64
      have hbl : ((msg.drop at').take 64).length = 64 := by have := HML.out; simp; omega
      refine (rwords_any _ 64 (cm - at') _ wr hblk hbl (by omega) rfl (by omega)).mono ?_
      rintro e w4 ⟨gw, cw, rfl, hw4, b4⟩
      have hgw := own_ltB hw4
      have HH4 := Lib.hid (own_keptB HOWN.out b4)
      have HRK4 := Lib.hid (HRK.out.below b4)
      have HRM4 := Lib.hid (HRM.out.below b4)
      have HRW4 := Lib.hid (RdU.of_own hw4)
      have hb4 := hb.trans (b4.mono hb.size)
      have hgs4 := own_ltB HH4.out
      clear HOWN HRK HRM hblk hbl hw4 b4 hb i1 i2 i3 i4 i5 hwsz
      have hcs : ∀ jj u, (uv (ups (M.after msg j).list))[jj]? = some u → (w4.alloc (.cells #[] 93)).cell? ((⟨gh, 0, none⟩ : Addr).add jj) = some u := fun jj u hu => by
        have hjj : jj < 8 := (List.getElem?_eq_some_iff.1 hu).1
        rw [Addr.add_lit, Nat.zero_add]
        exact cell_alloc_old _ ((HH4.out.cellAt jj (by omega)).trans hu)
      have HCS := Lib.hid hcs; clear hcs
      go_wp2_with (at_builtin; refine wpList_append_own _ rfl _ _ 97 rfl w4.heap.size 93 j0 (.int .u64 0) 1 8 Tryz.underlying97 hj0 hy0 hy1 hy2 rfl (by decide) _ 0 [] rfl (own_litU (Nat.le_refl _)) ⟨gh, 0, none⟩ 8 ch (uv (ups (M.after msg j).list)) rfl rfl HCS.out (uv_one _) (by unfold maxLen; omega) (by omega) (by simp) ?_; intro v5 w5 hown5 hgrow5 _)
      clear HCS
      have hb45 : Below w4.heap.size w4 w5 := ((Below.refl _ _).alloc (Nat.le_refl _) _).grown hgrow5 (by simp) (fun k hk => ((own_litU (Nat.le_refl w4.heap.size)).lt k hk).1)
      obtain ⟨g5, c5, rfl, _, _⟩ := own_some hown5 (by omega)
      rw [List.nil_append] at hown5
      have HO5 := Lib.hid hown5
      clear hgrow5 hown5
      obtain ⟨st, hst⟩ : ∃ st, st = M.after msg j := ⟨_, rfl⟩
      obtain ⟨ws, hws⟩ : ∃ ws, ws = M.sched ((msg.drop at').take 64) 64 := ⟨_, rfl⟩
      rw [← hst] at HO5 HH4
      rw [← hws] at HRW4
      have hwl : ws.length = 64 := by rw [hws, M.sched_length]
      have HST := Lib.hid hst; have HWS := Lib.hid hws; have HWL := Lib.hid hwl
      clear hst hws hwl
      go_wp2
      go_loopw [8, 9, 10, 11, 12, 13, 14, 15] (fun v i _ _ _ _ _ _ wx => ∃ (t gs cs : Nat), t ≤ 64 ∧ i = .int .i64 (t : Int) ∧ v = .slice (some ⟨gs, 0, none⟩) 8 cs ∧ wx.ownsRow w4.heap.size 93 1 v 8 (uv (ups (M.rounds st ws t).list)) ∧ Below w4.heap.size w4 wx) (fun _ i _ _ _ _ _ _ _ => 64 - (intOf i).toNat)
      case atStart => exact ⟨0, g5, c5, by omega, rfl, rfl, HO5.out, hb45⟩
      case round =>
        clear HO5 hb45
        obtain ⟨t, gs, cs, ht, rfl, rfl, hown, hbx⟩ := hrel
        rcases Nat.lt_or_ge t 64 with h2 | h2
        · have i1 : (t : Int) < 64 := by omega
          have t0 : (0 : Int) ≤ (t : Int) := by omega
          obtain ⟨sr, hsr⟩ : ∃ sr, sr = M.rounds st ws t := ⟨_, rfl⟩
          rw [← hsr] at hown
          have hgs := own_ltB hown
          have c0 : wr.cell? ⟨gs, 0, none⟩ = some (W64 (M.up sr.a)) := own_cellU hown 0 (show 0 < 8 by omega)
          have c1 : wr.cell? ⟨gs, 1, none⟩ = some (W64 (M.up sr.b)) := own_cellU hown 1 (show 1 < 8 by omega)
          have c2 : wr.cell? ⟨gs, 2, none⟩ = some (W64 (M.up sr.c)) := own_cellU hown 2 (show 2 < 8 by omega)
          have c4 : wr.cell? ⟨gs, 4, none⟩ = some (W64 (M.up sr.e)) := own_cellU hown 4 (show 4 < 8 by omega)
          have c5 : wr.cell? ⟨gs, 5, none⟩ = some (W64 (M.up sr.f)) := own_cellU hown 5 (show 5 < 8 by omega)
          have c6 : wr.cell? ⟨gs, 6, none⟩ = some (W64 (M.up sr.g)) := own_cellU hown 6 (show 6 < 8 by omega)
          have c7 : wr.cell? ⟨gs, 7, none⟩ = some (W64 (M.up sr.h)) := own_cellU hown 7 (show 7 < 8 by omega)
          have ckt : wr.cell? ⟨gk, t, none⟩ = some (W64 (M.up (M.at32 M.kList t))) := rdU_cell (HRK4.out.below hbx) t (by rw [kList_length]; exact h2)
          have cwt : wr.cell? ⟨gw, t, none⟩ = some (W64 (M.up (M.at32 ws t))) := rdU_cell (HRW4.out.below hbx) t (by have := HWL.out; omega)
          have HSR := Lib.hid hsr; have HOWN := Lib.hid hown
          clear hsr hown
          have mx := mask_xor
          have mu : ∀ x : BitVec 64, x = x := fun _ => rfl
          go_wp2_with fail
          go_quiet (fail)
          go_wp2_with fail
          go_quiet (fail)
          rw [M.ch_up]
          go_wp2_with fail
          go_quiet (fail)
          rw [M.maj_up]
          go_wp2_with fail
          go_quiet ((go_at_call 69; first | (with_reducible exact q_add (turned_low _ _ _ (by decide) (by decide))) | (with_reducible exact q_same (turned_low _ _ _ (by decide) (by decide)))))
          go_wp2_with fail
          clear mx mu
          have hO2 : ∀ k, (wr.drewN k).ownsRow w4.heap.size 93 1 (.slice (some ⟨gs, 0, none⟩) 8 cs) 8 (uv (ups sr.list)) := fun _ => HOWN.out
          have hB2 : ∀ k, Below w4.heap.size w4 (wr.drewN k) := fun k => below_drewN hbx k
          obtain ⟨o, ho⟩ : ∃ o, o = M.up sr.h + (M.up (M.rot sr.e 6) ^^^ M.up (M.rot sr.e 11) ^^^ M.up (M.rot sr.e 25)) + M.up (M.ch sr.e sr.f sr.g) + M.up (M.at32 M.kList t) + M.up (M.at32 ws t) := ⟨_, rfl⟩
          have ho2 : o.setWidth 32 = M.one sr (M.at32 M.kList t) (M.at32 ws t) := by rw [ho]; exact one_low _ _ _
          rw [← ho]
          have HO1 := Lib.hid ho2
          clear ho ho2 c0 c1 c2 c4 c5 c6 c7 ckt cwt HOWN hbx hgs
          generalize hwz : World.drewN wr _ = wz
          have hO3 : wz.ownsRow w4.heap.size 93 1 (.slice (some ⟨gs, 0, none⟩) 8 cs) 8 (uv (ups sr.list)) := by rw [← hwz]; exact hO2 _
          have hB3 : Below w4.heap.size w4 wz := by rw [← hwz]; exact hB2 _
          have hcap := own_cap hO3
          have hgs := own_ltB hO3
          have hsz := hB3.size
          have HO2 := Lib.hid hO3; have HB2 := Lib.hid hB3
          clear hwz hO3 hB3 hO2 hB2
          refine (turned_low _ 2 _ (by decide) (by decide)).mono ?_
          rintro e w7 ⟨rfl, rfl⟩
          go_wp2_with fail
          refine (turned_low _ 13 _ (by decide) (by decide)).mono ?_
          rintro e w7 ⟨rfl, rfl⟩
          go_wp2_with fail
          refine (turned_low _ 22 _ (by decide) (by decide)).mono ?_
          rintro e w7 ⟨rfl, rfl⟩
          have hcs : ∀ (x : Value) jj u, ((uv (ups sr.list)).take 7)[jj]? = some u → (wz.alloc (.cells #[x] 93)).cell? ((⟨gs, 0, none⟩ : Addr).add jj) = some u := fun x jj u hu => by
            have hjj : jj < 7 := (List.getElem?_eq_some_iff.1 hu).1
            rw [Addr.add_lit, Nat.zero_add]
            rw [List.getElem?_take, if_pos hjj] at hu
            exact cell_alloc_old _ ((HO2.out.cellAt jj (by omega)).trans hu)
          have hol : ∀ x : Value, (wz.alloc (.cells #[x] 93)).ownsRow wz.heap.size 93 1 (.slice (some ⟨wz.heap.size, 0, none⟩) 1 1) 1 [x] := fun x => World.ownsRow_lit wz #[x] 1 (Nat.le_refl _) (by unfold maxLen; omega) rfl
          have HCS := Lib.hid hcs; have HOL := Lib.hid hol
          clear hcs hol
          go_wp2_with (first | (with_reducible refine wpList_store_one rfl 93 (.tmp 128) (.tmp 127) rfl ⟨g8, 4, none⟩ _ _ rfl rfl rfl (by kernel_rfl) d4 f4 ?_) | (at_builtin; refine wpList_append_own _ rfl _ _ 97 rfl wz.heap.size 93 j0 (.int .u64 0) 1 8 Tryz.underlying97 hj0 hy0 hy1 hy2 rfl (by decide) _ 1 [W64 _] rfl (HOL.out _) ⟨gs, 0, none⟩ 7 cs ((uv (ups sr.list)).take 7) rfl rfl (HCS.out _) (fun u hu => uv_one _ u (List.mem_of_mem_take hu)) (by unfold maxLen; omega) (by omega) (by simp) ?_; intro v8 w8 hown8 hgrow8 _; obtain ⟨g8, c8, rfl, hg8, _⟩ := own_some hown8 (by omega); have d4 : w8.cell? ⟨g8, 4, none⟩ = some (W64 (M.up sr.d)) := (hown8.cellAt 4 (by omega)).trans rfl; have f4 : w8.frozen? ⟨g8, 4, none⟩ = false := hown8.frozenAt 4; have hown9 := Lib.hid hown8; clear hown8))
          have hb8 : Below w4.heap.size w4 w8 := (HB2.out.alloc hsz _).grown hgrow8 (by simp; omega) (fun k hk => by have := ((HOL.out (W64 0)).lt k hk).1; omega)
          clear hgrow8
          refine ⟨?_, ?measure⟩
          iterate 200 (first | apply Exists.intro | skip)
          refine ⟨?rel, rfl⟩
          case rel =>
            refine ⟨t + 1, g8, c8, by omega, by go_num, rfl, ?_, hb8.setCell (p := ⟨g8, 4, none⟩) (by simp at hg8 ⊢; omega) _⟩
            have hs := (hown9.out.stored 4 (W64 ((M.up sr.d + o) &&& M.mask))).1
            refine ⟨hs.1, hs.2.elim (fun h => by simp at h) fun ⟨a, b, cur, hv, hbb, r⟩ => .inr ⟨a, b, cur, hv, by omega, ?_⟩⟩
            have er : M.rounds st ws (t + 1) = M.rnd sr (M.at32 M.kList t) (M.at32 ws t) := by rw [M.rounds, HSR.out]
            have hv' := hv
            simp only [Value.slice.injEq, Option.some.injEq, Addr.mk.injEq, and_true, true_and] at hv'
            obtain ⟨r1, r2, r3, r4, r5⟩ := r
            refine ⟨r1, r2, r3, r4, r5.trans ?_⟩
            rw [add_mask, add_mask, HO1.out, two_low, M.low_up, er, M.rnd]
            rfl
          case measure => simp [intOf]; omega
        · have ht64 : t = 64 := by omega
          have i1 : ¬ (t : Int) < 64 := by omega
          rw [ht64] at hown
          have HO := Lib.hid hown
          clear hown ht64
          have hh5 := own_keptB HH4.out hbx
          have hk5 := HRK4.out.below hbx
          have hm5 := HRM4.out.below hbx
          have hs5 := RdU.of_own HO.out
          have hb5 := hb4.trans (hbx.mono hb4.size)
          have hgs5 := own_ltB HO.out
          obtain ⟨fin, hfin⟩ : ∃ fin, fin = M.rounds st ws 64 := ⟨_, rfl⟩
          rw [← hfin] at hs5
          have HFIN := Lib.hid hfin; have HH5 := Lib.hid hh5; have HK5 := Lib.hid hk5; have HM5 := Lib.hid hm5; have HS5 := Lib.hid hs5
          have hne : gh ≠ gs := by omega
          have hne2 : gh ≠ gk := by omega
          have hne3 : gh ≠ gm := by omega
          clear hh5 hk5 hm5 hs5 hfin HO HH4 HRK4 HRM4 HRW4 hb4 hbx
          go_wp2
          go_loopw [16] (fun v wx => ∃ (i : Nat), i ≤ 8 ∧ v = .int .i64 (i : Int) ∧ wx.ownsRow w.heap.size 93 1 (.slice (some ⟨gh, 0, none⟩) 8 ch) 8 (uv (ups (addTo st.list fin.list i))) ∧
            RdU wx (some ⟨gs, 0, none⟩) (ups fin.list) ∧ RdU wx (some ⟨gk, 0, none⟩) (ups M.kList) ∧ Rd wx (some ⟨gm, 0, none⟩) msg ∧ Below w.heap.size w wx) (fun v _ => 8 - (intOf v).toNat)
          case atStart => exact ⟨0, by omega, rfl, HH5.out, HS5.out, HK5.out, HM5.out, hb5⟩
          case round =>
            clear HH5 HK5 HM5 HS5 hb5
            obtain ⟨i, hi8, rfl, hown, hrs, hrk, hrm, hb⟩ := hrel
            have HOWN := Lib.hid hown; have HRS := Lib.hid hrs; have HRK := Lib.hid hrk; have HRM := Lib.hid hrm
            clear hown hrs hrk hrm
            rcases Nat.lt_or_ge i 8 with h3 | h3
            · have p3 : (i : Int) < 8 := by omega
              have p0 : (0 : Int) ≤ (i : Int) := by omega
              have ci : wr.cell? ⟨gh, i, none⟩ = some (W64 (M.up (M.at32 (addTo st.list fin.list i) i))) := own_cellU HOWN.out i (by rw [addTo_length]; exact h3)
              have cs : wr.cell? ⟨gs, i, none⟩ = some (W64 (M.up (M.at32 fin.list i))) := rdU_cell HRS.out i h3
              have fi : wr.frozen? ⟨gh, i, none⟩ = false := HOWN.out.frozenAt i
              go_wp2_with fail
              go_still_tail 13, (by kernel_rfl)
              change wpList _ _ _ _ _ wr.drew
              refine wpList_store_one rfl _ _ _ rfl _ _ _ rfl rfl rfl (by kernel_rfl) ci fi ?_
              go_wp2
              go_roundw
              case rel =>
                refine ⟨i + 1, by omega, by go_num, ?_, RdU.setCell HRS.out (fun e => hne e.symm) _, RdU.setCell HRK.out (fun e => hne2 e.symm) _, Rd.setCell HRM.out (fun e => hne3 e.symm) _, (hb.setCell (p := ⟨gh, i, none⟩) (by have := hgh.1; simpa using this) _).drew⟩
                have hs := (HOWN.out.stored i (W64 ((M.up (M.at32 (addTo st.list fin.list i) i) + M.up (M.at32 fin.list i)) &&& M.mask))).1
                have hm : ∀ a b : BitVec 32, (BitVec.setWidth 64 a + BitVec.setWidth 64 b) &&& M.mask = M.up (a + b) := fun a b => by
                  have h := add_mask (M.up a) (M.up b)
                  rw [M.low_up, M.low_up] at h
                  exact h
                rw [add_mask, M.low_up, M.low_up, ← uv_setU] at hs
                rw [hm]
                exact hs
              case measure => simp [intOf]; omega
            · have hi8' : i = 8 := by omega
              have p3 : ¬ (i : Int) < 8 := by omega
              have HI8 := Lib.hid hi8'
              clear hi8'
              have a3 : at' + 64 ≤ T := by have := HAT.out; omega
              have a4 : (at' : Int) + 64 ≤ 2000000000000 := by omega
              go_wp2
              go_roundw
              case rel =>
                refine ⟨j + 1, by omega, by have := HAT.out; go_num, ?_, HRK.out, HRM.out, hb⟩
                have o := HOWN.out
                rw [HI8.out, addTo_eight, HFIN.out, HWS.out] at o
                have e : M.after msg (j + 1) = (M.rounds st (M.sched ((msg.drop at').take 64) 64) 64).add st := by rw [HST.out, HAT.out]; rfl
                rw [e]
                exact o
              case measure => simp [intOf]; omega
    · have i1 : ¬ (at' : Int) < (T : Int) := by omega
      have hjq : j = q := by omega
      have HJQ := Lib.hid hjq
      obtain ⟨s, hs⟩ : ∃ s, s = M.after msg j := ⟨_, rfl⟩
      rw [← hs] at HOWN
      have hgh2 := own_ltB HOWN.out
      have HS := Lib.hid hs
      clear hs hjq hat
      obtain ⟨wo, rfl⟩ : ∃ wo : World, wo = wr := ⟨_, rfl⟩
      have hwo := hb.size
      go_wp2
      go_loopw [17, 18] (fun v i wx => ∃ (k m cap : Nat) (B : Option Addr), k ≤ 8 ∧ i = .int .i64 (k : Int) ∧ v = .slice B m cap ∧ m = 4 * k ∧ wx.ownsRow wo.heap.size 5 1 v m (bv (digTo s k)) ∧ Below wo.heap.size wo wx) (fun _ i _ => 8 - (intOf i).toNat)
      case atStart => exact ⟨0, 0, 0, none, by omega, rfl, rfl, rfl, World.ownsRow_nil _ _ _ _, Below.refl _ _⟩
      case round =>
        obtain ⟨k, m, cap, B, hk, rfl, rfl, hm, hown, hbx⟩ := hrel
        have hm2 : m ≤ 32 := by omega
        have HM := Lib.hid hm; have HO := Lib.hid hown
        clear hm hown
        have hbs := hbx.size
        rcases Nat.lt_or_ge k 8 with h3 | h3
        · have p3 : (k : Int) < 8 := by omega
          have p0 : (0 : Int) ≤ (k : Int) := by omega
          have c0 : wr.cell? ⟨gh, k, none⟩ = some (W64 (M.up (M.at32 s.list k))) := (hbx.cell (p := ⟨gh, k, none⟩) hgh2.2).trans (own_cellU HOWN.out k h3)
          have hob : (Value.slice B m cap).ownBlock ≠ some gh := fun h => by
            have := (HO.out.lt gh h).1; omega
          have hgr : gh < wr.heap.size := by omega
          obtain ⟨x, hx⟩ : ∃ x, x = M.at32 s.list k := ⟨_, rfl⟩
          rw [← hx] at c0
          have HX := Lib.hid hx; clear hx
          go_wp2_with fail
          go_region_held3 (fun w' => w'.cell? ⟨gh, k, none⟩ = some (W64 (M.up x)))
            (first
              | (refine (hgrow.cell_far _ (by simp; omega) (Ne.symm hob)).trans ?_; assumption)
              | (refine (hgrow.cell_far _ (by simp; omega) (Ne.symm hob)).trans ?_; go_keep)
              | go_keep)
            ((refine step_append_lies _ (by rfl) _ _ _ (by rfl) wo.heap.size 5 i0 _ 1 1 Tryz.underlying22 hi hz0 hz1 hz2 rfl (by omega) (.slice B m cap) m _ (by rfl) ((HO.out.alloc _).drew)
                ⟨wr.heap.size, 0, none⟩ 4 4 [B8 _, B8 _, B8 _, B8 _] (by rfl) (by rfl) (cells4 _ _ _ _ _ _) (by intro u hu; simp at hu; rcases hu with rfl | rfl | rfl | rfl <;> rfl)
                (by omega) (by unfold maxLen; omega) (by omega) (by simp; omega) (wr.heap.size + 1) (by simp) ?_; intro g3 c3 w3 hown3 hgrow hat3 hlt3))
          have hb3 : Below wo.heap.size wo w3 := (hbx.alloc hbx.size _).drew.grown hgrow (by simp; omega) (fun k' hk' => (HO.out.lt k' hk').1)
          clear hgrow hat3 hlt3 hob
          go_wp2
          go_roundw
          case rel =>
            refine ⟨k + 1, m + 4, c3, _, by omega, by go_num, rfl, by have := HM.out; omega, ?_, hb3⟩
            rw [digTo_succ _ _ h3, ← HX.out, bytes4, bv_append]
            rw [up_byte, up_byte, up_byte] at hown3
            first | exact hown3 | (simp only [up_byte0] at hown3; exact hown3)
          case measure => simp [intOf]; omega
        · have hk8 : k = 8 := by omega
          have p3 : ¬ (k : Int) < 8 := by omega
          have hm32 : m = 32 := by have := HM.out; omega
          have o := HO.out
          rw [hk8, digTo_end, hm32] at o
          obtain ⟨g, cap', e, hg1, hg2⟩ := own_some o (by omega)
          simp only [Value.slice.injEq, true_and] at e
          obtain ⟨rfl, rfl⟩ := e
          have O2 := Lib.hid o; have HM32 := Lib.hid hm32
          clear o hm32 hk8 HO
          go_wp2
          go_ret
          refine ⟨g, cap, by rw [← HM32.out]; rfl, ?_, hb.trans (hbx.mono hwo)⟩
          rw [HSUM.out, ← HJQ.out, ← HS.out]
          exact own_weaken O2.out hwo
end Go.Proofs.YtidcfjmibljkeaaGreatDoor.K

/- The contracts of mac.Tag and its closure, and of the reference's under and Tag. -/
namespace Go.Proofs.YtidcfjmibljkeaaGreatDoor.K
open Go Go.RowKit

set_option maxHeartbeats 2000000 in
set_option maxRecDepth 100000 in
theorem side_any (x : BitVec 8) (key : List (BitVec 8)) (A : Option Addr) (n c X : Nat) (bs : List (BitVec 8)) (w : World) (hr : RowRd w ⟨A, n, c⟩ bs) (hn2 : n ≤ 100000000000) (hX : w.heap[X]? = some (.cells (bv (M.macBlock key)).toArray 136 (0, 0))) (hK : HasK w) (hF : HasF w) :
    Calls Tryz.prog 106 #[B8 x, .slice A n c, .pointer (some ⟨X, 0, none⟩)] w (Made w (M.sum (M.macUnder key x ++ bs))) := by
  have HR := Lib.hid hr; have HX := Lib.hid hX; have HK := Lib.hid hK; have HF := Lib.hid hF; have HL := Lib.hid hr.len
  clear hr hX hK hF
  go_enter Tryz.func106, Tryz.ntmps106
  go_wp2_with (with_reducible refine wpList_load_row rfl 136 (.tmp 2) rfl X rfl 136 _ (0, 0) _ HX.out Tryz.underlying136 rfl (infoBlk _ (M.macBlock_length key)) ?_)
  refine (under_any (M.macBlock key) x w (M.macBlock_length key)).mono ?_
  rintro e w1 ⟨g, rfl, hrow, hb⟩
  have HU := Lib.hid hrow; have HB := Lib.hid hb
  clear hrow hb
  go_wp2_with fail
  have hfl : flat [(⟨some ⟨g, 0, none⟩, 64, 64⟩, (M.macBlock key).map fun y => y ^^^ x), (⟨A, n, c⟩, bs)] = M.macUnder key x ++ bs := by simp [flat, M.macUnder]
  refine (digest_lit [(⟨some ⟨g, 0, none⟩, 64, 64⟩, (M.macBlock key).map fun y => y ^^^ x), (⟨A, n, c⟩, bs)] w1 _ 2 2 rfl rfl (fun p hp => ?_) (by simp) ?_ (HK.out.below HB.out) (HF.out.below HB.out)).mono ?_
  · simp only [List.mem_cons, List.mem_nil_iff, or_false] at hp
    rcases hp with rfl | rfl
    · exact HU.out
    · exact HR.out.below HB.out
  · rw [hfl, List.length_append, M.macUnder_length, HL.out]; show 64 + n ≤ _; omega
  rintro e w2 ⟨g2, N, cap, rfl, hN, ho, hb⟩
  rw [hfl] at hN ho
  have hal := (Below.refl w1.heap.size w1).alloc (Nat.le_refl _) (.cells #[.slice (some ⟨g, 0, none⟩) 64 64, .slice A n c] 22)
  have S2 := Since.add (Since.add HB.out hal) hb
  have HFIN := Lib.hid (show Made w (M.sum (M.macUnder key x ++ bs)) (.returned (.slice (some ⟨g2, 0, none⟩) N cap)) w2 from ⟨g2, N, cap, rfl, hN, row_base ho (Since.add HB.out hal).size, S2⟩)
  clear hfl hN ho hal S2 hb
  go_wp2
  go_ret
  exact HFIN.out

set_option maxHeartbeats 2000000 in
set_option maxRecDepth 100000 in
theorem tag_any (A B : Option Addr) (n c m d : Nat) (key bs : List (BitVec 8)) (w : World) (hk : RowRd w ⟨A, n, c⟩ key) (hr : RowRd w ⟨B, m, d⟩ bs) (hn2 : n ≤ 100000000000) (hm2 : m ≤ 100000000000) (hK : HasK w) (hF : HasF w) :
    Calls Tryz.prog 65 #[.slice A n c, .slice B m d] w (Made w (M.tag key bs)) := by
  have hmf : ∀ (fn : Fn) (first cap : Array Value) (w : World), (Instr.makeFunc fn first cap).run Tryz.prog w = .ok (.func fn first cap) w := fun _ _ _ _ => rfl
  have HKY := Lib.hid hk; have HR := Lib.hid hr; have HK := Lib.hid hK; have HF := Lib.hid hF
  clear hk hr hK hF
  go_enter Tryz.func65, Tryz.ntmps65
  go_wp2_with fail
  refine (of_any A n c key w HKY.out (by omega) HK.out HF.out).mono ?_
  rintro e w1 ⟨rfl, hb⟩
  have HB := Lib.hid hb
  have HZ := Lib.hid (heap_alloc_new w1 (.cells (bv (zer 64)).toArray 136))
  have HS := Lib.hid (below_setRow (Since.alloc hb (.cells (bv (zer 64)).toArray 136)) hb.size (bv (M.macBlock key)).toArray)
  have HX := Lib.hid (setRow_heap _ w1.heap.size _ (bv (M.macBlock key)).toArray 136 (0, 0) HZ.out)
  clear hb
  go_wp2_with (refine wpList_store_row rfl 136 (.tmp 5) (.tmp 8) rfl w1.heap.size (bv (M.macBlock key)).toArray rfl rfl 136 _ HZ.out (infoBlk _ (M.macBlock_length key)) (blk_size _ _ (zer_length 64) (M.macBlock_length key)) (bv_all _) ?_)
  change Calls _ _ _ ((w1.alloc (.cells (bv (zer 64)).toArray 136)).setRow w1.heap.size (bv (M.macBlock key)).toArray) _
  generalize (w1.alloc (.cells (bv (zer 64)).toArray 136)).setRow w1.heap.size (bv (M.macBlock key)).toArray = w2 at *
  refine (side_any 0x36#8 key B m d w1.heap.size bs w2 (HR.out.below HS.out) hm2 HX.out (HK.out.below HS.out) (HF.out.below HS.out)).mono ?_
  rintro e w3 ⟨g3, N3, c3, rfl, hN, ho, hb⟩
  have HS3 := Lib.hid (HS.out.trans (hb.mono HS.out.size)); have HX3 := Lib.hid (Since.at hb HX.out); have R3 := Lib.hid (RowRd.of_row ho)
  have hN3 : N3 ≤ 100000000000 := by rw [hN, M.sum_length]; omega
  clear hN ho hb HZ
  go_wp2_with fail
  refine (side_any 0x5c#8 key (some ⟨g3, 0, none⟩) N3 c3 w1.heap.size (M.sum (M.macUnder key 0x36#8 ++ bs)) w3 R3.out hN3 HX3.out (HK.out.below HS3.out) (HF.out.below HS3.out)).mono ?_
  rintro e w4 ⟨g4, N4, c4, rfl, hN, ho, hb⟩
  have HFIN := Lib.hid (show Made w (M.tag key bs) (.returned (.slice (some ⟨g4, 0, none⟩) N4 c4)) w4 from ⟨g4, N4, c4, rfl, hN, row_base ho HS3.out.size, HS3.out.trans (hb.mono HS3.out.size)⟩)
  clear hN ho hb
  go_wp2
  go_ret
  exact HFIN.out

/-! ### the reference's -/
theorem refSum_made {w : World} {A : Option Addr} {n c : Nat} {bs : List (BitVec 8)} (hr : RowRd w ⟨A, n, c⟩ bs) (hn : n ≤ 1000000000000) : Calls Tryz.prog 36 #[.slice A n c] w (Made w (M.sum bs)) :=
  (RefSum_any A n c bs w hr.rd hr.len hn hr.none).mono fun e w' ⟨g, cap, he, ho, hb⟩ => ⟨g, 32, cap, he, rfl, ho, hb⟩
/-- what stands at place j once k places are done -/
def unders (key : List (BitVec 8)) (n : BitVec 8) (k : Nat) : List (BitVec 8) := (M.macUnder key n).take k ++ zer (64 - k)
theorem unders_length (key : List (BitVec 8)) (n : BitVec 8) (k : Nat) (h : k ≤ 64) : (unders key n k).length = 64 := by
  unfold unders
  rw [List.length_append, List.length_take, M.macUnder_length, zer_length]; omega
theorem unders_at (key : List (BitVec 8)) (n : BitVec 8) (k : Nat) (h : k < 64) : (unders key n k)[k]? = some 0#8 := by
  unfold unders
  rw [List.getElem?_append_right (by rw [List.length_take, M.macUnder_length]; omega), List.length_take, M.macUnder_length, Nat.min_eq_left (by omega), Nat.sub_self]
  unfold zer
  rw [List.getElem?_replicate, if_pos (by omega)]
theorem unders_set (key : List (BitVec 8)) (n : BitVec 8) (k : Nat) (h : k < 64) (y : BitVec 8) (hy : (M.macUnder key n)[k]? = some y) : (unders key n k).set k y = unders key n (k + 1) := by
  apply List.ext_getElem?
  intro j
  have hl : (M.macUnder key n).length = 64 := M.macUnder_length key n
  by_cases e : j = k
  · subst e
    rw [List.getElem?_set_self (by rw [unders_length _ _ _ (by omega)]; exact h)]
    unfold unders
    rw [List.getElem?_append_left (by rw [List.length_take]; omega), List.getElem?_take, if_pos (by omega), hy]
  · rw [List.getElem?_set_ne (Ne.symm e)]
    unfold unders
    by_cases h1 : j < k
    · rw [List.getElem?_append_left (by rw [List.length_take]; omega), List.getElem?_append_left (by rw [List.length_take]; omega), List.getElem?_take, List.getElem?_take, if_pos h1, if_pos (by omega)]
    · rw [List.getElem?_append_right (by rw [List.length_take]; omega), List.getElem?_append_right (by rw [List.length_take]; omega), List.length_take, List.length_take, Nat.min_eq_left (by omega), Nat.min_eq_left (by omega)]
      unfold zer
      rw [List.getElem?_replicate, List.getElem?_replicate]
      by_cases h2 : j < 64
      · rw [if_pos (by omega), if_pos (by omega)]
      · rw [if_neg (by omega), if_neg (by omega)]
theorem under_at (key : List (BitVec 8)) (n : BitVec 8) (k : Nat) (h : k < 64) : (M.macUnder key n)[k]? = some (((M.keyOf key).getD k 0#8) ^^^ n) := by
  have hl := M.keyOf_le key
  unfold M.macUnder M.macBlock
  rw [List.getElem?_map]
  by_cases h1 : k < (M.keyOf key).length
  · rw [List.getElem?_append_left h1, List.getElem?_eq_getElem h1]
    simp [h1]
  · rw [List.getElem?_append_right (by omega), List.getElem?_replicate, if_pos (by omega)]
    simp [h1]

set_option maxHeartbeats 4000000 in
set_option maxRecDepth 100000 in
theorem runder_any (A : Option Addr) (n c : Nat) (key : List (BitVec 8)) (x : BitVec 8) (w : World) (hr : RowRd w ⟨A, n, c⟩ key) (hn : n ≤ 1000000000000) :
    Calls Tryz.prog 70 #[.slice A n c, B8 x] w (Made w (M.macUnder key x)) := by
  obtain ⟨i0, hi, hz0, hz1, hz2⟩ := info_parts infoByte
  have HR := Lib.hid hr; have HL := Lib.hid hr.len
  clear hr
  go_enter Tryz.func70, Tryz.ntmps70
  go_upto_if 11 with fail
  go_cut [5] (fun s5 wx => ∃ A2 n2 c2, s5 = .slice A2 n2 c2 ∧ RowRd wx ⟨A2, n2, c2⟩ (M.keyOf key) ∧ Since w wx)
  case first =>
    by_cases h3 : 64 < n
    · have p : (64 : Int) < (n : Int) := by omega
      have hk2 : M.keyOf key = M.sum key := by unfold M.keyOf; rw [if_pos (by rw [HL.out]; exact h3)]
      have HK2 := Lib.hid hk2
      clear hk2
      go_wp2_with fail
      refine (refSum_made HR.out hn).mono ?_
      rintro e w1 ⟨g, N, cap, rfl, hN, ho, hb⟩
      have HFIN := Lib.hid (show ∃ A2 n2 c2, Value.slice (some ⟨g, 0, none⟩) N cap = .slice A2 n2 c2 ∧ RowRd w1 ⟨A2, n2, c2⟩ (M.keyOf key) ∧ Since w w1 from ⟨_, _, _, rfl, by rw [HK2.out]; exact RowRd.of_row ho, hb⟩)
      clear hN ho hb
      go_wp2_with fail
      go_meet
      exact HFIN.out
    · have p : ¬ (64 : Int) < (n : Int) := by omega
      have hk2 : M.keyOf key = key := by unfold M.keyOf; rw [if_neg (by rw [HL.out]; exact h3)]
      have HK2 := Lib.hid hk2
      clear hk2
      go_wp2_with fail
      go_meet
      exact ⟨A, n, c, rfl, by rw [HK2.out]; exact HR.out, Below.refl _ _⟩
  case rest =>
    obtain ⟨A2, n2, c2, rfl, hr2, hs2⟩ := hcut
    have hl2 : (M.keyOf key).length = n2 := hr2.len
    have hle := M.keyOf_le key
    have hn2 : n2 ≤ 64 := by omega
    have HR2 := Lib.hid hr2; have HS2 := Lib.hid hs2; have HL2 := Lib.hid hl2
    clear hr2 hs2 hl2 hle
    go_wp2_with (at_make; refine wpList_make_full _ rfl _ _ 22 rfl w.heap.size 5 i0 (.int .u8 0) 1 Tryz.underlying22 hi hz0 hz1 _ _ _ _ 64 rfl rfl rfl rfl (by rw [hz2]; omega) (by unfold maxLen; omega) HS2.out.size ?_; intro w1 hown1 hgrow1)
    have hb1 := HS2.out.grown hgrow1 HS2.out.size (by simp)
    have HB1 := Lib.hid hb1
    have HO1 := Lib.hid (show w1.ownsRow w.heap.size 5 1 (.slice (some ⟨wc.heap.size, 0, none⟩) 64 64) 64 (bv (unders key x 0)) from made_zer hown1)
    have HSX := Lib.hid (show Since wc w1 from below_none hgrow1)
    clear hown1 hgrow1 hb1 HB1
    go_wp2
    go_loopw [7] (fun i wr => ∃ k : Nat, k ≤ 64 ∧ i = .int .i64 (k : Int) ∧ wr.ownsRow w.heap.size 5 1 (.slice (some ⟨wc.heap.size, 0, none⟩) 64 64) 64 (bv (unders key x k)) ∧ Since wc wr) (fun i _ => 64 - (intOf i).toNat)
    case atStart => exact ⟨0, by omega, rfl, HO1.out, HSX.out⟩
    case round =>
      clear HO1 HSX
      obtain ⟨k, hk, rfl, ho, hs⟩ := hrel
      have k0 : (0 : Int) ≤ (k : Int) := by omega
      rcases Nat.lt_or_ge k 64 with h1 | h1
      · have i1 : (k : Int) < 64 := by omega
        have hc : wr.cell? ⟨wc.heap.size, k, none⟩ = some (B8 0#8) := by
          rw [ho.cellAt k (by omega), bv, List.getElem?_map, unders_at key x k h1]; rfl
        have hf := ho.frozenAt k
        by_cases h2 : k < n2
        · have i2 : (k : Int) < (n2 : Int) := by omega
          obtain ⟨b, o, rfl, hcx⟩ := (Since.row hs HR2.out).rd k (by rw [HL2.out]; exact h2)
          have hy : (M.keyOf key)[k]'(by rw [HL2.out]; exact h2) = (M.keyOf key).getD k 0#8 := by simp [show k < (M.keyOf key).length by rw [HL2.out]; exact h2]
          obtain ⟨y, hyy⟩ : ∃ y, y = (M.keyOf key).getD k 0#8 := ⟨_, rfl⟩
          have hcx' : wr.cell? ⟨b, o + k, none⟩ = some (B8 y) := by rw [hcx, hy, hyy]
          have hua := under_at key x k h1
          rw [← hyy] at hua
          have HUA := Lib.hid hua
          have ho2 := (ho.stored k (B8 (y))).1
          have hc2 : (wr.setCell ⟨wc.heap.size, k, none⟩ (B8 (y))).cell? ⟨wc.heap.size, k, none⟩ = some (B8 (y)) := World.cell?_setCell_same _ _ _ hc
          have hf2 := ho2.frozenAt k
          have ho3 := (ho2.stored k (B8 (y ^^^ x))).1
          have HO3 := Lib.hid ho3; have HS3 := Lib.hid (Since.set (Since.set hs (Nat.le_refl wc.heap.size) k (B8 (y))) (Nat.le_refl wc.heap.size) k (B8 (y ^^^ x)))
          clear ho hs hcx hy ho2 ho3 hyy hua
          go_wp2_with (first
            | (with_reducible refine wpList_store_one rfl 5 (.tmp 29) (.tmp 28) rfl ⟨wc.heap.size, k, none⟩ (B8 (y)) _ rfl rfl rfl (by kernel_rfl) hc hf ?_)
            | (with_reducible refine wpList_store_one rfl 5 (.tmp 38) (.tmp 37) rfl ⟨wc.heap.size, k, none⟩ (B8 (y ^^^ x)) _ rfl rfl rfl (by kernel_rfl) hc2 hf2 ?_))
          go_roundw
          case rel =>
            refine ⟨k + 1, by omega, by go_num, ?_, HS3.out⟩
            have e2 : ((bv (unders key x k)).set k (B8 (y))).set k (B8 (y ^^^ x)) = bv (unders key x (k + 1)) := by
              rw [← unders_set key x k h1 _ HUA.out, List.set_set]; simp [bv]
            rw [← e2]; exact HO3.out
          case measure => simp [intOf]; omega
        · have i2 : ¬ (k : Int) < (n2 : Int) := by omega
          have hg0 : (M.keyOf key).getD k 0#8 = 0#8 := by simp [show ¬ k < (M.keyOf key).length by rw [HL2.out]; exact h2]
          have hu := under_at key x k h1
          rw [hg0, BitVec.zero_xor] at hu
          have ho3 := (ho.stored k (B8 x)).1
          have HO3 := Lib.hid ho3; have HS3 := Lib.hid (Since.set hs (Nat.le_refl wc.heap.size) k (B8 x)); have HU := Lib.hid hu
          clear ho hs ho3 hg0 hu
          go_wp2_with (with_reducible refine wpList_store_one rfl 5 (.tmp 38) (.tmp 37) rfl ⟨wc.heap.size, k, none⟩ (B8 x) _ rfl rfl rfl (by kernel_rfl) hc hf ?_)
          go_roundw
          case rel =>
            refine ⟨k + 1, by omega, by go_num, ?_, HS3.out⟩
            have e2 : (bv (unders key x k)).set k (B8 x) = bv (unders key x (k + 1)) := by
              rw [← unders_set key x k h1 _ HU.out]; simp [bv]
            rw [← e2]; exact HO3.out
          case measure => simp [intOf]; omega
      · have i1 : ¬ (k : Int) < 64 := by omega
        have hk64 : k = 64 := by omega
        have hu : unders key x 64 = M.macUnder key x := by unfold unders zer; simp [M.macUnder_length, List.take_of_length_le]
        rw [hk64, hu] at ho
        have HFIN := Lib.hid (show Made w (M.macUnder key x) (.returned (.slice (some ⟨wc.heap.size, 0, none⟩) 64 64)) wr from ⟨_, 64, 64, rfl, (M.macUnder_length key x).symm, ho, HS2.out.trans (hs.mono HS2.out.size)⟩)
        clear ho hs hu hk64
        go_wp2
        go_ret
        exact HFIN.out
end Go.Proofs.YtidcfjmibljkeaaGreatDoor.K

/- The contracts of mac.Fits, and of the reference's Tag and Fits. -/
namespace Go.Proofs.YtidcfjmibljkeaaGreatDoor.K
open Go Go.RowKit

set_option maxHeartbeats 2000000 in
set_option maxRecDepth 100000 in
theorem rtag_any (A B : Option Addr) (n c m d : Nat) (key bs : List (BitVec 8)) (w : World) (hk : RowRd w ⟨A, n, c⟩ key) (hr : RowRd w ⟨B, m, d⟩ bs) (hn2 : n ≤ 100000000000) (hm2 : m ≤ 100000000000) :
    Calls Tryz.prog 38 #[.slice A n c, .slice B m d] w (Made w (M.tag key bs)) := by
  have HK := Lib.hid hk; have HR := Lib.hid hr
  clear hk hr
  go_enter Tryz.func38, Tryz.ntmps38
  go_wp2_with fail
  refine (runder_any A n c key 0x36#8 w HK.out (by omega)).mono ?_
  rintro e w1 ⟨g1, N1, c1, rfl, hN1, ho1, hb1⟩
  have hn1 : N1 ≤ 64 := by rw [hN1, M.macUnder_length]; omega
  have BK1 := Lib.hid ((Bank.nil (Below.refl w.heap.size w)).madeB hb1 ho1)
  clear hN1 ho1 hb1
  go_wp2_with (at_builtin; refine wpList_append_bytes BK1.out rfl _ _ 22 rfl 5 infoByte Tryz.underlying22 0 _ _ _ _ rfl rfl _ _ _ _ rfl (Since.row BK1.out.since HR.out) (by omega) ?_; intro A2 n2 c2 w2 hn2' hB2; dsimp only [List.set] at hB2; have BK2 := Lib.hid hB2; have hn2'' := Nat.le_of_eq hn2'; clear hB2 hn2')
  refine (refSum_made (BK2.out.row 0 rfl) (by omega)).mono ?_
  rintro e w3 ⟨g3, N3, c3, rfl, hN3, ho3, hb3⟩
  have S3 := Lib.hid (BK2.out.since.add hb3); have R3 := Lib.hid (RowRd.of_row ho3)
  have hn3 : N3 ≤ 32 := by rw [hN3, M.sum_length]; omega
  clear hN3 ho3 hb3
  go_wp2_with fail
  refine (runder_any A n c key 0x5c#8 w3 (Since.row S3.out HK.out) (by omega)).mono ?_
  rintro e w4 ⟨g4, N4, c4, rfl, hN4, ho4, hb4⟩
  have hn4 : N4 ≤ 64 := by rw [hN4, M.macUnder_length]; omega
  have BK4 := Lib.hid ((Bank.nil (Below.refl w3.heap.size w3)).madeB hb4 ho4)
  clear hN4 ho4 hb4
  go_wp2_with (at_builtin; refine wpList_append_bytes BK4.out rfl _ _ 22 rfl 5 infoByte Tryz.underlying22 0 _ _ _ _ rfl rfl _ _ _ _ rfl (Since.row BK4.out.since R3.out) (by omega) ?_; intro A5 n5 c5 w5 hn5 hB5; dsimp only [List.set] at hB5; have BK5 := Lib.hid hB5; have hn5' := Nat.le_of_eq hn5; clear hB5 hn5)
  refine (refSum_made (BK5.out.row 0 rfl) (by omega)).mono ?_
  rintro e w6 ⟨g6, N6, c6, rfl, hN6, ho6, hb6⟩
  have S5 : Since w w5 := S3.out.trans (BK5.out.since.mono S3.out.size)
  have HFIN := Lib.hid (show Made w (M.tag key bs) (.returned (.slice (some ⟨g6, 0, none⟩) N6 c6)) w6 from ⟨g6, N6, c6, rfl, hN6, row_base ho6 S5.size, S5.add hb6⟩)
  clear hN6 ho6 hb6 S5
  go_wp2
  go_ret
  exact HFIN.out
/-- whether a tag is the one -/
def FitsPost (w : World) (key bs tg : List (BitVec 8)) (e : Ending) (w' : World) : Prop := e = .returned (.bool (decide (M.tag key bs = tg))) ∧ Since w w'

theorem bv_cell (l : List (BitVec 8)) : bv l = (l.map UInt8.ofBitVec).map Extern.Stop.cell := by
  simp only [bv, List.map_map]; rfl
theorem run_arrayAt {P : Program} (t e : TypeId) (n : Nat) (ht : P.underlying t = some (.array n e)) (a : Option Addr) (c : Nat) (w : World) : (Instr.arrayAt t (.slice a n c)).run P w = .ok (.pointer a) w := by
  simp [Instr.arrayAt, run_underlying ht]
theorem run_eql_bv {P : Program} (t e : TypeId) (n : Nat) (ht : P.underlying t = some (.array n e)) (he : P.underlying e = some (.int .u8)) (hsz : ∀ w, (sizeOf e).run P w = .ok 1 w) (xs ys : List (BitVec 8)) (hx : xs.length = n) (hy : ys.length = n) (w : World) :
    (binOp .eql t (.agg (bv xs).toArray) (.agg (bv ys).toArray)).run P w = .ok (.bool (decide (ys = xs))) w := by
  rw [bv_cell, bv_cell, run_eql_bytes w t e n ht he hsz _ _ (by simpa using hx) (by simpa using hy)]
  congr 2
  rw [Bool.eq_iff_iff, beq_iff_eq, decide_eq_true_iff]
  constructor
  · intro h
    have h2 := (List.map_inj_right (f := UInt8.ofBitVec) (fun a b h => by cases h; rfl)).1 h
    exact h2.symm
  · rintro rfl; rfl
theorem sizeByte (w : World) : (sizeOf 5).run Tryz.prog w = .ok 1 w := by
  obtain ⟨i0, hi, _, hz1, _⟩ := info_parts infoByte
  simp [sizeOf, typeInfo, hi, hz1]
theorem info32 (l : List (BitVec 8)) (h : l.length = 32) : (Tryz.prog.info? 122).map (·.size) = some (bv l).length := by
  rw [bv_length, h]; kernel_rfl
theorem range_of {w : World} {b o : Nat} {n c : Nat} {bs : List (BitVec 8)} (h : RowRd w ⟨some ⟨b, o, none⟩, n, c⟩ bs) : w.rangeAt b o (bv bs) := fun j v hv => by
  have h1 := h.rd.cells ⟨b, o, none⟩ rfl j v hv
  rw [Addr.add_lit] at h1
  exact h1
theorem range_since {w0 w : World} {b o : Nat} {cs : List Value} (h : w0.rangeAt b o cs) (hs : Since w0 w) : w.rangeAt b o cs := fun j v hv => (hs.cell (p := ⟨b, o + j, none⟩) (block_lt_of_cell (h j v hv))).trans (h j v hv)

set_option maxHeartbeats 4000000 in
set_option maxRecDepth 100000 in
theorem fits_any (A B C : Option Addr) (n c m d k l : Nat) (key bs tg : List (BitVec 8)) (w : World) (hk : RowRd w ⟨A, n, c⟩ key) (hr : RowRd w ⟨B, m, d⟩ bs) (ht : RowRd w ⟨C, k, l⟩ tg) (hn2 : n ≤ 100000000000) (hm2 : m ≤ 100000000000) (hk2 : k ≤ 100000000000) (hK : HasK w) (hF : HasF w) :
    Calls Tryz.prog 50 #[.slice A n c, .slice B m d, .slice C k l] w (FitsPost w key bs tg) := by
  have HKY := Lib.hid hk; have HR := Lib.hid hr; have HT := Lib.hid ht; have HK := Lib.hid hK; have HF := Lib.hid hF; have HL := Lib.hid ht.len
  clear hk hr ht hK hF
  by_cases h32 : k = 32
  · subst h32
    have htl : tg.length = 32 := HL.out
    obtain ⟨b, o, hC, _, _⟩ := HT.out.rd.lay (by omega)
    obtain rfl : C = some ⟨b, o, none⟩ := hC
    have hrg := range_of HT.out
    have HRG := Lib.hid hrg
    have hi1 := info32 tg htl
    have hi2 := info32 (M.tag key bs) (M.tag_length key bs)
    have hu := Tryz.underlying122
    have harr := fun (a : Option Addr) (c : Nat) (w : World) => run_arrayAt (P := Tryz.prog) 122 5 32 Tryz.underlying122 a c w
    have heq := fun (w : World) => run_eql_bv (P := Tryz.prog) 122 5 32 Tryz.underlying122 Tryz.underlying5 sizeByte tg (M.tag key bs) htl (M.tag_length key bs) w
    clear hrg
    have HTL := Lib.hid htl
    clear htl
    go_enter Tryz.func50, Tryz.ntmps50
    go_wp2_with fail
    have hsd : Since w w.drew := Since.drew (Below.refl _ _)
    have hrd := range_since HRG.out hsd
    refine wp_region_noPanic ?_
    refine wp_region_held_drew (S := fun w' => w'.rangeAt b o (bv tg)) (by kernel_rfl) hrd (fun hHeld => ?_)
    refine wpAnyH_take (i := 0) (v := ?_) rfl (by kernel_rfl) (by kernel_rfl) (by kernel_rfl) (fun _ _ _ h => h) (Or.inl ⟨by rfl, ?_⟩) hHeld ?_
    rotate_left
    · intro w hSw; clear hSw; go_simp <;> rfl
    try simp only [Act.put, List.setIfInBounds_toArray, List.set_cons_zero, List.set_cons_succ]
    refine wpAnyH_take (i := 1) (v := ?_) rfl (by kernel_rfl) (by kernel_rfl) (by kernel_rfl) (fun _ _ _ h => h) (Or.inl ⟨by rfl, ?_⟩) hHeld ?_
    rotate_left
    · intro w hSw; clear hSw; go_simp <;> rfl
    try simp only [Act.put, List.setIfInBounds_toArray, List.set_cons_zero, List.set_cons_succ]
    refine wpAnyH_take (i := 2) (v := ?_) rfl (by kernel_rfl) (by kernel_rfl) (by kernel_rfl) (fun _ _ _ h => h) (Or.inl ⟨by rfl, ?_⟩) hHeld ?_
    rotate_left
    · intro w hSw; clear hSw; go_simp <;> rfl
    try simp only [Act.put, List.setIfInBounds_toArray, List.set_cons_zero, List.set_cons_succ]
    refine wpAnyH_take (i := 3) (v := ?_) rfl (by kernel_rfl) (by kernel_rfl) (by kernel_rfl) (fun _ _ _ h => h) (Or.inl ⟨by rfl, ?_⟩) hHeld ?_
    rotate_left
    · intro w hSw; clear hSw; go_simp <;> rfl
    try simp only [Act.put, List.setIfInBounds_toArray, List.set_cons_zero, List.set_cons_succ]
    refine wpAnyH_take (i := 4) (v := ?_) rfl (by kernel_rfl) (by kernel_rfl) (by kernel_rfl) (fun _ _ _ h => h) (Or.inl ⟨by rfl, ?_⟩) hHeld ?_
    rotate_left
    · intro w hSw; clear hSw; go_simp <;> rfl
    try simp only [Act.put, List.setIfInBounds_toArray, List.set_cons_zero, List.set_cons_succ]
    refine wpAnyH_take (i := 7) (v := ?_) rfl (by kernel_rfl) (by kernel_rfl) (by kernel_rfl) (fun _ _ _ h => h) (Or.inl ⟨by rfl, ?_⟩) hHeld ?_
    rotate_left
    · intro w hSw; clear hSw; go_simp <;> rfl
    try simp only [Act.put, List.setIfInBounds_toArray, List.set_cons_zero, List.set_cons_succ]
    refine wpAnyH_take (i := 8) (v := ?_) rfl (by kernel_rfl) (by kernel_rfl) (by kernel_rfl) (fun _ _ _ h => h) (Or.inl ⟨by rfl, ?_⟩) hHeld ?_
    rotate_left
    · intro w hSw; clear hSw; go_simp <;> rfl
    try simp only [Act.put, List.setIfInBounds_toArray, List.set_cons_zero, List.set_cons_succ]
    refine wpAnyH_take (i := 5) (v := ?_) rfl (by kernel_rfl) (by kernel_rfl) (by kernel_rfl) (fun _ _ _ h => h) (Or.inl ⟨by rfl, ?_⟩) hHeld ?_
    rotate_left
    · intro w hSw; clear hSw; go_simp <;> rfl
    try simp only [Act.put, List.setIfInBounds_toArray, List.set_cons_zero, List.set_cons_succ]
    refine wpAnyH_take (i := 6) (v := _) rfl (by kernel_rfl) (by kernel_rfl) (by kernel_rfl) (fun _ _ _ h => h) (yieldsIf_load_mid (by rfl) _ _ rfl _ _ rfl _ _ (fun w h => h) hu rfl hi1) hHeld ?_
    try simp only [Act.put, List.setIfInBounds_toArray, List.set_cons_zero, List.set_cons_succ]
    refine wpAnyH_ready (rs := [9]) (by kernel_rfl) (by simp) ?_
    refine AllReadyH.cons rfl (fun K hK => ?_) AllReadyH.nil
    go_simp
    refine (tag_any A B n c m d key bs _ (Since.row hsd HKY.out) (Since.row hsd HR.out) hn2 hm2 (HK.out.below hsd) (HF.out.below hsd)).mono ?_
    rintro e w1 ⟨g1, N1, c1, rfl, hN1, ho1, hb1⟩
    obtain rfl : N1 = 32 := hN1
    have hse := Since.add hsd hb1
    have hrg1 := range_of (RowRd.of_row ho1)
    have HSE := Lib.hid hse; have HRG1 := Lib.hid hrg1
    have hre := range_since HRG.out hse
    clear ho1 hb1 hse hrg1 hHeld
    refine hK.out _ _ hre (fun hHeld => ?_)
    clear hK K hre
    try simp only [Act.put, List.setIfInBounds_toArray, List.set_cons_zero, List.set_cons_succ]
    refine wpAnyH_take (i := 10) (v := ?_) rfl (by kernel_rfl) (by kernel_rfl) (by kernel_rfl) (fun _ _ _ h => h) (Or.inl ⟨by rfl, ?_⟩) hHeld ?_
    rotate_left
    · intro w hSw; clear hSw; go_simp <;> rfl
    try simp only [Act.put, List.setIfInBounds_toArray, List.set_cons_zero, List.set_cons_succ]
    refine wpAnyH_ready (rs := [11]) (by kernel_rfl) (by simp) ?_
    refine AllReadyH.cons rfl (fun K hK => ?_) AllReadyH.nil
    rw [if_pos (by rfl)]
    refine wp_load_mid _ _ rfl _ _ rfl _ _ HRG1.out hu rfl hi2 ?_
    refine hK.out _ _ hHeld (fun hHeld2 => ?_)
    clear hK K hHeld
    have hHeld := hHeld2
    try simp only [Act.put, List.setIfInBounds_toArray, List.set_cons_zero, List.set_cons_succ]
    refine wpAnyH_take (i := 12) (v := ?_) rfl (by kernel_rfl) (by kernel_rfl) (by kernel_rfl) (fun _ _ _ h => h) (Or.inl ⟨by rfl, ?_⟩) hHeld ?_
    rotate_left
    · intro w hSw; clear hSw; go_simp <;> rfl
    try simp only [Act.put, List.setIfInBounds_toArray, List.set_cons_zero, List.set_cons_succ]
    refine wpAnyH_take (i := 13) (v := ?_) rfl (by kernel_rfl) (by kernel_rfl) (by kernel_rfl) (fun _ _ _ h => h) (Or.inl ⟨by rfl, ?_⟩) hHeld ?_
    rotate_left
    · intro w hSw; clear hSw; go_simp <;> rfl
    try simp only [Act.put, List.setIfInBounds_toArray, List.set_cons_zero, List.set_cons_succ]
    refine wpAnyH_take (i := 14) (v := ?_) rfl (by kernel_rfl) (by kernel_rfl) (by kernel_rfl) (fun _ _ _ h => h) (Or.inl ⟨by rfl, ?_⟩) hHeld ?_
    rotate_left
    · intro w hSw; clear hSw; go_simp <;> rfl
    try simp only [Act.put, List.setIfInBounds_toArray, List.set_cons_zero, List.set_cons_succ]
    refine wpAnyH_done (by kernel_rfl) ?_ _
    have HFIN := Lib.hid (show FitsPost w key bs tg (.returned (.bool (decide (M.tag key bs = tg)))) w1 from ⟨rfl, HSE.out⟩)
    clear hHeld hHeld2 hrd harr heq hu hi1 hi2
    show NoPanic _ Exit.normal { tmps := #[.slice A n c, .slice B m d, .slice (some ⟨b, o, none⟩) 32 l, _, _, _, .bool (decide (M.tag key bs = tg)), .slice (some ⟨b, o, none⟩) 32 l, .int .i64 32, .bool true, .bool true, .slice (some ⟨b, o, none⟩) 32 l, .pointer (some ⟨b, o, none⟩), .agg (bv tg).toArray, .slice A n c, .slice B m d, .slice (some ⟨g1, 0, none⟩) 32 c1, .pointer (some ⟨g1, 0, none⟩), .agg (bv (M.tag key bs)).toArray, .bool (decide (M.tag key bs = tg)), .bool (decide (M.tag key bs = tg))], defers := [] } w1
    refine NoPanic.normal ?_
    simp only [Exit.then]
    go_wp2_with fail
    go_ret
    exact HFIN.out
  · have h9 : ((k : Int) == 32) = false := by simp; omega
    have hne : M.tag key bs ≠ tg := fun e => h32 (by have h : tg.length = k := HL.out; rw [← h, ← e, M.tag_length])
    have HNE := Lib.hid hne
    clear hne
    go_enter Tryz.func50, Tryz.ntmps50
    go_wp2_with fail
    go_quiet (fail)
    go_wp2
    go_ret
    exact ⟨by rw [decide_eq_false HNE.out]; rfl, Since.drewN (Below.refl _ _) _⟩
end Go.Proofs.YtidcfjmibljkeaaGreatDoor.K

/- The contracts of the reference's wrong, part, Make, Put and Check. -/
namespace Go.Proofs.YtidcfjmibljkeaaGreatDoor.K
open Go Go.RowKit

/-- a bundle's cells -/
def bunL (v : Int) (A : Option Addr) (n c : Nat) (B : Option Addr) (m d : Nat) (C : Option Addr) (k l : Nat) : List Value := [.int .i64 v, .slice A n c, .slice B m d, .slice C k l]
theorem infoBunL (v : Int) (A : Option Addr) (n c : Nat) (B : Option Addr) (m d : Nat) (C : Option Addr) (k l : Nat) : (Tryz.prog.info? 26).map (·.size) = some (bunL v A n c B m d C k l).toArray.size := by
  rw [show (bunL v A n c B m d C k l).toArray.size = 4 from rfl]; kernel_rfl
theorem bunL_one (v : Int) (A : Option Addr) (n c : Nat) (B : Option Addr) (m d : Nat) (C : Option Addr) (k l : Nat) : (bunL v A n c B m d C k l).toArray.all (·.oneCell') = true := by
  rw [Array.all_eq_true_iff_forall_mem]
  intro x hx
  simp only [bunL, List.mem_toArray, List.mem_cons, List.mem_nil_iff, or_false] at hx
  rcases hx with rfl | rfl | rfl | rfl <;> rfl
set_option maxHeartbeats 2000000 in
set_option maxRecDepth 100000 in
theorem rwrong_any (b : M.Bun) (A B C : Option Addr) (n c m d k l : Nat) (w : World) (hn : b.code.length = n) (hm : b.dig.length = m) (hk : b.tag.length = k) :
    Calls Tryz.prog 39 #[.agg #[.int .i64 b.ver, .slice A n c, .slice B m d, .slice C k l]] w fun e w' => e = .returned (.int .i64 (M.bwrong b)) ∧ Since w w' := by
  obtain ⟨v, code, dig, tag⟩ := b
  dsimp only at hn hm hk ⊢
  have S := Lib.hid (Since.alloc (Below.refl w.heap.size w) (.cells #[.int .i64 v, .slice A n c, .slice B m d, .slice C k l] 26))
  by_cases h1 : v < 1
  · have hw : M.bwrong ⟨v, code, dig, tag⟩ = 2 := by unfold M.bwrong; rw [if_pos (.inl h1)]
    rw [hw]
    clear hw hn hm hk
    go_enter Tryz.func39, Tryz.ntmps39
    go_wp2
    go_ret
    exact ⟨rfl, S.out⟩
  · by_cases h2 : 1073741824 < v
    · have hw : M.bwrong ⟨v, code, dig, tag⟩ = 2 := by unfold M.bwrong; rw [if_pos (.inr h2)]
      rw [hw]
      clear hw hn hm hk
      go_enter Tryz.func39, Tryz.ntmps39
      go_wp2
      go_ret
      exact ⟨rfl, S.out⟩
    · by_cases h3 : 32768 < n
      · have hw : M.bwrong ⟨v, code, dig, tag⟩ = 3 := by unfold M.bwrong; rw [if_neg (by show ¬ (v < 1 ∨ 1073741824 < v); omega), if_pos (by show 32768 < code.length; omega)]
        rw [hw]
        have i3 : (32768 : Int) < (n : Int) := by omega
        clear hw hn hm hk
        go_enter Tryz.func39, Tryz.ntmps39
        go_wp2
        go_ret
        exact ⟨rfl, S.out⟩
      · have i3 : ¬ (32768 : Int) < (n : Int) := by omega
        have i3' : decide ((32768 : Int) < (n : Int)) = false := by simpa using i3
        by_cases h4 : m = 32 ∧ k = 32
        · obtain ⟨rfl, rfl⟩ := h4
          have hw : M.bwrong ⟨v, code, dig, tag⟩ = 0 := (M.bwrong_zero _).2 ⟨by show 1 ≤ v; omega, by show v ≤ _; omega, by show code.length ≤ _; omega, hm, hk⟩
          rw [hw]
          clear hw hn hm hk
          go_enter Tryz.func39, Tryz.ntmps39
          go_wp2
          go_ret
          exact ⟨rfl, S.out⟩
        · have hw : M.bwrong ⟨v, code, dig, tag⟩ = 4 := by unfold M.bwrong; rw [if_neg (by show ¬ (v < 1 ∨ 1073741824 < v); omega), if_neg (by show ¬ 32768 < code.length; omega), if_pos (by show dig.length ≠ 32 ∨ tag.length ≠ 32; omega)]
          rw [hw]
          have HH := Lib.hid h4
          clear hw hn hm hk h4
          by_cases h5 : m = 32
          · subst h5
            have h6 : ((k : Int) != 32) = true := by have := HH.out; simp at this ⊢; omega
            go_enter Tryz.func39, Tryz.ntmps39
            go_wp2
            go_ret
            exact ⟨rfl, S.out⟩
          · have h6 : ((m : Int) != 32) = true := by simp; omega
            clear h5
            go_enter Tryz.func39, Tryz.ntmps39
            go_wp2
            go_ret
            exact ⟨rfl, S.out⟩
set_option maxHeartbeats 4000000 in
set_option maxRecDepth 100000 in
theorem rpart_any (v : Int) (code : List (BitVec 8)) (A B C : Option Addr) (n c m d k l : Nat) (w : World) (hr : RowRd w ⟨A, n, c⟩ code) (hn : n ≤ 100000000000) :
    Calls Tryz.prog 37 #[.agg #[.int .i64 v, .slice A n c, .slice B m d, .slice C k l]] w (Made w (M.bpart v code)) := by
  have HR := Lib.hid hr; have HL := Lib.hid (show code.length = n from hr.len)
  have BK0 := Lib.hid ((Bank.nil (Below.refl w.heap.size w)).box #[.int .i64 v, .slice A n c, .slice B m d, .slice C k l] 26 (by simp))
  clear hr
  go_enter Tryz.func37, Tryz.ntmps37
  go_wp2_with fail
  generalize w.alloc (.cells #[.int .i64 v, .slice A n c, .slice B m d, .slice C k l] 26) = w1 at *
  have hB := BK0.out.drew
  have x0 := hB.cell 0 rfl 0 rfl
  have x1 := hB.cell 0 rfl 1 rfl
  go_region_law (first
    | (go_simp; go_at_call 27; refine (rnum_made v _).mono ?_; rintro e w3 ⟨g3, N3, c3, rfl, hN3, ho3, hb3⟩; have hN3' := Nat.le_of_eq hN3; have hB := hB.madeB hb3 ho3; clear hN3 ho3 hb3; (first | (have x0 := hB.cell 1 rfl 0 rfl; have x1 := hB.cell 1 rfl 1 rfl) | skip))
    | (go_simp; go_at_call 28; refine (rbytes_made HR.out (by omega) hB.since).mono ?_; rintro e w4 ⟨g4, N4, c4, rfl, hN4, ho4, hb4⟩; have hN4' := Nat.le_of_eq hN4; have hB := hB.madeB hb4 ho4; clear hN4 ho4 hb4; (first | (have x0 := hB.cell 1 rfl 0 rfl; have x1 := hB.cell 1 rfl 1 rfl) | skip))
    | (refine step_append_bytes hB rfl (.tmp 5) (.tmp 8) 22 rfl 5 infoByte Tryz.underlying22 1 _ _ _ _ rfl rfl _ _ _ _ rfl (hB.row 0 rfl) (by rw [M.num_length] at hN3'; rw [M.blob_length, HL.out] at hN4'; omega) ?_; intro A5 n5 c5 w5 hn5 hB; dsimp only [List.set] at hB; have HB5 := Lib.hid (hB.at 1 rfl); have HS5 := Lib.hid hB.since; clear hn5)
    | (refine step_append_bytes hB rfl (.tmp 5) (.tmp 8) 22 rfl 5 infoByte Tryz.underlying22 0 _ _ _ _ rfl rfl _ _ _ _ rfl (hB.row 1 rfl) (by rw [M.num_length] at hN3'; rw [M.blob_length, HL.out] at hN4'; omega) ?_; intro A5 n5 c5 w5 hn5 hB; dsimp only [List.set] at hB; have HB5 := Lib.hid (hB.at 0 rfl); have HS5 := Lib.hid hB.since; clear hn5)
    | fail "arm")
  all_goals
    have ho := HB5.out
    have hl : (M.num v ++ M.blob code).length = n5 := (RowRd.of_row ho).len
    obtain ⟨g5, rfl⟩ := own_someB ho (by rw [List.length_append, M.num_length] at hl; show 0 < n5; omega)
    have HFIN := Lib.hid (show Made w (M.bpart v code) (.returned (.slice (some ⟨g5, 0, none⟩) n5 c5)) w5 from ⟨g5, n5, c5, rfl, hl.symm, ho, HS5.out⟩)
    clear ho hl hB hN3' hN4'
    go_wp2_with fail
    go_ret
    exact HFIN.out
end Go.Proofs.YtidcfjmibljkeaaGreatDoor.K

/- The contract of the reference's Make. -/
namespace Go.Proofs.YtidcfjmibljkeaaGreatDoor.K
open Go Go.RowKit

/-- a bundle that was told: a value, its rows apart in memory of their own -/
def Told (w w' : World) (b : M.Bun) (v : Value) : Prop := ∃ A n c B m d C k l, v = .agg #[.int .i64 b.ver, .slice A n c, .slice B m d, .slice C k l] ∧ n = b.code.length ∧ m = b.dig.length ∧ k = b.tag.length ∧ Bank w w' [rowAcc C k l b.tag, rowAcc B m d b.dig, rowAcc A n c b.code]
def ToldE (w : World) (b : M.Bun) (n : Nat) (e : Ending) (w' : World) : Prop := ∃ v, e = .returned (.tuple #[v, .int .i64 (n : Int)]) ∧ Told w w' b v
theorem told_zero {w w' : World} (h : Since w w') : Told w w' M.zeroBun (.agg #[.int .i64 0, .slice none 0 0, .slice none 0 0, .slice none 0 0]) :=
  ⟨none, 0, 0, none, 0, 0, none, 0, 0, rfl, rfl, rfl, rfl, (((Bank.nil h).none _ _).none _ _).none _ _⟩
theorem results_cell_tmp {fn : Func} {p q : Tmp} {ty : TypeId} {P : Program} (h : fn.results = #[.cell p ty, .tmp q]) (tmps : Array Value) (w : World) (g : Nat) (u v : Value)
    (hp : tmps.getD p undef = .pointer (some ⟨g, 0, none⟩)) (hq : tmps.getD q undef = v) (hrun : (loadVar ty ⟨g, 0, none⟩).run P w = .ok u w) : (results fn tmps).run P w = .ok (.tuple #[u, v]) w := by
  have hp' : tmps[p]?.getD undef = .pointer (some ⟨g, 0, none⟩) := by simpa using hp
  have hq' : tmps[q]?.getD undef = v := by simpa using hq
  simp [results, h, hp', hq', asAddr, hrun]
theorem load_bun {w : World} {g : Nat} (v : Int) (A : Option Addr) (n c : Nat) (B : Option Addr) (m d : Nat) (C : Option Addr) (k l : Nat) (hg : w.heap[g]? = some (.cells (bunL v A n c B m d C k l).toArray 26 (0, 0))) :
    (loadVar 26 ⟨g, 0, none⟩).run Tryz.prog w = .ok (.agg (bunL v A n c B m d C k l).toArray) w :=
  run_loadVar_row w g _ _ _ (0, 0) _ hg Tryz.underlying26 rfl (infoBunL v A n c B m d C k l)
abbrev zeroV : List Value := bunL 0 none 0 0 none 0 0 none 0 0
theorem bwrong_make (key : List (BitVec 8)) (v : Int) (code : List (BitVec 8)) : M.bwrong ⟨v, code, M.sum (M.bpart v code), M.tag key (M.sum (M.bpart v code))⟩ = M.bmakeE v code := M.bseal_wrong key v code
/-- tag, digest, code out of a bank -/
theorem keep3 {w0 w : World} {p q r s t u : Acc} (h : Bank w0 w [p, q, r, s, t, u]) : Bank w0 w [p, q, t] := by
  refine ⟨h.since, fun x hx => h.own x ?_, h.sep.sublist (.cons_cons _ (.cons_cons _ (.cons _ (.cons _ (.cons_cons _ (.cons _ .slnil))))))⟩
  simp only [List.mem_cons, List.mem_nil_iff, or_false] at hx ⊢
  rcases hx with rfl | rfl | rfl <;> simp
set_option maxHeartbeats 8000000 in
set_option maxRecDepth 100000 in
theorem rmake_any (key code : List (BitVec 8)) (v : Int) (K A : Option Addr) (kn kc n c : Nat) (w : World) (hk : RowRd w ⟨K, kn, kc⟩ key) (hr : RowRd w ⟨A, n, c⟩ code) (hkn : kn ≤ 10000000000) (hn : n ≤ 10000000000) :
    Calls Tryz.prog 10 #[.slice K kn kc, .int .i64 v, .slice A n c] w (ToldE w (M.bmake key v code) (M.bmakeE v code)) := by
  have HK := Lib.hid hk; have HR := Lib.hid hr; have HL := Lib.hid (show code.length = n from hr.len)
  have BK0 := Lib.hid ((Bank.nil (Below.refl w.heap.size w)).box #[.int .i64 0, .slice none 0 0, .slice none 0 0, .slice none 0 0] 26 (by simp))
  have BKL := Lib.hid (Bank.lit0 BK0.out 5)
  have RL := Lib.hid (Since.row BKL.out.since HR.out)
  rw [World.size_alloc] at BKL
  clear hk hr
  go_enter Tryz.func10, Tryz.ntmps10
  go_wp2_with (at_builtin; refine wpList_append_bytes BKL.out rfl _ _ 22 rfl 5 infoByte Tryz.underlying22 0 _ _ _ [] rfl rfl _ _ _ _ rfl RL.out (by omega) ?_; intro A4 n4 c4 w4 hn4 hB4; dsimp only [List.set] at hB4; rw [List.nil_append] at hB4; have BK4 := Lib.hid hB4; have HN4 := Lib.hid (show n4 = n by omega); have hn4' : n4 ≤ 10000000000 := (by omega); clear hn4 hB4)
  have BK5 := Lib.hid (BK4.out.box #[.int .i64 v, .slice A4 n4 c4, .slice none 0 0, .slice none 0 0] 26 (by simp))
  clear BK0 BKL RL BK4
  generalize hX : w4.heap.size = X at *
  generalize hw5 : w4.alloc (.cells #[.int .i64 v, .slice A4 n4 c4, .slice none 0 0, .slice none 0 0] 26) = w5 at *
  clear hX hw5
  refine (rpart_any v code A4 none none n4 c4 0 0 0 0 w5 (BK5.out.row 1 rfl) (by omega)).mono ?_
  rintro e w6 ⟨g6, N6, c6, rfl, hN6, ho6, hb6⟩
  have BK6 := Lib.hid (BK5.out.madeB hb6 ho6)
  have hn6 : N6 ≤ 100000000000 := by rw [hN6, M.bpart_length, HL.out]; omega
  clear hN6 ho6 hb6 BK5
  go_wp2_with fail
  refine (refSum_made (BK6.out.row 0 rfl) (by omega)).mono ?_
  rintro e w7 ⟨g7, N7, c7, rfl, hN7, ho7, hb7⟩
  have hn7 : N7 ≤ 32 := by rw [hN7, M.sum_length]; omega
  have HN7 := Lib.hid (show N7 = 32 by rw [hN7, M.sum_length])
  have BK7 := Lib.hid (BK6.out.madeB hb7 ho7)
  have BK8 := Lib.hid (BK7.out.boxSet 2 rfl 2 (.slice (some ⟨g7, 0, none⟩) N7 c7))
  have x2 := BK7.out.cell 2 rfl 2 rfl
  have f2 := BK7.out.free 2 rfl 2
  clear hN7 ho7 hb7 BK6 BK7
  go_wp2_with fail
  generalize hw8 : w7.setCell ⟨X, 2, none⟩ (.slice (some ⟨g7, 0, none⟩) N7 c7) = w8 at *
  clear hw8 x2 f2
  have HK8 := Lib.hid (Since.row BK8.out.since HK.out)
  refine (rtag_any K (some ⟨g7, 0, none⟩) kn kc N7 c7 key _ w8 HK8.out (BK8.out.row 0 rfl) (by omega) (by omega)).mono ?_
  rintro e w9 ⟨g9, N9, c9, rfl, hN9, ho9, hb9⟩
  have HN9 := Lib.hid (show N9 = 32 by rw [hN9]; rfl)
  have BK9 := Lib.hid (BK8.out.madeB hb9 ho9)
  have BK10 := Lib.hid (BK9.out.boxSet 3 rfl 3 (.slice (some ⟨g9, 0, none⟩) N9 c9))
  have x0 := BK9.out.cell 3 rfl 0 rfl
  have x1 := BK9.out.cell 3 rfl 1 rfl
  have x2 := BK9.out.cell 3 rfl 2 rfl
  have x3 := BK9.out.cell 3 rfl 3 rfl
  have f3 := BK9.out.free 3 rfl 3
  clear hN9 ho9 hb9 BK8 BK9 HK8
  go_wp2_with fail
  generalize hw10 : w9.setCell ⟨X, 3, none⟩ (.slice (some ⟨g9, 0, none⟩) N9 c9) = w10 at *
  clear hw10 x0 x1 x2 x3 f3
  refine (rwrong_any ⟨v, code, M.sum (M.bpart v code), M.tag key (M.sum (M.bpart v code))⟩ A4 (some ⟨g7, 0, none⟩) (some ⟨g9, 0, none⟩) n4 c4 N7 c7 N9 c9 w10 (by rw [HN4.out]; exact HL.out) (by rw [HN7.out]; rfl) (by rw [HN9.out]; rfl)).mono ?_
  rintro e w11 ⟨rfl, hs11⟩
  rw [bwrong_make]
  have BK11 := Lib.hid (BK10.out.call hs11)
  have y0 := BK11.out.cell 3 rfl 0 rfl
  have y1 := BK11.out.cell 3 rfl 1 rfl
  have y2 := BK11.out.cell 3 rfl 2 rfl
  have y3 := BK11.out.cell 3 rfl 3 rfl
  have HRES := Lib.hid (BK11.out.boxAt 5 rfl).2
  clear hs11 BK10
  by_cases hE : M.bmakeE v code = 0
  · rw [hE]
    have HFIN := Lib.hid (show ToldE w (M.bmake key v code) (M.bmakeE v code) (.returned (.tuple #[.agg (bunL v A4 n4 c4 (some ⟨g7, 0, none⟩) N7 c7 (some ⟨g9, 0, none⟩) N9 c9).toArray, .int .i64 0])) (w11.setRow w.heap.size (bunL v A4 n4 c4 (some ⟨g7, 0, none⟩) N7 c7 (some ⟨g9, 0, none⟩) N9 c9).toArray) from by
      have h := BK11.out.boxRow 5 rfl (bunL v A4 n4 c4 (some ⟨g7, 0, none⟩) N7 c7 (some ⟨g9, 0, none⟩) N9 c9) rfl (by decide)
      have hb : M.bmake key v code = M.bseal key v code := by unfold M.bmake; rw [if_pos hE]
      rw [hb]
      exact ⟨_, by rw [hE]; rfl, A4, n4, c4, some ⟨g7, 0, none⟩, N7, c7, some ⟨g9, 0, none⟩, N9, c9, rfl, by rw [HN4.out]; exact HL.out.symm, HN7.out, HN9.out, (keep3 h)⟩)
    clear hE
    go_wp2_with (with_reducible refine wpList_store_row rfl 26 (.tmp 6) (.tmp 30) rfl w.heap.size (bunL v A4 n4 c4 (some ⟨g7, 0, none⟩) N7 c7 (some ⟨g9, 0, none⟩) N9 c9).toArray rfl rfl 26 _ HRES.out (infoBunL v A4 n4 c4 (some ⟨g7, 0, none⟩) N7 c7 (some ⟨g9, 0, none⟩) N9 c9) rfl (bunL_one _ _ _ _ _ _ _ _ _ _) ?_)
    refine bodyPost_ret (v := .tuple #[.agg (bunL v A4 n4 c4 (some ⟨g7, 0, none⟩) N7 c7 (some ⟨g9, 0, none⟩) N9 c9).toArray, .int .i64 0]) ?_ rfl HFIN.out
    exact results_cell_tmp rfl _ _ w.heap.size _ _ rfl rfl (load_bun _ _ _ _ _ _ _ _ _ _ (setRow_heap _ _ _ _ _ _ HRES.out))
  · have hE1 : ((M.bmakeE v code : Int) != 0) = true := by simpa using hE
    have HFIN := Lib.hid (show ToldE w (M.bmake key v code) (M.bmakeE v code) (.returned (.tuple #[.agg zeroV.toArray, .int .i64 (M.bmakeE v code : Int)])) (w11.setRow w.heap.size zeroV.toArray) from by
      have h := BK11.out.boxRow 5 rfl zeroV rfl (by decide)
      have hb : M.bmake key v code = M.zeroBun := by unfold M.bmake; rw [if_neg hE]
      rw [hb]
      exact ⟨_, rfl, told_zero h.since⟩)
    clear hE
    go_wp2_with (with_reducible refine wpList_store_row rfl 26 (.tmp 6) (.tmp 28) rfl w.heap.size zeroV.toArray rfl rfl 26 _ HRES.out (infoBunL 0 none 0 0 none 0 0 none 0 0) rfl (bunL_one _ _ _ _ _ _ _ _ _ _) ?_)
    refine bodyPost_ret (v := .tuple #[.agg zeroV.toArray, .int .i64 (M.bmakeE v code : Int)]) ?_ rfl HFIN.out
    exact results_cell_tmp rfl _ _ w.heap.size _ _ rfl rfl (load_bun _ _ _ _ _ _ _ _ _ _ (setRow_heap _ _ _ _ _ _ HRES.out))
end Go.Proofs.YtidcfjmibljkeaaGreatDoor.K

/- The contracts of the reference's Put and Check. -/
namespace Go.Proofs.YtidcfjmibljkeaaGreatDoor.K
open Go Go.RowKit

/-- a bundle that came in: its parts read -/
structure BunIn (w : World) (b : M.Bun) (A : Option Addr) (n c : Nat) (B : Option Addr) (m d : Nat) (C : Option Addr) (k l : Nat) : Prop where
  code : RowRd w ⟨A, n, c⟩ b.code
  dig : RowRd w ⟨B, m, d⟩ b.dig
  tag : RowRd w ⟨C, k, l⟩ b.tag
theorem BunIn.since {w w' : World} {b : M.Bun} {A : Option Addr} {n c : Nat} {B : Option Addr} {m d : Nat} {C : Option Addr} {k l : Nat} (h : BunIn w b A n c B m d C k l) (hs : Since w w') : BunIn w' b A n c B m d C k l := ⟨hs.row h.code, hs.row h.dig, hs.row h.tag⟩
def PutE (w : World) (b : M.Bun) (e : Ending) (w' : World) : Prop := ∃ A N c, e = .returned (.tuple #[.slice A N c, .int .i64 (M.bwrong b : Int)]) ∧ N = (M.bput b).length ∧ w'.ownsRow w.heap.size 5 1 (.slice A N c) N (bv (M.bput b)) ∧ Since w w'
abbrev Box4 (w : World) (g : Nat) (v : Int) (A : Option Addr) (n c : Nat) (B : Option Addr) (m d : Nat) (C : Option Addr) (k l : Nat) : Prop := w.cell? ⟨g, 0, none⟩ = some (.int .i64 v) ∧ w.cell? ⟨g, 1, none⟩ = some (.slice A n c) ∧ w.cell? ⟨g, 2, none⟩ = some (.slice B m d) ∧ w.cell? ⟨g, 3, none⟩ = some (.slice C k l)
set_option maxHeartbeats 8000000 in
set_option maxRecDepth 100000 in
theorem rputB_any (b : M.Bun) (A : Option Addr) (n c : Nat) (B : Option Addr) (m d : Nat) (C : Option Addr) (k l : Nat) (w : World) (h : BunIn w b A n c B m d C k l) (hn : n ≤ 10000000000) (hm : m ≤ 10000000000) (hk : k ≤ 10000000000) :
    Calls Tryz.prog 18 #[.agg #[.int .i64 b.ver, .slice A n c, .slice B m d, .slice C k l]] w (PutE w b) := by
  have H := Lib.hid h
  have HL := Lib.hid (show b.code.length = n ∧ b.dig.length = m ∧ b.tag.length = k from ⟨h.code.len, h.dig.len, h.tag.len⟩)
  have BK0 := Lib.hid ((Bank.nil (Below.refl w.heap.size w)).box #[.int .i64 b.ver, .slice A n c, .slice B m d, .slice C k l] 26 (by simp))
  clear h
  go_enter Tryz.func18, Tryz.ntmps18
  go_wp2_with fail
  generalize hw1 : w.alloc (.cells #[.int .i64 b.ver, .slice A n c, .slice B m d, .slice C k l] 26) = w1 at *
  clear hw1
  refine (rwrong_any b A B C n c m d k l w1 HL.out.1 HL.out.2.1 HL.out.2.2).mono ?_
  rintro e w2 ⟨rfl, hs2⟩
  have BK2 := Lib.hid (BK0.out.call hs2)
  clear hs2 BK0
  by_cases hE : M.bwrong b = 0
  · have HE := Lib.hid hE
    rw [hE]
    clear hE
    go_wp2_with fail
    have hB := BK2.out.drew
    have x0 := hB.cell 0 rfl 0 rfl
    have x1 := hB.cell 0 rfl 1 rfl
    have x2 := hB.cell 0 rfl 2 rfl
    have x3 := hB.cell 0 rfl 3 rfl
    go_region_law (first
      | (go_simp; go_at_call 37; refine (rpart_any b.ver b.code A B C n c m d k l _ (Since.row hB.since H.out.code) (by omega)).mono ?_; rintro e w3 ⟨g3, N3, c3, rfl, hN3, ho3, hb3⟩; have hN3' := Nat.le_of_eq hN3; have hB := hB.madeB hb3 ho3; clear hN3 ho3 hb3; (first | (have x0 := hB.cell 1 rfl 0 rfl; have x1 := hB.cell 1 rfl 1 rfl; have x2 := hB.cell 1 rfl 2 rfl; have x3 := hB.cell 1 rfl 3 rfl) | skip))
      | (go_simp; go_at_call 28; refine (rbytes_made H.out.dig (by omega) hB.since).mono ?_; rintro e w4 ⟨g4, N4, c4, rfl, hN4, ho4, hb4⟩; have hN4' := Nat.le_of_eq hN4; have hB := hB.madeB hb4 ho4; clear hN4 ho4 hb4; (first | (have x0 := hB.cell 1 rfl 0 rfl; have x1 := hB.cell 1 rfl 1 rfl; have x2 := hB.cell 1 rfl 2 rfl; have x3 := hB.cell 1 rfl 3 rfl) | skip))
      | (refine step_append_bytes hB rfl (.tmp 12) (.tmp 15) 22 rfl 5 infoByte Tryz.underlying22 1 _ _ _ _ rfl rfl _ _ _ _ rfl (hB.row 0 rfl) (by rw [M.bpart_length, HL.out.1] at hN3'; rw [M.blob_length, HL.out.2.1] at hN4'; omega) ?_; intro A5 n5 c5 w5 hn5 hB; dsimp only [List.set] at hB; have HB5 := Lib.hid (Bank.drop hB); have hn5' := Nat.le_of_eq hn5; clear hn5)
      | (refine step_append_bytes hB rfl (.tmp 12) (.tmp 15) 22 rfl 5 infoByte Tryz.underlying22 0 _ _ _ _ rfl rfl _ _ _ _ rfl (hB.row 1 rfl) (by rw [M.bpart_length, HL.out.1] at hN3'; rw [M.blob_length, HL.out.2.1] at hN4'; omega) ?_; intro A5 n5 c5 w5 hn5 hB; dsimp only [List.set] at hB; have HB5 := Lib.hid (Bank.drop (Bank.swap hB)); have hn5' := Nat.le_of_eq hn5; clear hn5)
      | fail "arm")
    all_goals
      have hn5 : n5 ≤ 30000000000 := by rw [M.bpart_length, HL.out.1] at hN3'; rw [M.blob_length, HL.out.2.1] at hN4'; omega
      have z3 := HB5.out.cell 1 rfl 3 rfl
      clear x0 x1 x2 x3 hB hN3' hN4' hn5'
      go_wp2_with fail
      refine (rbytes_made H.out.tag (by omega) HB5.out.since).mono ?_
      rintro e w6 ⟨g6, N6, c6, rfl, hN6, ho6, hb6⟩
      have BK6 := Lib.hid (HB5.out.madeB hb6 ho6)
      have hn6 : N6 ≤ 20000000000 := by rw [hN6, M.blob_length, HL.out.2.2]; omega
      clear hN6 ho6 hb6 HB5 z3
      go_wp2_with (at_builtin; refine wpList_append_bytes BK6.out rfl _ _ 22 rfl 5 infoByte Tryz.underlying22 1 _ _ _ _ rfl rfl _ _ _ _ rfl (BK6.out.row 0 rfl) (by omega) ?_; intro A7 n7 c7 w7 hn7 hB7; dsimp only [List.set] at hB7; have HO7 := Lib.hid (hB7.at 1 rfl); have HS7 := Lib.hid hB7.since; clear hn7 hB7)
      have HFIN := Lib.hid (show PutE w b (.returned (.tuple #[.slice A7 n7 c7, .int .i64 0])) w7 from by
        have hp : M.bput b = M.bpart b.ver b.code ++ M.blob b.dig ++ M.blob b.tag := by unfold M.bput M.bbytes; rw [if_pos HE.out]
        refine ⟨A7, n7, c7, by rw [HE.out]; rfl, ?_, ?_, HS7.out⟩
        · rw [hp]; exact ((RowRd.of_row HO7.out).len).symm
        · rw [hp]; exact HO7.out)
      go_ret2
      exact HFIN.out
  · have hE1 : ((M.bwrong b : Int) != 0) = true := by simpa using hE
    have HFIN := Lib.hid (show PutE w b (.returned (.tuple #[.slice none 0 0, .int .i64 (M.bwrong b : Int)])) w2 from by
      have hp : M.bput b = [] := by unfold M.bput; rw [if_neg hE]
      exact ⟨none, 0, 0, rfl, by rw [hp]; rfl, by rw [hp]; exact World.ownsRow_nil _ _ _ _, BK2.out.since⟩)
    clear hE
    go_wp2_with fail
    go_ret2
    exact HFIN.out
end Go.Proofs.YtidcfjmibljkeaaGreatDoor.K

/- The contracts of bundle's part and sealed. -/
namespace Go.Proofs.YtidcfjmibljkeaaGreatDoor.K
open Go Go.RowKit

theorem join_litB (l : List RB) (w : World) (cs : Array Value) (k c : Nat) (hcs : cs = (l.map fun p => p.1.v).toArray) (hk : k = l.length) (hl : ∀ p ∈ l, RowRd w p.1 p.2) (hm : l.length ≤ 1000) (hN : (flat l).length ≤ 100000000000000) :
    Calls Tryz.prog 44 #[.slice (some ⟨w.heap.size, 0, none⟩) k c] (w.alloc (.cells cs 22)) (MadeO (w.alloc (.cells cs 22)) (flat l)) := by
  subst hcs hk
  have hj : joined (bytesAt l) l.length = flat l := joined_all l
  refine (join_any _ l.length c (rowsOf l) (bytesAt l) _ (parts_of l rfl hl) (by omega) (by rw [hj]; exact hN)).mono ?_
  rintro e w' ⟨A, N, c', he, hN', ho, hb⟩
  rw [hj] at hN' ho
  exact ⟨A, N, c', he, hN', ho, hb⟩
theorem two_rows {w : World} {x y : Rw} {bx bY : List (BitVec 8)} (hx : RowRd w x bx) (hy : RowRd w y bY) : ∀ p ∈ ([(x, bx), (y, bY)] : List RB), RowRd w p.1 p.2 := by
  intro p hp
  simp only [List.mem_cons, List.mem_nil_iff, or_false] at hp
  rcases hp with rfl | rfl
  · exact hx
  · exact hy
theorem flat2 (x y : Rw) (bx bY : List (BitVec 8)) : flat [(x, bx), (y, bY)] = bx ++ bY := by simp [flat]
theorem flat3 (x y z : Rw) (bx bY bz : List (BitVec 8)) : flat [(x, bx), (y, bY), (z, bz)] = bx ++ (bY ++ bz) := by simp [flat]
theorem three_rows {w : World} {x y z : Rw} {bx bY bz : List (BitVec 8)} (hx : RowRd w x bx) (hy : RowRd w y bY) (hz : RowRd w z bz) : ∀ p ∈ ([(x, bx), (y, bY), (z, bz)] : List RB), RowRd w p.1 p.2 := by
  intro p hp
  simp only [List.mem_cons, List.mem_nil_iff, or_false] at hp
  rcases hp with rfl | rfl | rfl
  · exact hx
  · exact hy
  · exact hz
set_option maxHeartbeats 4000000 in
set_option maxRecDepth 100000 in
theorem part_any (v : Int) (code : List (BitVec 8)) (A B C : Option Addr) (n c m d k l : Nat) (w : World) (hr : RowRd w ⟨A, n, c⟩ code) (hn : n ≤ 100000000000) :
    Calls Tryz.prog 45 #[.agg #[.int .i64 v, .slice A n c, .slice B m d, .slice C k l]] w (Made w (M.bpart v code)) := by
  have HR := Lib.hid hr; have HL := Lib.hid (show code.length = n from hr.len)
  have BK0 := Lib.hid ((Bank.nil (Below.refl w.heap.size w)).box #[.int .i64 v, .slice A n c, .slice B m d, .slice C k l] 52 (by simp))
  clear hr
  go_enter Tryz.func45, Tryz.ntmps45
  go_wp2_with fail
  generalize hw1 : w.alloc (.cells #[.int .i64 v, .slice A n c, .slice B m d, .slice C k l] 52) = w1 at *
  clear hw1
  have hB := BK0.out.drew
  have x0 := hB.cell 0 rfl 0 rfl
  have x1 := hB.cell 0 rfl 1 rfl
  go_region_law (first
    | (go_simp; go_at_call 94; refine (num_made v _).mono ?_; rintro e w3 ⟨g3, N3, c3, rfl, hN3, ho3, hb3⟩; have hN3' := Nat.le_of_eq hN3; have hB := hB.madeB hb3 ho3; clear hN3 ho3 hb3; (first | (have x0 := hB.cell 1 rfl 0 rfl; have x1 := hB.cell 1 rfl 1 rfl) | skip))
    | (go_simp; go_at_call 46; refine (bytes_made HR.out (by omega) hB.since).mono ?_; rintro e w4 ⟨g4, N4, c4, rfl, hN4, ho4, hb4⟩; have hN4' := Nat.le_of_eq hN4; have hB := hB.madeB hb4 ho4; clear hN4 ho4 hb4; (first | (have x0 := hB.cell 1 rfl 0 rfl; have x1 := hB.cell 1 rfl 1 rfl) | skip))
    | (go_simp; go_at_call 44; refine (join_litB [(⟨some ⟨g3, 0, none⟩, N3, c3⟩, M.num v), (⟨some ⟨g4, 0, none⟩, N4, c4⟩, M.blob code)] _ _ 2 2 rfl rfl (by first | exact two_rows (hB.row 1 rfl) (hB.row 0 rfl) | exact two_rows (hB.row 0 rfl) (hB.row 1 rfl)) (by simp) (by rw [flat2, List.length_append, M.num_length, M.blob_length, HL.out]; omega)).mono ?_; rintro e w6 ⟨A6, N6, c6, rfl, hN6, ho6, hb6⟩; have hB := (hB.alloc _).madeB hb6 ho6; clear hN6 ho6 hb6)
    | fail "arm")
  all_goals
    have ho := hB.at 0 rfl
    have HS5 := Lib.hid hB.since
    rw [flat2] at ho
    have hl : (M.num v ++ M.blob code).length = N6 := (RowRd.of_row ho).len
    obtain ⟨g6, rfl⟩ := own_someB ho (by rw [List.length_append, M.num_length] at hl; show 0 < N6; omega)
    have HFIN := Lib.hid (show Made w (M.bpart v code) (.returned (.slice (some ⟨g6, 0, none⟩) N6 c6)) w6 from ⟨g6, N6, c6, rfl, hl.symm, ho, HS5.out⟩)
    clear ho hl hB hN3' hN4'
    go_wp2_with fail
    go_ret
    exact HFIN.out
/-- a look's cells: as a bundle's -/
theorem infoLookL (v : Int) (A : Option Addr) (n c : Nat) (B : Option Addr) (m d : Nat) (C : Option Addr) (k l : Nat) : (Tryz.prog.info? 52).map (·.size) = some (bunL v A n c B m d C k l).toArray.size := by
  rw [show (bunL v A n c B m d C k l).toArray.size = 4 from rfl]; kernel_rfl
/-- sealed -/
def SealPost (w : World) (key : List (BitVec 8)) (v : Int) (code : List (BitVec 8)) (A : Option Addr) (n c : Nat) (e : Ending) (w' : World) : Prop := ∃ B d C l, e = .returned (.agg #[.int .i64 v, .slice A n c, .slice B 32 d, .slice C 32 l]) ∧ Bank w w' [rowAcc C 32 l (M.tag key (M.bdig v code)), rowAcc B 32 d (M.bdig v code)]
theorem keep2 {w0 w : World} {p q r s t : Acc} (h : Bank w0 w [p, q, r, s, t]) : Bank w0 w [p, q] :=
  ⟨h.since, fun x hx => h.own x (by simp only [List.mem_cons, List.mem_nil_iff, or_false] at hx ⊢; rcases hx with rfl | rfl <;> simp), h.sep.sublist (.cons_cons _ (.cons_cons _ (.cons _ (.cons _ (.cons _ .slnil)))))⟩
set_option maxHeartbeats 8000000 in
set_option maxRecDepth 100000 in
theorem sealed_any (key code : List (BitVec 8)) (v : Int) (K A B C : Option Addr) (kn kc n c m d k l : Nat) (w : World) (hk : RowRd w ⟨K, kn, kc⟩ key) (hr : RowRd w ⟨A, n, c⟩ code) (hkn : kn ≤ 10000000000) (hn : n ≤ 10000000000) (hKt : HasK w) (hFt : HasF w) :
    Calls Tryz.prog 35 #[.agg #[.int .i64 v, .slice A n c, .slice B m d, .slice C k l], .slice K kn kc] w (SealPost w key v code A n c) := by
  have HK := Lib.hid hk; have HR := Lib.hid hr; have HL := Lib.hid (show code.length = n from hr.len); have TK := Lib.hid hKt; have TF := Lib.hid hFt
  have BK0 := Lib.hid (((Bank.nil (Below.refl w.heap.size w)).box #[.int .i64 v, .slice A n c, .slice B m d, .slice C k l] 52 (by simp)).box #[.int .i64 0, .slice none 0 0, .slice none 0 0, .slice none 0 0] 52 (by simp))
  rw [World.size_alloc] at BK0
  clear hk hr hKt hFt
  go_enter Tryz.func35, Tryz.ntmps35
  go_wp2_with fail
  generalize hw1 : (w.alloc (.cells #[.int .i64 v, .slice A n c, .slice B m d, .slice C k l] 52)).alloc (.cells #[.int .i64 0, .slice none 0 0, .slice none 0 0, .slice none 0 0] 52) = w1 at *
  clear hw1
  refine (part_any v code A B C n c m d k l w1 (Since.row BK0.out.since HR.out) (by omega)).mono ?_
  rintro e w2 ⟨g2, N2, c2, rfl, hN2, ho2, hb2⟩
  have BK2 := Lib.hid (BK0.out.madeB hb2 ho2)
  have hn2 : N2 ≤ 100000000000 := by rw [hN2, M.bpart_length, HL.out]; omega
  clear hN2 ho2 hb2 BK0
  go_wp2_with fail
  have R2 := Lib.hid (BK2.out.row 0 rfl)
  refine (Sum_any _ N2 c2 _ w2 R2.out.rd R2.out.len (by omega) (TK.out.below BK2.out.since) (TF.out.below BK2.out.since)).mono ?_
  rintro e w3 ⟨g3, c3, rfl, ho3, hb3⟩
  have BK3 := Lib.hid (BK2.out.madeB hb3 ho3)
  have BK4 := Lib.hid (BK3.out.boxSet 3 rfl 2 (.slice (some ⟨g3, 0, none⟩) 32 c3))
  have x2 := BK3.out.cell 3 rfl 2 rfl
  have f2 := BK3.out.free 3 rfl 2
  clear ho3 hb3 R2 BK2 BK3
  go_wp2_with fail
  generalize hw4 : w3.setCell ⟨w.heap.size, 2, none⟩ (.slice (some ⟨g3, 0, none⟩) 32 c3) = w4 at *
  clear hw4 x2 f2
  refine (tag_any K (some ⟨g3, 0, none⟩) kn kc 32 c3 key _ w4 (Since.row BK4.out.since HK.out) (BK4.out.row 0 rfl) (by omega) (by omega) (TK.out.below BK4.out.since) (TF.out.below BK4.out.since)).mono ?_
  rintro e w5 ⟨g5, N5, c5, rfl, hN5, ho5, hb5⟩
  obtain rfl : N5 = 32 := hN5
  have BK5 := Lib.hid (BK4.out.madeB hb5 ho5)
  have BK6 := Lib.hid (BK5.out.boxSet 4 rfl 3 (.slice (some ⟨g5, 0, none⟩) 32 c5))
  have x0 := BK5.out.cell 4 rfl 0 rfl
  have x1 := BK5.out.cell 4 rfl 1 rfl
  have x2 := BK5.out.cell 4 rfl 2 rfl
  have x3 := BK5.out.cell 4 rfl 3 rfl
  have f3 := BK5.out.free 4 rfl 3
  have HBOX := Lib.hid (BK6.out.boxAt 4 rfl).2
  have HRES := Lib.hid (BK6.out.boxAt 3 rfl).2
  clear ho5 hb5 BK4 BK5
  have HFIN := Lib.hid (show SealPost w key v code A n c (.returned (.agg (bunL v A n c (some ⟨g3, 0, none⟩) 32 c3 (some ⟨g5, 0, none⟩) 32 c5).toArray)) ((w5.setCell ⟨w.heap.size, 3, none⟩ (.slice (some ⟨g5, 0, none⟩) 32 c5)).setRow (w.heap.size + 1) (bunL v A n c (some ⟨g3, 0, none⟩) 32 c3 (some ⟨g5, 0, none⟩) 32 c5).toArray) from by
    have h := BK6.out.boxRow 3 rfl (bunL v A n c (some ⟨g3, 0, none⟩) 32 c3 (some ⟨g5, 0, none⟩) 32 c5) rfl (by decide)
    exact ⟨_, _, _, _, rfl, keep2 h⟩)
  go_wp2_with (with_reducible refine wpList_store_row rfl 52 (.tmp 4) (.tmp 17) rfl (w.heap.size + 1) (bunL v A n c (some ⟨g3, 0, none⟩) 32 c3 (some ⟨g5, 0, none⟩) 32 c5).toArray rfl rfl 52 _ HRES.out (infoLookL v A n c (some ⟨g3, 0, none⟩) 32 c3 (some ⟨g5, 0, none⟩) 32 c5) rfl (bunL_one _ _ _ _ _ _ _ _ _ _) ?_)
  refine bodyPost_ret (v := .agg (bunL v A n c (some ⟨g3, 0, none⟩) 32 c3 (some ⟨g5, 0, none⟩) 32 c5).toArray) ?_ rfl HFIN.out
  exact results_cell_row rfl _ _ (w.heap.size + 1) 52 _ (0, 0) _ rfl (setRow_heap _ _ _ _ _ _ HRES.out) Tryz.underlying52 rfl (infoLookL v A n c (some ⟨g3, 0, none⟩) 32 c3 (some ⟨g5, 0, none⟩) 32 c5)
end Go.Proofs.YtidcfjmibljkeaaGreatDoor.K
