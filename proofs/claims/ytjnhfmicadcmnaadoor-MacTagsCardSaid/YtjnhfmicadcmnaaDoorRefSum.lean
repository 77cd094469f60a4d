/- The contract of the reference's Sum: it is the digest too. -/
import Derived.Test.YtjnhfmicadcmnaaDoorRefWords
import Derived.Test.YtjnhfmicadcmnaaDoorShaSum
namespace Go.Proofs.YtjnhfmicadcmnaaDoor.K
open Go Go.RowKit

theorem Rd.sub {w : World} {g : Nat} {m : List (BitVec 8)} (h : Rd w (some ⟨g, 0, none⟩) m) (o n : Nat) : Rd w (some ⟨g, o, none⟩) ((m.drop o).take n) := by
  intro k hk
  have hk2 : o + k < m.length := by simp at hk; omega
  obtain ⟨b, o', e, hc⟩ := h (o + k) hk2
  obtain ⟨rfl, rfl⟩ : g = b ∧ 0 = o' := by simpa using e
  refine ⟨g, o, rfl, ?_⟩
  rw [show 0 + (o + k) = o + k by omega] at hc
  rw [hc]; simp
theorem own_litU {w : World} {base : Nat} (hb : base ≤ w.heap.size) : (w.alloc (.cells #[] 43)).ownsRow base 43 1 (.slice (some ⟨w.heap.size, 0, none⟩) 0 0) 0 [] :=
  World.ownsRow_lit w #[] 0 hb (by unfold maxLen; omega) rfl
theorem own_keptB {w w' : World} {base : Nat} {e : TypeId} {g n c : Nat} {xs : List Value} (h : w.ownsRow base e 1 (.slice (some ⟨g, 0, none⟩) n c) n xs) (hb : Below w.heap.size w w') : w'.ownsRow base e 1 (.slice (some ⟨g, 0, none⟩) n c) n xs := by
  refine h.kept (row := none) ⟨hb.os, hb.tape, hb.output, hb.size, fun k hk _ => hb.block k hk⟩ ?_
  cases hv : (Value.slice (some ⟨g, 0, none⟩) n c).ownBlock with
  | none => exact .inl rfl
  | some x => exact .inr (by simp)
theorem own_ltB {w : World} {base : Nat} {e : TypeId} {g n c : Nat} {xs : List Value} (h : w.ownsRow base e 1 (.slice (some ⟨g, 0, none⟩) n c) n xs) : base ≤ g ∧ g < w.heap.size := h.lt g rfl
theorem own_cap {w : World} {base : Nat} {e : TypeId} {g n c : Nat} {xs : List Value} (h : w.ownsRow base e 1 (.slice (some ⟨g, 0, none⟩) n c) n xs) : n ≤ c ∧ c ≤ 9223372036854775807 := by
  rcases h.2 with ⟨h', _⟩ | ⟨g', cap', cur, h', _, _, hnc, hcm, _⟩
  · simp at h'
  · simp only [Value.slice.injEq, Option.some.injEq, Addr.mk.injEq, and_true, true_and] at h'
    obtain ⟨rfl, rfl⟩ := h'
    exact ⟨hnc, by unfold maxLen at hcm; omega⟩
theorem stl_length (s : M.St) : (ups s.list).length = 8 := rfl

theorem one_low (s : M.St) (k w : BitVec 32) : (M.up s.h + (M.up (M.rot s.e 6) ^^^ M.up (M.rot s.e 11) ^^^ M.up (M.rot s.e 25)) + M.up (M.ch s.e s.f s.g) + M.up k + M.up w).setWidth 32 = M.one s k w := by
  simp only [BitVec.setWidth_add _ _ (show 32 ≤ 64 by omega), BitVec.setWidth_xor, M.low_up, M.one, M.bs1]
theorem two_low (s : M.St) : ((M.up (M.rot s.a 2) ^^^ M.up (M.rot s.a 13) ^^^ M.up (M.rot s.a 22)) + M.up (M.maj s.a s.b s.c)).setWidth 32 = M.two s := by
  simp only [BitVec.setWidth_add _ _ (show 32 ≤ 64 by omega), BitVec.setWidth_xor, M.low_up, M.two, M.bs0]
theorem add_mask (x y : BitVec 64) : (x + y) &&& M.mask = M.up (x.setWidth 32 + y.setWidth 32) := by
  rw [M.mask_low, BitVec.setWidth_add _ _ (show 32 ≤ 64 by omega)]

theorem kList_length : M.kList.length = 64 := by decide
theorem rdU_cell {w : World} {g : Nat} {l : List (BitVec 32)} (h : RdU w (some ⟨g, 0, none⟩) (ups l)) (k : Nat) (hk : k < l.length) : w.cell? ⟨g, k, none⟩ = some (W64 (M.up (M.at32 l k))) := by
  obtain ⟨b, o, e, hc⟩ := h k (by rw [ups_length]; exact hk)
  obtain ⟨rfl, rfl⟩ : g = b ∧ 0 = o := by simpa using e
  rw [Nat.zero_add] at hc
  rw [hc]; simp [M.at32, hk]

theorem cell_setCell_other {w : World} {g b i j : Nat} (v : Value) (hb : g ≠ b) : (w.setCell ⟨b, i, none⟩ v).cell? ⟨g, j, none⟩ = w.cell? ⟨g, j, none⟩ := by
  refine World.cell?_setCell_other _ _ _ _ (fun e => hb ?_)
  injection e with e1 _
  exact e1.symm
theorem up_byte (x : BitVec 32) (n : Nat) : (M.up x >>> n).setWidth 8 = (x >>> n).setWidth 8 := by
  rw [M.moved_up, BitVec.setWidth_setWidth_of_le _ (by omega)]
theorem up_byte0 (x : BitVec 32) : (M.up x).setWidth 8 = x.setWidth 8 := BitVec.setWidth_setWidth_of_le _ (by omega)
theorem own_weaken {w : World} {base base' : Nat} {e : TypeId} {v : Value} {n : Nat} {xs : List Value} (h : w.ownsRow base e 1 v n xs) (hb : base' ≤ base) : w.ownsRow base' e 1 v n xs :=
  ⟨h.1, h.2.elim .inl fun ⟨a, b, cur, hv, hbb, r⟩ => .inr ⟨a, b, cur, hv, Nat.le_trans hb hbb, r⟩⟩
/-- the sums when i of them are done -/
def addTo (a b : List (BitVec 32)) : Nat → List (BitVec 32)
  | 0 => a
  | i + 1 => (addTo a b i).set i (M.at32 (addTo a b i) i + M.at32 b i)
theorem addTo_length (a b : List (BitVec 32)) (i : Nat) : (addTo a b i).length = a.length := by
  induction i with
  | zero => rfl
  | succ i ih => simp [addTo, ih]
theorem addTo_eight (s o : M.St) : addTo s.list o.list 8 = (o.add s).list := by
  rw [M.St.add, BitVec.add_comm o.a, BitVec.add_comm o.b, BitVec.add_comm o.c, BitVec.add_comm o.d, BitVec.add_comm o.e, BitVec.add_comm o.f, BitVec.add_comm o.g, BitVec.add_comm o.h]
  rfl
theorem uv_setU (l : List (BitVec 32)) (i : Nat) (x : BitVec 32) : uv (ups (l.set i x)) = (uv (ups l)).set i (W64 (M.up x)) := by simp [uv]
theorem RdU.setCell {w : World} {g : Nat} {l : List (BitVec 64)} (h : RdU w (some ⟨g, 0, none⟩) l) {b i : Nat} (hb : g ≠ b) (v : Value) : RdU (w.setCell ⟨b, i, none⟩ v) (some ⟨g, 0, none⟩) l := fun k hk => by
  obtain ⟨g', o, e, hc⟩ := h k hk
  obtain ⟨rfl, rfl⟩ : g = g' ∧ 0 = o := by simpa using e
  exact ⟨g, 0, rfl, by rw [cell_setCell_other _ hb]; exact hc⟩
theorem Rd.setCell {w : World} {g : Nat} {l : List (BitVec 8)} (h : Rd w (some ⟨g, 0, none⟩) l) {b i : Nat} (hb : g ≠ b) (v : Value) : Rd (w.setCell ⟨b, i, none⟩ v) (some ⟨g, 0, none⟩) l := fun k hk => by
  obtain ⟨g', o, e, hc⟩ := h k hk
  obtain ⟨rfl, rfl⟩ : g = g' ∧ 0 = o := by simpa using e
  exact ⟨g, 0, rfl, by rw [cell_setCell_other _ hb]; exact hc⟩

set_option maxHeartbeats 4000000 in
set_option maxRecDepth 100000 in
theorem RefSum_any (A : Option Addr) (n c : Nat) (bs : List (BitVec 8)) (w : World) (hr : Rd w A bs) (hn : bs.length = n) (hn2 : n ≤ 1000000000000) (hnone : A = none → c = 0) :
    Calls Tryd.prog 14 #[.slice A n c] w fun e w' => ∃ g cap, e = .returned (.slice (some ⟨g, 0, none⟩) 32 cap) ∧
      w'.ownsRow w.heap.size 5 1 (.slice (some ⟨g, 0, none⟩) 32 cap) 32 (bv (M.sum bs)) ∧ Below w.heap.size w w' := by
  obtain ⟨i0, hi, hz0, hz1, hz2⟩ := info_parts infoByte
  obtain ⟨j0, hj0, hy0, hy1, hy2⟩ := info_parts infoU
  have HR := Lib.hid hr; have HN := Lib.hid hn
  clear hr hn
  go_enter Tryd.func14, Tryd.ntmps14
  go_wp2_with fail
  refine (roots_any 8 2 20 w (by omega) (by omega) (by rw [M.roots8]; rfl) (by omega) (by omega) (by omega) (by omega)).mono ?_
  rintro e w1 ⟨gh, ch, rfl, hh1, b1⟩
  rw [M.roots8] at hh1
  have HH1 := Lib.hid hh1; clear hh1
  go_wp2_with fail
  refine (roots_any 64 3 312 w1 (by omega) (by omega) (by rw [M.roots64]; rfl) (by omega) (by omega) (by omega) (by omega)).mono ?_
  rintro e w2 ⟨gk, ck, rfl, hk2, b2⟩
  rw [M.roots64] at hk2
  have HK2 := Lib.hid hk2; clear hk2
  have HH2 := Lib.hid (own_keptB HH1.out b2)
  have hgh := own_ltB HH1.out
  have b12 : Below w.heap.size w w2 := b1.trans (b2.mono b1.size)
  clear HH1 b1 b2
  go_wp2_with fail
  refine (rmessage_any A n c bs w2 (HR.out.below (b12.mono (Nat.le_refl _))) HN.out hn2 hnone).mono ?_
  rintro e w3 ⟨gm, cm, rfl, hm3, b3⟩
  have hgk := own_ltB HK2.out
  have hgm := own_ltB hm3
  have hcm := own_cap hm3
  have hch := own_cap HH2.out
  have HH3 := Lib.hid (own_keptB HH2.out b3)
  have hrk := (RdU.of_own HK2.out).below b3
  have hrm := Rd.of_own hm3
  have b13 : Below w.heap.size w w3 := b12.trans (b3.mono b12.size)
  have HRK := Lib.hid hrk; have HRM := Lib.hid hrm
  clear HH2 HK2 hm3 hrk hrm b12 b3
  have ht1 := M.total_ge n
  have ht2 := M.total_mod n
  have ht3 : M.total n ≤ n + 72 := by unfold M.total; omega
  have hml := M.message_length bs
  rw [HN.out] at hml
  have hsum : M.sum bs = M.digest (M.after (M.message bs) (M.total n / 64)) := by rw [M.sum, HN.out]
  obtain ⟨q, hq⟩ : ∃ q, M.total n = 64 * q := ⟨M.total n / 64, by omega⟩
  have hq2 : M.total n / 64 = q := by omega
  rw [hq2] at hsum
  obtain ⟨T, hT⟩ : ∃ T, T = M.total n := ⟨_, rfl⟩
  rw [← hT] at ht1 ht3 hq hml hcm
  rw [← hT]
  have hqT : T ≤ 64 * q := by omega
  have hqT2 : 64 * q ≤ T := by omega
  have HML := Lib.hid hml; have HSUM := Lib.hid hsum
  clear hT ht2 hq hml hsum hq2
  obtain ⟨msg, hmsg⟩ : ∃ msg, msg = M.message bs := ⟨_, rfl⟩
  rw [← hmsg] at HML HSUM HRM
  clear hmsg HR
  obtain ⟨N, hN⟩ : ∃ N, N = w3.heap.size := ⟨_, rfl⟩
  go_wp2
  go_loopw [6, 7, 8, 9, 10, 11, 12, 13, 14, 15, 16] (fun v _ _ _ _ _ _ _ _ _ _ wr => ∃ j : Nat, j ≤ q ∧ v = .int .i64 ((64 * j : Nat) : Int) ∧ wr.ownsRow w.heap.size 43 1 (.slice (some ⟨gh, 0, none⟩) 8 ch) 8 (uv (ups (M.after msg j).list)) ∧
      RdU wr (some ⟨gk, 0, none⟩) (ups M.kList) ∧ Rd wr (some ⟨gm, 0, none⟩) msg ∧ Below w.heap.size w wr) (fun v _ _ _ _ _ _ _ _ _ _ _ => T - (intOf v).toNat)
  case atStart => exact ⟨0, Nat.zero_le _, rfl, HH3.out, HRK.out, HRM.out, b13⟩
  case round =>
    clear HH3 HRK HRM b13 hN
    obtain ⟨j, hj, rfl, hown, hrk, hrm, hb⟩ := hrel
    have HOWN := Lib.hid hown; have HRK := Lib.hid hrk; have HRM := Lib.hid hrm
    clear hown hrk hrm
    obtain ⟨at', hat⟩ : ∃ a, a = 64 * j := ⟨_, rfl⟩
    rw [← hat]
    have HAT := Lib.hid hat
    rcases Nat.lt_or_ge j q with h1 | h1
    · have i1 : (at' : Int) < (T : Int) := by omega
      have i2 : (at' : Int) + 64 ≤ (T : Int) := by omega
      have i3 : at' + 64 ≤ T := by omega
      clear hat
      have i4 : at' + 64 ≤ cm := by omega
      have i5 : (at' : Int) + 64 ≤ (cm : Int) := by omega
      have hwsz := hb.size
      go_wp2_with fail
      have hblk := Rd.sub HRM.out at' 64
      have hbl : ((msg.drop at').take 64).length = 64 := by have := HML.out; simp; omega
      refine (rwords_any _ 64 (cm - at') _ wr hblk hbl (by omega) rfl (by omega)).mono ?_
      rintro e w4 ⟨gw, cw, rfl, hw4, b4⟩
      have hgw := own_ltB hw4
      have HH4 := Lib.hid (own_keptB HOWN.out b4)
      have HRK4 := Lib.hid (HRK.out.below b4)
      have HRM4 := Lib.hid (HRM.out.below b4)
      have HRW4 := Lib.hid (RdU.of_own hw4)
      have hb4 := hb.trans (b4.mono hb.size)
      have hgs4 := own_ltB HH4.out
      clear HOWN HRK HRM hblk hbl hw4 b4 hb i1 i2 i3 i4 i5 hwsz
      have hcs : ∀ jj u, (uv (ups (M.after msg j).list))[jj]? = some u → (w4.alloc (.cells #[] 43)).cell? ((⟨gh, 0, none⟩ : Addr).add jj) = some u := fun jj u hu => by
        have hjj : jj < 8 := (List.getElem?_eq_some_iff.1 hu).1
        rw [Addr.add_lit, Nat.zero_add]
        exact cell_alloc_old _ ((HH4.out.cellAt jj (by omega)).trans hu)
      have HCS := Lib.hid hcs; clear hcs
      go_wp2_with (at_builtin; refine wpList_append_own _ rfl _ _ 40 rfl w4.heap.size 43 j0 (.int .u64 0) 1 8 Tryd.underlying40 hj0 hy0 hy1 hy2 rfl (by decide) _ 0 [] rfl (own_litU (Nat.le_refl _)) ⟨gh, 0, none⟩ 8 ch (uv (ups (M.after msg j).list)) rfl rfl HCS.out (uv_one _) (by unfold maxLen; omega) (by omega) (by simp) ?_; intro v5 w5 hown5 hgrow5 _)
      clear HCS
      have hb45 : Below w4.heap.size w4 w5 := ((Below.refl _ _).alloc (Nat.le_refl _) _).grown hgrow5 (by simp) (fun k hk => ((own_litU (Nat.le_refl w4.heap.size)).lt k hk).1)
      obtain ⟨g5, c5, rfl, _, _⟩ := own_some hown5 (by omega)
      rw [List.nil_append] at hown5
      have HO5 := Lib.hid hown5
      clear hgrow5 hown5
      obtain ⟨st, hst⟩ : ∃ st, st = M.after msg j := ⟨_, rfl⟩
      obtain ⟨ws, hws⟩ : ∃ ws, ws = M.sched ((msg.drop at').take 64) 64 := ⟨_, rfl⟩
      rw [← hst] at HO5 HH4
      rw [← hws] at HRW4
      have hwl : ws.length = 64 := by rw [hws, M.sched_length]
      have HST := Lib.hid hst; have HWS := Lib.hid hws; have HWL := Lib.hid hwl
      clear hst hws hwl
      go_wp2
      go_loopw [8, 9, 10, 11, 12, 13, 14, 15] (fun v i _ _ _ _ _ _ wx => ∃ (t gs cs : Nat), t ≤ 64 ∧ i = .int .i64 (t : Int) ∧ v = .slice (some ⟨gs, 0, none⟩) 8 cs ∧ wx.ownsRow w4.heap.size 43 1 v 8 (uv (ups (M.rounds st ws t).list)) ∧ Below w4.heap.size w4 wx) (fun _ i _ _ _ _ _ _ _ => 64 - (intOf i).toNat)
      case atStart => exact ⟨0, g5, c5, by omega, rfl, rfl, HO5.out, hb45⟩
      case round =>
        clear HO5 hb45
        obtain ⟨t, gs, cs, ht, rfl, rfl, hown, hbx⟩ := hrel
        rcases Nat.lt_or_ge t 64 with h2 | h2
        · have i1 : (t : Int) < 64 := by omega
          have t0 : (0 : Int) ≤ (t : Int) := by omega
          obtain ⟨sr, hsr⟩ : ∃ sr, sr = M.rounds st ws t := ⟨_, rfl⟩
          rw [← hsr] at hown
          have hgs := own_ltB hown
          have c0 : wr.cell? ⟨gs, 0, none⟩ = some (W64 (M.up sr.a)) := own_cellU hown 0 (show 0 < 8 by omega)
          have c1 : wr.cell? ⟨gs, 1, none⟩ = some (W64 (M.up sr.b)) := own_cellU hown 1 (show 1 < 8 by omega)
          have c2 : wr.cell? ⟨gs, 2, none⟩ = some (W64 (M.up sr.c)) := own_cellU hown 2 (show 2 < 8 by omega)
          have c4 : wr.cell? ⟨gs, 4, none⟩ = some (W64 (M.up sr.e)) := own_cellU hown 4 (show 4 < 8 by omega)
          have c5 : wr.cell? ⟨gs, 5, none⟩ = some (W64 (M.up sr.f)) := own_cellU hown 5 (show 5 < 8 by omega)
          have c6 : wr.cell? ⟨gs, 6, none⟩ = some (W64 (M.up sr.g)) := own_cellU hown 6 (show 6 < 8 by omega)
          have c7 : wr.cell? ⟨gs, 7, none⟩ = some (W64 (M.up sr.h)) := own_cellU hown 7 (show 7 < 8 by omega)
          have ckt : wr.cell? ⟨gk, t, none⟩ = some (W64 (M.up (M.at32 M.kList t))) := rdU_cell (HRK4.out.below hbx) t (by rw [kList_length]; exact h2)
          have cwt : wr.cell? ⟨gw, t, none⟩ = some (W64 (M.up (M.at32 ws t))) := rdU_cell (HRW4.out.below hbx) t (by have := HWL.out; omega)
          have HSR := Lib.hid hsr; have HOWN := Lib.hid hown
          clear hsr hown
          have mx := mask_xor
          have mu : ∀ x : BitVec 64, x = x := fun _ => rfl
          go_wp2_with fail
          go_quiet (fail)
          go_wp2_with fail
          go_quiet (fail)
          rw [M.ch_up]
          go_wp2_with fail
          go_quiet (fail)
          rw [M.maj_up]
          go_wp2_with fail
          go_quiet ((go_at_call 30; first | (with_reducible exact q_add (turned_low _ _ _ (by decide) (by decide))) | (with_reducible exact q_same (turned_low _ _ _ (by decide) (by decide)))))
          go_wp2_with fail
          clear mx mu
          have hO2 : ∀ k, (wr.drewN k).ownsRow w4.heap.size 43 1 (.slice (some ⟨gs, 0, none⟩) 8 cs) 8 (uv (ups sr.list)) := fun _ => HOWN.out
          have hB2 : ∀ k, Below w4.heap.size w4 (wr.drewN k) := fun k => below_drewN hbx k
          obtain ⟨o, ho⟩ : ∃ o, o = M.up sr.h + (M.up (M.rot sr.e 6) ^^^ M.up (M.rot sr.e 11) ^^^ M.up (M.rot sr.e 25)) + M.up (M.ch sr.e sr.f sr.g) + M.up (M.at32 M.kList t) + M.up (M.at32 ws t) := ⟨_, rfl⟩
          have ho2 : o.setWidth 32 = M.one sr (M.at32 M.kList t) (M.at32 ws t) := by rw [ho]; exact one_low _ _ _
          rw [← ho]
          have HO1 := Lib.hid ho2
          clear ho ho2 c0 c1 c2 c4 c5 c6 c7 ckt cwt HOWN hbx hgs
          generalize hwz : World.drewN wr _ = wz
          have hO3 : wz.ownsRow w4.heap.size 43 1 (.slice (some ⟨gs, 0, none⟩) 8 cs) 8 (uv (ups sr.list)) := by rw [← hwz]; exact hO2 _
          have hB3 : Below w4.heap.size w4 wz := by rw [← hwz]; exact hB2 _
          have hcap := own_cap hO3
          have hgs := own_ltB hO3
          have hsz := hB3.size
          have HO2 := Lib.hid hO3; have HB2 := Lib.hid hB3
          clear hwz hO3 hB3 hO2 hB2
          refine (turned_low _ 2 _ (by decide) (by decide)).mono ?_
          rintro e w7 ⟨rfl, rfl⟩
          go_wp2_with fail
          refine (turned_low _ 13 _ (by decide) (by decide)).mono ?_
          rintro e w7 ⟨rfl, rfl⟩
          go_wp2_with fail
          refine (turned_low _ 22 _ (by decide) (by decide)).mono ?_
          rintro e w7 ⟨rfl, rfl⟩
          have hcs : ∀ (x : Value) jj u, ((uv (ups sr.list)).take 7)[jj]? = some u → (wz.alloc (.cells #[x] 43)).cell? ((⟨gs, 0, none⟩ : Addr).add jj) = some u := fun x jj u hu => by
            have hjj : jj < 7 := (List.getElem?_eq_some_iff.1 hu).1
            rw [Addr.add_lit, Nat.zero_add]
            rw [List.getElem?_take, if_pos hjj] at hu
            exact cell_alloc_old _ ((HO2.out.cellAt jj (by omega)).trans hu)
          have hol : ∀ x : Value, (wz.alloc (.cells #[x] 43)).ownsRow wz.heap.size 43 1 (.slice (some ⟨wz.heap.size, 0, none⟩) 1 1) 1 [x] := fun x => World.ownsRow_lit wz #[x] 1 (Nat.le_refl _) (by unfold maxLen; omega) rfl
          have HCS := Lib.hid hcs; have HOL := Lib.hid hol
          clear hcs hol
          go_wp2_with (first | (with_reducible refine wpList_store_one rfl 43 (.tmp 128) (.tmp 127) rfl ⟨g8, 4, none⟩ _ _ rfl rfl rfl (by kernel_rfl) d4 f4 ?_) | (at_builtin; refine wpList_append_own _ rfl _ _ 40 rfl wz.heap.size 43 j0 (.int .u64 0) 1 8 Tryd.underlying40 hj0 hy0 hy1 hy2 rfl (by decide) _ 1 [W64 _] rfl (HOL.out _) ⟨gs, 0, none⟩ 7 cs ((uv (ups sr.list)).take 7) rfl rfl (HCS.out _) (fun u hu => uv_one _ u (List.mem_of_mem_take hu)) (by unfold maxLen; omega) (by omega) (by simp) ?_; intro v8 w8 hown8 hgrow8 _; obtain ⟨g8, c8, rfl, hg8, _⟩ := own_some hown8 (by omega); have d4 : w8.cell? ⟨g8, 4, none⟩ = some (W64 (M.up sr.d)) := (hown8.cellAt 4 (by omega)).trans rfl; have f4 : w8.frozen? ⟨g8, 4, none⟩ = false := hown8.frozenAt 4; have hown9 := Lib.hid hown8; clear hown8))
          have hb8 : Below w4.heap.size w4 w8 := (HB2.out.alloc hsz _).grown hgrow8 (by simp; omega) (fun k hk => by have := ((HOL.out (W64 0)).lt k hk).1; omega)
          clear hgrow8
          refine ⟨?_, ?measure⟩
          iterate 200 (first | apply Exists.intro | skip)
          refine ⟨?rel, rfl⟩
          case rel =>
            refine ⟨t + 1, g8, c8, by omega, by go_num, rfl, ?_, hb8.setCell (p := ⟨g8, 4, none⟩) (by simp at hg8 ⊢; omega) _⟩
            have hs := (hown9.out.stored 4 (W64 ((M.up sr.d + o) &&& M.mask))).1
            refine ⟨hs.1, hs.2.elim (fun h => by simp at h) fun ⟨a, b, cur, hv, hbb, r⟩ => .inr ⟨a, b, cur, hv, by omega, ?_⟩⟩
            have er : M.rounds st ws (t + 1) = M.rnd sr (M.at32 M.kList t) (M.at32 ws t) := by rw [M.rounds, HSR.out]
            have hv' := hv
            simp only [Value.slice.injEq, Option.some.injEq, Addr.mk.injEq, and_true, true_and] at hv'
            obtain ⟨r1, r2, r3, r4, r5⟩ := r
            refine ⟨r1, r2, r3, r4, r5.trans ?_⟩
            rw [add_mask, add_mask, HO1.out, two_low, M.low_up, er, M.rnd]
            rfl
          case measure => simp [intOf]; omega
        · have ht64 : t = 64 := by omega
          have i1 : ¬ (t : Int) < 64 := by omega
          rw [ht64] at hown
          have HO := Lib.hid hown
          clear hown ht64
          have hh5 := own_keptB HH4.out hbx
          have hk5 := HRK4.out.below hbx
          have hm5 := HRM4.out.below hbx
          have hs5 := RdU.of_own HO.out
          have hb5 := hb4.trans (hbx.mono hb4.size)
          have hgs5 := own_ltB HO.out
          obtain ⟨fin, hfin⟩ : ∃ fin, fin = M.rounds st ws 64 := ⟨_, rfl⟩
          rw [← hfin] at hs5
          have HFIN := Lib.hid hfin; have HH5 := Lib.hid hh5; have HK5 := Lib.hid hk5; have HM5 := Lib.hid hm5; have HS5 := Lib.hid hs5
          have hne : gh ≠ gs := by omega
          have hne2 : gh ≠ gk := by omega
          have hne3 : gh ≠ gm := by omega
          clear hh5 hk5 hm5 hs5 hfin HO HH4 HRK4 HRM4 HRW4 hb4 hbx
          go_wp2
          go_loopw [16] (fun v wx => ∃ (i : Nat), i ≤ 8 ∧ v = .int .i64 (i : Int) ∧ wx.ownsRow w.heap.size 43 1 (.slice (some ⟨gh, 0, none⟩) 8 ch) 8 (uv (ups (addTo st.list fin.list i))) ∧
            RdU wx (some ⟨gs, 0, none⟩) (ups fin.list) ∧ RdU wx (some ⟨gk, 0, none⟩) (ups M.kList) ∧ Rd wx (some ⟨gm, 0, none⟩) msg ∧ Below w.heap.size w wx) (fun v _ => 8 - (intOf v).toNat)
          case atStart => exact ⟨0, by omega, rfl, HH5.out, HS5.out, HK5.out, HM5.out, hb5⟩
          case round =>
            clear HH5 HK5 HM5 HS5 hb5
            obtain ⟨i, hi8, rfl, hown, hrs, hrk, hrm, hb⟩ := hrel
            have HOWN := Lib.hid hown; have HRS := Lib.hid hrs; have HRK := Lib.hid hrk; have HRM := Lib.hid hrm
            clear hown hrs hrk hrm
            rcases Nat.lt_or_ge i 8 with h3 | h3
            · have p3 : (i : Int) < 8 := by omega
              have p0 : (0 : Int) ≤ (i : Int) := by omega
              have ci : wr.cell? ⟨gh, i, none⟩ = some (W64 (M.up (M.at32 (addTo st.list fin.list i) i))) := own_cellU HOWN.out i (by rw [addTo_length]; exact h3)
              have cs : wr.cell? ⟨gs, i, none⟩ = some (W64 (M.up (M.at32 fin.list i))) := rdU_cell HRS.out i h3
              have fi : wr.frozen? ⟨gh, i, none⟩ = false := HOWN.out.frozenAt i
              go_wp2_with fail
              go_still_tail 13, (by kernel_rfl)
              change wpList _ _ _ _ _ wr.drew
              refine wpList_store_one rfl _ _ _ rfl _ _ _ rfl rfl rfl (by kernel_rfl) ci fi ?_
              go_wp2
              go_roundw
              case rel =>
                refine ⟨i + 1, by omega, by go_num, ?_, RdU.setCell HRS.out (fun e => hne e.symm) _, RdU.setCell HRK.out (fun e => hne2 e.symm) _, Rd.setCell HRM.out (fun e => hne3 e.symm) _, (hb.setCell (p := ⟨gh, i, none⟩) (by have := hgh.1; simpa using this) _).drew⟩
                have hs := (HOWN.out.stored i (W64 ((M.up (M.at32 (addTo st.list fin.list i) i) + M.up (M.at32 fin.list i)) &&& M.mask))).1
                have hm : ∀ a b : BitVec 32, (BitVec.setWidth 64 a + BitVec.setWidth 64 b) &&& M.mask = M.up (a + b) := fun a b => by
                  have h := add_mask (M.up a) (M.up b)
                  rw [M.low_up, M.low_up] at h
                  exact h
                rw [add_mask, M.low_up, M.low_up, ← uv_setU] at hs
                rw [hm]
                exact hs
              case measure => simp [intOf]; omega
            · have hi8' : i = 8 := by omega
              have p3 : ¬ (i : Int) < 8 := by omega
              have HI8 := Lib.hid hi8'
              clear hi8'
              have a3 : at' + 64 ≤ T := by have := HAT.out; omega
              have a4 : (at' : Int) + 64 ≤ 2000000000000 := by omega
              go_wp2
              go_roundw
              case rel =>
                refine ⟨j + 1, by omega, by have := HAT.out; go_num, ?_, HRK.out, HRM.out, hb⟩
                have o := HOWN.out
                rw [HI8.out, addTo_eight, HFIN.out, HWS.out] at o
                have e : M.after msg (j + 1) = (M.rounds st (M.sched ((msg.drop at').take 64) 64) 64).add st := by rw [HST.out, HAT.out]; rfl
                rw [e]
                exact o
              case measure => simp [intOf]; omega
    · have i1 : ¬ (at' : Int) < (T : Int) := by omega
      have hjq : j = q := by omega
      have HJQ := Lib.hid hjq
      obtain ⟨s, hs⟩ : ∃ s, s = M.after msg j := ⟨_, rfl⟩
      rw [← hs] at HOWN
      have hgh2 := own_ltB HOWN.out
      have HS := Lib.hid hs
      clear hs hjq hat
      obtain ⟨wo, rfl⟩ : ∃ wo : World, wo = wr := ⟨_, rfl⟩
      have hwo := hb.size
      go_wp2
      go_loopw [17, 18] (fun v i wx => ∃ (k m cap : Nat) (B : Option Addr), k ≤ 8 ∧ i = .int .i64 (k : Int) ∧ v = .slice B m cap ∧ m = 4 * k ∧ wx.ownsRow wo.heap.size 5 1 v m (bv (digTo s k)) ∧ Below wo.heap.size wo wx) (fun _ i _ => 8 - (intOf i).toNat)
      case atStart => exact ⟨0, 0, 0, none, by omega, rfl, rfl, rfl, World.ownsRow_nil _ _ _ _, Below.refl _ _⟩
      case round =>
        obtain ⟨k, m, cap, B, hk, rfl, rfl, hm, hown, hbx⟩ := hrel
        have hm2 : m ≤ 32 := by omega
        have HM := Lib.hid hm; have HO := Lib.hid hown
        clear hm hown
        have hbs := hbx.size
        rcases Nat.lt_or_ge k 8 with h3 | h3
        · have p3 : (k : Int) < 8 := by omega
          have p0 : (0 : Int) ≤ (k : Int) := by omega
          have c0 : wr.cell? ⟨gh, k, none⟩ = some (W64 (M.up (M.at32 s.list k))) := (hbx.cell (p := ⟨gh, k, none⟩) hgh2.2).trans (own_cellU HOWN.out k h3)
          have hob : (Value.slice B m cap).ownBlock ≠ some gh := fun h => by
            have := (HO.out.lt gh h).1; omega
          have hgr : gh < wr.heap.size := by omega
          obtain ⟨x, hx⟩ : ∃ x, x = M.at32 s.list k := ⟨_, rfl⟩
          rw [← hx] at c0
          have HX := Lib.hid hx; clear hx
          go_wp2_with fail
          go_region_held3 (fun w' => w'.cell? ⟨gh, k, none⟩ = some (W64 (M.up x)))
            (first
              | (refine (hgrow.cell_far _ (by simp; omega) (Ne.symm hob)).trans ?_; assumption)
              | (refine (hgrow.cell_far _ (by simp; omega) (Ne.symm hob)).trans ?_; go_keep)
              | go_keep)
            ((refine step_append_lies _ (by rfl) _ _ _ (by rfl) wo.heap.size 5 i0 _ 1 1 Tryd.underlying22 hi hz0 hz1 hz2 rfl (by omega) (.slice B m cap) m _ (by rfl) ((HO.out.alloc _).drew)
                ⟨wr.heap.size, 0, none⟩ 4 4 [B8 _, B8 _, B8 _, B8 _] (by rfl) (by rfl) (cells4 _ _ _ _ _ _) (by intro u hu; simp at hu; rcases hu with rfl | rfl | rfl | rfl <;> rfl)
                (by omega) (by unfold maxLen; omega) (by omega) (by simp; omega) (wr.heap.size + 1) (by simp) ?_; intro g3 c3 w3 hown3 hgrow hat3 hlt3))
          have hb3 : Below wo.heap.size wo w3 := (hbx.alloc hbx.size _).drew.grown hgrow (by simp; omega) (fun k' hk' => (HO.out.lt k' hk').1)
          clear hgrow hat3 hlt3 hob
          go_wp2
          go_roundw
          case rel =>
            refine ⟨k + 1, m + 4, c3, _, by omega, by go_num, rfl, by have := HM.out; omega, ?_, hb3⟩
            rw [digTo_succ _ _ h3, ← HX.out, bytes4, bv_append]
            rw [up_byte, up_byte, up_byte] at hown3
            first | exact hown3 | (simp only [up_byte0] at hown3; exact hown3)
          case measure => simp [intOf]; omega
        · have hk8 : k = 8 := by omega
          have p3 : ¬ (k : Int) < 8 := by omega
          have hm32 : m = 32 := by have := HM.out; omega
          have o := HO.out
          rw [hk8, digTo_end, hm32] at o
          obtain ⟨g, cap', e, hg1, hg2⟩ := own_some o (by omega)
          simp only [Value.slice.injEq, true_and] at e
          obtain ⟨rfl, rfl⟩ := e
          have O2 := Lib.hid o; have HM32 := Lib.hid hm32
          clear o hm32 hk8 HO
          go_wp2
          go_ret
          refine ⟨g, cap, by rw [← HM32.out]; rfl, ?_, hb.trans (hbx.mono hwo)⟩
          rw [HSUM.out, ← HJQ.out, ← HS.out]
          exact own_weaken O2.out hwo
end Go.Proofs.YtjnhfmicadcmnaaDoor.K
