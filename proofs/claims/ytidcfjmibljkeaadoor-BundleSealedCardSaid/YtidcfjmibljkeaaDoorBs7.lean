/- Merged: BunPub, KitCopyD, KitBunCopy, BunAwakeMath, BunAwake, KitBunSame, BunSealMath, BunOne, BunStep, BunCopies, BunPubG, ShaLaid. -/
import Derived.Test.YtidcfjmibljkeaaDoorBs6
import Derived.Lib.SlBytesConst
import Derived.Deep.DeepCutAuto
import Derived.Test.YtidcfjmibljkeaaDoorCards
import Derived.Test.YtidcfjmibljkeaaDoorTie
import Derived.OpenShut
import Derived.ShutString
import Derived.ChangeOld
import Derived.Below
import Derived.Deep.DeepHandedRow
import Derived.Lib.LaidTab
/- The contracts of bundle's Put and Check. -/
namespace Go.Proofs.YtidcfjmibljkeaaDoor.K
open Go Go.RowKit

theorem box4_of {w : World} {X : Nat} {t : TypeId} {v : Int} {A : Option Addr} {n c : Nat} {B : Option Addr} {m d : Nat} {C : Option Addr} {k l : Nat} (h : w.heap[X]? = some (.cells (bunL v A n c B m d C k l).toArray t (0, 0))) : Box4 w X v A n c B m d C k l :=
  ⟨block_cell h rfl, block_cell h rfl, block_cell h rfl, block_cell h rfl⟩
set_option maxHeartbeats 4000000 in
set_option maxRecDepth 100000 in
theorem pputB_any (b : M.Bun) (A : Option Addr) (n c : Nat) (B : Option Addr) (m d : Nat) (C : Option Addr) (k l : Nat) (w : World) (h : BunIn w b A n c B m d C k l) (hn : n ≤ 10000000000) (hm : m ≤ 10000000000) (hk : k ≤ 10000000000) :
    Calls Tryd.prog 6 #[.agg #[.int .i64 b.ver, .slice A n c, .slice B m d, .slice C k l]] w (PutE w b) := by
  have hmf : ∀ (fn : Fn) (first cap : Array Value) (w : World), (Instr.makeFunc fn first cap).run Tryd.prog w = .ok (.func fn first cap) w := fun _ _ _ _ => rfl
  have H := Lib.hid h
  have BK0 := Lib.hid ((Bank.nil (Below.refl w.heap.size w)).box #[.int .i64 b.ver, .slice A n c, .slice B m d, .slice C k l] 25 (by simp))
  clear h
  go_enter Tryd.func6, Tryd.ntmps6
  go_wp2_with fail
  generalize hw1 : w.alloc (.cells #[.int .i64 b.ver, .slice A n c, .slice B m d, .slice C k l] 25) = w1 at *
  clear hw1
  have S12 := Lib.hid (Since.alloc (Since.alloc (Below.refl w1.heap.size w1) (.cells #[.slice none 0 0] 22)) (.cells #[.int .i64 0] 26))
  have hbx := Since.at S12.out (BK0.out.boxAt 0 rfl).2
  refine (triedPut_any ⟨w.heap.size, 0, none⟩ (M.bbytes b) (M.bwrong b) w1 (put1_any w.heap.size b A n c B m d C k l _ (box4_of hbx) (H.out.since (Since.add BK0.out.since S12.out)) hn hm hk)).mono ?_
  rintro e w2 ⟨A2, N2, c2, rfl, hN2, ho2, hs2⟩
  have HFIN := Lib.hid (show PutE w b (.returned (.tuple #[.slice A2 N2 c2, .int .i64 (M.bwrong b : Int)])) w2 from ⟨A2, N2, c2, rfl, by unfold M.bput; exact hN2, by unfold M.bput; exact row_weaken ho2 BK0.out.since.size, Since.add BK0.out.since hs2⟩)
  clear hN2 ho2 hs2 hbx
  go_wp2_with fail
  go_ret2
  exact HFIN.out
set_option maxHeartbeats 8000000 in
set_option maxRecDepth 100000 in
theorem pcheckB_any (key : List (BitVec 8)) (b : M.Bun) (K : Option Addr) (kn kc : Nat) (A : Option Addr) (n c : Nat) (B : Option Addr) (m d : Nat) (C : Option Addr) (k l : Nat) (w : World) (hkr : RowRd w ⟨K, kn, kc⟩ key) (h : BunIn w b A n c B m d C k l) (hkn : kn ≤ 10000000000) (hn : n ≤ 10000000000) (hm : m ≤ 10000000000) (hk : k ≤ 10000000000) (hKt : HasK w) (hFt : HasF w) :
    Calls Tryd.prog 10 #[.slice K kn kc, .agg #[.int .i64 b.ver, .slice A n c, .slice B m d, .slice C k l]] w fun e w' => e = .returned (.int .i64 (M.bcheckE key b : Int)) ∧ Since w w' := by
  have hmf : ∀ (fn : Fn) (first cap : Array Value) (w : World), (Instr.makeFunc fn first cap).run Tryd.prog w = .ok (.func fn first cap) w := fun _ _ _ _ => rfl
  have H := Lib.hid h; have HK := Lib.hid hkr; have TK := Lib.hid hKt; have TF := Lib.hid hFt
  have HL := Lib.hid (show b.code.length = n ∧ b.dig.length = m ∧ b.tag.length = k from ⟨h.code.len, h.dig.len, h.tag.len⟩)
  have BK0 := Lib.hid (((Bank.nil (Below.refl w.heap.size w)).box #[.int .i64 b.ver, .slice A n c, .slice B m d, .slice C k l] 25 (by simp)).box #[.int .i64 b.ver, .slice A n c, .slice B m d, .slice C k l] 43 (by simp))
  rw [World.size_alloc] at BK0
  clear h hkr hKt hFt
  go_enter Tryd.func10, Tryd.ntmps10
  go_wp2_with fail
  generalize hw1 : (w.alloc (.cells #[.int .i64 b.ver, .slice A n c, .slice B m d, .slice C k l] 25)).alloc (.cells #[.int .i64 b.ver, .slice A n c, .slice B m d, .slice C k l] 43) = w1 at *
  clear hw1
  have S12 := Lib.hid (Since.alloc (Since.alloc (Below.refl w1.heap.size w1) (.cells #[.bool false] 4)) (.cells #[.int .i64 0] 26))
  have hbx := Since.at S12.out (BK0.out.boxAt 0 rfl).2
  refine (triedCheck_any ⟨w.heap.size + 1, 0, none⟩ (M.bwrong b) w1 (check1_any (w.heap.size + 1) b A n c B m d C k l _ (box4_of hbx) HL.out.1 HL.out.2.1 HL.out.2.2)).mono ?_
  rintro e w2 ⟨x, rfl, hs2⟩
  have BK2 := Lib.hid (BK0.out.call hs2)
  clear hs2 hbx BK0 S12
  by_cases hE : M.bwrong b = 0
  · have HE := Lib.hid hE
    rw [hE]
    clear hE
    have x0 := BK2.out.cell 0 rfl 0 rfl
    have x1 := BK2.out.cell 0 rfl 1 rfl
    have x2 := BK2.out.cell 0 rfl 2 rfl
    have x3 := BK2.out.cell 0 rfl 3 rfl
    go_wp2_with fail
    refine (sealed_any key b.code b.ver K A B C kn kc n c m d k l w2 (Since.row BK2.out.since HK.out) (Since.row BK2.out.since H.out.code) hkn hn (TK.out.below BK2.out.since) (TF.out.below BK2.out.since)).mono ?_
    rintro e w3 ⟨B3, d3, C3, l3, rfl, hB3⟩
    have BK3 := Lib.hid (BK2.out.call hB3.since)
    have HD3 := Lib.hid (show RowRd w3 ⟨B3, 32, d3⟩ (M.bdig b.ver b.code) from RowRd.of_row (hB3.at 1 rfl))
    have y2 := BK3.out.cell 1 rfl 2 rfl
    have y3 := BK3.out.cell 1 rfl 3 rfl
    have hby : w.heap.size < w3.heap.size := block_lt_of_cell y2
    clear hB3 x0 x1 x2 x3 BK2
    go_wp2_with fail
    have BK4 := Lib.hid (BK3.out.box #[.int .i64 b.ver, .slice A n c, .slice B3 32 d3, .slice C3 32 l3] 43 (by simp))
    have S34 := Lib.hid (show Since w3 (w3.alloc (.cells #[.int .i64 b.ver, .slice A n c, .slice B3 32 d3, .slice C3 32 l3] 43)) from Since.alloc (Below.refl _ _) _)
    generalize hX : w3.heap.size = X at *
    generalize hw4 : w3.alloc (.cells #[.int .i64 b.ver, .slice A n c, .slice B3 32 d3, .slice C3 32 l3] 43) = w4 at *
    clear hw4 y2 y3 hX BK3
    refine (equal_any B3 B 32 d3 m d _ _ w4 (Since.row S34.out HD3.out) (Since.row BK4.out.since H.out.dig)).mono ?_
    rintro e w5 ⟨rfl, rfl⟩
    have y2 := BK4.out.cell 0 rfl 2 rfl
    have z3 := BK4.out.cell 2 rfl 3 rfl
    by_cases hd : M.bdig b.ver b.code = b.dig
    · have HD := Lib.hid hd
      rw [decide_eq_true hd]
      clear hd
      go_wp2_with fail
      refine (fits_any K B3 C kn kc 32 d3 k l key _ _ w4 (Since.row BK4.out.since HK.out) (Since.row S34.out HD3.out) (Since.row BK4.out.since H.out.tag) (by omega) (by omega) (by omega) (TK.out.below BK4.out.since) (TF.out.below BK4.out.since)).mono ?_
      rintro e w6 ⟨rfl, hs6⟩
      have BK6 := Lib.hid (BK4.out.call hs6)
      clear hs6 y2 z3
      by_cases ht : M.tag key (M.bdig b.ver b.code) = b.tag
      · have HFIN := Lib.hid (show (Ending.returned (.int .i64 0) = .returned (.int .i64 (M.bcheckE key b : Int))) ∧ Since w w6 from ⟨by unfold M.bcheckE; rw [if_neg (by rw [HE.out]; decide), if_pos ⟨HD.out, ht⟩]; rfl, BK6.out.since⟩)
        first | rw [decide_eq_true ht] | rw [decide_eq_true ht.symm]
        clear ht
        go_wp2_with fail
        go_ret
        exact HFIN.out
      · have HFIN := Lib.hid (show (Ending.returned (.int .i64 11) = .returned (.int .i64 (M.bcheckE key b : Int))) ∧ Since w w6 from ⟨by unfold M.bcheckE; rw [if_neg (by rw [HE.out]; decide), if_neg (fun h => ht h.2)]; rfl, BK6.out.since⟩)
        first | rw [decide_eq_false ht] | rw [decide_eq_false (fun h => ht h.symm)]
        clear ht
        go_wp2_with fail
        go_ret
        exact HFIN.out
    · rw [decide_eq_false hd]
      have HFIN := Lib.hid (show (Ending.returned (.int .i64 11) = .returned (.int .i64 (M.bcheckE key b : Int))) ∧ Since w w4 from ⟨by unfold M.bcheckE; rw [if_neg (by rw [HE.out]; decide), if_neg (fun h => hd h.1)]; rfl, BK4.out.since⟩)
      clear hd
      go_wp2_with fail
      go_ret
      exact HFIN.out
  · have hE1 : ((M.bwrong b : Int) != 0) = true := by simpa using hE
    have HFIN := Lib.hid (show (Ending.returned (.int .i64 4) = .returned (.int .i64 (M.bcheckE key b : Int))) ∧ Since w w2 from ⟨by unfold M.bcheckE; rw [if_pos hE]; rfl, BK2.out.since⟩)
    clear hE
    go_wp2_with fail
    go_ret
    exact HFIN.out
end Go.Proofs.YtidcfjmibljkeaaDoor.K

/- The contract of barbicankit.CopyBytes (with the bank of rows). -/
namespace Go.Proofs.YtidcfjmibljkeaaDoor.K
open Go Go.RowKit

set_option maxHeartbeats 1000000 in
set_option maxRecDepth 100000 in
theorem CopyBytes_any (A : Option Addr) (n c : Nat) (bs : List (BitVec 8)) (w : World) (hx : RowRd w ⟨A, n, c⟩ bs) (hn2 : n ≤ 100000000000000) :
    Calls Tryd.prog 34 #[.slice A n c] w fun e w' => ∃ B c', e = .returned (.slice B n c') ∧ w'.ownsRow w.heap.size 5 1 (.slice B n c') n (bv bs) ∧ Below w.heap.size w w' := by
  have HX := Lib.hid hx
  have BK0 := Lib.hid (Bank.none (Bank.nil (Below.refl w.heap.size w)) 5 1)
  clear hx
  go_enter Tryd.func34, Tryd.ntmps34
  go_wp2_with (at_builtin; refine wpList_append_bytes BK0.out rfl _ _ 22 rfl 5 infoByte Tryd.underlying22 0 none 0 0 [] rfl rfl _ _ _ _ rfl HX.out (by omega) ?_; intro A2 n2 c2 w2 hn2' hB2; dsimp only [List.set] at hB2; rw [Nat.zero_add] at hn2'; subst hn2'; have BK2 := Lib.hid hB2; clear hB2)
  go_ret
  exact ⟨A2, c2, rfl, BK2.out.at 0 rfl, BK2.out.since⟩
end Go.Proofs.YtidcfjmibljkeaaDoor.K

/- The contract of the kit's CopyBundle. -/
namespace Go.Proofs.YtidcfjmibljkeaaDoor.K
open Go Go.RowKit

theorem results_cell_only {fn : Func} {p : Tmp} {ty : TypeId} {P : Program} (h : fn.results = #[.cell p ty]) (tmps : Array Value) (w : World) (g : Nat) (u : Value)
    (hp : tmps.getD p undef = .pointer (some ⟨g, 0, none⟩)) (hrun : (loadVar ty ⟨g, 0, none⟩).run P w = .ok u w) : (results fn tmps).run P w = .ok u w := by
  have hp' : tmps[p]?.getD undef = .pointer (some ⟨g, 0, none⟩) := by simpa using hp
  simp [results, h, hp', asAddr, hrun]
/-- a bundle was copied -/
def Copied (w : World) (b : M.Bun) (n m k : Nat) (e : Ending) (w' : World) : Prop := ∃ A c B d C l, e = .returned (.agg #[.int .i64 b.ver, .slice A n c, .slice B m d, .slice C k l]) ∧ Bank w w' [rowAcc C k l b.tag, rowAcc B m d b.dig, rowAcc A n c b.code]
set_option maxHeartbeats 8000000 in
set_option maxRecDepth 100000 in
theorem CopyBundle_any (b : M.Bun) (A : Option Addr) (n c : Nat) (B : Option Addr) (m d : Nat) (C : Option Addr) (k l : Nat) (w : World) (h : BunIn w b A n c B m d C k l) (hn : n ≤ 10000000000) (hm : m ≤ 10000000000) (hk : k ≤ 10000000000) :
    Calls Tryd.prog 11 #[.agg #[.int .i64 b.ver, .slice A n c, .slice B m d, .slice C k l]] w (Copied w b n m k) := by
  have H := Lib.hid h
  obtain ⟨v, hv⟩ : ∃ v, v = b.ver := ⟨_, rfl⟩
  have HV := Lib.hid hv
  rw [← hv]
  have BK0 := Lib.hid (((Bank.nil (Below.refl w.heap.size w)).box #[.int .i64 v, .slice A n c, .slice B m d, .slice C k l] 25 (by simp)).box #[.int .i64 0, .slice none 0 0, .slice none 0 0, .slice none 0 0] 25 (by simp))
  rw [World.size_alloc] at BK0
  clear h hv
  go_enter Tryd.func11, Tryd.ntmps11
  go_wp2_with fail
  generalize hw1 : (w.alloc (.cells #[.int .i64 v, .slice A n c, .slice B m d, .slice C k l] 25)).alloc (.cells #[.int .i64 0, .slice none 0 0, .slice none 0 0, .slice none 0 0] 25) = w1 at *
  clear hw1
  refine (CopyBytes_any A n c b.code w1 (Since.row BK0.out.since H.out.code) (by omega)).mono ?_
  rintro e w2 ⟨A2, c2, rfl, ho, hb⟩
  have BK2 := Lib.hid (BK0.out.madeB hb ho)
  have x1 := BK2.out.cell 2 rfl 1 rfl
  have f1 := BK2.out.free 2 rfl 1
  have BK3 := Lib.hid (BK2.out.boxSet 2 rfl 1 (.slice A2 n c2))
  have x2 := BK3.out.cell 2 rfl 2 rfl
  clear hb ho BK0 BK2
  go_wp2_with fail
  generalize w2.setCell ⟨w.heap.size, 1, none⟩ (.slice A2 n c2) = w3 at *
  clear x1 f1 x2
  refine (CopyBytes_any B m d b.dig w3 (Since.row BK3.out.since H.out.dig) (by omega)).mono ?_
  rintro e w4 ⟨B4, d4, rfl, ho, hb⟩
  have BK4 := Lib.hid (BK3.out.madeB hb ho)
  have x1 := BK4.out.cell 3 rfl 2 rfl
  have f1 := BK4.out.free 3 rfl 2
  have BK5 := Lib.hid (BK4.out.boxSet 3 rfl 2 (.slice B4 m d4))
  have x2 := BK5.out.cell 3 rfl 3 rfl
  clear hb ho BK3 BK4
  go_wp2_with fail
  generalize w4.setCell ⟨w.heap.size, 2, none⟩ (.slice B4 m d4) = w5 at *
  clear x1 f1 x2
  refine (CopyBytes_any C k l b.tag w5 (Since.row BK5.out.since H.out.tag) (by omega)).mono ?_
  rintro e w6 ⟨C6, l6, rfl, ho, hb⟩
  have BK6 := Lib.hid (BK5.out.madeB hb ho)
  have x1 := BK6.out.cell 4 rfl 3 rfl
  have f1 := BK6.out.free 4 rfl 3
  have BK7 := Lib.hid (BK6.out.boxSet 4 rfl 3 (.slice C6 k l6))
  have z0 := BK7.out.cell 4 rfl 0 rfl
  have z1 := BK7.out.cell 4 rfl 1 rfl
  have z2 := BK7.out.cell 4 rfl 2 rfl
  have z3 := BK7.out.cell 4 rfl 3 rfl
  have HRES := Lib.hid (BK7.out.boxAt 3 rfl).2
  have HFIN := Lib.hid (show Copied w b n m k (.returned (.agg (bunL v A2 n c2 B4 m d4 C6 k l6).toArray)) ((w6.setCell ⟨w.heap.size, 3, none⟩ (.slice C6 k l6)).setRow (w.heap.size + 1) (bunL v A2 n c2 B4 m d4 C6 k l6).toArray) from by
    have h := BK7.out.boxRow 3 rfl (bunL v A2 n c2 B4 m d4 C6 k l6) rfl (by decide)
    exact ⟨A2, c2, B4, d4, C6, l6, (by rw [HV.out]; first | done | rfl), h.sub (.cons_cons _ (.cons_cons _ (.cons_cons _ (.cons _ (.cons _ .slnil)))))⟩)
  clear hb ho BK5 BK6
  go_wp2_with (with_reducible refine wpList_store_row rfl 25 (.tmp 2) (.tmp 15) rfl (w.heap.size + 1) (bunL v A2 n c2 B4 m d4 C6 k l6).toArray rfl rfl 25 _ HRES.out (infoBunL v A2 n c2 B4 m d4 C6 k l6) rfl (bunL_one _ _ _ _ _ _ _ _ _ _) ?_)
  refine bodyPost_ret (v := .agg (bunL v A2 n c2 B4 m d4 C6 k l6).toArray) ?_ rfl HFIN.out
  exact results_cell_only rfl _ _ (w.heap.size + 1) _ rfl (load_bun _ _ _ _ _ _ _ _ _ _ (setRow_heap _ _ _ _ _ _ HRES.out))
end Go.Proofs.YtidcfjmibljkeaaDoor.K

/- The chapter's examples of bundle, in mathematics. -/
namespace Go.Proofs.YtidcfjmibljkeaaDoor.M
def zs8 : List B := List.replicate 8 0#8
def awB : Bun := bseal [107#8] 1 zs8
def awB2 : Bun := ⟨2, zs8, awB.dig, awB.tag⟩
theorem aw_make : bmakeE 1 zs8 = 0 := by decide
theorem aw_wrong : bwrong awB = 0 := by unfold awB; rw [bseal_wrong]; exact aw_make
theorem aw_make0 : bmakeE 0 [] = 2 := by decide
theorem aw_bmake : bmake [107#8] 1 zs8 = awB := by unfold bmake; rw [if_pos aw_make]; rfl
theorem aw_put : (bput awB).length = 104 := by unfold bput; rw [if_pos aw_wrong]; unfold bbytes; rw [List.length_append, List.length_append, bpart_length, blob_length, blob_length]; rfl
theorem aw_check : bcheckE [107#8] awB = 0 := by
  unfold bcheckE
  rw [if_neg (by rw [aw_wrong]; decide), if_pos ⟨rfl, rfl⟩]
theorem aw_tags : tag [108#8] (bdig 1 zs8) ≠ tag [107#8] (bdig 1 zs8) := by decide +kernel
theorem aw_digs : bdig 2 zs8 ≠ bdig 1 zs8 := by decide +kernel
theorem aw_check2 : bcheckE [108#8] awB = 11 := by
  unfold bcheckE
  rw [if_neg (by rw [aw_wrong]; decide), if_neg (fun h => aw_tags h.2)]
theorem aw_wrong2 : bwrong awB2 = 0 := by
  rw [bwrong_zero]
  exact ⟨by decide, by decide, by decide, rfl, rfl⟩
theorem aw_check3 : bcheckE [107#8] awB2 = 11 := by
  unfold bcheckE
  rw [if_neg (by rw [aw_wrong2]; decide), if_neg (fun h => aw_digs h.1)]
end Go.Proofs.YtidcfjmibljkeaaDoor.M

/- The chapter's examples: barbicanlaw19.awake answers true. -/
namespace Go.Proofs.YtidcfjmibljkeaaDoor.K
open Go Go.RowKit

/-- eight noughts -/
def zeros8 : Array Value := Array.replicate 8 (.int .u8 0)
theorem run_make8 (w : World) : (Instr.makeSlice 22 (.int .i64 8) (.int .i64 8)).run Tryd.prog w = .ok (.slice (some ⟨w.heap.size, 0, none⟩) 8 8) (w.alloc (.cells zeros8 5)) := by kernel_rfl
theorem zeros8_eq : zeros8.toList = bv M.zs8 := by rfl
/-- a converted literal reads its bytes -/
theorem row_conv (w : World) (cs : Array Value) (t : TypeId) (x y : Nat) (bs : List (BitVec 8)) (n c : Nat) (h : cs.toList = bv bs) (hn : bs.length = n) : RowRd (w.alloc (.cells cs t (x, y))) ⟨some ⟨w.heap.size, 0, none⟩, n, c⟩ bs :=
  ⟨Rd.of_block (heap_alloc_new w _) (by rw [h, ← bv_length, List.take_length]), hn, fun h => by cases h⟩
theorem rowRd_none0 (w : World) : RowRd w ⟨none, 0, 0⟩ [] := ⟨Rd.of_nil _ _, rfl, fun _ => rfl⟩
theorem told_in {w w' : World} {b : M.Bun} {A : Option Addr} {n c : Nat} {B : Option Addr} {m d : Nat} {C : Option Addr} {k l : Nat} {L : List Acc} {w0 : World} (h : Bank w0 w' (rowAcc C k l b.tag :: rowAcc B m d b.dig :: rowAcc A n c b.code :: L)) : BunIn w' b A n c B m d C k l :=
  ⟨h.row 2 rfl, h.row 1 rfl, h.row 0 rfl⟩
set_option maxHeartbeats 16000000 in
set_option maxRecDepth 100000 in
theorem awake19_any (w : World) (hK : HasK w) (hF : HasF w) :
    Calls Tryd.prog 4 #[] w fun e w' => e = .returned (.bool true) ∧ Since w w' := by
  have HK := Lib.hid hK; have HF := Lib.hid hF
  clear hK hF
  go_enter Tryd.func4, Tryd.ntmps4
  have hcv := fun w : World => Lib.run_convert_bytes_const w 22 5 #[.int .u8 107] 1 1 Tryd.underlying22 Tryd.underlying5
  have hmk := run_make8
  go_wp2_with fail
  have rK := row_conv w #[.int .u8 107] 5 1 2 [107#8] 1 1 rfl rfl
  have S1 : Since w (w.alloc (.cells #[.int .u8 107] 5 (1, 2))) := Since.alloc (Below.refl _ _) _
  have hz1 : (w.alloc (.cells #[.int .u8 107] 5 (1, 2))).heap.size = w.heap.size + 1 := World.size_alloc _ _
  have rZ := row_lit (w.alloc (.cells #[.int .u8 107] 5 (1, 2))) zeros8 5 M.zs8 8 8 zeros8_eq rfl
  rw [hz1] at rZ
  have BK0 := Lib.hid ((Bank.nil S1).alloc (.cells zeros8 5))
  have RK := Lib.hid (Since.row (Since.alloc (Below.refl _ _) (.cells zeros8 5)) rK)
  have RZ := Lib.hid rZ
  clear rK S1 hz1 rZ
  generalize (w.alloc (.cells #[.int .u8 107] 5 (1, 2))).alloc (.cells zeros8 5) = w2 at *
  refine (pmakeB_any [107#8] M.zs8 1 (some ⟨w.heap.size, 0, none⟩) (some ⟨w.heap.size + 1, 0, none⟩) 1 1 8 8 w2 RK.out RZ.out (by omega) (by omega) (HK.out.below BK0.out.since) (HF.out.below BK0.out.since)).mono ?_
  rw [M.aw_bmake, M.aw_make]
  rintro e w3 ⟨x, rfl, A, n, c, B, m, d, C, k, l, rfl, hn, hm, hk, hB⟩
  have HN := Lib.hid (show n = 8 from hn); have HM := Lib.hid (show m = 32 from hm); have HKK := Lib.hid (show k = 32 from hk)
  have BK3 := Lib.hid ((bank_under BK0.out hB).box #[.int .i64 M.awB.ver, .slice A n c, .slice B m d, .slice C k l] 25 (by simp))
  clear hn hm hk hB BK0 RK RZ
  go_wp2_with fail
  generalize hX1 : w3.heap.size = X1 at *
  generalize w3.alloc (.cells #[.int .i64 M.awB.ver, .slice A n c, .slice B m d, .slice C k l] 25) = w4 at *
  clear hX1
  refine (pputB_any M.awB A n c B m d C k l w4 ⟨BK3.out.row 3 rfl, BK3.out.row 2 rfl, BK3.out.row 1 rfl⟩ (by rw [HN.out]; omega) (by rw [HM.out]; omega) (by rw [HKK.out]; omega)).mono ?_
  rintro e w5 ⟨PA, PN, Pc, rfl, hPN, ho, hs⟩
  rw [M.aw_wrong]
  obtain rfl : PN = 104 := hPN.trans M.aw_put
  have BK5 := Lib.hid (BK3.out.call hs)
  have x0 := BK5.out.cell 0 rfl 0 rfl
  have x1 := BK5.out.cell 0 rfl 1 rfl
  have x2 := BK5.out.cell 0 rfl 2 rfl
  have x3 := BK5.out.cell 0 rfl 3 rfl
  clear hPN ho hs BK3
  go_wp2_with fail
  clear x0 x1 x2 x3
  refine (CopyBundle_any M.awB A n c B m d C k l w5 ⟨BK5.out.row 3 rfl, BK5.out.row 2 rfl, BK5.out.row 1 rfl⟩ (by rw [HN.out]; omega) (by rw [HM.out]; omega) (by rw [HKK.out]; omega)).mono ?_
  rintro e w6 ⟨A6, c6, B6, d6, C6, l6, rfl, hB⟩
  have BK6 := Lib.hid ((bank_under BK5.out hB).box #[.int .i64 2, .slice A6 n c6, .slice B6 m d6, .slice C6 k l6] 25 (by simp))
  have hcv2 := Lib.run_convert_bytes_const (w6.alloc (.cells #[.int .i64 2, .slice A6 n c6, .slice B6 m d6, .slice C6 k l6] 25)) 22 5 #[.int .u8 107] 1 1 Tryd.underlying22 Tryd.underlying5
  rw [World.size_alloc] at hcv2
  have BK7 := Lib.hid (BK6.out.alloc (.cells #[.int .u8 107] 5 (1, 2)))
  have rK := row_conv (w6.alloc (.cells #[.int .i64 2, .slice A6 n c6, .slice B6 m d6, .slice C6 k l6] 25)) #[.int .u8 107] 5 1 2 [107#8] 1 1 rfl rfl
  rw [World.size_alloc] at rK
  have RK := Lib.hid rK
  clear hB BK5 rK
  go_wp2_with fail
  clear hcv2
  generalize (w6.alloc (.cells #[.int .i64 2, .slice A6 n c6, .slice B6 m d6, .slice C6 k l6] 25)).alloc (.cells #[.int .u8 107] 5 (1, 2)) = w8 at *
  refine (pmakeB_any [107#8] [] 0 (some ⟨w6.heap.size + 1, 0, none⟩) none 1 1 0 0 w8 RK.out (rowRd_none0 w8) (by omega) (by omega) (HK.out.below BK7.out.since) (HF.out.below BK7.out.since)).mono ?_
  rw [M.aw_make0]
  rintro e w9 ⟨x, rfl, A9, n9, c9, B9, m9, d9, C9, k9, l9, rfl, hn9, hm9, hk9, hB⟩
  have BK9 := Lib.hid (BK7.out.call hB.since)
  clear hn9 hm9 hk9 hB BK7 BK6 RK
  have hcv3 := Lib.run_convert_bytes_const (w9.alloc (.cells #[.int .i64 (M.bmake [107#8] 0 []).ver, .slice A9 n9 c9, .slice B9 m9 d9, .slice C9 k9 l9] 25)) 22 5 #[.int .u8 107] 1 1 Tryd.underlying22 Tryd.underlying5
  rw [World.size_alloc] at hcv3
  have rK := row_conv (w9.alloc (.cells #[.int .i64 (M.bmake [107#8] 0 []).ver, .slice A9 n9 c9, .slice B9 m9 d9, .slice C9 k9 l9] 25)) #[.int .u8 107] 5 1 2 [107#8] 1 1 rfl rfl
  rw [World.size_alloc] at rK
  have RK := Lib.hid rK
  have BKA := Lib.hid ((BK9.out.alloc (.cells #[.int .i64 (M.bmake [107#8] 0 []).ver, .slice A9 n9 c9, .slice B9 m9 d9, .slice C9 k9 l9] 25)).alloc (.cells #[.int .u8 107] 5 (1, 2)))
  have y0 := BKA.out.cell 4 rfl 0 rfl
  have y1 := BKA.out.cell 4 rfl 1 rfl
  have y2 := BKA.out.cell 4 rfl 2 rfl
  have y3 := BKA.out.cell 4 rfl 3 rfl
  clear rK BK9
  go_wp2_with fail
  clear hcv3 y0 y1 y2 y3
  generalize hX9 : w9.heap.size = X9 at *
  generalize (w9.alloc (.cells #[.int .i64 (M.bmake [107#8] 0 []).ver, .slice A9 n9 c9, .slice B9 m9 d9, .slice C9 k9 l9] 25)).alloc (.cells #[.int .u8 107] 5 (1, 2)) = wA at *
  clear hX9
  refine (pcheckB_any [107#8] M.awB (some ⟨X9 + 1, 0, none⟩) 1 1 A n c B m d C k l wA RK.out ⟨BKA.out.row 7 rfl, BKA.out.row 6 rfl, BKA.out.row 5 rfl⟩ (by omega) (by rw [HN.out]; omega) (by rw [HM.out]; omega) (by rw [HKK.out]; omega) (HK.out.below BKA.out.since) (HF.out.below BKA.out.since)).mono ?_
  rw [M.aw_check]
  rintro e wB ⟨rfl, hs⟩
  have BKB := Lib.hid ((BKA.out.call hs).alloc (.cells #[.int .u8 108] 5 (1, 2)))
  have rK := row_conv wB #[.int .u8 108] 5 1 2 [108#8] 1 1 rfl rfl
  have RK2 := Lib.hid rK
  have hcv3 := Lib.run_convert_bytes_const wB 22 5 #[.int .u8 108] 1 1 Tryd.underlying22 Tryd.underlying5
  have y0 := BKB.out.cell 4 rfl 0 rfl
  have y1 := BKB.out.cell 4 rfl 1 rfl
  have y2 := BKB.out.cell 4 rfl 2 rfl
  have y3 := BKB.out.cell 4 rfl 3 rfl
  clear hs rK RK BKA
  go_wp2_with fail
  clear hcv3 y0 y1 y2 y3
  generalize hXB : wB.heap.size = XB at *
  generalize wB.alloc (.cells #[.int .u8 108] 5 (1, 2)) = wC at *
  clear hXB
  refine (pcheckB_any [108#8] M.awB (some ⟨XB, 0, none⟩) 1 1 A n c B m d C k l wC RK2.out ⟨BKB.out.row 7 rfl, BKB.out.row 6 rfl, BKB.out.row 5 rfl⟩ (by omega) (by rw [HN.out]; omega) (by rw [HM.out]; omega) (by rw [HKK.out]; omega) (HK.out.below BKB.out.since) (HF.out.below BKB.out.since)).mono ?_
  rw [M.aw_check2]
  rintro e wD ⟨rfl, hs⟩
  have BKD := Lib.hid ((BKB.out.call hs).alloc (.cells #[.int .u8 107] 5 (1, 2)))
  have rK := row_conv wD #[.int .u8 107] 5 1 2 [107#8] 1 1 rfl rfl
  have RK3 := Lib.hid rK
  have y0 := BKD.out.cell 0 rfl 0 rfl
  have y1 := BKD.out.cell 0 rfl 1 rfl
  have y2 := BKD.out.cell 0 rfl 2 rfl
  have y3 := BKD.out.cell 0 rfl 3 rfl
  clear hs rK RK2 BKB
  go_wp2_with fail
  clear y0 y1 y2 y3
  generalize hXD : wD.heap.size = XD at *
  generalize wD.alloc (.cells #[.int .u8 107] 5 (1, 2)) = wE at *
  clear hXD
  refine (pcheckB_any [107#8] M.awB2 (some ⟨XD, 0, none⟩) 1 1 A6 n c6 B6 m d6 C6 k l6 wE RK3.out ⟨BKD.out.row 3 rfl, BKD.out.row 2 rfl, BKD.out.row 1 rfl⟩ (by omega) (by rw [HN.out]; omega) (by rw [HM.out]; omega) (by rw [HKK.out]; omega) (HK.out.below BKD.out.since) (HF.out.below BKD.out.since)).mono ?_
  rw [M.aw_check3]
  rintro e wF ⟨rfl, hs⟩
  have HFIN := Lib.hid (show Since w wF from (BKD.out.call hs).since)
  clear hs BKD RK3
  go_wp2_with fail
  go_ret
  exact ⟨rfl, HFIN.out⟩
end Go.Proofs.YtidcfjmibljkeaaDoor.K

/- The contracts of the kit's SameBundle and KeptBundle, where they answer true. -/
namespace Go.Proofs.YtidcfjmibljkeaaDoor.K
open Go Go.RowKit

set_option maxHeartbeats 8000000 in
set_option maxRecDepth 100000 in
theorem SameBundle_eq (b : M.Bun) (A : Option Addr) (n c : Nat) (B : Option Addr) (m d : Nat) (C : Option Addr) (k l : Nat) (A' : Option Addr) (n' c' : Nat) (B' : Option Addr) (m' d' : Nat) (C' : Option Addr) (k' l' : Nat) (w : World) (h : BunIn w b A n c B m d C k l) (h' : BunIn w b A' n' c' B' m' d' C' k' l') (hn : n ≤ 10000000000) (hm : m ≤ 10000000000) (hk : k ≤ 10000000000) :
    Calls Tryd.prog 9 #[.agg #[.int .i64 b.ver, .slice A n c, .slice B m d, .slice C k l], .agg #[.int .i64 b.ver, .slice A' n' c', .slice B' m' d', .slice C' k' l']] w fun e w' => e = .returned (.bool true) ∧ Since w w' := by
  have H := Lib.hid h; have H' := Lib.hid h'
  obtain ⟨v, hv⟩ : ∃ v, v = b.ver := ⟨_, rfl⟩
  rw [← hv]
  have BK0 := Lib.hid (((Bank.nil (Below.refl w.heap.size w)).box #[.int .i64 v, .slice A n c, .slice B m d, .slice C k l] 25 (by simp)).box #[.int .i64 v, .slice A' n' c', .slice B' m' d', .slice C' k' l'] 25 (by simp))
  rw [World.size_alloc] at BK0
  clear h h' hv
  go_enter Tryd.func9, Tryd.ntmps9
  go_wp2_with fail
  generalize hw1 : (w.alloc (.cells #[.int .i64 v, .slice A n c, .slice B m d, .slice C k l] 25)).alloc (.cells #[.int .i64 v, .slice A' n' c', .slice B' m' d', .slice C' k' l'] 25) = w1 at *
  clear hw1
  refine (same_made H.out.code H'.out.code (by omega) BK0.out.since).mono ?_
  rintro e w2 ⟨rfl, hs⟩
  have BK2 := Lib.hid (BK0.out.call hs)
  clear hs BK0
  have y2 := BK2.out.cell 1 rfl 2 rfl
  have z2 := BK2.out.cell 0 rfl 2 rfl
  go_wp2_with fail
  clear y2 z2
  refine (same_made H.out.dig H'.out.dig (by omega) BK2.out.since).mono ?_
  rintro e w3 ⟨rfl, hs⟩
  have BK3 := Lib.hid (BK2.out.call hs)
  clear hs BK2
  have y3 := BK3.out.cell 1 rfl 3 rfl
  have z3 := BK3.out.cell 0 rfl 3 rfl
  go_wp2_with fail
  clear y3 z3
  refine (same_made H.out.tag H'.out.tag (by omega) BK3.out.since).mono ?_
  rintro e w4 ⟨rfl, hs⟩
  have BK4 := Lib.hid (BK3.out.call hs)
  clear hs BK3
  go_wp2_with fail
  go_ret
  exact ⟨rfl, BK4.out.since⟩
end Go.Proofs.YtidcfjmibljkeaaDoor.K

/- The stage's theorem of bundle in plain Lean: what is made is put, got and checked; what is turned is not. -/
namespace Go.Proofs.YtidcfjmibljkeaaDoor.M
/-- have two bundles' unlike Versions and Codes one digest? -/
def bone (a b : Bun) : Bool := decide (bpart a.ver a.code ≠ bpart b.ver b.code ∧ sum (bpart a.ver a.code) = sum (bpart b.ver b.code))
theorem bflip_ne (l : List B) (i : Nat) (hi : i < l.length) (s : Nat) (hs : s < 8) : l.set i (l.getD i 0 ^^^ (1#8 <<< s)) ≠ l := fun e => by
  have h1 : (l.set i (l.getD i 0 ^^^ (1#8 <<< s)))[i]? = l[i]? := by rw [e]
  rw [List.getElem?_set_self hi, List.getElem?_eq_getElem hi, List.getD_eq_getElem?_getD, List.getElem?_eq_getElem hi, Option.getD_some] at h1
  have h2 : l[i] ^^^ (1#8 <<< s) = l[i] := Option.some.inj h1
  have h3 : l[i] ^^^ (l[i] ^^^ (1#8 <<< s)) = l[i] ^^^ l[i] := by rw [h2]
  rw [BitVec.xor_self, ← BitVec.xor_assoc, BitVec.xor_self, BitVec.zero_xor] at h3
  match s, hs with
  | 0, _ | 1, _ | 2, _ | 3, _ | 4, _ | 5, _ | 6, _ | 7, _ => simp at h3
theorem bgetE_or {l : List B} (h : bgetE l ≠ 0) : bgetE l = 4 := by
  unfold bgetE at h ⊢
  split
  · rename_i h2; rw [if_pos h2] at h; exact absurd rfl h
  · rfl
theorem seal_len {key code : List B} {v : Int} (h : bmakeE v code = 0) : (bput (bseal key v code)).length = 96 + code.length := by
  unfold bput
  rw [if_pos (by rw [bseal_wrong]; exact h), bbytes_length]
  show 32 + code.length + 32 + 32 = _
  omega
section
variable {key code : List B} {v : Int}
theorem seal_ok (h : bmakeE v code = 0) : 1 ≤ v ∧ v ≤ 1073741824 ∧ code.length ≤ 32768 := by
  unfold bmakeE at h
  split at h
  · cases h
  · split at h
    · cases h
    · omega
theorem make_bad (h : bmakeE v code ≠ 0) (hc : code.length ≤ 3000) : v < 1 ∨ 1073741824 < v := by
  unfold bmakeE at h
  split at h
  · assumption
  · split at h
    · omega
    · exact absurd rfl h
theorem seal_dig : (bseal key v code).dig.length = 32 := rfl
theorem seal_tag : (bseal key v code).tag.length = 32 := rfl
theorem seal_wrong (h : bmakeE v code = 0) : bwrong (bseal key v code) = 0 := by rw [bseal_wrong]; exact h
theorem seal_put (h : bmakeE v code = 0) : bput (bseal key v code) = bbytes (bseal key v code) := by unfold bput; rw [if_pos (seal_wrong h)]
theorem seal_getE (h : bmakeE v code = 0) : bgetE (bput (bseal key v code)) = 0 := by rw [seal_put h]; exact bgetE_bytes _ (seal_wrong h)
theorem seal_get (h : bmakeE v code = 0) : bget (bput (bseal key v code)) = bseal key v code := by rw [seal_put h]; exact bget_bytes _ (seal_wrong h)
theorem seal_check (h : bmakeE v code = 0) : bcheckE key (bseal key v code) = 0 := by
  unfold bcheckE
  rw [if_neg (by rw [seal_wrong h]; decide), if_pos ⟨rfl, rfl⟩]
theorem check_dig {b : Bun} (h : bcheckE key b = 0) : bdig b.ver b.code = b.dig := by
  unfold bcheckE at h
  split at h
  · cases h
  · split at h
    · rename_i h1; exact h1.1
    · cases h
/-- another Version -/
theorem seal_ver {v' : Int} {l m : List B} (hv : inI64 v) (hv' : inI64 v') (hne : v' ≠ v) (hd : l = (bseal key v code).dig) (h : bcheckE key ⟨v', code, l, m⟩ = 0) : bone (bseal key v code) ⟨v', code, l, m⟩ = true := by
  have h1 := check_dig h
  subst hd
  simp only [bone, decide_eq_true_eq]
  exact ⟨bpart_ver hv hv' (Ne.symm hne), h1.symm⟩
/-- another Code -/
theorem seal_code {c' l m : List B} (hc : code ≠ c') (hl : code.length ≤ 1000000) (hl' : c'.length ≤ 1000000) (hd : l = (bseal key v code).dig) (h : bcheckE key ⟨v, c', l, m⟩ = 0) : bone (bseal key v code) ⟨v, c', l, m⟩ = true := by
  have h1 := check_dig h
  subst hd
  simp only [bone, decide_eq_true_eq]
  exact ⟨bpart_code hc (Nat.le_trans hl (by decide)) (Nat.le_trans hl' (by decide)), h1.symm⟩
theorem seal_verB {b : Bun} (hb : b = bseal key v code) {v' : Int} (hv : inI64 v) (hv' : inI64 v') (hne : v' ≠ v) (h : bcheckE key ⟨v', b.code, b.dig, b.tag⟩ = 0) : bone b ⟨v', b.code, b.dig, b.tag⟩ = true := by
  have e1 : b.code = code := by rw [hb]; rfl
  have e2 : b.dig = (bseal key v code).dig := by rw [hb]
  rw [e1] at h ⊢
  have := seal_ver hv hv' hne e2 h
  rw [← hb] at this
  exact this
theorem seal_codeB {b : Bun} (hb : b = bseal key v code) (hl : code.length ≤ 999999) (x : B) (h : bcheckE key ⟨v, b.code ++ [x], b.dig, b.tag⟩ = 0) : bone b ⟨v, b.code ++ [x], b.dig, b.tag⟩ = true := by
  have e1 : b.code = code := by rw [hb]; rfl
  have e2 : b.dig = (bseal key v code).dig := by rw [hb]
  rw [e1] at h ⊢
  have := seal_code (fun e => by have := congrArg List.length e; rw [List.length_append] at this; simp at this) (by omega) (by rw [List.length_append]; simp; omega) e2 h
  rw [← hb] at this
  exact this
/-- a bit of Digest turned -/
theorem seal_udig {i s : Nat} (h : bmakeE v code = 0) (hi : i < 32) (hs : s < 8) : bcheckE key ⟨v, code, (bseal key v code).dig.set i ((bseal key v code).dig.getD i 0 ^^^ (1#8 <<< s)), (bseal key v code).tag⟩ = 11 := by
  obtain ⟨h1, h2, h3⟩ := seal_ok h
  unfold bcheckE
  rw [if_neg (by rw [(bwrong_zero _).2 ⟨h1, h2, h3, by rw [List.length_set]; rfl, rfl⟩]; decide), if_neg]
  intro h4
  exact bflip_ne (bseal key v code).dig i (by rw [seal_dig]; exact hi) s hs h4.1.symm
/-- a bit of Tag turned -/
theorem seal_utag {i s : Nat} (h : bmakeE v code = 0) (hi : i < 32) (hs : s < 8) : bcheckE key ⟨v, code, (bseal key v code).dig, (bseal key v code).tag.set i ((bseal key v code).tag.getD i 0 ^^^ (1#8 <<< s))⟩ = 11 := by
  obtain ⟨h1, h2, h3⟩ := seal_ok h
  unfold bcheckE
  rw [if_neg (by rw [(bwrong_zero _).2 ⟨h1, h2, h3, rfl, by rw [List.length_set]; rfl⟩]; decide), if_neg]
  intro h4
  exact bflip_ne (bseal key v code).tag i (by rw [seal_tag]; exact hi) s hs h4.2.symm
/-- a bit of Code turned -/
theorem seal_ucode {i s : Nat} (h : bmakeE v code = 0) (hi : i < code.length) (hs : s < 8) : bcheckE key ⟨v, code.set i (code.getD i 0 ^^^ (1#8 <<< s)), (bseal key v code).dig, (bseal key v code).tag⟩ = 11 ∨ bone (bseal key v code) ⟨v, code.set i (code.getD i 0 ^^^ (1#8 <<< s)), (bseal key v code).dig, (bseal key v code).tag⟩ = true := by
  obtain ⟨h1, h2, h3⟩ := seal_ok h
  by_cases h0 : bcheckE key ⟨v, code.set i (code.getD i 0 ^^^ (1#8 <<< s)), (bseal key v code).dig, (bseal key v code).tag⟩ = 0
  · exact .inr (seal_code (Ne.symm (bflip_ne code i hi s hs)) (by omega) (by rw [List.length_set]; omega) rfl h0)
  · left
    unfold bcheckE at h0 ⊢
    have hw := (bwrong_zero ⟨v, code.set i (code.getD i 0 ^^^ (1#8 <<< s)), (bseal key v code).dig, (bseal key v code).tag⟩).2 ⟨h1, h2, by show (code.set i _).length ≤ _; rw [List.length_set]; exact h3, rfl, rfl⟩
    rw [if_neg (by rw [hw]; decide)] at h0 ⊢
    by_cases hq : bdig v (code.set i (code.getD i 0 ^^^ (1#8 <<< s))) = (bseal key v code).dig ∧ tag key (bdig v (code.set i (code.getD i 0 ^^^ (1#8 <<< s)))) = (bseal key v code).tag
    · exact absurd (if_pos hq) h0
    · exact if_neg hq
theorem seal_udigB {b : Bun} (hb : b = bseal key v code) {i s : Nat} (h : bmakeE v code = 0) (hi : i < 32) (hs : s < 8) : bcheckE key ⟨v, b.code, b.dig.set i (b.dig.getD i 0 ^^^ (1#8 <<< s)), b.tag⟩ = 11 := by
  have e1 : b.code = code := by rw [hb]; rfl
  have e2 : b.dig = (bseal key v code).dig := by rw [hb]
  have e3 : b.tag = (bseal key v code).tag := by rw [hb]
  rw [e1, e2, e3]
  exact seal_udig h hi hs
theorem seal_utagB {b : Bun} (hb : b = bseal key v code) {i s : Nat} (h : bmakeE v code = 0) (hi : i < 32) (hs : s < 8) : bcheckE key ⟨v, b.code, b.dig, b.tag.set i (b.tag.getD i 0 ^^^ (1#8 <<< s))⟩ = 11 := by
  have e1 : b.code = code := by rw [hb]; rfl
  have e2 : b.dig = (bseal key v code).dig := by rw [hb]
  have e3 : b.tag = (bseal key v code).tag := by rw [hb]
  rw [e1, e2, e3]
  exact seal_utag h hi hs
theorem seal_ucodeB {b : Bun} (hb : b = bseal key v code) {i s : Nat} (h : bmakeE v code = 0) (hi : i < code.length) (hs : s < 8) : bcheckE key ⟨v, b.code.set i (b.code.getD i 0 ^^^ (1#8 <<< s)), b.dig, b.tag⟩ = 11 ∨ bone b ⟨v, b.code.set i (b.code.getD i 0 ^^^ (1#8 <<< s)), b.dig, b.tag⟩ = true := by
  have e1 : b.code = code := by rw [hb]; rfl
  have e2 : b.dig = (bseal key v code).dig := by rw [hb]
  have e3 : b.tag = (bseal key v code).tag := by rw [hb]
  rw [e1, e2, e3]
  have := seal_ucode (key := key) h hi hs
  rw [← hb, e2, e3] at this
  exact this
end
end Go.Proofs.YtidcfjmibljkeaaDoor.M

/- The contract of barbicanlaw19.one: whether two bundles' unlike Versions and Codes have one digest. -/
namespace Go.Proofs.YtidcfjmibljkeaaDoor.K
open Go Go.RowKit

def PartCut (w : World) (L : List Acc) (bs : List (BitVec 8)) (s : Value) (wx : World) : Prop := ∃ g N c, s = .slice (some ⟨g, 0, none⟩) N c ∧ Hid (N = bs.length) ∧ Bank w wx (rowAcc (some ⟨g, 0, none⟩) N c bs :: L)
set_option maxHeartbeats 8000000 in
set_option maxRecDepth 100000 in
theorem one_any (a b : M.Bun) (A B C : Option Addr) (n c m d k l : Nat) (A2 B2 C2 : Option Addr) (n2 c2 m2 d2 k2 l2 : Nat) (w : World) (ha : RowRd w ⟨A, n, c⟩ a.code) (hb : RowRd w ⟨A2, n2, c2⟩ b.code) (hn : n ≤ 1000000) (hn2 : n2 ≤ 1000000) :
    Calls Tryd.prog 13 #[.agg #[.int .i64 a.ver, .slice A n c, .slice B m d, .slice C k l], .agg #[.int .i64 b.ver, .slice A2 n2 c2, .slice B2 m2 d2, .slice C2 k2 l2]] w fun e w' => e = .returned (.bool (M.bone a b)) ∧ Since w w' := by
  obtain ⟨av, ac, ad, ag⟩ := a
  obtain ⟨bv', bc, bd, bg⟩ := b
  dsimp only at ha hb ⊢
  have HA := Lib.hid ha; have HB := Lib.hid hb
  have HLA := Lib.hid (show ac.length = n from ha.len); have HLB := Lib.hid (show bc.length = n2 from hb.len)
  have BK0 := Lib.hid (((Bank.nil (Below.refl w.heap.size w)).box #[.int .i64 av, .slice A n c, .slice B m d, .slice C k l] 25 (by simp)).box #[.int .i64 bv', .slice A2 n2 c2, .slice B2 m2 d2, .slice C2 k2 l2] 25 (by simp))
  rw [World.size_alloc] at BK0
  clear ha hb
  go_enter Tryd.func13, Tryd.ntmps13
  go_upto_region 1 with fail
  generalize (w.alloc (.cells #[.int .i64 av, .slice A n c, .slice B m d, .slice C k l] 25)).alloc (.cells #[.int .i64 bv', .slice A2 n2 c2, .slice B2 m2 d2, .slice C2 k2 l2] 25) = w1 at *
  go_cut [5] (fun s wx => PartCut w [boxAcc (w.heap.size + 1) 25 [.int .i64 bv', .slice A2 n2 c2, .slice B2 m2 d2, .slice C2 k2 l2], boxAcc w.heap.size 25 [.int .i64 av, .slice A n c, .slice B m d, .slice C k l]] (M.bpart av ac) s wx)
  case first =>
    have hB := BK0.out.drew
    have x0 := hB.cell 1 rfl 0 rfl
    have x1 := hB.cell 1 rfl 1 rfl
    go_region_law (first
      | (go_simp; go_at_call 35; refine (rnum_made av _).mono ?_; rintro e w3 ⟨g3, N3, c3, rfl, hN3, ho3, hb3⟩; have hN3' := Nat.le_of_eq hN3; have hB := hB.madeB hb3 ho3; clear hN3 ho3 hb3; (first | (have x0 := hB.cell 2 rfl 0 rfl; have x1 := hB.cell 2 rfl 1 rfl) | skip))
      | (go_simp; go_at_call 36; refine (rbytes_made HA.out (by omega) hB.since).mono ?_; rintro e w4 ⟨g4, N4, c4, rfl, hN4, ho4, hb4⟩; have hN4' := Nat.le_of_eq hN4; have hB := hB.madeB hb4 ho4; clear hN4 ho4 hb4; (first | (have x0 := hB.cell 2 rfl 0 rfl; have x1 := hB.cell 2 rfl 1 rfl) | skip))
      | (refine step_append_bytes hB rfl (.tmp 9) (.tmp 12) 22 rfl 5 infoByte Tryd.underlying22 1 _ _ _ _ rfl rfl _ _ _ _ rfl (hB.row 0 rfl) (by rw [M.num_length] at hN3'; rw [M.blob_length, HLA.out] at hN4'; omega) ?_; intro A5 n5 c5 w5 hn5 hB; dsimp only [List.set] at hB; have HB5 := Lib.hid (hB.sub (.cons _ (List.Sublist.refl _))); clear hn5)
      | (refine step_append_bytes hB rfl (.tmp 9) (.tmp 12) 22 rfl 5 infoByte Tryd.underlying22 0 _ _ _ _ rfl rfl _ _ _ _ rfl (hB.row 1 rfl) (by rw [M.num_length] at hN3'; rw [M.blob_length, HLA.out] at hN4'; omega) ?_; intro A5 n5 c5 w5 hn5 hB; dsimp only [List.set] at hB; have HB5 := Lib.hid (hB.sub (.cons_cons _ (.cons _ (List.Sublist.refl _)))); clear hn5)
      | fail "arm")
    all_goals
      have ho := HB5.out.at 0 rfl
      have hl : (M.num av ++ M.blob ac).length = n5 := (RowRd.of_row ho).len
      obtain ⟨g5, rfl⟩ := own_someB ho (by rw [List.length_append, M.num_length] at hl; show 0 < n5; omega)
      have HFIN := Lib.hid (show PartCut w [boxAcc (w.heap.size + 1) 25 [.int .i64 bv', .slice A2 n2 c2, .slice B2 m2 d2, .slice C2 k2 l2], boxAcc w.heap.size 25 [.int .i64 av, .slice A n c, .slice B m d, .slice C k l]] (M.bpart av ac) (.slice (some ⟨g5, 0, none⟩) n5 c5) w5 from ⟨g5, n5, c5, rfl, Lib.hid hl.symm, HB5.out⟩)
      clear ho hl hB hN3' hN4' x0 x1
      go_wp2_with fail
      go_meet
      exact HFIN.out
  case rest =>
    obtain ⟨gp, NP, cp, rfl, HNP, hB⟩ := hcut
    have BK1 := Lib.hid hB
    clear hB BK0
    go_upto_region 2 with fail
    go_cut [6] (fun s wx => PartCut w [rowAcc (some ⟨gp, 0, none⟩) NP cp (M.bpart av ac), boxAcc (w.heap.size + 1) 25 [.int .i64 bv', .slice A2 n2 c2, .slice B2 m2 d2, .slice C2 k2 l2], boxAcc w.heap.size 25 [.int .i64 av, .slice A n c, .slice B m d, .slice C k l]] (M.bpart bv' bc) s wx)
    case first =>
      have hB := BK1.out.drew
      have x0 := hB.cell 1 rfl 0 rfl
      have x1 := hB.cell 1 rfl 1 rfl
      go_region_law (first
        | (go_simp; go_at_call 35; refine (rnum_made bv' _).mono ?_; rintro e w3 ⟨g3, N3, c3, rfl, hN3, ho3, hb3⟩; have hN3' := Nat.le_of_eq hN3; have hB := hB.madeB hb3 ho3; clear hN3 ho3 hb3; (first | (have x0 := hB.cell 2 rfl 0 rfl; have x1 := hB.cell 2 rfl 1 rfl) | skip))
        | (go_simp; go_at_call 36; refine (rbytes_made HB.out (by omega) hB.since).mono ?_; rintro e w4 ⟨g4, N4, c4, rfl, hN4, ho4, hb4⟩; have hN4' := Nat.le_of_eq hN4; have hB := hB.madeB hb4 ho4; clear hN4 ho4 hb4; (first | (have x0 := hB.cell 2 rfl 0 rfl; have x1 := hB.cell 2 rfl 1 rfl) | skip))
        | (refine step_append_bytes hB rfl (.tmp 16) (.tmp 19) 22 rfl 5 infoByte Tryd.underlying22 1 _ _ _ _ rfl rfl _ _ _ _ rfl (hB.row 0 rfl) (by rw [M.num_length] at hN3'; rw [M.blob_length, HLB.out] at hN4'; omega) ?_; intro A5 n5 c5 w5 hn5 hB; dsimp only [List.set] at hB; have HB5 := Lib.hid (hB.sub (.cons _ (List.Sublist.refl _))); clear hn5)
        | (refine step_append_bytes hB rfl (.tmp 16) (.tmp 19) 22 rfl 5 infoByte Tryd.underlying22 0 _ _ _ _ rfl rfl _ _ _ _ rfl (hB.row 1 rfl) (by rw [M.num_length] at hN3'; rw [M.blob_length, HLB.out] at hN4'; omega) ?_; intro A5 n5 c5 w5 hn5 hB; dsimp only [List.set] at hB; have HB5 := Lib.hid (hB.sub (.cons_cons _ (.cons _ (List.Sublist.refl _)))); clear hn5)
        | fail "arm")
      all_goals
        have ho := HB5.out.at 0 rfl
        have hl : (M.num bv' ++ M.blob bc).length = n5 := (RowRd.of_row ho).len
        obtain ⟨g5, rfl⟩ := own_someB ho (by rw [List.length_append, M.num_length] at hl; show 0 < n5; omega)
        have HFIN := Lib.hid (show PartCut w [rowAcc (some ⟨gp, 0, none⟩) NP cp (M.bpart av ac), boxAcc (w.heap.size + 1) 25 [.int .i64 bv', .slice A2 n2 c2, .slice B2 m2 d2, .slice C2 k2 l2], boxAcc w.heap.size 25 [.int .i64 av, .slice A n c, .slice B m d, .slice C k l]] (M.bpart bv' bc) (.slice (some ⟨g5, 0, none⟩) n5 c5) w5 from ⟨g5, n5, c5, rfl, Lib.hid hl.symm, HB5.out⟩)
        clear ho hl hB hN3' hN4' x0 x1
        go_wp2_with fail
        go_meet
        exact HFIN.out
    case rest =>
      obtain ⟨gq, NQ, cq, rfl, HNQ, hB⟩ := hcut
      have BK2 := Lib.hid hB
      have RP := Lib.hid (BK2.out.row 1 rfl); have RQ := Lib.hid (BK2.out.row 0 rfl)
      have hnp : NP ≤ 2000000 := by rw [HNP.out, M.bpart_length, HLA.out]; omega
      have hnq : NQ ≤ 2000000 := by rw [HNQ.out, M.bpart_length, HLB.out]; omega
      clear hB BK1
      by_cases hpq : M.bpart av ac = M.bpart bv' bc
      · have HO := Lib.hid (show M.bone ⟨av, ac, ad, ag⟩ ⟨bv', bc, bd, bg⟩ = false by simp [M.bone, hpq])
        have HE := Lib.hid hpq
        clear hpq
        go_wp2_with fail
        refine (SameBytes_any (some ⟨gp, 0, none⟩) (some ⟨gq, 0, none⟩) NP NQ cp cq _ _ _ RP.out.rd RQ.out.rd RP.out.len RQ.out.len (by omega) (by omega)).mono ?_
        rintro e w5 ⟨rfl, qd, rfl⟩
        rw [decide_eq_true HE.out]
        have SF := Lib.hid (BK2.out.since.drewN qd)
        go_wp2_with fail
        go_ret
        exact ⟨by rw [HO.out]; rfl, SF.out⟩
      · have HE := Lib.hid hpq
        clear hpq
        go_wp2_with fail
        refine (SameBytes_any (some ⟨gp, 0, none⟩) (some ⟨gq, 0, none⟩) NP NQ cp cq _ _ _ RP.out.rd RQ.out.rd RP.out.len RQ.out.len (by omega) (by omega)).mono ?_
        rintro e w5 ⟨rfl, qd, rfl⟩
        rw [decide_eq_false HE.out]
        have BK3 := Lib.hid (BK2.out.drewN qd)
        have RP3 := Lib.hid (BK3.out.row 1 rfl)
        clear RP RQ
        go_wp2_with fail
        refine (refSum_made RP3.out (by omega)).mono ?_
        rintro e w6 ⟨g6, N6, c6, rfl, hN6, ho6, hb6⟩
        obtain rfl : N6 = 32 := hN6
        have BK4 := Lib.hid (BK3.out.madeB hb6 ho6)
        have RQ4 := Lib.hid (BK4.out.row 1 rfl)
        clear ho6 hb6 BK3 RP3
        go_wp2_with fail
        refine (refSum_made RQ4.out (by omega)).mono ?_
        rintro e w7 ⟨g7, N7, c7, rfl, hN7, ho7, hb7⟩
        obtain rfl : N7 = 32 := hN7
        have BK5 := Lib.hid (BK4.out.madeB hb7 ho7)
        have R6 := Lib.hid (BK5.out.row 1 rfl); have R7 := Lib.hid (BK5.out.row 0 rfl)
        clear ho7 hb7 BK4 RQ4
        have HO := Lib.hid (show M.bone ⟨av, ac, ad, ag⟩ ⟨bv', bc, bd, bg⟩ = decide (M.sum (M.bpart av ac) = M.sum (M.bpart bv' bc)) by simp [M.bone, HE.out])
        go_wp2_with fail
        refine (SameBytes_any (some ⟨g6, 0, none⟩) (some ⟨g7, 0, none⟩) 32 32 c6 c7 _ _ _ R6.out.rd R7.out.rd R6.out.len R7.out.len (by omega) (by omega)).mono ?_
        rintro e w8 ⟨rfl, qe, rfl⟩
        obtain ⟨r, hr⟩ : ∃ r, r = decide (M.sum (M.bpart av ac) = M.sum (M.bpart bv' bc)) := ⟨_, rfl⟩
        rw [← hr]
        have HR := Lib.hid hr
        have SF := Lib.hid (BK5.out.since.drewN qe)
        clear hr
        go_wp2_with fail
        go_ret
        exact ⟨by rw [HO.out, ← HR.out]; rfl, SF.out⟩
theorem one_anyV (a b : M.Bun) (va vb : Int) (hva : a.ver = va) (hvb : b.ver = vb) (A B C : Option Addr) (n c m d k l : Nat) (A2 B2 C2 : Option Addr) (n2 c2 m2 d2 k2 l2 : Nat) (w : World) (ha : RowRd w ⟨A, n, c⟩ a.code) (hb : RowRd w ⟨A2, n2, c2⟩ b.code) (hn : n ≤ 1000000) (hn2 : n2 ≤ 1000000) :
    Calls Tryd.prog 13 #[.agg #[.int .i64 va, .slice A n c, .slice B m d, .slice C k l], .agg #[.int .i64 vb, .slice A2 n2 c2, .slice B2 m2 d2, .slice C2 k2 l2]] w fun e w' => e = .returned (.bool (M.bone a b)) ∧ Since w w' := by
  subst hva hvb
  exact one_any a b A B C n c m d k l A2 B2 C2 n2 c2 m2 d2 k2 l2 w ha hb hn hn2
end Go.Proofs.YtidcfjmibljkeaaDoor.K

/- Steps of drawn regions that make and write bundles whole; slots by name. -/
namespace Go.Proofs.YtidcfjmibljkeaaDoor.K
open Go Go.RowKit

theorem run_alloc_bun (w : World) : (Instr.alloc 25 true (.tuple #[])).run Tryd.prog w = .ok (.pointer (some ⟨w.heap.size, 0, none⟩)) (w.alloc (.cells zeroV.toArray 25)) := by kernel_rfl
theorem Act.put_self (a : Act) (d : Tmp) : a.put (some d) (a.tmps.getD d undef) = a := by
  obtain ⟨t, ds⟩ := a
  simp only [Act.put, Act.mk.injEq, and_true]
  apply Array.ext_getElem?
  intro i
  rw [Array.getElem?_setIfInBounds]
  split
  · rename_i h
    subst h
    rw [Array.getD_eq_getD_getElem?]
    split
    · rename_i h2; rw [Array.getElem?_eq_getElem h2]; rfl
    · rename_i h2; rw [Array.getElem?_eq_none (by omega)]
  · rfl
section
variable {w0 w : World} {L : List Acc}
theorem Bank.permA (h : Bank w0 w L) {L' : List Acc} (hp : L.Perm L') : Bank w0 w L' := ⟨h.since, fun p hm => h.own p (hp.mem_iff.2 hm), (List.Perm.pairwise_iff (fun {_ _} h => Apartness.symm h) hp).1 h.sep⟩
theorem Bank.ins {X a b : List Acc} (h : Bank w0 w (X ++ (a ++ b))) : Bank w0 w (a ++ (X ++ b)) := h.permA (List.perm_append_comm_assoc _ _ _)
theorem Bank.ins2 {X a a2 b : List Acc} (h : Bank w0 w (X ++ (a ++ (a2 ++ b)))) : Bank w0 w (a ++ (a2 ++ (X ++ b))) := by
  have h2 := h.permA (L' := (a ++ a2) ++ (X ++ b)) (by rw [← List.append_assoc a a2]; exact (List.perm_append_comm_assoc _ _ _))
  rw [List.append_assoc] at h2; exact h2
theorem Bank.ins3 {X a a2 a3 b : List Acc} (h : Bank w0 w (X ++ (a ++ (a2 ++ (a3 ++ b))))) : Bank w0 w (a ++ (a2 ++ (a3 ++ (X ++ b)))) := by
  have h2 := h.permA (L' := (a ++ (a2 ++ a3)) ++ (X ++ b)) (by rw [← List.append_assoc a2 a3, ← List.append_assoc a (a2 ++ a3)]; exact (List.perm_append_comm_assoc _ _ _))
  rw [List.append_assoc, List.append_assoc] at h2; exact h2
theorem step_alloc_bun {ops : Array Oper} {o : Oper} {a : Act} {K : Act → World → Prop} {Q : Exit → Act → World → Prop} {E : Prop} (h : Bank w0 w L) (hgd : o.guard = Option.none) (ho : o.op = .alloc 25)
    (hK : ∀ g w', Bank w0 w' (boxAcc g 25 zeroV :: L) → K (a.put o.dst (.pointer (some ⟨g, 0, Option.none⟩))) w') : if Region.wanted o (yielded ops a.tmps) = true then Oper.wp Tryd.prog o a w K Q else E := by
  have hw : Region.wanted o (yielded ops a.tmps) = true := by simp [Region.wanted, hgd]
  rw [if_pos hw]
  have h2 := hK w.heap.size (w.alloc (.cells zeroV.toArray 25)) (h.box zeroV.toArray 25 (by decide))
  unfold Oper.wp execOp
  simp only [ho, run_alloc_bun, Sem.run_bind, Sem.run_pure, Result.andThen_ok]
  exact h2
theorem step_store_bun {ops : Array Oper} {o : Oper} {a : Act} {K : Act → World → Prop} {Q : Exit → Act → World → Prop} {E : Prop} (h : Bank w0 w L) (hgd : o.guard = Option.none) (x y : Operand) (ho : o.op = .store 25 x y) (i g : Nat) (hx : a.eval x = .pointer (some ⟨g, 0, Option.none⟩)) (z : List Value) (hz : z.length = 4) (hi : L[i]? = some (boxAcc g 25 z))
    (v : Int) (A : Option Addr) (n c : Nat) (B : Option Addr) (m d : Nat) (C : Option Addr) (k l : Nat) (hy : a.eval y = .agg #[.int .i64 v, .slice A n c, .slice B m d, .slice C k l])
    (hK : ∀ w', Bank w0 w' (L.set i (boxAcc g 25 (bunL v A n c B m d C k l))) → K (a.put o.dst undef) w') : if Region.wanted o (yielded ops a.tmps) = true then Oper.wp Tryd.prog o a w K Q else E := by
  have hw : Region.wanted o (yielded ops a.tmps) = true := by simp [Region.wanted, hgd]
  rw [if_pos hw]
  exact wp_store_row 25 x y ho g _ hx hy 25 _ (h.boxAt i hi).2 (infoBunL v A n c B m d C k l) (by simp [bunL, hz]) (bunL_one _ _ _ _ _ _ _ _ _ _) (hK _ (h.boxRow i hi _ (by rw [hz]; rfl) (by omega)))
end
theorem Act.put_put (a : Act) (d : Tmp) (x y : Value) : (a.put (some d) x).put (some d) y = a.put (some d) y := by
  simp [Act.put]
theorem Act.put_swap (a : Act) {d e : Tmp} (x y : Value) (h : d ≠ e) : (a.put (some d) x).put (some e) y = (a.put (some e) y).put (some d) x := Act.put_comm a x y (fun k hk hk2 => h (by cases hk; cases hk2; rfl))
theorem Act.eval_put_same (a : Act) (d : Tmp) (v : Value) (h : d < a.tmps.size) : (a.put (some d) v).eval (.tmp d) = v := by
  simp [Act.eval, Act.put, h]
theorem Act.eval_put_ne (a : Act) {d e : Tmp} (v : Value) (h : d ≠ e) : (a.put (some d) v).eval (.tmp e) = a.eval (.tmp e) := by
  simp [Act.eval, Act.put, Array.getElem?_setIfInBounds_ne h]
/-- a bundle is loaded whole, in a region that draws its order -/
theorem step_load_bun {w0 w : World} {L : List Acc} {ops : Array Oper} {o : Oper} {a : Act} {K : Act → World → Prop} {Q : Exit → Act → World → Prop} {E : Prop} (h : Bank w0 w L) (hgd : o.guard = Option.none) (x : Operand) (ho : o.op = .load 25 x) (i g : Nat) (hx : a.eval x = .pointer (some ⟨g, 0, Option.none⟩))
    (v : Int) (A : Option Addr) (n c : Nat) (B : Option Addr) (m d : Nat) (C : Option Addr) (k l : Nat) (hi : L[i]? = some (boxAcc g 25 (bunL v A n c B m d C k l)))
    (hK : K (a.put o.dst (.agg #[.int .i64 v, .slice A n c, .slice B m d, .slice C k l])) w) : if Region.wanted o (yielded ops a.tmps) = true then Oper.wp Tryd.prog o a w K Q else E := by
  have hw : Region.wanted o (yielded ops a.tmps) = true := by simp [Region.wanted, hgd]
  rw [if_pos hw]
  exact wp_load_row 25 x ho g hx 25 _ (0, 0) _ (h.boxAt i hi).2 Tryd.underlying25 rfl (infoBunL v A n c B m d C k l) hK
/-- a function of one argument is called -/
theorem step_call1 {w : World} {ops : Array Oper} {o : Oper} {a : Act} {K : Act → World → Prop} {Q : Exit → Act → World → Prop} {E : Prop} (hgd : o.guard = Option.none) (f : FuncId) (x : Operand) (ty : TypeId) (hf : ∀ (v : Value) (w : World), (callFunc f #[v]).run Tryd.prog w = .ok (.enter f #[v]) w) (ho : o.op = .call { callee := .value (.func f), args := #[x], argTypes := #[ty] })
    {R : Ending → World → Prop} (hc : Calls Tryd.prog f #[a.eval x] w R) (hK : ∀ e w', R e w' → ∃ v, e = .returned v ∧ K (a.put o.dst v) w') : if Region.wanted o (yielded ops a.tmps) = true then Oper.wp Tryd.prog o a w K Q else E := by
  have hw : Region.wanted o (yielded ops a.tmps) = true := by simp [Region.wanted, hgd]
  rw [if_pos hw]
  unfold Oper.wp execOp
  have e1 : Act.eval a (.func f) = .func (.func f) #[] #[] := rfl
  simp only [ho, resolve, e1, Deferred.ofValue, invoke, Sem.run_bind, Sem.run_pure, Result.andThen_ok, List.map_toArray, List.map_cons, List.map_nil]
  rw [show (#[] ++ #[a.eval x] ++ #[] : Array Value) = #[a.eval x] by simp, hf]
  refine Calls.mono hc fun e w' he => ?_
  obtain ⟨v, rfl, hv⟩ := hK e w' he
  exact hv
theorem step_store_mid {w0 w : World} {X Z : List Acc} {ops : Array Oper} {o : Oper} {a : Act} {K : Act → World → Prop} {Q : Exit → Act → World → Prop} {E : Prop} (g : Nat) (z : List Value) (h : Bank w0 w (X ++ ([boxAcc g 25 z] ++ Z))) (hz : z.length = 4) (hgd : o.guard = Option.none) (x y : Operand) (ho : o.op = .store 25 x y) (hx : a.eval x = .pointer (some ⟨g, 0, Option.none⟩))
    (v : Int) (A : Option Addr) (n c : Nat) (B : Option Addr) (m d : Nat) (C : Option Addr) (k l : Nat) (hy : a.eval y = .agg #[.int .i64 v, .slice A n c, .slice B m d, .slice C k l])
    (hK : ∀ w', Bank w0 w' (X ++ ([boxAcc g 25 (bunL v A n c B m d C k l)] ++ Z)) → K (a.put o.dst undef) w') : if Region.wanted o (yielded ops a.tmps) = true then Oper.wp Tryd.prog o a w K Q else E := by
  refine step_store_bun h hgd x y ho X.length g hx z hz (by simp) v A n c B m d C k l hy fun w' hB => hK w' ?_
  rw [show (X ++ ([boxAcc g 25 z] ++ Z)).set X.length (boxAcc g 25 (bunL v A n c B m d C k l)) = X ++ ([boxAcc g 25 (bunL v A n c B m d C k l)] ++ Z) by simp] at hB
  exact hB
theorem step_store_mid2 {w0 w : World} {X1 X2 Z : List Acc} {ops : Array Oper} {o : Oper} {a : Act} {K : Act → World → Prop} {Q : Exit → Act → World → Prop} {E : Prop} (g : Nat) (z : List Value) (h : Bank w0 w (X1 ++ (X2 ++ ([boxAcc g 25 z] ++ Z)))) (hz : z.length = 4) (hgd : o.guard = Option.none) (x y : Operand) (ho : o.op = .store 25 x y) (hx : a.eval x = .pointer (some ⟨g, 0, Option.none⟩))
    (v : Int) (A : Option Addr) (n c : Nat) (B : Option Addr) (m d : Nat) (C : Option Addr) (k l : Nat) (hy : a.eval y = .agg #[.int .i64 v, .slice A n c, .slice B m d, .slice C k l])
    (hK : ∀ w', Bank w0 w' (X1 ++ (X2 ++ ([boxAcc g 25 (bunL v A n c B m d C k l)] ++ Z))) → K (a.put o.dst undef) w') : if Region.wanted o (yielded ops a.tmps) = true then Oper.wp Tryd.prog o a w K Q else E := by
  rw [← List.append_assoc X1] at h
  refine step_store_mid g z h hz hgd x y ho hx v A n c B m d C k l hy fun w' hB => hK w' ?_
  rw [List.append_assoc X1] at hB
  exact hB
theorem step_store_mid3 {w0 w : World} {X1 X2 X3 Z : List Acc} {ops : Array Oper} {o : Oper} {a : Act} {K : Act → World → Prop} {Q : Exit → Act → World → Prop} {E : Prop} (g : Nat) (z : List Value) (h : Bank w0 w (X1 ++ (X2 ++ (X3 ++ ([boxAcc g 25 z] ++ Z))))) (hz : z.length = 4) (hgd : o.guard = Option.none) (x y : Operand) (ho : o.op = .store 25 x y) (hx : a.eval x = .pointer (some ⟨g, 0, Option.none⟩))
    (v : Int) (A : Option Addr) (n c : Nat) (B : Option Addr) (m d : Nat) (C : Option Addr) (k l : Nat) (hy : a.eval y = .agg #[.int .i64 v, .slice A n c, .slice B m d, .slice C k l])
    (hK : ∀ w', Bank w0 w' (X1 ++ (X2 ++ (X3 ++ ([boxAcc g 25 (bunL v A n c B m d C k l)] ++ Z)))) → K (a.put o.dst undef) w') : if Region.wanted o (yielded ops a.tmps) = true then Oper.wp Tryd.prog o a w K Q else E := by
  rw [← List.append_assoc X1] at h
  refine step_store_mid2 g z h hz hgd x y ho hx v A n c B m d C k l hy fun w' hB => hK w' ?_
  rw [List.append_assoc X1] at hB
  exact hB
theorem byte_B8B (y : Int) : Value.int .u8 (IntKind.u8.wrap y) = B8 (BitVec.ofInt 8 y) := by
  have h : IntKind.u8.wrap y = ((BitVec.ofInt 8 y).toNat : Int) := by
    rw [IntKind.wrap_u8', BitVec.toNat_ofInt]; omega
  rw [B8, h]
theorem conv_byteB {P : Program} (w : World) (src dst : TypeId) (y : Int) (hs : P.underlying src = some (.int .i64)) (hd : P.underlying dst = some (.int .u8)) : (convert src dst (.int .i64 y)).run P w = .ok (B8 (BitVec.ofInt 8 y)) w := by
  rw [← byte_B8B]
  simp [convert, run_underlying hs, run_underlying hd, Conv.intToInt]
/-- a byte of a row is written -/
theorem Bank.rowSet {w0 w : World} {L : List Acc} (h : Bank w0 w L) (i : Nat) {g N c : Nat} {bs : List (BitVec 8)} (hi : L[i]? = some (rowAcc (some ⟨g, 0, Option.none⟩) N c bs)) (j : Nat) (y : BitVec 8) : Bank w0 (w.setCell ⟨g, j, Option.none⟩ (B8 y)) (L.set i (rowAcc (some ⟨g, 0, Option.none⟩) N c (bs.set j y))) := by
  obtain ⟨ho, hg⟩ := (h.at i hi).stored j (B8 y)
  refine h.put i hi ?_ hg (.inl rfl)
  have e2 : (bv bs).set j (B8 y) = bv (bs.set j y) := by simp [bv, List.map_set]
  show (w.setCell ⟨g, j, Option.none⟩ (B8 y)).ownsRow _ _ _ _ _ (bv (bs.set j y))
  rw [← e2]
  exact ho
theorem Bank.byte {w0 w : World} {L : List Acc} (h : Bank w0 w L) (i : Nat) {g N c : Nat} {bs : List (BitVec 8)} (hi : L[i]? = some (rowAcc (some ⟨g, 0, Option.none⟩) N c bs)) (j : Nat) (hj : j < N) : w.cell? ⟨g, j, Option.none⟩ = some (B8 (bs.getD j 0)) ∧ w.frozen? ⟨g, j, Option.none⟩ = false := by
  have ho : w.ownsRow w0.heap.size 5 1 (.slice (some ⟨g, 0, Option.none⟩) N c) N (bv bs) := h.at i hi
  have hl : bs.length = N := (RowRd.of_row ho).len
  exact ⟨by rw [ho.cellAt j (by omega)]; simp [bv, show j < bs.length by omega], ho.frozenAt j⟩
/-- the frame kept behind a letter -/
theorem wp_gen {P : Program} {c : Code} {Q : Exit → Act → World → Prop} {a : Act} {w : World} (R : Act → Prop) (hR : R a) (h : ∀ a0, R a0 → Hid (a0 = a) → c.wp P Q a0 w) : c.wp P Q a w := h a hR (Lib.hid rfl)
theorem callCopy (v : Value) (w : World) : (callFunc 11 #[v]).run Tryd.prog w = .ok (.enter 11 #[v]) w := by kernel_rfl
theorem wp_region_setsA {P : Program} {ops : Array Oper} {Q : Exit → Act → World → Prop} (I : Act → Array Bool → Act → World → Prop) {id : Nat} {a : Act} {w : World} (hm : P.follows .mixedOrders = true) (h0 : I a (Array.replicate ops.size false) a w.drew)
    (step : ∀ listed a' w i, I a listed a' w → i ∈ Region.ready .any ops listed → wpOp P ops Q i (I a (listed.setIfInBounds i true)) a' w)
    (fin : ∀ listed a' w, I a listed a' w → Region.ready .any ops listed = [] → Q .normal a' w) : (Code.region id ops true).wp P Q a w := wp_region_sets (I a) hm h0 step fin
end Go.Proofs.YtidcfjmibljkeaaDoor.K

/- Two copies of a bundle, made in a region that draws its order, each put into a box of its own: the state of that region. -/
namespace Go.Proofs.YtidcfjmibljkeaaDoor.K
open Go Go.RowKit

/-- where a copy lies -/
structure Cpy where
  A : Option Addr
  c : Nat
  B : Option Addr
  d : Nat
  C : Option Addr
  l : Nat
def Cpy.val (q : Cpy) (v : Int) (n : Nat) : Value := .agg #[.int .i64 v, .slice q.A n q.c, .slice q.B 32 q.d, .slice q.C 32 q.l]
def Cpy.rows (q : Cpy) (b : M.Bun) (n : Nat) : List Acc := [rowAcc q.C 32 q.l b.tag, rowAcc q.B 32 q.d b.dig, rowAcc q.A n q.c b.code]
def Cpy.cells (q : Cpy) (v : Int) (n : Nat) : List Value := bunL v q.A n q.c q.B 32 q.d q.C 32 q.l
def CpyPost (w : World) (b : M.Bun) (v : Int) (n : Nat) (e : Ending) (w' : World) : Prop := ∃ q : Cpy, e = .returned (q.val v n) ∧ Bank w w' (q.rows b n)
theorem copy_cpy (b : M.Bun) (A : Option Addr) (n c : Nat) (B : Option Addr) (d : Nat) (C : Option Addr) (l : Nat) (w : World) (h : BunIn w b A n c B 32 d C 32 l) (hn : n ≤ 10000000000) (v : Int) (hv : b.ver = v) :
    Calls Tryd.prog 11 #[.agg #[.int .i64 v, .slice A n c, .slice B 32 d, .slice C 32 l]] w (CpyPost w b v n) := by
  subst hv
  refine (CopyBundle_any b A n c B 32 d C 32 l w h hn (by omega) (by omega)).mono ?_
  rintro e w' ⟨A', c', B', d', C', l', rfl, hB⟩
  exact ⟨⟨A', c', B', d', C', l'⟩, rfl, hB⟩

def ch (a : Act) (s1 s2 s3 s4 s5 s6 : Value) : Act := (((((a.put (some 118) s1).put (some 119) s2).put (some 120) s3).put (some 121) s4).put (some 22) s5).put (some 23) s6
theorem Act.put_size (a : Act) (d : Tmp) (v : Value) : (a.put (some d) v).tmps.size = a.tmps.size := by simp [Act.put]
section
variable (a : Act) (s1 s2 s3 s4 s5 s6 v : Value)
theorem ch_put118 : (ch a s1 s2 s3 s4 s5 s6).put (some 118) v = ch a v s2 s3 s4 s5 s6 := by
  unfold ch
  rw [Act.put_swap _ _ _ (show (23 : Nat) ≠ 118 by decide), Act.put_swap _ _ _ (show (22 : Nat) ≠ 118 by decide), Act.put_swap _ _ _ (show (121 : Nat) ≠ 118 by decide), Act.put_swap _ _ _ (show (120 : Nat) ≠ 118 by decide), Act.put_swap _ _ _ (show (119 : Nat) ≠ 118 by decide), Act.put_put]
theorem ch_at118 (h : 200 < a.tmps.size) : (ch a s1 s2 s3 s4 s5 s6).eval (.tmp 118) = s1 := by
  unfold ch
  rw [Act.eval_put_ne _ _ (show (23 : Nat) ≠ 118 by decide), Act.eval_put_ne _ _ (show (22 : Nat) ≠ 118 by decide), Act.eval_put_ne _ _ (show (121 : Nat) ≠ 118 by decide), Act.eval_put_ne _ _ (show (120 : Nat) ≠ 118 by decide), Act.eval_put_ne _ _ (show (119 : Nat) ≠ 118 by decide), Act.eval_put_same _ _ _ (by (try simp only [Act.put_size]); exact Nat.lt_trans (by decide) h)]
theorem ch_put119 : (ch a s1 s2 s3 s4 s5 s6).put (some 119) v = ch a s1 v s3 s4 s5 s6 := by
  unfold ch
  rw [Act.put_swap _ _ _ (show (23 : Nat) ≠ 119 by decide), Act.put_swap _ _ _ (show (22 : Nat) ≠ 119 by decide), Act.put_swap _ _ _ (show (121 : Nat) ≠ 119 by decide), Act.put_swap _ _ _ (show (120 : Nat) ≠ 119 by decide), Act.put_put]
theorem ch_at119 (h : 200 < a.tmps.size) : (ch a s1 s2 s3 s4 s5 s6).eval (.tmp 119) = s2 := by
  unfold ch
  rw [Act.eval_put_ne _ _ (show (23 : Nat) ≠ 119 by decide), Act.eval_put_ne _ _ (show (22 : Nat) ≠ 119 by decide), Act.eval_put_ne _ _ (show (121 : Nat) ≠ 119 by decide), Act.eval_put_ne _ _ (show (120 : Nat) ≠ 119 by decide), Act.eval_put_same _ _ _ (by (try simp only [Act.put_size]); exact Nat.lt_trans (by decide) h)]
theorem ch_put120 : (ch a s1 s2 s3 s4 s5 s6).put (some 120) v = ch a s1 s2 v s4 s5 s6 := by
  unfold ch
  rw [Act.put_swap _ _ _ (show (23 : Nat) ≠ 120 by decide), Act.put_swap _ _ _ (show (22 : Nat) ≠ 120 by decide), Act.put_swap _ _ _ (show (121 : Nat) ≠ 120 by decide), Act.put_put]
theorem ch_at120 (h : 200 < a.tmps.size) : (ch a s1 s2 s3 s4 s5 s6).eval (.tmp 120) = s3 := by
  unfold ch
  rw [Act.eval_put_ne _ _ (show (23 : Nat) ≠ 120 by decide), Act.eval_put_ne _ _ (show (22 : Nat) ≠ 120 by decide), Act.eval_put_ne _ _ (show (121 : Nat) ≠ 120 by decide), Act.eval_put_same _ _ _ (by (try simp only [Act.put_size]); exact Nat.lt_trans (by decide) h)]
theorem ch_put121 : (ch a s1 s2 s3 s4 s5 s6).put (some 121) v = ch a s1 s2 s3 v s5 s6 := by
  unfold ch
  rw [Act.put_swap _ _ _ (show (23 : Nat) ≠ 121 by decide), Act.put_swap _ _ _ (show (22 : Nat) ≠ 121 by decide), Act.put_put]
theorem ch_at121 (h : 200 < a.tmps.size) : (ch a s1 s2 s3 s4 s5 s6).eval (.tmp 121) = s4 := by
  unfold ch
  rw [Act.eval_put_ne _ _ (show (23 : Nat) ≠ 121 by decide), Act.eval_put_ne _ _ (show (22 : Nat) ≠ 121 by decide), Act.eval_put_same _ _ _ (by (try simp only [Act.put_size]); exact Nat.lt_trans (by decide) h)]
theorem ch_put22 : (ch a s1 s2 s3 s4 s5 s6).put (some 22) v = ch a s1 s2 s3 s4 v s6 := by
  unfold ch
  rw [Act.put_swap _ _ _ (show (23 : Nat) ≠ 22 by decide), Act.put_put]
theorem ch_at22 (h : 200 < a.tmps.size) : (ch a s1 s2 s3 s4 s5 s6).eval (.tmp 22) = s5 := by
  unfold ch
  rw [Act.eval_put_ne _ _ (show (23 : Nat) ≠ 22 by decide), Act.eval_put_same _ _ _ (by (try simp only [Act.put_size]); exact Nat.lt_trans (by decide) h)]
theorem ch_put23 : (ch a s1 s2 s3 s4 s5 s6).put (some 23) v = ch a s1 s2 s3 s4 s5 v := by
  unfold ch
  rw [Act.put_put]
theorem ch_at23 (h : 200 < a.tmps.size) : (ch a s1 s2 s3 s4 s5 s6).eval (.tmp 23) = s6 := by
  unfold ch
  rw [Act.eval_put_same _ _ _ (by (try simp only [Act.put_size]); exact Nat.lt_trans (by decide) h)]
theorem ch_at17 : (ch a s1 s2 s3 s4 s5 s6).eval (.tmp 17) = a.eval (.tmp 17) := by
  unfold ch
  rw [Act.eval_put_ne _ _ (show (23 : Nat) ≠ 17 by decide), Act.eval_put_ne _ _ (show (22 : Nat) ≠ 17 by decide), Act.eval_put_ne _ _ (show (121 : Nat) ≠ 17 by decide), Act.eval_put_ne _ _ (show (120 : Nat) ≠ 17 by decide), Act.eval_put_ne _ _ (show (119 : Nat) ≠ 17 by decide), Act.eval_put_ne _ _ (show (118 : Nat) ≠ 17 by decide)]
theorem ch_start : ch a (a.tmps.getD 118 undef) (a.tmps.getD 119 undef) (a.tmps.getD 120 undef) (a.tmps.getD 121 undef) (a.tmps.getD 22 undef) (a.tmps.getD 23 undef) = a := by
  unfold ch
  simp only [Act.put_self]
end
/-- what the region has done so far -/
structure CpS (w : World) (L0 : List Acc) (b : M.Bun) (v : Int) (n : Nat) (mv : Value) (m0 m1 m2 m3 m4 m5 m6 m7 : Bool) (s1 s2 s3 s4 s5 s6 : Value) (g4 g5 : Nat) (q1 q3 : Cpy) (L1 L3 L4 L5 : List Acc) (wx : World) : Prop where
  a0 : m0 = true → s1 = mv
  a2 : m2 = true → s3 = mv
  n1 : m1 = false → L1 = []
  a1 : m1 = true → s2 = q1.val v n ∧ L1 = q1.rows b n
  n3 : m3 = false → L3 = []
  a3 : m3 = true → m1 = true ∧ s4 = q3.val v n ∧ L3 = q3.rows b n
  n4 : m4 = false → L4 = []
  a4 : m4 = true → s5 = .pointer (some ⟨g4, 0, none⟩) ∧ L4 = [boxAcc g4 25 (bif m6 then q1.cells v n else zeroV)]
  n5 : m5 = false → L5 = []
  a5 : m5 = true → s6 = .pointer (some ⟨g5, 0, none⟩) ∧ L5 = [boxAcc g5 25 (bif m7 then q3.cells v n else zeroV)]
  a6 : m6 = true → m1 = true ∧ m4 = true
  a7 : m7 = true → m3 = true ∧ m5 = true
  bank : Bank w wx (L1 ++ (L3 ++ (L4 ++ (L5 ++ L0))))
theorem CpS.base {w : World} {L0 : List Acc} {b : M.Bun} {v : Int} {n : Nat} {mv : Value} {m0 m1 m2 m3 m4 m5 m6 m7 : Bool} {s1 s2 s3 s4 s5 s6 : Value} {g4 g5 : Nat} {q1 q3 : Cpy} {L1 L3 L4 L5 : List Acc} {wx : World} (h : CpS w L0 b v n mv m0 m1 m2 m3 m4 m5 m6 m7 s1 s2 s3 s4 s5 s6 g4 g5 q1 q3 L1 L3 L4 L5 wx) : Bank w wx L0 :=
  h.bank.sub ((List.sublist_append_right L5 L0).trans ((List.sublist_append_right L4 _).trans ((List.sublist_append_right L3 _).trans (List.sublist_append_right L1 _))))
theorem cpy_in {w : World} {L0 : List Acc} {b : M.Bun} {g n c d l : Nat} {A B C : Option Addr} {cs : List Value} {wx : World} (h : Bank w wx (boxAcc g 25 cs :: rowAcc C 32 l b.tag :: rowAcc B 32 d b.dig :: rowAcc A n c b.code :: L0)) : BunIn wx b A n c B 32 d C 32 l := ⟨h.row 3 rfl, h.row 2 rfl, h.row 1 rfl⟩
def CpI (w : World) (L0 : List Acc) (b : M.Bun) (v : Int) (n : Nat) (mv : Value) (a0 : Act) (listed : Array Bool) (a : Act) (wx : World) : Prop :=
  ∃ (m0 m1 m2 m3 m4 m5 m6 m7 : Bool) (s1 s2 s3 s4 s5 s6 : Value) (g4 g5 : Nat) (q1 q3 : Cpy) (L1 L3 L4 L5 : List Acc),
    listed = #[m0, m1, m2, m3, m4, m5, m6, m7] ∧ a = ch a0 s1 s2 s3 s4 s5 s6 ∧ CpS w L0 b v n mv m0 m1 m2 m3 m4 m5 m6 m7 s1 s2 s3 s4 s5 s6 g4 g5 q1 q3 L1 L3 L4 L5 wx
/-- where the two copies stand -/
def CopyCut (w : World) (L0 : List Acc) (b : M.Bun) (v : Int) (n : Nat) (s5 s6 : Value) (wx : World) : Prop := ∃ g4 g5 q1 q3, s5 = .pointer (some ⟨g4, 0, none⟩) ∧ s6 = .pointer (some ⟨g5, 0, none⟩) ∧ Bank w wx (Cpy.rows q1 b n ++ (Cpy.rows q3 b n ++ (boxAcc g4 25 (q1.cells v n) :: boxAcc g5 25 (q3.cells v n) :: L0)))
end Go.Proofs.YtidcfjmibljkeaaDoor.K

/- The contract of bundle's Get. -/
namespace Go.Proofs.YtidcfjmibljkeaaDoor.K
open Go Go.RowKit

theorem getC_zero (bs : List (BitVec 8)) : getC bs = 0 ↔ M.bgetE bs = 0 := by
  unfold getC M.bgetE
  by_cases h1 : (M.bread bs).2 = some []
  · by_cases h2 : M.bwrong (M.bread bs).1 = 0
    · rw [if_pos h1, if_pos ⟨h1, h2⟩]; simp [h2]
    · rw [if_pos h1, if_neg (fun h => h2 h.2)]; simp [h2]
  · rw [if_neg h1, if_neg (fun h => h1 h.1)]
theorem bgetE_four (bs : List (BitVec 8)) (h : getC bs ≠ 0) : M.bgetE bs = 4 := by
  have h1 : M.bgetE bs ≠ 0 := fun e => h ((getC_zero bs).2 e)
  unfold M.bgetE at h1 ⊢
  by_cases h2 : (M.bread bs).2 = some [] ∧ M.bwrong (M.bread bs).1 = 0
  · rw [if_pos h2] at h1; exact absurd rfl h1
  · rw [if_neg h2]
set_option maxHeartbeats 8000000 in
set_option maxRecDepth 100000 in
theorem pgetB_any (A : Option Addr) (n c : Nat) (bs : List (BitVec 8)) (w : World) (hr : RowRd w ⟨A, n, c⟩ bs) (hn : n ≤ 10000000000) :
    Calls Tryd.prog 5 #[.slice A n c] w (ToldE w (M.bget bs) (M.bgetE bs)) := by
  have hmf : ∀ (fn : Fn) (first cap : Array Value) (w : World), (Instr.makeFunc fn first cap).run Tryd.prog w = .ok (.func fn first cap) w := fun _ _ _ _ => rfl
  have HR := Lib.hid hr
  have BK0 := Lib.hid (((Bank.nil (Below.refl w.heap.size w)).box #[.slice A n c] 22 (by simp)).box #[.int .i64 0, .slice none 0 0, .slice none 0 0, .slice none 0 0] 25 (by simp))
  rw [World.size_alloc] at BK0
  clear hr
  go_enter Tryd.func5, Tryd.ntmps5
  go_wp2_with fail
  generalize hw1 : (w.alloc (.cells #[.slice A n c] 22)).alloc (.cells #[.int .i64 0, .slice none 0 0, .slice none 0 0, .slice none 0 0] 25) = w1 at *
  clear hw1
  have S12 := Lib.hid (Since.alloc (Since.alloc (Below.refl w1.heap.size w1) (.cells #[.int .i64 0, .slice none 0 0, .slice none 0 0, .slice none 0 0] 25)) (.cells #[.int .i64 0] 26))
  have hcp := BK0.out.cell 1 rfl 0 rfl
  refine (triedGet_any ⟨w.heap.size, 0, none⟩ (M.bread bs).1 (getC bs) w1 (get1_any w.heap.size A n c bs _ ((S12.out.cell (block_lt_of_cell hcp)).trans hcp) (Since.row (Since.add BK0.out.since S12.out) HR.out) hn)).mono ?_
  rintro e w2 ⟨x, rfl, A2, n2, c2, B2, m2, d2, C2, k2, l2, rfl, hn2, hm2, hk2, hB⟩
  have BK2 := Lib.hid (bank_under BK0.out hB)
  have HN2 := Lib.hid hn2; have HM2 := Lib.hid hm2; have HK2 := Lib.hid hk2
  clear hB BK0 S12 hcp hn2 hm2 hk2
  obtain ⟨v2, hv2⟩ : ∃ v2, v2 = (orZero (getC bs) (M.bread bs).1).ver := ⟨_, rfl⟩
  have HV2 := Lib.hid hv2
  rw [← hv2]
  clear hv2
  by_cases hE : getC bs = 0
  · have HG := Lib.hid (show M.bgetE bs = 0 ∧ M.bget bs = orZero (getC bs) (M.bread bs).1 from ⟨(getC_zero bs).1 hE, by unfold M.bget orZero; rw [if_pos ((getC_zero bs).1 hE), if_pos hE]⟩)
    rw [hE]
    clear hE
    have BK3 := Lib.hid (BK2.out.box #[.int .i64 v2, .slice A2 n2 c2, .slice B2 m2 d2, .slice C2 k2 l2] 25 (by simp))
    have HRES := Lib.hid (BK3.out.boxAt 4 rfl).2
    have HFIN := Lib.hid (show ToldE w (M.bget bs) (M.bgetE bs) (.returned (.tuple #[.agg (bunL v2 A2 n2 c2 B2 m2 d2 C2 k2 l2).toArray, .int .i64 0])) ((w2.alloc (.cells #[.int .i64 v2, .slice A2 n2 c2, .slice B2 m2 d2, .slice C2 k2 l2] 25)).setRow (w.heap.size + 1) (bunL v2 A2 n2 c2 B2 m2 d2 C2 k2 l2).toArray) from by
      have h := BK3.out.boxRow 4 rfl (bunL v2 A2 n2 c2 B2 m2 d2 C2 k2 l2) rfl (by decide)
      rw [HG.out.1, HG.out.2]
      exact ⟨_, rfl, A2, n2, c2, B2, m2, d2, C2, k2, l2, by rw [HV2.out]; rfl, HN2.out, HM2.out, HK2.out, h.sub (.cons _ (.cons_cons _ (.cons_cons _ (.cons_cons _ (.cons _ (.cons _ .slnil))))))⟩)
    go_wp2_with (with_reducible refine wpList_store_row rfl 25 (.tmp 2) (.tmp 14) rfl (w.heap.size + 1) (bunL v2 A2 n2 c2 B2 m2 d2 C2 k2 l2).toArray rfl rfl 25 _ HRES.out (infoBunL v2 A2 n2 c2 B2 m2 d2 C2 k2 l2) rfl (bunL_one _ _ _ _ _ _ _ _ _ _) ?_)
    refine bodyPost_ret (v := .tuple #[.agg (bunL v2 A2 n2 c2 B2 m2 d2 C2 k2 l2).toArray, .int .i64 0]) ?_ rfl HFIN.out
    exact results_cell_tmp rfl _ _ (w.heap.size + 1) _ _ rfl rfl (load_bun _ _ _ _ _ _ _ _ _ _ (setRow_heap _ _ _ _ _ _ HRES.out))
  · have HG := Lib.hid (show M.bgetE bs = 4 ∧ M.bget bs = M.zeroBun from ⟨bgetE_four bs hE, by unfold M.bget; rw [if_neg (by rw [bgetE_four bs hE]; decide)]⟩)
    have hE1 : ((getC bs : Int) != 0) = true := by simpa using hE
    clear hE
    have BK3 := Lib.hid (BK2.out.box #[.int .i64 v2, .slice A2 n2 c2, .slice B2 m2 d2, .slice C2 k2 l2] 25 (by simp))
    have HRES := Lib.hid (BK3.out.boxAt 4 rfl).2
    have HFIN := Lib.hid (show ToldE w (M.bget bs) (M.bgetE bs) (.returned (.tuple #[.agg zeroV.toArray, .int .i64 4])) ((w2.alloc (.cells #[.int .i64 v2, .slice A2 n2 c2, .slice B2 m2 d2, .slice C2 k2 l2] 25)).setRow (w.heap.size + 1) zeroV.toArray) from by
      have h := BK3.out.boxRow 4 rfl zeroV rfl (by decide)
      rw [HG.out.1, HG.out.2]
      exact ⟨_, rfl, told_zero h.since⟩)
    go_wp2_with (with_reducible refine wpList_store_row rfl 25 (.tmp 2) (.tmp 13) rfl (w.heap.size + 1) zeroV.toArray rfl rfl 25 _ HRES.out (infoBunL 0 none 0 0 none 0 0 none 0 0) rfl (bunL_one _ _ _ _ _ _ _ _ _ _) ?_)
    refine bodyPost_ret (v := .tuple #[.agg zeroV.toArray, .int .i64 4]) ?_ rfl HFIN.out
    exact results_cell_tmp rfl _ _ (w.heap.size + 1) _ _ rfl rfl (load_bun _ _ _ _ _ _ _ _ _ _ (setRow_heap _ _ _ _ _ _ HRES.out))
end Go.Proofs.YtidcfjmibljkeaaDoor.K

/- What the two tables of sha hold when a call begins, out of the rows' condition; a world for the witnesses. -/
namespace Go.Proofs.YtidcfjmibljkeaaDoor.K
open Go Go.RowKit

theorem own : ownKnob Tryd.prog.godebug = none := by kernel_rfl
theorem laidOut : laidOutB Tryd.prog = true := by kernel_rfl

theorem laid_tail {P : Program} {x : String × DataW Unit} {r : List (String × DataW Unit)} {w : World} (h : laidMet P (x :: r) w) : laidMet P r w := by
  obtain ⟨ps, hv, hnd, hrows⟩ := h
  obtain ⟨n, d⟩ := x
  obtain ⟨g, t, cs, fuel, p, q, _, _, _, _, hq, rfl⟩ := hv
  exact ⟨q, hq, List.Nodup.sublist (List.sublist_append_right _ _) hnd, fun b off hm => hrows b off (List.mem_append_right _ hm)⟩

def intsOf (l : List (BitVec 32)) : List Int := l.map fun x => (x.toNat : Int)
theorem intsOf_at (l : List (BitVec 32)) (k : Nat) (h : k < l.length) : Value.int .u32 ((intsOf l).getD k 0) = W32 (M.at32 l k) := by
  simp [intsOf, M.at32, W32, h]

def laidTwo {H : Type} : List (String × DataW H) := [("barbican/sha.rounds", Rows.laid_barbican_sha_rounds), ("barbican/sha.first", Rows.laid_barbican_sha_first)]
theorem rounds_data {H : Type} : (Rows.laid_barbican_sha_rounds : DataW H) = Lib.tabData .u32 (intsOf M.kList) := by kernel_rfl
theorem first_data {H : Type} : (Rows.laid_barbican_sha_first : DataW H) = Lib.tabData .u32 (intsOf M.first.list) := by kernel_rfl
theorem gRounds : Tryd.prog.globalNamed "barbican/sha.rounds" = some 1 := by kernel_rfl
theorem gFirst : Tryd.prog.globalNamed "barbican/sha.first" = some 0 := by kernel_rfl
theorem gRoundsType : (Tryd.prog.globals[1]?).map (·.type) = some 86 := by kernel_rfl
theorem gFirstType : (Tryd.prog.globals[0]?).map (·.type) = some 77 := by kernel_rfl
theorem cellsRounds : Tryd.prog.cellsOf 86 = 64 := by kernel_rfl
theorem cellsFirst : Tryd.prog.cellsOf 77 = 8 := by kernel_rfl
theorem cellsU32 : Tryd.prog.cellsOf 75 = 1 := by kernel_rfl

theorem hasK_of {W : World} (h : laidMet Tryd.prog laidTwo W) : HasK W := by
  have ht : Lib.TabIs Tryd.prog W "barbican/sha.rounds" .u32 (intsOf M.kList) := by
    rw [laidTwo, rounds_data] at h
    exact Lib.tabIs_of_head gRounds gRoundsType Tryd.underlying86 Tryd.underlying75 cellsU32 cellsRounds h
  intro k hk
  rw [ht.cell gRounds k (by simp [intsOf, M.kList]; omega), intsOf_at _ _ (by simp [M.kList]; omega)]
theorem hasF_of {W : World} (h : laidMet Tryd.prog laidTwo W) : HasF W := by
  have ht : Lib.TabIs Tryd.prog W "barbican/sha.first" .u32 (intsOf M.first.list) := by
    have h := laid_tail h
    rw [first_data] at h
    exact Lib.tabIs_of_head gFirst gFirstType Tryd.underlying77 Tryd.underlying75 cellsU32 cellsFirst h
  intro k hk
  rw [ht.cell gFirst k (by simp [intsOf, M.first, M.St.list]; omega), intsOf_at _ _ (by simp [M.first, M.St.list]; omega)]

/-! ### what comes in -/
/-- a byte that came in -/
theorem B8_of_wf {n : Int} (h : (Lit.int .u8 n).wf = true) : ∃ b : BitVec 8, Value.int .u8 n = B8 b := by
  have h' : 0 ≤ n ∧ n < 256 := by
    simp [Lit.wf, IntKind.min, IntKind.max, IntKind.bits, IntKind.signed] at h
    omega
  refine ⟨BitVec.ofInt 8 n, ?_⟩
  simp only [B8, BitVec.toNat_ofInt, Value.int.injEq, true_and]
  omega
/-- a slice of bytes that came in reads as a list -/
theorem Rd.of_ints {w : World} {x : Addr} {zs : List Int} (hcell : ∀ i, i < zs.length → w.cell? (x.add i) = some (.int .u8 (zs.getD i 0))) (hwz : ∀ n ∈ zs, (Lit.int .u8 n).wf = true) (n : Nat) :
    Rd w (some x) ((zs.take n).map (BitVec.ofInt 8)) := by
  intro k hk
  have hk2 : k < zs.length := by simp at hk; omega
  have hc := hcell k hk2
  obtain ⟨b, o, s⟩ := x
  have hs : s = none := by simpa [Addr.add] using World.cell?_spot (hcell 0 (by omega))
  subst hs
  refine ⟨b, o, rfl, ?_⟩
  rw [Addr.add_lit] at hc
  rw [hc]
  obtain ⟨y, hy⟩ := B8_of_wf (hwz zs[k] (List.getElem_mem _))
  have e : zs.getD k 0 = zs[k] := by simp [hk2]
  rw [e, hy]
  simp only [B8, Value.int.injEq, true_and] at hy
  simp only [List.getElem_map, List.getElem_take, hy, BitVec.ofInt_natCast, ofNat_self]

def putCells (cs : Array Value) : Obj → Obj
  | .cells _ t frozen => .cells cs t frozen
  | o => o
/-- a world for the witnesses: the settled one, the two tables holding what the text lays -/
noncomputable def laidWorld (os : Os) : World :=
  { World.holding Tryd.prog os ⟨#[], #[], []⟩ with heap := ((World.holding Tryd.prog os ⟨#[], #[], []⟩).heap.modify 1 (putCells ((intsOf M.kList).map fun z => Value.int .u32 z).toArray)).modify 0 (putCells ((intsOf M.first.list).map fun z => Value.int .u32 z).toArray) }
end Go.Proofs.YtidcfjmibljkeaaDoor.K
