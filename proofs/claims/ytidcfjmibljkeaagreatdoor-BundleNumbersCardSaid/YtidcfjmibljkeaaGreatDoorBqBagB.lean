/- barbicankit's bag as an account of a bank: lists of bytes are put into it. -/
import Derived.Test.YtidcfjmibljkeaaGreatDoorBq9
namespace Go.Proofs.YtidcfjmibljkeaaGreatDoor.K
open Go Go.RowKit

/-- a list of slices as an account -/
def lstAcc (v : Value) (n : Nat) (t : TypeId) (xs : List Value) : Acc := ⟨v, n, t, 1, xs⟩
def PutPost (w0 : World) (L : List Acc) (i j g q : Nat) (cs : List Value) (t : TypeId) (n : Nat) (xs : List Value) (e : Ending) (w' : World) : Prop :=
  ∃ A' c', e = .returned (.tuple #[]) ∧ Bank w0 w' ((L.set j (lstAcc (.slice A' (n + 1) c') (n + 1) t xs)).set i (boxAcc g 79 (cs.set q (.slice A' (n + 1) c'))))
set_option maxHeartbeats 4000000 in
set_option maxRecDepth 100000 in
theorem putBytesB_any {w0 : World} {L : List Acc} (g i j : Nat) (cs : List Value) (A5 : Option Addr) (n5 c5 : Nat) (xs : List Value) (A : Option Addr) (n c : Nat) (w : World) (hB : Bank w0 w L) (hi : L[i]? = some (boxAcc g 79 cs)) (hj : L[j]? = some (lstAcc (.slice A5 n5 c5) n5 22 xs))
    (hij : i ≠ j) (hcs : cs.length = 21) (h5 : cs[5]? = some (.slice A5 n5 c5)) (hn : n5 ≤ 1000000) :
    Calls Tryz.prog 51 #[.pointer (some ⟨g, 0, none⟩), .slice A n c] w (PutPost w0 L i j g 5 cs 22 n5 (xs ++ [.slice A n c])) := by
  have c50 := hB.cell i hi 5 h5
  have HB := Lib.hid hB; have HI := Lib.hid hi; have HJ := Lib.hid hj
  have hlt : i < L.length := (List.getElem?_eq_some_iff.1 hi).1
  clear hB hi hj
  go_enter Tryz.func51, Tryz.ntmps51
  go_wp2_with (first
    | (at_builtin; refine wpList_append_bankG (HB.out.alloc _) rfl (.tmp 8) (.tmp 10) 43 rfl 22 (.slice none 0 0) 1 24 infoBytes Tryz.underlying43 rfl (by decide) j A5 n5 c5 xs rfl HJ.out ⟨w.heap.size, 0, none⟩ 1 1 [.slice A n c] rfl rfl (cell_last _ _ _) (by intro u hu; simp at hu; subst hu; rfl) (by unfold maxLen; omega) (by omega) ?_; intro A' n' c' w1 hn' hB1 _ _; have hi1 : (L.set j (lstAcc (.slice A' n' c') n' 22 (xs ++ [.slice A n c])))[i]? = some (boxAcc g 79 cs) := (by rw [List.getElem?_set_ne (Ne.symm hij)]; exact HI.out); have d5 := hB1.cell i hi1 5 h5; have f5 := hB1.free i hi1 5; have BK2 := Lib.hid (Bank.boxSet hB1 i hi1 5 (.slice A' n' c')); have HN := Lib.hid hn'; clear hB1 hn' hi1)
    | (with_reducible refine wpList_store_one rfl 43 (.tmp 13) (.tmp 11) rfl ⟨g, 5, none⟩ _ _ rfl rfl rfl (by kernel_rfl) d5 f5 ?_))
  go_end0
  obtain rfl := HN.out
  exact ⟨A', c', rfl, BK2.out⟩
theorem set4 {α : Type} (L : List α) (i j : Nat) (a b c d : α) (h : i ≠ j) : (((L.set j a).set i b).set j c).set i d = (L.set j c).set i d := by
  rw [List.set_comm _ _ h, List.set_set, List.set_set]
set_option maxHeartbeats 4000000 in
set_option maxRecDepth 100000 in
theorem oneBundleB_any {w0 : World} {L : List Acc} (g i j : Nat) (cs : List Value) (A5 : Option Addr) (n5 c5 : Nat) (xs : List Value) (v : Int) (A : Option Addr) (n c : Nat) (B : Option Addr) (m d : Nat) (C : Option Addr) (k l : Nat) (w : World) (hB : Bank w0 w L) (hi : L[i]? = some (boxAcc g 79 cs)) (hj : L[j]? = some (lstAcc (.slice A5 n5 c5) n5 22 xs))
    (hij : i ≠ j) (hcs : cs.length = 21) (h5 : cs[5]? = some (.slice A5 n5 c5)) (hn : n5 ≤ 999997) :
    Calls Tryz.prog 71 #[.pointer (some ⟨g, 0, none⟩), .agg #[.int .i64 v, .slice A n c, .slice B m d, .slice C k l]] w fun e w' => ∃ A' c', e = .returned (.tuple #[]) ∧ Bank w0 w' ((L.set j (lstAcc (.slice A' (n5 + 3) c') (n5 + 3) 22 (xs ++ [.slice A n c, .slice B m d, .slice C k l]))).set i (boxAcc g 79 (cs.set 5 (.slice A' (n5 + 3) c')))) := by
  have hil : i < L.length := (List.getElem?_eq_some_iff.1 hi).1
  have hjl : j < L.length := (List.getElem?_eq_some_iff.1 hj).1
  have HB := Lib.hid (hB.box #[.int .i64 v, .slice A n c, .slice B m d, .slice C k l] 26 (by simp)); have HI := Lib.hid hi; have HJ := Lib.hid hj; have HC := Lib.hid hcs
  clear hB hi hj hcs
  go_enter Tryz.func71, Tryz.ntmps71
  go_wp2_with fail
  generalize hX : w.heap.size = X at *
  generalize w.alloc (.cells #[.int .i64 v, .slice A n c, .slice B m d, .slice C k l] 26) = w1 at *
  clear hX
  refine (putBytesB_any g (i + 1) (j + 1) cs A5 n5 c5 xs A n c w1 HB.out HI.out HJ.out (by omega) HC.out h5 (by omega)).mono ?_
  rintro e w2 ⟨A2, c2, rfl, hB2⟩
  have HB2 := Lib.hid hB2
  have y2 := hB2.cell 0 rfl 2 rfl
  clear hB2 HB
  go_wp2_with fail
  clear y2
  refine (putBytesB_any g (i + 1) (j + 1) (cs.set 5 (.slice A2 (n5 + 1) c2)) A2 (n5 + 1) c2 (xs ++ [.slice A n c]) B m d w2 HB2.out (List.getElem?_set_self (by simp; omega)) (by rw [List.getElem?_set_ne (by omega)]; exact List.getElem?_set_self (by simp; omega)) (by omega) (by rw [List.length_set]; exact HC.out) (List.getElem?_set_self (by rw [HC.out]; omega)) (by omega)).mono ?_
  rintro e w3 ⟨A3, c3, rfl, hB3⟩
  rw [set4 _ _ _ _ _ _ _ (by omega), List.set_set] at hB3
  have HB3 := Lib.hid hB3
  have y3 := hB3.cell 0 rfl 3 rfl
  clear hB3 HB2
  go_wp2_with fail
  clear y3
  refine (putBytesB_any g (i + 1) (j + 1) (cs.set 5 (.slice A3 (n5 + 1 + 1) c3)) A3 (n5 + 1 + 1) c3 (xs ++ [.slice A n c] ++ [.slice B m d]) C k l w3 HB3.out (List.getElem?_set_self (by simp; omega)) (by rw [List.getElem?_set_ne (by omega)]; exact List.getElem?_set_self (by simp; omega)) (by omega) (by rw [List.length_set]; exact HC.out) (List.getElem?_set_self (by rw [HC.out]; omega)) (by omega)).mono ?_
  rintro e w4 ⟨A4, c4, rfl, hB4⟩
  rw [set4 _ _ _ _ _ _ _ (by omega), List.set_set] at hB4
  have HF := Lib.hid (Bank.drop hB4)
  clear hB4 HB3
  go_wp2_with fail
  go_end0
  refine ⟨A4, c4, rfl, ?_⟩
  have h := HF.out
  rw [List.append_assoc, List.append_assoc] at h
  exact h
end Go.Proofs.YtidcfjmibljkeaaGreatDoor.K
