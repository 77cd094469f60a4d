/- Small parts of the law MacFits. -/
import Derived.Test.YtjnhfmicadcmnaaDoorMacAwake5
import Derived.Test.YtjnhfmicadcmnaaDoorKitCopyD
import Derived.Test.YtjnhfmicadcmnaaDoorLit
import Derived.Test.YtjnhfmicadcmnaaDoorAppendZero
import Derived.StillTailTactics
namespace Go.Proofs.YtjnhfmicadcmnaaDoor.K
open Go Go.RowKit

theorem pick_still (x n : Int) (w : World) (hn : 1 ≤ n) (hn2 : n ≤ 4611686018427387904) :
    Calls Tryd.prog 16 #[.int .i64 x, .int .i64 n] w fun e w' => e = .returned (.int .i64 (pick x n)) ∧ w' = w :=
  (Pick_any x n w hn hn2).mono fun _ _ ⟨h, h'⟩ => ⟨h, h'.symm⟩
/-- a copy, told from an elder world -/
def CopyPost (w : World) (n : Nat) (bs : List (BitVec 8)) (e : Ending) (w' : World) : Prop := ∃ B c', e = .returned (.slice B n c') ∧ w'.ownsRow w.heap.size 5 1 (.slice B n c') n (bv bs) ∧ Below w.heap.size w w'
theorem copy_made {A : Option Addr} {n c : Nat} {bs : List (BitVec 8)} {w : World} (hx : RowRd w ⟨A, n, c⟩ bs) (hn2 : n ≤ 100000000000000) : Calls Tryd.prog 23 #[.slice A n c] w (CopyPost w n bs) := CopyBytes_any A n c bs w hx hn2
theorem flip_ne (l : List (BitVec 8)) (i : Nat) (hi : i < l.length) (s : Nat) (hs : s < 8) : l ≠ l.set i (l.getD i 0 ^^^ (1#8 <<< s)) := fun e => by
  have h1 : l[i]? = (l.set i (l.getD i 0 ^^^ (1#8 <<< s)))[i]? := by rw [← e]
  rw [List.getElem?_set_self hi, List.getElem?_eq_getElem hi, List.getD_eq_getElem?_getD, List.getElem?_eq_getElem hi, Option.getD_some] at h1
  have h2 : l[i] = l[i] ^^^ (1#8 <<< s) := Option.some.inj h1
  have h3 : l[i] ^^^ l[i] = l[i] ^^^ (l[i] ^^^ (1#8 <<< s)) := by rw [← h2]
  rw [BitVec.xor_self, ← BitVec.xor_assoc, BitVec.xor_self, BitVec.zero_xor] at h3
  match s, hs with
  | 0, _ => exact absurd h3 (by decide)
  | 1, _ => exact absurd h3 (by decide)
  | 2, _ => exact absurd h3 (by decide)
  | 3, _ => exact absurd h3 (by decide)
  | 4, _ => exact absurd h3 (by decide)
  | 5, _ => exact absurd h3 (by decide)
  | 6, _ => exact absurd h3 (by decide)
  | 7, _ => exact absurd h3 (by decide)
theorem rowRd_nil (w : World) : RowRd w ⟨none, 0, 0⟩ [] := ⟨Rd.of_nil _ _, rfl, fun _ => rfl⟩
/-- a row whose block the call owns has an address if it is not empty -/
theorem own_somes {w : World} {base : Nat} {e : TypeId} {A : Option Addr} {n c : Nat} {xs : List Value} (h : w.ownsRow base e 1 (.slice A n c) n xs) (hp : 0 < n) : ∃ g, A = some ⟨g, 0, none⟩ := by
  rcases h.2 with ⟨h0, _⟩ | ⟨g, cp, cur, h2, _⟩
  · simp at h0; omega
  · simp at h2; exact ⟨g, h2.1⟩
end Go.Proofs.YtjnhfmicadcmnaaDoor.K
