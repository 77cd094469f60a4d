/- BundleNumbers in plain Lean: the longest code, and one longer. -/
import Derived.Test.YtidcfjmibljkeaaGreatDoorBq9
namespace Go.Proofs.YtidcfjmibljkeaaGreatDoor.M
theorem nm_make : bmakeE 5 [9#8, 8#8, 7#8] = 0 := by decide
theorem nm_long {l : List B} (h : l.length = 32768) : bmakeE 1 l = 0 := by
  unfold bmakeE
  rw [if_neg (by omega), if_neg (by omega)]
theorem nm_longer {l : List B} (h : l.length = 32769) : bmakeE 1 l = 3 := by
  unfold bmakeE
  rw [if_neg (by omega), if_pos (by omega)]
theorem nm_wrong {l d t : List B} (h : l.length = 32768) (x : B) : bwrong ⟨1, l ++ [x], d, t⟩ = 3 := by
  unfold bwrong
  rw [if_neg (by show ¬ ((1 : Int) < 1 ∨ 1073741824 < (1 : Int)); omega), if_pos (by show 32768 < (l ++ [x]).length; rw [List.length_append, h]; simp)]
theorem nm_check {key l d t : List B} (h : l.length = 32768) (x : B) : bcheckE key ⟨1, l ++ [x], d, t⟩ = 4 := by
  unfold bcheckE
  rw [if_pos (by rw [nm_wrong h]; decide)]
theorem nm_put {key l : List B} (h : l.length = 32768) : (bput (bseal key 1 l)).length = 32864 := by
  unfold bput
  rw [if_pos (by rw [bseal_wrong]; exact nm_long h), bbytes_length]
  show 32 + l.length + 32 + 32 = _
  omega
theorem nm_sealed {key l : List B} (h : l.length = 32768) : bwrong (bseal key 1 l) = 0 := by rw [bseal_wrong]; exact nm_long h
end Go.Proofs.YtidcfjmibljkeaaGreatDoor.M
