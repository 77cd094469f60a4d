/- Tags as plain Lean functions on bytes, and what is known of them. No program in sight. -/
import Derived.Test.YtjnhfmicadcmnaaDoorShaMath
namespace Go.Proofs.YtjnhfmicadcmnaaDoor.M
def keyOf (key : List B) : List B := if 64 < key.length then sum key else key
theorem keyOf_le (key : List B) : (keyOf key).length ≤ 64 := by
  unfold keyOf
  split
  · rw [sum_length]; omega
  · omega
def macBlock (key : List B) : List B := keyOf key ++ List.replicate (64 - (keyOf key).length) 0#8
theorem macBlock_length (key : List B) : (macBlock key).length = 64 := by
  have := keyOf_le key
  simp [macBlock]; omega
def macUnder (key : List B) (n : B) : List B := (macBlock key).map fun x => x ^^^ n
theorem macUnder_length (key : List B) (n : B) : (macUnder key n).length = 64 := by simp [macUnder, macBlock_length]
def tag (key b : List B) : List B := sum (macUnder key 0x5c#8 ++ sum (macUnder key 0x36#8 ++ b))
theorem tag_length (key b : List B) : (tag key b).length = 32 := rfl
theorem block_pad (key : List B) (h : key.length ≤ 64) : macBlock (key ++ List.replicate (64 - key.length) 0#8) = macBlock key := by
  have h1 : keyOf key = key := by unfold keyOf; rw [if_neg (by omega)]
  have h2 : keyOf (key ++ List.replicate (64 - key.length) 0#8) = key ++ List.replicate (64 - key.length) 0#8 := by
    unfold keyOf; rw [if_neg (by simp; omega)]
  rw [macBlock, macBlock, h1, h2]
  have e : 64 - (key ++ List.replicate (64 - key.length) 0#8).length = 0 := by simp; omega
  rw [e]; simp
theorem tag_pad (key b : List B) (h : key.length ≤ 64) : tag (key ++ List.replicate (64 - key.length) 0#8) b = tag key b := by
  unfold tag macUnder
  rw [block_pad key h]
theorem tag_sum (key b : List B) (h : 64 < key.length) : tag (sum key) b = tag key b := by
  have h1 : keyOf key = sum key := by unfold keyOf; rw [if_pos h]
  have h2 : keyOf (sum key) = sum key := by unfold keyOf; rw [if_neg (by rw [sum_length]; omega)]
  unfold tag macUnder macBlock
  rw [h1, h2]
end Go.Proofs.YtjnhfmicadcmnaaDoor.M
