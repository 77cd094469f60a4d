/- (made by gencopies2.py) Two copies of a bundle in BundleNumbers: the frame of that region. -/
import Derived.Test.YtidcfjmibljkeaaGreatDoorBqBunCopies
namespace Go.Proofs.YtidcfjmibljkeaaGreatDoor.K
open Go Go.RowKit

def ch2 (a : Act) (s1 s2 s3 s4 s5 s6 : Value) : Act := (((((a.put (some 89) s1).put (some 90) s2).put (some 91) s3).put (some 92) s4).put (some 9) s5).put (some 10) s6
section
variable (a : Act) (s1 s2 s3 s4 s5 s6 v : Value)
theorem ch2_put89 : (ch2 a s1 s2 s3 s4 s5 s6).put (some 89) v = ch2 a v s2 s3 s4 s5 s6 := by
  unfold ch2
  rw [Act.put_swap _ _ _ (show (10 : Nat) ≠ 89 by decide), Act.put_swap _ _ _ (show (9 : Nat) ≠ 89 by decide), Act.put_swap _ _ _ (show (92 : Nat) ≠ 89 by decide), Act.put_swap _ _ _ (show (91 : Nat) ≠ 89 by decide), Act.put_swap _ _ _ (show (90 : Nat) ≠ 89 by decide), Act.put_put]
theorem ch2_at89 (h : 200 < a.tmps.size) : (ch2 a s1 s2 s3 s4 s5 s6).eval (.tmp 89) = s1 := by
  unfold ch2
  rw [Act.eval_put_ne _ _ (show (10 : Nat) ≠ 89 by decide), Act.eval_put_ne _ _ (show (9 : Nat) ≠ 89 by decide), Act.eval_put_ne _ _ (show (92 : Nat) ≠ 89 by decide), Act.eval_put_ne _ _ (show (91 : Nat) ≠ 89 by decide), Act.eval_put_ne _ _ (show (90 : Nat) ≠ 89 by decide), Act.eval_put_same _ _ _ (by (try simp only [Act.put_size]); exact Nat.lt_trans (by decide) h)]
theorem ch2_put90 : (ch2 a s1 s2 s3 s4 s5 s6).put (some 90) v = ch2 a s1 v s3 s4 s5 s6 := by
  unfold ch2
  rw [Act.put_swap _ _ _ (show (10 : Nat) ≠ 90 by decide), Act.put_swap _ _ _ (show (9 : Nat) ≠ 90 by decide), Act.put_swap _ _ _ (show (92 : Nat) ≠ 90 by decide), Act.put_swap _ _ _ (show (91 : Nat) ≠ 90 by decide), Act.put_put]
theorem ch2_at90 (h : 200 < a.tmps.size) : (ch2 a s1 s2 s3 s4 s5 s6).eval (.tmp 90) = s2 := by
  unfold ch2
  rw [Act.eval_put_ne _ _ (show (10 : Nat) ≠ 90 by decide), Act.eval_put_ne _ _ (show (9 : Nat) ≠ 90 by decide), Act.eval_put_ne _ _ (show (92 : Nat) ≠ 90 by decide), Act.eval_put_ne _ _ (show (91 : Nat) ≠ 90 by decide), Act.eval_put_same _ _ _ (by (try simp only [Act.put_size]); exact Nat.lt_trans (by decide) h)]
theorem ch2_put91 : (ch2 a s1 s2 s3 s4 s5 s6).put (some 91) v = ch2 a s1 s2 v s4 s5 s6 := by
  unfold ch2
  rw [Act.put_swap _ _ _ (show (10 : Nat) ≠ 91 by decide), Act.put_swap _ _ _ (show (9 : Nat) ≠ 91 by decide), Act.put_swap _ _ _ (show (92 : Nat) ≠ 91 by decide), Act.put_put]
theorem ch2_at91 (h : 200 < a.tmps.size) : (ch2 a s1 s2 s3 s4 s5 s6).eval (.tmp 91) = s3 := by
  unfold ch2
  rw [Act.eval_put_ne _ _ (show (10 : Nat) ≠ 91 by decide), Act.eval_put_ne _ _ (show (9 : Nat) ≠ 91 by decide), Act.eval_put_ne _ _ (show (92 : Nat) ≠ 91 by decide), Act.eval_put_same _ _ _ (by (try simp only [Act.put_size]); exact Nat.lt_trans (by decide) h)]
theorem ch2_put92 : (ch2 a s1 s2 s3 s4 s5 s6).put (some 92) v = ch2 a s1 s2 s3 v s5 s6 := by
  unfold ch2
  rw [Act.put_swap _ _ _ (show (10 : Nat) ≠ 92 by decide), Act.put_swap _ _ _ (show (9 : Nat) ≠ 92 by decide), Act.put_put]
theorem ch2_at92 (h : 200 < a.tmps.size) : (ch2 a s1 s2 s3 s4 s5 s6).eval (.tmp 92) = s4 := by
  unfold ch2
  rw [Act.eval_put_ne _ _ (show (10 : Nat) ≠ 92 by decide), Act.eval_put_ne _ _ (show (9 : Nat) ≠ 92 by decide), Act.eval_put_same _ _ _ (by (try simp only [Act.put_size]); exact Nat.lt_trans (by decide) h)]
theorem ch2_put9 : (ch2 a s1 s2 s3 s4 s5 s6).put (some 9) v = ch2 a s1 s2 s3 s4 v s6 := by
  unfold ch2
  rw [Act.put_swap _ _ _ (show (10 : Nat) ≠ 9 by decide), Act.put_put]
theorem ch2_at9 (h : 200 < a.tmps.size) : (ch2 a s1 s2 s3 s4 s5 s6).eval (.tmp 9) = s5 := by
  unfold ch2
  rw [Act.eval_put_ne _ _ (show (10 : Nat) ≠ 9 by decide), Act.eval_put_same _ _ _ (by (try simp only [Act.put_size]); exact Nat.lt_trans (by decide) h)]
theorem ch2_put10 : (ch2 a s1 s2 s3 s4 s5 s6).put (some 10) v = ch2 a s1 s2 s3 s4 s5 v := by
  unfold ch2
  rw [Act.put_put]
theorem ch2_at10 (h : 200 < a.tmps.size) : (ch2 a s1 s2 s3 s4 s5 s6).eval (.tmp 10) = s6 := by
  unfold ch2
  rw [Act.eval_put_same _ _ _ (by (try simp only [Act.put_size]); exact Nat.lt_trans (by decide) h)]
theorem ch2_pt : (ch2 a s1 s2 s3 s4 s5 s6).eval (.tmp 2) = a.eval (.tmp 2) := by
  unfold ch2
  rw [Act.eval_put_ne _ _ (show (10 : Nat) ≠ 2 by decide), Act.eval_put_ne _ _ (show (9 : Nat) ≠ 2 by decide), Act.eval_put_ne _ _ (show (92 : Nat) ≠ 2 by decide), Act.eval_put_ne _ _ (show (91 : Nat) ≠ 2 by decide), Act.eval_put_ne _ _ (show (90 : Nat) ≠ 2 by decide), Act.eval_put_ne _ _ (show (89 : Nat) ≠ 2 by decide)]
theorem ch2_start : ch2 a (a.tmps.getD 89 undef) (a.tmps.getD 90 undef) (a.tmps.getD 91 undef) (a.tmps.getD 92 undef) (a.tmps.getD 9 undef) (a.tmps.getD 10 undef) = a := by
  unfold ch2
  simp only [Act.put_self]
end
def CpI2 (w : World) (L0 : List Acc) (b : M.Bun) (v : Int) (n : Nat) (mv : Value) (a0 : Act) (listed : Array Bool) (a : Act) (wx : World) : Prop :=
  ∃ (m0 m1 m2 m3 m4 m5 m6 m7 : Bool) (s1 s2 s3 s4 s5 s6 : Value) (g4 g5 : Nat) (q1 q3 : Cpy) (L1 L3 L4 L5 : List Acc),
    listed = #[m0, m1, m2, m3, m4, m5, m6, m7] ∧ a = ch2 a0 s1 s2 s3 s4 s5 s6 ∧ CpS w L0 b v n mv m0 m1 m2 m3 m4 m5 m6 m7 s1 s2 s3 s4 s5 s6 g4 g5 q1 q3 L1 L3 L4 L5 wx
end Go.Proofs.YtidcfjmibljkeaaGreatDoor.K
