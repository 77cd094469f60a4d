/- Two copies of a bundle, made in a region that draws its order, each put into a box of its own: the state of that region. -/
import Derived.Test.YtidcfjmibljkeaaGreatDoorBq9
import Derived.Test.YtidcfjmibljkeaaGreatDoorBqBunStep
namespace Go.Proofs.YtidcfjmibljkeaaGreatDoor.K
open Go Go.RowKit

/-- where a copy lies -/
structure Cpy where
  A : Option Addr
  c : Nat
  B : Option Addr
  d : Nat
  C : Option Addr
  l : Nat
def Cpy.val (q : Cpy) (v : Int) (n : Nat) : Value := .agg #[.int .i64 v, .slice q.A n q.c, .slice q.B 32 q.d, .slice q.C 32 q.l]
def Cpy.rows (q : Cpy) (b : M.Bun) (n : Nat) : List Acc := [rowAcc q.C 32 q.l b.tag, rowAcc q.B 32 q.d b.dig, rowAcc q.A n q.c b.code]
def Cpy.cells (q : Cpy) (v : Int) (n : Nat) : List Value := bunL v q.A n q.c q.B 32 q.d q.C 32 q.l
def CpyPost (w : World) (b : M.Bun) (v : Int) (n : Nat) (e : Ending) (w' : World) : Prop := ∃ q : Cpy, e = .returned (q.val v n) ∧ Bank w w' (q.rows b n)
theorem copy_cpy (b : M.Bun) (A : Option Addr) (n c : Nat) (B : Option Addr) (d : Nat) (C : Option Addr) (l : Nat) (w : World) (h : BunIn w b A n c B 32 d C 32 l) (hn : n ≤ 10000000000) (v : Int) (hv : b.ver = v) :
    Calls Tryz.prog 26 #[.agg #[.int .i64 v, .slice A n c, .slice B 32 d, .slice C 32 l]] w (CpyPost w b v n) := by
  subst hv
  refine (CopyBundle_any b A n c B 32 d C 32 l w h hn (by omega) (by omega)).mono ?_
  rintro e w' ⟨A', c', B', d', C', l', rfl, hB⟩
  exact ⟨⟨A', c', B', d', C', l'⟩, rfl, hB⟩

def ch (a : Act) (s1 s2 s3 s4 s5 s6 : Value) : Act := (((((a.put (some 118) s1).put (some 119) s2).put (some 120) s3).put (some 121) s4).put (some 22) s5).put (some 23) s6
theorem Act.put_size (a : Act) (d : Tmp) (v : Value) : (a.put (some d) v).tmps.size = a.tmps.size := by simp [Act.put]
section
variable (a : Act) (s1 s2 s3 s4 s5 s6 v : Value)
theorem ch_put118 : (ch a s1 s2 s3 s4 s5 s6).put (some 118) v = ch a v s2 s3 s4 s5 s6 := by
  unfold ch
  rw [Act.put_swap _ _ _ (show (23 : Nat) ≠ 118 by decide), Act.put_swap _ _ _ (show (22 : Nat) ≠ 118 by decide), Act.put_swap _ _ _ (show (121 : Nat) ≠ 118 by decide), Act.put_swap _ _ _ (show (120 : Nat) ≠ 118 by decide), Act.put_swap _ _ _ (show (119 : Nat) ≠ 118 by decide), Act.put_put]
theorem ch_at118 (h : 200 < a.tmps.size) : (ch a s1 s2 s3 s4 s5 s6).eval (.tmp 118) = s1 := by
  unfold ch
  rw [Act.eval_put_ne _ _ (show (23 : Nat) ≠ 118 by decide), Act.eval_put_ne _ _ (show (22 : Nat) ≠ 118 by decide), Act.eval_put_ne _ _ (show (121 : Nat) ≠ 118 by decide), Act.eval_put_ne _ _ (show (120 : Nat) ≠ 118 by decide), Act.eval_put_ne _ _ (show (119 : Nat) ≠ 118 by decide), Act.eval_put_same _ _ _ (by (try simp only [Act.put_size]); exact Nat.lt_trans (by decide) h)]
theorem ch_put119 : (ch a s1 s2 s3 s4 s5 s6).put (some 119) v = ch a s1 v s3 s4 s5 s6 := by
  unfold ch
  rw [Act.put_swap _ _ _ (show (23 : Nat) ≠ 119 by decide), Act.put_swap _ _ _ (show (22 : Nat) ≠ 119 by decide), Act.put_swap _ _ _ (show (121 : Nat) ≠ 119 by decide), Act.put_swap _ _ _ (show (120 : Nat) ≠ 119 by decide), Act.put_put]
theorem ch_at119 (h : 200 < a.tmps.size) : (ch a s1 s2 s3 s4 s5 s6).eval (.tmp 119) = s2 := by
  unfold ch
  rw [Act.eval_put_ne _ _ (show (23 : Nat) ≠ 119 by decide), Act.eval_put_ne _ _ (show (22 : Nat) ≠ 119 by decide), Act.eval_put_ne _ _ (show (121 : Nat) ≠ 119 by decide), Act.eval_put_ne _ _ (show (120 : Nat) ≠ 119 by decide), Act.eval_put_same _ _ _ (by (try simp only [Act.put_size]); exact Nat.lt_trans (by decide) h)]
theorem ch_put120 : (ch a s1 s2 s3 s4 s5 s6).put (some 120) v = ch a s1 s2 v s4 s5 s6 := by
  unfold ch
  rw [Act.put_swap _ _ _ (show (23 : Nat) ≠ 120 by decide), Act.put_swap _ _ _ (show (22 : Nat) ≠ 120 by decide), Act.put_swap _ _ _ (show (121 : Nat) ≠ 120 by decide), Act.put_put]
theorem ch_at120 (h : 200 < a.tmps.size) : (ch a s1 s2 s3 s4 s5 s6).eval (.tmp 120) = s3 := by
  unfold ch
  rw [Act.eval_put_ne _ _ (show (23 : Nat) ≠ 120 by decide), Act.eval_put_ne _ _ (show (22 : Nat) ≠ 120 by decide), Act.eval_put_ne _ _ (show (121 : Nat) ≠ 120 by decide), Act.eval_put_same _ _ _ (by (try simp only [Act.put_size]); exact Nat.lt_trans (by decide) h)]
theorem ch_put121 : (ch a s1 s2 s3 s4 s5 s6).put (some 121) v = ch a s1 s2 s3 v s5 s6 := by
  unfold ch
  rw [Act.put_swap _ _ _ (show (23 : Nat) ≠ 121 by decide), Act.put_swap _ _ _ (show (22 : Nat) ≠ 121 by decide), Act.put_put]
theorem ch_at121 (h : 200 < a.tmps.size) : (ch a s1 s2 s3 s4 s5 s6).eval (.tmp 121) = s4 := by
  unfold ch
  rw [Act.eval_put_ne _ _ (show (23 : Nat) ≠ 121 by decide), Act.eval_put_ne _ _ (show (22 : Nat) ≠ 121 by decide), Act.eval_put_same _ _ _ (by (try simp only [Act.put_size]); exact Nat.lt_trans (by decide) h)]
theorem ch_put22 : (ch a s1 s2 s3 s4 s5 s6).put (some 22) v = ch a s1 s2 s3 s4 v s6 := by
  unfold ch
  rw [Act.put_swap _ _ _ (show (23 : Nat) ≠ 22 by decide), Act.put_put]
theorem ch_at22 (h : 200 < a.tmps.size) : (ch a s1 s2 s3 s4 s5 s6).eval (.tmp 22) = s5 := by
  unfold ch
  rw [Act.eval_put_ne _ _ (show (23 : Nat) ≠ 22 by decide), Act.eval_put_same _ _ _ (by (try simp only [Act.put_size]); exact Nat.lt_trans (by decide) h)]
theorem ch_put23 : (ch a s1 s2 s3 s4 s5 s6).put (some 23) v = ch a s1 s2 s3 s4 s5 v := by
  unfold ch
  rw [Act.put_put]
theorem ch_at23 (h : 200 < a.tmps.size) : (ch a s1 s2 s3 s4 s5 s6).eval (.tmp 23) = s6 := by
  unfold ch
  rw [Act.eval_put_same _ _ _ (by (try simp only [Act.put_size]); exact Nat.lt_trans (by decide) h)]
theorem ch_at17 : (ch a s1 s2 s3 s4 s5 s6).eval (.tmp 17) = a.eval (.tmp 17) := by
  unfold ch
  rw [Act.eval_put_ne _ _ (show (23 : Nat) ≠ 17 by decide), Act.eval_put_ne _ _ (show (22 : Nat) ≠ 17 by decide), Act.eval_put_ne _ _ (show (121 : Nat) ≠ 17 by decide), Act.eval_put_ne _ _ (show (120 : Nat) ≠ 17 by decide), Act.eval_put_ne _ _ (show (119 : Nat) ≠ 17 by decide), Act.eval_put_ne _ _ (show (118 : Nat) ≠ 17 by decide)]
theorem ch_start : ch a (a.tmps.getD 118 undef) (a.tmps.getD 119 undef) (a.tmps.getD 120 undef) (a.tmps.getD 121 undef) (a.tmps.getD 22 undef) (a.tmps.getD 23 undef) = a := by
  unfold ch
  simp only [Act.put_self]
end
/-- what the region has done so far -/
structure CpS (w : World) (L0 : List Acc) (b : M.Bun) (v : Int) (n : Nat) (mv : Value) (m0 m1 m2 m3 m4 m5 m6 m7 : Bool) (s1 s2 s3 s4 s5 s6 : Value) (g4 g5 : Nat) (q1 q3 : Cpy) (L1 L3 L4 L5 : List Acc) (wx : World) : Prop where
  a0 : m0 = true → s1 = mv
  a2 : m2 = true → s3 = mv
  n1 : m1 = false → L1 = []
  a1 : m1 = true → s2 = q1.val v n ∧ L1 = q1.rows b n
  n3 : m3 = false → L3 = []
  a3 : m3 = true → m1 = true ∧ s4 = q3.val v n ∧ L3 = q3.rows b n
  n4 : m4 = false → L4 = []
  a4 : m4 = true → s5 = .pointer (some ⟨g4, 0, none⟩) ∧ L4 = [boxAcc g4 26 (bif m6 then q1.cells v n else zeroV)]
  n5 : m5 = false → L5 = []
  a5 : m5 = true → s6 = .pointer (some ⟨g5, 0, none⟩) ∧ L5 = [boxAcc g5 26 (bif m7 then q3.cells v n else zeroV)]
  a6 : m6 = true → m1 = true ∧ m4 = true
  a7 : m7 = true → m3 = true ∧ m5 = true
  bank : Bank w wx (L1 ++ (L3 ++ (L4 ++ (L5 ++ L0))))
theorem CpS.base {w : World} {L0 : List Acc} {b : M.Bun} {v : Int} {n : Nat} {mv : Value} {m0 m1 m2 m3 m4 m5 m6 m7 : Bool} {s1 s2 s3 s4 s5 s6 : Value} {g4 g5 : Nat} {q1 q3 : Cpy} {L1 L3 L4 L5 : List Acc} {wx : World} (h : CpS w L0 b v n mv m0 m1 m2 m3 m4 m5 m6 m7 s1 s2 s3 s4 s5 s6 g4 g5 q1 q3 L1 L3 L4 L5 wx) : Bank w wx L0 :=
  h.bank.sub ((List.sublist_append_right L5 L0).trans ((List.sublist_append_right L4 _).trans ((List.sublist_append_right L3 _).trans (List.sublist_append_right L1 _))))
theorem cpy_in {w : World} {L0 : List Acc} {b : M.Bun} {g n c d l : Nat} {A B C : Option Addr} {cs : List Value} {wx : World} (h : Bank w wx (boxAcc g 26 cs :: rowAcc C 32 l b.tag :: rowAcc B 32 d b.dig :: rowAcc A n c b.code :: L0)) : BunIn wx b A n c B 32 d C 32 l := ⟨h.row 3 rfl, h.row 2 rfl, h.row 1 rfl⟩
def CpI (w : World) (L0 : List Acc) (b : M.Bun) (v : Int) (n : Nat) (mv : Value) (a0 : Act) (listed : Array Bool) (a : Act) (wx : World) : Prop :=
  ∃ (m0 m1 m2 m3 m4 m5 m6 m7 : Bool) (s1 s2 s3 s4 s5 s6 : Value) (g4 g5 : Nat) (q1 q3 : Cpy) (L1 L3 L4 L5 : List Acc),
    listed = #[m0, m1, m2, m3, m4, m5, m6, m7] ∧ a = ch a0 s1 s2 s3 s4 s5 s6 ∧ CpS w L0 b v n mv m0 m1 m2 m3 m4 m5 m6 m7 s1 s2 s3 s4 s5 s6 g4 g5 q1 q3 L1 L3 L4 L5 wx
/-- where the two copies stand -/
def CopyCut (w : World) (L0 : List Acc) (b : M.Bun) (v : Int) (n : Nat) (s5 s6 : Value) (wx : World) : Prop := ∃ g4 g5 q1 q3, s5 = .pointer (some ⟨g4, 0, none⟩) ∧ s6 = .pointer (some ⟨g5, 0, none⟩) ∧ Bank w wx (Cpy.rows q1 b n ++ (Cpy.rows q3 b n ++ (boxAcc g4 26 (q1.cells v n) :: boxAcc g5 26 (q3.cells v n) :: L0)))
end Go.Proofs.YtidcfjmibljkeaaGreatDoor.K
