/- The contract of store's do. -/
import Derived.Test.YtfpjmeknjhhakaaSqStoStand
namespace Go.Proofs.Ytfpjmeknjhhakaa.K
open Go Go.RowKit Go.Maps

/-- a frame was done, or can't be -/
def DoPost (w : World) (Z : Nat) (c : S.Cl) (xs : List EV) (f : F.Fr) (e : Ending) (w' : World) : Prop :=
  (S.sdo ⟨c, xs.map EV.e⟩ f = none ∧ e = .returned (.bool false) ∧ Since w w') ∨
  (∃ c' w1, S.sdo ⟨c, xs.map EV.e⟩ f = some ⟨c', xs.map EV.e⟩ ∧ e = .returned (.bool true) ∧ Since w w1 ∧
    w' = (((w1.setCell ⟨Z, 1, none⟩ (.int .i64 c'.term)).setCell ⟨Z, 2, none⟩ (.int .i64 c'.vote)).setCell ⟨Z, 3, none⟩ (.int .i64 c'.applied)).setCell ⟨Z, 4, none⟩ (.int .i64 c'.active)) ∨
  (∃ w1 q A' cE' en B m cB, S.sdo ⟨c, xs.map EV.e⟩ f = some ⟨c, (xs.take q ++ [⟨en, B, m, cB⟩] : List EV).map EV.e⟩ ∧ q ≤ xs.length ∧ e = .returned (.bool true) ∧
    Bank w w1 [evsAcc A' (q + 1) cE' (xs.take q ++ [⟨en, B, m, cB⟩]), rowAcc B m cB en.data] ∧ w' = w1.setCell ⟨Z, 5, none⟩ (.slice A' (q + 1) cE'))
theorem doPost_set {w w0 : World} {Z : Nat} {c : S.Cl} {xs : List EV} {k : Int} {d : List (BitVec 8)} {e : Ending} {w' : World} (hk : k = 1) (hs : Since w w0) (h : SetPost w0 Z d e w') : DoPost w Z c xs ⟨k, d⟩ e w' := by
  subst hk
  obtain ⟨w1, h1, ⟨h2, he, hw⟩ | ⟨h2, he, hw⟩⟩ := h
  · subst hw
    exact .inl ⟨by simp [S.sdo, S.sset, h2], he, hs.add h1⟩
  · exact .inr (.inl ⟨(S.rd4 (some d)).1, w1, by simp [S.sdo, S.sset, h2], he, hs.add h1, hw⟩)
theorem Bank.from' {w w0 w1 : World} {L : List Acc} (h : Bank w0 w1 L) (hs : Since w w0) : Bank w w1 L := ⟨hs.add h.since, fun p hp => row_base (h.own p hp) hs.size, h.sep⟩
theorem doPost_stand {w w0 : World} {Z : Nat} {c : S.Cl} {xs : List EV} {k : Int} {d : List (BitVec 8)} {e : Ending} {w' : World} (hk : k = 2) (hs : Since w w0) (h : StandPost w0 Z xs d e w') : DoPost w Z c xs ⟨k, d⟩ e w' := by
  subst hk
  obtain ⟨w1, ⟨h2, he, h1, hw⟩ | ⟨h2, he, A', c', B, m, cB, hB, hw⟩⟩ := h
  · subst hw
    refine .inl ⟨?_, he, hs.add h1⟩
    unfold S.sdo S.sstand
    rw [if_neg (by simp), if_pos rfl, if_neg (by rw [List.length_map]; exact h2)]
  · refine .inr (.inr ⟨w1, ((S.rdIE (some d)).1 - 1).toNat, A', c', (S.rdIE (some d)).2.1, B, m, cB, ?_, by omega, he, hB.from' hs, hw⟩)
    unfold S.sdo S.sstand
    rw [if_neg (by simp), if_pos rfl, if_pos (by rw [List.length_map]; exact h2)]
    simp [List.map_take]
theorem zero_fnS (w : World) : (zeroValue 191).run Try.prog w = .ok .nilFunc w := by kernel_rfl
def doesEs : Array MapEntry := #[{ key := .int .i64 1, val := .func (.func 111) #[] #[], born := 0 }, { key := .int .i64 2, val := .func (.func 112) #[] #[], born := 1 }]
theorem look_other (k : Int) (h1 : k ≠ 1) (h2 : k ≠ 2) (hk : M.inI64 k) (w : World) (g : Nat) (h : w.heap[g]? = some (.map doesEs 2)) :
    (Instr.lookup 194 (.map (some g)) (.int .i64 k) true).run Try.prog w = .ok (.tuple #[.nilFunc, .bool false]) w := by
  refine look_noneQ Try.underlying194 Try.underlying3 h k _ (zero_fnS w) (by unfold M.inI64 at hk; simp [Lit.wf, IntKind.min, IntKind.max, IntKind.bits, IntKind.signed]; omega) ?_
  have e1 : (k == 1) = false := by rw [beq_eq_false_iff_ne]; exact h1
  have e2 : (k == 2) = false := by rw [beq_eq_false_iff_ne]; exact h2
  simp [doesEs, Instr.findNow, Instr.sameNow, e1, e2]
theorem ownsRow_since {w w' : World} {b : Nat} {e : TypeId} {es n : Nat} {v : Value} {xs : List Value} (h : w.ownsRow b e es v n xs) (hs : Since w w') : w'.ownsRow b e es v n xs :=
  h.kept (grown_none_of_below hs) (by cases h : v.ownBlock <;> simp)
theorem held_new {w w' : World} {P : Nat} {A0 : Option Addr} {d : List (BitVec 8)} (hP : w.heap.size ≤ P) (hq : PrgN w' P (some d) A0) (hA : ∀ a, A0 = some a → w.heap.size ≤ a.block ∧ a.block < w'.heap.size ∧ a.block ≠ P) (hb : Below w.heap.size w w') :
    Held w w' (fun w s => PrgN w P s A0) (some d) P A0 [] :=
  Held.start (Q := fun w s => PrgN w P s A0) (Bank.nil (Below.refl w.heap.size w)) hq hb hP (prgL_lt hq) (fun a e => ⟨(hA a e).1, (hA a e).2.1⟩) (fun w w' s row h hg hR hA => prgL_grown h hg hR hA)
set_option maxHeartbeats 4000000 in
set_option maxRecDepth 100000 in
theorem do_any (w : World) (Z D : Nat) (c : S.Cl) (A : Option Addr) (n cE : Nat) (xs : List EV) (f : F.Fr) (B : Option Addr) (m cB : Nat) (hZ : StBox w Z D c A n cE) (hE : w.ownsRow 0 81 6 (.slice A n cE) n (xs.flatMap EV.cells)) (hn : xs.length = n) (hn2 : n ≤ 1000000)
    (hr : RowRd w ⟨B, m, cB⟩ f.data) (hm : m ≤ 1000000000) (hk : M.inI64 f.kind) :
    Calls Try.prog 58 #[.pointer (some ⟨Z, 0, none⟩), .agg #[.int .i64 f.kind, .slice B m cB]] w (DoPost w Z c xs f) := by
  obtain ⟨k, d⟩ := f
  simp only at hr hk
  have hmm := @run_makeMap Try.prog
  have ht := Try.underlying194
  have hkt := Try.underlying3
  have hs0 := Since.alloc (Below.refl w.heap.size w) (.cells #[.int .i64 k, .slice B m cB] 36)
  have h1 := put_mapQ ht hkt (w.alloc (.cells #[.int .i64 k, .slice B m cB] 36)) #[] 0 1 (.func (.func 111) #[] #[]) (by decide) rfl
  have h2 := put_mapQ ht hkt (w.alloc (.cells #[.int .i64 k, .slice B m cB] 36)) #[{ key := .int .i64 1, val := .func (.func 111) #[] #[], born := 0 }] 1 2 (.func (.func 112) #[] #[]) (by decide) rfl
  simp only [List.push_toArray, List.cons_append, List.nil_append, Nat.reduceAdd, World.size_alloc] at h1 h2
  have hmap : ((w.alloc (.cells #[.int .i64 k, .slice B m cB] 36)).alloc (.map doesEs 2)).heap[w.heap.size + 1]? = some (.map doesEs 2) := by
    have h := heap_alloc_new (w.alloc (.cells #[.int .i64 k, .slice B m cB] 36)) (.map doesEs 2)
    rw [World.size_alloc] at h
    exact h
  have S0 := Lib.hid (Since.alloc hs0 (.map doesEs 2))
  have x0 : ((w.alloc (.cells #[.int .i64 k, .slice B m cB] 36)).alloc (.map doesEs 2)).cell? ⟨w.heap.size, 0, none⟩ = some (.int .i64 k) := cell_old _ (by rw [World.cell?_alloc_new]; rfl)
  have x1 : ((w.alloc (.cells #[.int .i64 k, .slice B m cB] 36)).alloc (.map doesEs 2)).cell? ⟨w.heap.size, 1, none⟩ = some (.slice B m cB) := cell_old _ (by rw [World.cell?_alloc_new]; rfl)
  have hl : k ≠ 1 → k ≠ 2 → _ := fun e1 e2 => look_other k e1 e2 hk _ _ hmap
  have hl1 := look_mapQ (P := Try.prog) ht hkt hmap 1 0 (.func (.func 111) #[] #[]) (by decide) rfl
  have hl2 := look_mapQ (P := Try.prog) ht hkt hmap 2 1 (.func (.func 112) #[] #[]) (by decide) rfl
  have HZ := Lib.hid hZ; have HE := Lib.hid hE; have HN := Lib.hid hn; have HR := Lib.hid hr
  clear hZ hE hn hr hmap hs0 ht hkt
  unfold doesEs at x0 x1 hl hl1 hl2 S0
  by_cases k1 : k = 1
  · subst k1
    clear hl hl2
    go_enter Try.func58, Try.ntmps58
    go_wp2_with fail
    refine (pNew_any B m cB d _ (Since.row S0.out HR.out) (by omega)).mono ?_
    rintro e w2 ⟨P, A0, rfl, hP, hq, hA, hb⟩
    have HS := Lib.hid (set_any _ w2 Z D c A n cE P A0 d (HZ.out.since S0.out) (held_new hP hq hA hb))
    clear hP hq hA hb
    go_wp2_with fail
    refine HS.out.mono ?_
    rintro e w3 hp
    have HP := Lib.hid (doPost_set (c := c) (xs := xs) rfl S0.out hp)
    have he : ∃ b, e = .returned (.bool b) := by
      rcases HP.out with ⟨_, h, _⟩ | ⟨_, _, _, h, _⟩ | ⟨_, _, _, _, _, _, _, _, _, _, h, _⟩
      · exact ⟨_, h⟩
      · exact ⟨_, h⟩
      · exact ⟨_, h⟩
    obtain ⟨b, rfl⟩ := he
    clear hp HS
    go_wp2
    go_ret
    exact HP.out
  by_cases k2 : k = 2
  · subst k2
    clear hl hl1
    go_enter Try.func58, Try.ntmps58
    go_wp2_with fail
    refine (pNew_any B m cB d _ (Since.row S0.out HR.out) (by omega)).mono ?_
    rintro e w2 ⟨P, A0, rfl, hP, hq, hA, hb⟩
    have HS := Lib.hid (stand_any _ w2 Z D c A n cE xs P A0 d (HZ.out.since S0.out) (ownsRow_since HE.out S0.out) HN.out hn2 (held_new hP hq hA hb))
    clear hP hq hA hb
    go_wp2_with fail
    refine HS.out.mono ?_
    rintro e w3 hp
    have HP := Lib.hid (doPost_stand (c := c) (xs := xs) rfl S0.out hp)
    have he : ∃ b, e = .returned (.bool b) := by
      rcases HP.out with ⟨_, h, _⟩ | ⟨_, _, _, h, _⟩ | ⟨_, _, _, _, _, _, _, _, _, _, h, _⟩
      · exact ⟨_, h⟩
      · exact ⟨_, h⟩
      · exact ⟨_, h⟩
    obtain ⟨b, rfl⟩ := he
    clear hp HS
    go_wp2
    go_ret
    exact HP.out
  · have hl0 := hl k1 k2
    clear hl1 hl2 hl
    go_enter Try.func58, Try.ntmps58
    go_wp2
    go_ret
    exact .inl ⟨by simp [S.sdo, k1, k2], rfl, S0.out⟩
end Go.Proofs.Ytfpjmeknjhhakaa.K
