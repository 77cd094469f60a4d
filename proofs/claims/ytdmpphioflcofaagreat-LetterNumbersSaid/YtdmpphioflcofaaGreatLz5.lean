/- Merged: LetMust, LetCheck, LetKinds, LetChk, WireTake, WireRest, WireCatch. -/
import Derived.Test.YtdmpphioflcofaaGreatLz4
import Derived.WalkLawsBesides
import Derived.Deep.RegionLaw
import Derived.Maps.Own
import Derived.Defers
import Derived.Recover
import Derived.Laws.Pointers
/- The contracts of letter's must, within and bare. -/
namespace Go.Proofs.YtdmpphioflcofaaGreat.K
open Go Go.RowKit

def wrongP : List PanicEntry := [{ v := .iface 94 (.agg #[]), recovered := false }]
/-- nothing is told, or a wrong is panicked with -/
def MustPost (w : World) (ok : Bool) (e : Ending) (w' : World) : Prop := (ok = true ∧ e = .returned (.tuple #[]) ∧ Since w w') ∨ (ok = false ∧ e = .panicked wrongP ∧ Since w w')
theorem MustPost.from {w w1 w' : World} {ok : Bool} {e : Ending} (hs : Since w w1) (h : MustPost w1 ok e w') : MustPost w ok e w' :=
  h.imp (fun ⟨a, b, c⟩ => ⟨a, b, hs.add c⟩) fun ⟨a, b, c⟩ => ⟨a, b, hs.add c⟩
theorem take_all {α : Type} {p : α → Bool} {l : List α} {k : Nat} (hk : k < l.length) (h : (l.take k).all p = true) (hx : p l[k] = true) : (l.take (k + 1)).all p = true := by
  rw [List.take_succ_eq_append_getElem hk, List.all_append, h]
  simp [hx]
theorem all_false {α : Type} {p : α → Bool} {l : List α} {k : Nat} (hk : k < l.length) (hx : p l[k] = false) : l.all p = false := by
  rw [List.all_eq_false]
  exact ⟨l[k], List.getElem_mem _, by rw [hx]; simp⟩
set_option maxHeartbeats 1000000 in
set_option maxRecDepth 100000 in
theorem must_any (A : Option Addr) (n c : Nat) (bs : List Bool) (w : World) (hl : bs.length = n) (hA : ∀ k, (h : k < bs.length) → ∃ b o, A = some ⟨b, o, none⟩ ∧ w.cell? ⟨b, o + k, none⟩ = some (.bool bs[k])) (hn : n ≤ 1000000) :
    Calls Tryz.prog 50 #[.slice A n c] w (MustPost w (bs.all id)) := by
  have HA := Lib.hid hA; have HL := Lib.hid hl
  clear hA hl
  go_enter Tryz.func50, Tryz.ntmps50
  go_wp2
  go_loop [6] (fun i => ∃ k : Nat, k ≤ n ∧ i = .int .i64 (k : Int) ∧ (bs.take k).all id = true) (fun i => n - (intOf i).toNat)
  case atStart => exact ⟨0, by omega, rfl, rfl⟩
  case round =>
    obtain ⟨k, hk, rfl, hall⟩ := hrel
    have HALL := Lib.hid hall
    clear hall
    have k0 : (0 : Int) ≤ (k : Int) := by omega
    by_cases hkn : k < n
    · have i1 : (k : Int) < (n : Int) := by omega
      have hkl : k < bs.length := by rw [HL.out]; exact hkn
      obtain ⟨b, o, rfl, hc⟩ := HA.out k hkl
      obtain ⟨x, hx⟩ : ∃ x, x = bs[k] := ⟨_, rfl⟩
      rw [← hx] at hc
      have HX := Lib.hid hx
      clear hx
      cases x
      · have HFIN := Lib.hid (show MustPost w (bs.all id) (.panicked wrongP) w from .inr ⟨all_false hkl HX.out.symm, rfl, Below.refl _ _⟩)
        go_wp2
        exact ⟨rfl, HFIN.out⟩
      · go_wp2
        go_round
        case rel => exact ⟨k + 1, by omega, by go_num, take_all hkl HALL.out HX.out.symm⟩
        case measure => simp [intOf]; omega
    · have i1 : ¬ (k : Int) < (n : Int) := by omega
      have HK := Lib.hid (show k = bs.length by rw [HL.out]; omega)
      go_wp2
      go_end0
      refine .inl ⟨?_, rfl, Below.refl _ _⟩
      have := HALL.out
      rwa [HK.out, List.take_length] at this
/-- a literal slice of truths -/
theorem must_lit (X : Nat) (bs : List Bool) (k c : Nat) (cs : Array Value) (t : TypeId) (w : World) (hX : w.heap.size = X) (hcs : cs = (bs.map Value.bool).toArray) (hk : bs.length = k) (hn : k ≤ 1000000) :
    Calls Tryz.prog 50 #[.slice (some ⟨X, 0, none⟩) k c] (w.alloc (.cells cs t)) (MustPost w (bs.all id)) := by
  subst hcs hk hX
  refine (must_any _ bs.length c bs _ rfl (fun k h => ⟨w.heap.size, 0, rfl, ?_⟩) hn).mono fun e w' h => h.from (Since.alloc (Below.refl _ _) _)
  rw [World.cell?_alloc_new, Nat.zero_add]
  simp [h]
set_option maxHeartbeats 1000000 in
set_option maxRecDepth 100000 in
theorem within_any (n a b : Int) (w : World) : Calls Tryz.prog 48 #[.int .i64 n, .int .i64 a, .int .i64 b] w (MustPost w (M.wi n a b)) := by
  go_enter Tryz.func48, Tryz.ntmps48
  go_wp2_with fail
  refine (must_lit w.heap.size [decide (a ≤ n), decide (n ≤ b)] 2 2 _ _ w rfl rfl rfl (by omega)).mono ?_
  rintro e w2 (⟨h, rfl, hs⟩ | ⟨h, rfl, hs⟩)
  · have HFIN := Lib.hid (show MustPost w (M.wi n a b) (.returned (.tuple #[])) w2 from .inl ⟨by unfold M.wi; simpa using h, rfl, hs⟩)
    clear h hs
    go_wp2
    go_end0
    exact HFIN.out
  · have HFIN := Lib.hid (show MustPost w (M.wi n a b) (.panicked wrongP) w2 from .inr ⟨by unfold M.wi; simpa using h, rfl, hs⟩)
    clear h hs
    go_wp2
    exact ⟨rfl, HFIN.out⟩
end Go.Proofs.YtdmpphioflcofaaGreat.K

/- (made by genletcheck.py) The contracts of letter's bare, times, ask, vote, puts, done, ack. -/
namespace Go.Proofs.YtdmpphioflcofaaGreat.K
open Go Go.RowKit

/-- numbers that are read -/
def IntsRd (w : World) (A : Option Addr) (ns : List Int) : Prop := ∀ k, (h : k < ns.length) → ∃ b o, A = some ⟨b, o, none⟩ ∧ w.cell? ⟨b, o + k, none⟩ = some (.int .i64 ns[k])
theorem IntsRd.since {w w' : World} {A : Option Addr} {ns : List Int} (h : IntsRd w A ns) (hs : Since w w') : IntsRd w' A ns := fun k hk => by
  obtain ⟨b, o, e, hc⟩ := h k hk
  exact ⟨b, o, e, (hs.cell (p := ⟨b, o + k, none⟩) (block_lt_of_cell hc)).trans hc⟩
theorem IntsRd.nil (w : World) (A : Option Addr) : IntsRd w A [] := fun _ h => absurd h (Nat.not_lt_zero _)
theorem ints_lit (X : Nat) (w : World) (ns : List Int) (cs : Array Value) (t : TypeId) (hX : w.heap.size = X) (hcs : cs = (ns.map (Value.int .i64)).toArray) : IntsRd (w.alloc (.cells cs t)) (some ⟨X, 0, none⟩) ns := fun k h => by
  subst hcs hX
  refine ⟨w.heap.size, 0, rfl, ?_⟩
  rw [World.cell?_alloc_new, Nat.zero_add]
  simp [h]
set_option maxHeartbeats 2000000 in
set_option maxRecDepth 100000 in
theorem bare_any (l : M.Let) (A : Option Addr) (n c : Nat) (B : Option Addr) (m d : Nat) (ns : List Int) (w : World) (hl : ns.length = m) (hB : IntsRd w B ns) (hm : m ≤ 1000000) :
    Calls Tryz.prog 132 #[.agg #[B8 l.kind, .int .i64 l.src, .int .i64 l.dst, .int .i64 l.term, .int .i64 l.index, .int .i64 l.was, .bool l.ok, .int .i64 l.commit, .int .i64 l.version, .slice A n c], .slice B m d] w (MustPost w (ns.all M.z)) := by
  have HB := Lib.hid hB; have HL := Lib.hid hl
  have S0 := Lib.hid (Since.alloc (Below.refl w.heap.size w) (.cells #[B8 l.kind, .int .i64 l.src, .int .i64 l.dst, .int .i64 l.term, .int .i64 l.index, .int .i64 l.was, .bool l.ok, .int .i64 l.commit, .int .i64 l.version, .slice A n c] 85))
  clear hB hl
  go_enter Tryz.func132, Tryz.ntmps132
  go_wp2
  generalize w.alloc (.cells #[B8 l.kind, .int .i64 l.src, .int .i64 l.dst, .int .i64 l.term, .int .i64 l.index, .int .i64 l.was, .bool l.ok, .int .i64 l.commit, .int .i64 l.version, .slice A n c] 85) = w1 at *
  go_loopw [8] (fun i wr => ∃ k : Nat, k ≤ m ∧ i = .int .i64 (k : Int) ∧ (ns.take k).all M.z = true ∧ Since w wr) (fun i _ => m - (intOf i).toNat)
  case atStart => exact ⟨0, by omega, rfl, rfl, S0.out⟩
  case round =>
    clear S0
    obtain ⟨k, hk, rfl, hall, hs⟩ := hrel
    have HALL := Lib.hid hall; have S1 := Lib.hid hs
    clear hall hs
    have k0 : (0 : Int) ≤ (k : Int) := by omega
    by_cases hkn : k < m
    · have i1 : (k : Int) < (m : Int) := by omega
      have hkl : k < ns.length := by rw [HL.out]; exact hkn
      obtain ⟨b, o, rfl, hc⟩ := HB.out.since S1.out k hkl
      obtain ⟨x, hx⟩ : ∃ x, x = ns[k] := ⟨_, rfl⟩
      rw [← hx] at hc
      have HX := Lib.hid hx
      clear hx
      go_wp2_with fail
      refine (must_lit wr.heap.size [x == 0] 1 1 _ _ wr rfl rfl rfl (by omega)).mono ?_
      rintro e w2 (⟨h, rfl, hs⟩ | ⟨h, rfl, hs⟩)
      · have H := Lib.hid (show M.z ns[k] = true by rw [← HX.out]; simpa [M.z] using h)
        have S2 := Lib.hid (S1.out.add hs)
        clear h hs hc
        go_wp2
        go_roundw
        case rel => exact ⟨k + 1, by omega, by go_num, take_all hkl HALL.out H.out, S2.out⟩
        case measure => simp [intOf]; omega
      · have HFIN := Lib.hid (show MustPost w (ns.all M.z) (.panicked wrongP) w2 from .inr ⟨all_false hkl (by rw [← HX.out]; simpa [M.z] using h), rfl, S1.out.add hs⟩)
        clear h hs hc
        go_wp2
        exact ⟨rfl, HFIN.out⟩
    · have i1 : ¬ (k : Int) < (m : Int) := by omega
      have HFIN := Lib.hid (show MustPost w (ns.all M.z) (.returned (.tuple #[])) wr from .inl ⟨by have := HALL.out; rwa [show k = ns.length by rw [HL.out]; omega, List.take_length] at this, rfl, S1.out⟩)
      go_wp2
      go_end0
      exact HFIN.out
set_option maxHeartbeats 4000000 in
set_option maxRecDepth 100000 in
theorem times_any (l : M.Let) (A : Option Addr) (n c : Nat) (B : Option Addr) (m d : Nat) (ns : List Int) (C : Option Addr) (p q : Nat) (is : List Int) (w : World) (hl : ns.length = m) (hB : IntsRd w B ns) (hm : m ≤ 1000000) (hl2 : is.length = p) (hC : IntsRd w C is) (hp : p ≤ 1000000) :
    Calls Tryz.prog 133 #[.agg #[B8 l.kind, .int .i64 l.src, .int .i64 l.dst, .int .i64 l.term, .int .i64 l.index, .int .i64 l.was, .bool l.ok, .int .i64 l.commit, .int .i64 l.version, .slice A n c], .slice B m d, .slice C p q] w (MustPost w (ns.all M.tm && is.all M.ix)) := by
  have HB := Lib.hid hB; have HL := Lib.hid hl; have HC := Lib.hid hC; have HL2 := Lib.hid hl2
  have S0 := Lib.hid (Since.alloc (Below.refl w.heap.size w) (.cells #[B8 l.kind, .int .i64 l.src, .int .i64 l.dst, .int .i64 l.term, .int .i64 l.index, .int .i64 l.was, .bool l.ok, .int .i64 l.commit, .int .i64 l.version, .slice A n c] 85))
  clear hB hl hC hl2
  go_enter Tryz.func133, Tryz.ntmps133
  go_wp2
  generalize w.alloc (.cells #[B8 l.kind, .int .i64 l.src, .int .i64 l.dst, .int .i64 l.term, .int .i64 l.index, .int .i64 l.was, .bool l.ok, .int .i64 l.commit, .int .i64 l.version, .slice A n c] 85) = w1 at *
  go_loopw [12] (fun i wr => ∃ k : Nat, k ≤ m ∧ i = .int .i64 (k : Int) ∧ (ns.take k).all M.tm = true ∧ Since w wr) (fun i _ => m - (intOf i).toNat)
  case atStart => exact ⟨0, by omega, rfl, rfl, S0.out⟩
  case round =>
    clear S0
    obtain ⟨k, hk, rfl, hall, hs⟩ := hrel
    have HALL := Lib.hid hall; have S1 := Lib.hid hs
    clear hall hs
    have k0 : (0 : Int) ≤ (k : Int) := by omega
    by_cases hkn : k < m
    · have i1 : (k : Int) < (m : Int) := by omega
      have hkl : k < ns.length := by rw [HL.out]; exact hkn
      obtain ⟨b, o, rfl, hc⟩ := HB.out.since S1.out k hkl
      obtain ⟨x, hx⟩ : ∃ x, x = ns[k] := ⟨_, rfl⟩
      rw [← hx] at hc
      have HX := Lib.hid hx
      clear hx
      go_wp2_with fail
      refine (within_any x 0 1099511627776 wr).mono ?_
      rintro e w2 (⟨h, rfl, hs⟩ | ⟨h, rfl, hs⟩)
      · have H := Lib.hid (show M.tm ns[k] = true by rw [← HX.out]; exact h)
        have S2 := Lib.hid (S1.out.add hs)
        clear h hs hc
        go_wp2
        go_roundw
        case rel => exact ⟨k + 1, by omega, by go_num, take_all hkl HALL.out H.out, S2.out⟩
        case measure => simp [intOf]; omega
      · have HFIN := Lib.hid (show MustPost w (ns.all M.tm && is.all M.ix) (.panicked wrongP) w2 from .inr ⟨by rw [all_false hkl (by rw [← HX.out]; exact h : M.tm ns[k] = false)]; rfl, rfl, S1.out.add hs⟩)
        clear h hs hc
        go_wp2
        exact ⟨rfl, HFIN.out⟩
    · have i1 : ¬ (k : Int) < (m : Int) := by omega
      have HA1 := Lib.hid (show ns.all M.tm = true by have := HALL.out; rwa [show k = ns.length by rw [HL.out]; omega, List.take_length] at this)
      clear HALL
      go_wp2
      go_loopw [21] (fun i wr => ∃ k : Nat, k ≤ p ∧ i = .int .i64 (k : Int) ∧ (is.take k).all M.ix = true ∧ Since w wr) (fun i _ => p - (intOf i).toNat)
      case atStart => exact ⟨0, by omega, rfl, rfl, S1.out⟩
      case round =>
        clear S1
        obtain ⟨k, hk, rfl, hall, hs⟩ := hrel
        have HALL := Lib.hid hall; have S1 := Lib.hid hs
        clear hall hs
        have k0 : (0 : Int) ≤ (k : Int) := by omega
        by_cases hkn : k < p
        · have i1 : (k : Int) < (p : Int) := by omega
          have hkl : k < is.length := by rw [HL2.out]; exact hkn
          obtain ⟨b, o, rfl, hc⟩ := HC.out.since S1.out k hkl
          obtain ⟨x, hx⟩ : ∃ x, x = is[k] := ⟨_, rfl⟩
          rw [← hx] at hc
          have HX := Lib.hid hx
          clear hx
          go_wp2_with fail
          refine (within_any x 0 1073741824 _).mono ?_
          rintro e w2 (⟨h, rfl, hs⟩ | ⟨h, rfl, hs⟩)
          · have H := Lib.hid (show M.ix is[k] = true by rw [← HX.out]; exact h)
            have S2 := Lib.hid (S1.out.add hs)
            clear h hs hc
            go_wp2
            go_roundw
            case rel => exact ⟨k + 1, by omega, by go_num, take_all hkl HALL.out H.out, S2.out⟩
            case measure => simp [intOf]; omega
          · have HFIN := Lib.hid (show MustPost w (ns.all M.tm && is.all M.ix) (.panicked wrongP) w2 from .inr ⟨by rw [all_false hkl (by rw [← HX.out]; exact h : M.ix is[k] = false), Bool.and_false], rfl, S1.out.add hs⟩)
            clear h hs hc
            go_wp2
            exact ⟨rfl, HFIN.out⟩
        · have i1 : ¬ (k : Int) < (p : Int) := by omega
          have HFIN := Lib.hid (show ∀ w', Since w w' → MustPost w (ns.all M.tm && is.all M.ix) (.returned (.tuple #[])) w' from fun w' hw => .inl ⟨by rw [HA1.out]; have := HALL.out; rwa [show k = is.length by rw [HL2.out]; omega, List.take_length] at this, rfl, hw⟩)
          go_wp2
          go_end0
          exact HFIN.out _ S1.out

set_option maxHeartbeats 4000000 in
set_option maxRecDepth 100000 in
theorem ask_any (l : M.Let) (A : Option Addr) (n c : Nat) (w : World) (hn : l.ents.length = n) (hn2 : n ≤ 9223372036854775807) :
    Calls Tryz.prog 115 #[.agg #[B8 l.kind, .int .i64 l.src, .int .i64 l.dst, .int .i64 l.term, .int .i64 l.index, .int .i64 l.was, .bool l.ok, .int .i64 l.commit, .int .i64 l.version, .slice A n c]] w (MustPost w (M.lask l)) := by
  have e0 : M.lask l = ([!l.ok].all id && [l.commit, l.version, (n : Int)].all M.z && ([l.term, l.was].all M.tm && [l.index].all M.ix)) := by subst hn; rfl
  have E := Lib.hid e0
  have BK0 := Lib.hid ((Bank.nil (Below.refl w.heap.size w)).box #[B8 l.kind, .int .i64 l.src, .int .i64 l.dst, .int .i64 l.term, .int .i64 l.index, .int .i64 l.was, .bool l.ok, .int .i64 l.commit, .int .i64 l.version, .slice A n c] 85 (by simp))
  clear hn e0
  go_enter Tryz.func115, Tryz.ntmps115
  go_wp2_with fail
  generalize hw1 : w.alloc (.cells #[B8 l.kind, .int .i64 l.src, .int .i64 l.dst, .int .i64 l.term, .int .i64 l.index, .int .i64 l.was, .bool l.ok, .int .i64 l.commit, .int .i64 l.version, .slice A n c] 85) = w1 at *
  have hX : w1.heap.size = w.heap.size + 1 := by rw [← hw1, World.size_alloc]
  clear hw1
  refine (must_lit (w.heap.size + 1) [!l.ok] 1 1 _ _ w1 hX rfl rfl (by omega)).mono ?_
  rintro e w2 (⟨h1, rfl, hs⟩ | ⟨h1, rfl, hs⟩)
  rotate_left
  · have HF := Lib.hid (show MustPost w (M.lask l) (.panicked wrongP) w2 from .inr ⟨by rw [E.out, h1]; simp only [Bool.and_false, Bool.false_and, Bool.and_self], rfl, (BK0.out.call (hs)).since⟩)
    clear h1 hs
    go_wp2
    exact ⟨rfl, HF.out⟩
  have H1 := Lib.hid h1
  have BK1 := Lib.hid (BK0.out.call (hs))
  clear h1 hs BK0
  have x0 := BK1.out.cell 0 rfl 0 rfl
  have x1 := BK1.out.cell 0 rfl 1 rfl
  have x2 := BK1.out.cell 0 rfl 2 rfl
  have x3 := BK1.out.cell 0 rfl 3 rfl
  have x4 := BK1.out.cell 0 rfl 4 rfl
  have x5 := BK1.out.cell 0 rfl 5 rfl
  have x6 := BK1.out.cell 0 rfl 6 rfl
  have x7 := BK1.out.cell 0 rfl 7 rfl
  have x8 := BK1.out.cell 0 rfl 8 rfl
  have x9 := BK1.out.cell 0 rfl 9 rfl
  go_wp2_with fail
  refine ((bare_any l A n c (some ⟨w2.heap.size, 0, none⟩) 3 3 [l.commit, l.version, (n : Int)] _ rfl (ints_lit w2.heap.size w2 _ _ _ rfl rfl) (by omega)).mono fun e w' h => h.from (Since.alloc (Below.refl _ _) _)).mono ?_
  rintro e w3 (⟨h2, rfl, hs⟩ | ⟨h2, rfl, hs⟩)
  rotate_left
  · have HF := Lib.hid (show MustPost w (M.lask l) (.panicked wrongP) w3 from .inr ⟨by rw [E.out, H1.out, h2]; simp only [Bool.and_false, Bool.false_and, Bool.and_self], rfl, (BK1.out.call (hs)).since⟩)
    clear h2 hs
    go_wp2
    exact ⟨rfl, HF.out⟩
  have H2 := Lib.hid h2
  have BK2 := Lib.hid (BK1.out.call (hs))
  clear h2 hs BK1
  clear x0
  clear x1
  clear x2
  clear x3
  clear x4
  clear x5
  clear x6
  clear x7
  clear x8
  clear x9
  have x0 := BK2.out.cell 0 rfl 0 rfl
  have x1 := BK2.out.cell 0 rfl 1 rfl
  have x2 := BK2.out.cell 0 rfl 2 rfl
  have x3 := BK2.out.cell 0 rfl 3 rfl
  have x4 := BK2.out.cell 0 rfl 4 rfl
  have x5 := BK2.out.cell 0 rfl 5 rfl
  have x6 := BK2.out.cell 0 rfl 6 rfl
  have x7 := BK2.out.cell 0 rfl 7 rfl
  have x8 := BK2.out.cell 0 rfl 8 rfl
  have x9 := BK2.out.cell 0 rfl 9 rfl
  have q1 : w.heap.size < w3.heap.size := block_lt_of_cell x0
  have q2 := Nat.ne_of_lt q1
  have q3 := Ne.symm q2
  go_wp2_with fail
  refine ((times_any l A n c (some ⟨w3.heap.size, 0, none⟩) 2 2 [l.term, l.was] (some ⟨w3.heap.size + 1, 0, none⟩) 1 1 [l.index] _ rfl ((ints_lit w3.heap.size w3 _ _ _ rfl rfl).since (Since.alloc (Below.refl _ _) _)) (by omega) rfl (ints_lit (w3.heap.size + 1) _ _ _ _ (by rw [World.size_alloc]) rfl) (by omega)).mono fun e w' h => h.from (Since.alloc (Since.alloc (Below.refl _ _) _) _)).mono ?_
  rintro e w4 (⟨h3, rfl, hs⟩ | ⟨h3, rfl, hs⟩)
  rotate_left
  · have HF := Lib.hid (show MustPost w (M.lask l) (.panicked wrongP) w4 from .inr ⟨by rw [E.out, H1.out, H2.out, h3]; simp only [Bool.and_false, Bool.false_and, Bool.and_self], rfl, (BK2.out.call (hs)).since⟩)
    clear h3 hs
    go_wp2
    exact ⟨rfl, HF.out⟩
  have H3 := Lib.hid h3
  have BK3 := Lib.hid (BK2.out.call (hs))
  clear h3 hs BK2
  have HF := Lib.hid (show MustPost w (M.lask l) (.returned (.tuple #[])) w4 from .inl ⟨by rw [E.out, H1.out, H2.out, H3.out]; rfl, rfl, BK3.out.since⟩)
  go_wp2
  go_end0
  exact HF.out

set_option maxHeartbeats 4000000 in
set_option maxRecDepth 100000 in
theorem vote_any (l : M.Let) (A : Option Addr) (n c : Nat) (w : World) (hn : l.ents.length = n) (hn2 : n ≤ 9223372036854775807) :
    Calls Tryz.prog 116 #[.agg #[B8 l.kind, .int .i64 l.src, .int .i64 l.dst, .int .i64 l.term, .int .i64 l.index, .int .i64 l.was, .bool l.ok, .int .i64 l.commit, .int .i64 l.version, .slice A n c]] w (MustPost w (M.lvote l)) := by
  have e0 : M.lvote l = ([l.index, l.was, l.commit, l.version, (n : Int)].all M.z && ([l.term].all M.tm && [].all M.ix)) := by subst hn; rfl
  have E := Lib.hid e0
  have BK0 := Lib.hid ((Bank.nil (Below.refl w.heap.size w)).box #[B8 l.kind, .int .i64 l.src, .int .i64 l.dst, .int .i64 l.term, .int .i64 l.index, .int .i64 l.was, .bool l.ok, .int .i64 l.commit, .int .i64 l.version, .slice A n c] 85 (by simp))
  clear hn e0
  go_enter Tryz.func116, Tryz.ntmps116
  go_wp2_with fail
  generalize hw1 : w.alloc (.cells #[B8 l.kind, .int .i64 l.src, .int .i64 l.dst, .int .i64 l.term, .int .i64 l.index, .int .i64 l.was, .bool l.ok, .int .i64 l.commit, .int .i64 l.version, .slice A n c] 85) = w1 at *
  have hX : w1.heap.size = w.heap.size + 1 := by rw [← hw1, World.size_alloc]
  clear hw1
  refine ((bare_any l A n c (some ⟨w.heap.size + 1, 0, none⟩) 5 5 [l.index, l.was, l.commit, l.version, (n : Int)] _ rfl (ints_lit (w.heap.size + 1) w1 _ _ _ hX rfl) (by omega)).mono fun e w' h => h.from (Since.alloc (Below.refl _ _) _)).mono ?_
  rintro e w2 (⟨h1, rfl, hs⟩ | ⟨h1, rfl, hs⟩)
  rotate_left
  · have HF := Lib.hid (show MustPost w (M.lvote l) (.panicked wrongP) w2 from .inr ⟨by rw [E.out, h1]; simp only [Bool.and_false, Bool.false_and, Bool.and_self], rfl, (BK0.out.call (hs)).since⟩)
    clear h1 hs
    go_wp2
    exact ⟨rfl, HF.out⟩
  have H1 := Lib.hid h1
  have BK1 := Lib.hid (BK0.out.call (hs))
  clear h1 hs BK0
  have x0 := BK1.out.cell 0 rfl 0 rfl
  have x1 := BK1.out.cell 0 rfl 1 rfl
  have x2 := BK1.out.cell 0 rfl 2 rfl
  have x3 := BK1.out.cell 0 rfl 3 rfl
  have x4 := BK1.out.cell 0 rfl 4 rfl
  have x5 := BK1.out.cell 0 rfl 5 rfl
  have x6 := BK1.out.cell 0 rfl 6 rfl
  have x7 := BK1.out.cell 0 rfl 7 rfl
  have x8 := BK1.out.cell 0 rfl 8 rfl
  have x9 := BK1.out.cell 0 rfl 9 rfl
  go_wp2_with fail
  refine ((times_any l A n c (some ⟨w2.heap.size, 0, none⟩) 1 1 [l.term] none 0 0 [] _ rfl (ints_lit w2.heap.size w2 _ _ _ rfl rfl) (by omega) rfl (IntsRd.nil _ _) (by omega)).mono fun e w' h => h.from (Since.alloc (Below.refl _ _) _)).mono ?_
  rintro e w3 (⟨h2, rfl, hs⟩ | ⟨h2, rfl, hs⟩)
  rotate_left
  · have HF := Lib.hid (show MustPost w (M.lvote l) (.panicked wrongP) w3 from .inr ⟨by rw [E.out, H1.out, h2]; simp only [Bool.and_false, Bool.false_and, Bool.and_self], rfl, (BK1.out.call (hs)).since⟩)
    clear h2 hs
    go_wp2
    exact ⟨rfl, HF.out⟩
  have H2 := Lib.hid h2
  have BK2 := Lib.hid (BK1.out.call (hs))
  clear h2 hs BK1
  have HF := Lib.hid (show MustPost w (M.lvote l) (.returned (.tuple #[])) w3 from .inl ⟨by rw [E.out, H1.out, H2.out]; rfl, rfl, BK2.out.since⟩)
  go_wp2
  go_end0
  exact HF.out

set_option maxHeartbeats 4000000 in
set_option maxRecDepth 100000 in
theorem done_any (l : M.Let) (A : Option Addr) (n c : Nat) (w : World) (hn : l.ents.length = n) (hn2 : n ≤ 9223372036854775807) :
    Calls Tryz.prog 118 #[.agg #[B8 l.kind, .int .i64 l.src, .int .i64 l.dst, .int .i64 l.term, .int .i64 l.index, .int .i64 l.was, .bool l.ok, .int .i64 l.commit, .int .i64 l.version, .slice A n c]] w (MustPost w (M.ldone l)) := by
  have e0 : M.ldone l = ([l.was, l.commit, l.version, (n : Int)].all M.z && ([l.term].all M.tm && [l.index].all M.ix)) := by subst hn; rfl
  have E := Lib.hid e0
  have BK0 := Lib.hid ((Bank.nil (Below.refl w.heap.size w)).box #[B8 l.kind, .int .i64 l.src, .int .i64 l.dst, .int .i64 l.term, .int .i64 l.index, .int .i64 l.was, .bool l.ok, .int .i64 l.commit, .int .i64 l.version, .slice A n c] 85 (by simp))
  clear hn e0
  go_enter Tryz.func118, Tryz.ntmps118
  go_wp2_with fail
  generalize hw1 : w.alloc (.cells #[B8 l.kind, .int .i64 l.src, .int .i64 l.dst, .int .i64 l.term, .int .i64 l.index, .int .i64 l.was, .bool l.ok, .int .i64 l.commit, .int .i64 l.version, .slice A n c] 85) = w1 at *
  have hX : w1.heap.size = w.heap.size + 1 := by rw [← hw1, World.size_alloc]
  clear hw1
  refine ((bare_any l A n c (some ⟨w.heap.size + 1, 0, none⟩) 4 4 [l.was, l.commit, l.version, (n : Int)] _ rfl (ints_lit (w.heap.size + 1) w1 _ _ _ hX rfl) (by omega)).mono fun e w' h => h.from (Since.alloc (Below.refl _ _) _)).mono ?_
  rintro e w2 (⟨h1, rfl, hs⟩ | ⟨h1, rfl, hs⟩)
  rotate_left
  · have HF := Lib.hid (show MustPost w (M.ldone l) (.panicked wrongP) w2 from .inr ⟨by rw [E.out, h1]; simp only [Bool.and_false, Bool.false_and, Bool.and_self], rfl, (BK0.out.call (hs)).since⟩)
    clear h1 hs
    go_wp2
    exact ⟨rfl, HF.out⟩
  have H1 := Lib.hid h1
  have BK1 := Lib.hid (BK0.out.call (hs))
  clear h1 hs BK0
  have x0 := BK1.out.cell 0 rfl 0 rfl
  have x1 := BK1.out.cell 0 rfl 1 rfl
  have x2 := BK1.out.cell 0 rfl 2 rfl
  have x3 := BK1.out.cell 0 rfl 3 rfl
  have x4 := BK1.out.cell 0 rfl 4 rfl
  have x5 := BK1.out.cell 0 rfl 5 rfl
  have x6 := BK1.out.cell 0 rfl 6 rfl
  have x7 := BK1.out.cell 0 rfl 7 rfl
  have x8 := BK1.out.cell 0 rfl 8 rfl
  have x9 := BK1.out.cell 0 rfl 9 rfl
  have q1 : w.heap.size < w2.heap.size := block_lt_of_cell x0
  have q2 := Nat.ne_of_lt q1
  have q3 := Ne.symm q2
  go_wp2_with fail
  refine ((times_any l A n c (some ⟨w2.heap.size, 0, none⟩) 1 1 [l.term] (some ⟨w2.heap.size + 1, 0, none⟩) 1 1 [l.index] _ rfl ((ints_lit w2.heap.size w2 _ _ _ rfl rfl).since (Since.alloc (Below.refl _ _) _)) (by omega) rfl (ints_lit (w2.heap.size + 1) _ _ _ _ (by rw [World.size_alloc]) rfl) (by omega)).mono fun e w' h => h.from (Since.alloc (Since.alloc (Below.refl _ _) _) _)).mono ?_
  rintro e w3 (⟨h2, rfl, hs⟩ | ⟨h2, rfl, hs⟩)
  rotate_left
  · have HF := Lib.hid (show MustPost w (M.ldone l) (.panicked wrongP) w3 from .inr ⟨by rw [E.out, H1.out, h2]; simp only [Bool.and_false, Bool.false_and, Bool.and_self], rfl, (BK1.out.call (hs)).since⟩)
    clear h2 hs
    go_wp2
    exact ⟨rfl, HF.out⟩
  have H2 := Lib.hid h2
  have BK2 := Lib.hid (BK1.out.call (hs))
  clear h2 hs BK1
  have HF := Lib.hid (show MustPost w (M.ldone l) (.returned (.tuple #[])) w3 from .inl ⟨by rw [E.out, H1.out, H2.out]; rfl, rfl, BK2.out.since⟩)
  go_wp2
  go_end0
  exact HF.out

set_option maxHeartbeats 4000000 in
set_option maxRecDepth 100000 in
theorem ack_any (l : M.Let) (A : Option Addr) (n c : Nat) (w : World) (hn : l.ents.length = n) (hn2 : n ≤ 9223372036854775807) :
    Calls Tryz.prog 119 #[.agg #[B8 l.kind, .int .i64 l.src, .int .i64 l.dst, .int .i64 l.term, .int .i64 l.index, .int .i64 l.was, .bool l.ok, .int .i64 l.commit, .int .i64 l.version, .slice A n c]] w (MustPost w (M.lack l)) := by
  have e0 : M.lack l = ([l.term, l.index, l.was, l.commit, (n : Int)].all M.z && M.wi l.version 1 1073741824) := by subst hn; rfl
  have E := Lib.hid e0
  have BK0 := Lib.hid ((Bank.nil (Below.refl w.heap.size w)).box #[B8 l.kind, .int .i64 l.src, .int .i64 l.dst, .int .i64 l.term, .int .i64 l.index, .int .i64 l.was, .bool l.ok, .int .i64 l.commit, .int .i64 l.version, .slice A n c] 85 (by simp))
  clear hn e0
  go_enter Tryz.func119, Tryz.ntmps119
  go_wp2_with fail
  generalize hw1 : w.alloc (.cells #[B8 l.kind, .int .i64 l.src, .int .i64 l.dst, .int .i64 l.term, .int .i64 l.index, .int .i64 l.was, .bool l.ok, .int .i64 l.commit, .int .i64 l.version, .slice A n c] 85) = w1 at *
  have hX : w1.heap.size = w.heap.size + 1 := by rw [← hw1, World.size_alloc]
  clear hw1
  refine ((bare_any l A n c (some ⟨w.heap.size + 1, 0, none⟩) 5 5 [l.term, l.index, l.was, l.commit, (n : Int)] _ rfl (ints_lit (w.heap.size + 1) w1 _ _ _ hX rfl) (by omega)).mono fun e w' h => h.from (Since.alloc (Below.refl _ _) _)).mono ?_
  rintro e w2 (⟨h1, rfl, hs⟩ | ⟨h1, rfl, hs⟩)
  rotate_left
  · have HF := Lib.hid (show MustPost w (M.lack l) (.panicked wrongP) w2 from .inr ⟨by rw [E.out, h1]; simp only [Bool.and_false, Bool.false_and, Bool.and_self], rfl, (BK0.out.call (hs)).since⟩)
    clear h1 hs
    go_wp2
    exact ⟨rfl, HF.out⟩
  have H1 := Lib.hid h1
  have BK1 := Lib.hid (BK0.out.call (hs))
  clear h1 hs BK0
  have x0 := BK1.out.cell 0 rfl 0 rfl
  have x1 := BK1.out.cell 0 rfl 1 rfl
  have x2 := BK1.out.cell 0 rfl 2 rfl
  have x3 := BK1.out.cell 0 rfl 3 rfl
  have x4 := BK1.out.cell 0 rfl 4 rfl
  have x5 := BK1.out.cell 0 rfl 5 rfl
  have x6 := BK1.out.cell 0 rfl 6 rfl
  have x7 := BK1.out.cell 0 rfl 7 rfl
  have x8 := BK1.out.cell 0 rfl 8 rfl
  have x9 := BK1.out.cell 0 rfl 9 rfl
  go_wp2_with fail
  refine (within_any l.version 1 1073741824 w2).mono ?_
  rintro e w3 (⟨h2, rfl, hs⟩ | ⟨h2, rfl, hs⟩)
  rotate_left
  · have HF := Lib.hid (show MustPost w (M.lack l) (.panicked wrongP) w3 from .inr ⟨by rw [E.out, H1.out, h2]; simp only [Bool.and_false, Bool.false_and, Bool.and_self], rfl, (BK1.out.call (hs)).since⟩)
    clear h2 hs
    go_wp2
    exact ⟨rfl, HF.out⟩
  have H2 := Lib.hid h2
  have BK2 := Lib.hid (BK1.out.call (hs))
  clear h2 hs BK1
  have HF := Lib.hid (show MustPost w (M.lack l) (.returned (.tuple #[])) w3 from .inl ⟨by rw [E.out, H1.out, H2.out]; rfl, rfl, BK2.out.since⟩)
  go_wp2
  go_end0
  exact HF.out

set_option maxHeartbeats 8000000 in
set_option maxRecDepth 100000 in
theorem puts_any (l : M.Let) (A : Option Addr) (n c : Nat) (w : World) (hn : l.ents.length = n) (hn2 : n ≤ 9223372036854775807) (hE : EntsRd w A l.ents) :
    Calls Tryz.prog 117 #[.agg #[B8 l.kind, .int .i64 l.src, .int .i64 l.dst, .int .i64 l.term, .int .i64 l.index, .int .i64 l.was, .bool l.ok, .int .i64 l.commit, .int .i64 l.version, .slice A n c]] w (MustPost w (M.lputs l)) := by
  have e0 : M.lputs l = ([!l.ok, decide ((n : Int) ≤ 4)].all id && [l.version].all M.z && ([l.term, l.was].all M.tm && [l.index, l.commit].all M.ix) && l.ents.all fun e => M.tm e.term) := by subst hn; rfl
  have E := Lib.hid e0; have HE := Lib.hid hE; have HN := Lib.hid hn
  have BK0 := Lib.hid ((Bank.nil (Below.refl w.heap.size w)).box #[B8 l.kind, .int .i64 l.src, .int .i64 l.dst, .int .i64 l.term, .int .i64 l.index, .int .i64 l.was, .bool l.ok, .int .i64 l.commit, .int .i64 l.version, .slice A n c] 85 (by simp))
  clear hn e0 hE
  go_enter Tryz.func117, Tryz.ntmps117
  go_wp2_with fail
  generalize hw1 : w.alloc (.cells #[B8 l.kind, .int .i64 l.src, .int .i64 l.dst, .int .i64 l.term, .int .i64 l.index, .int .i64 l.was, .bool l.ok, .int .i64 l.commit, .int .i64 l.version, .slice A n c] 85) = w1 at *
  have hX : w1.heap.size = w.heap.size + 1 := by rw [← hw1, World.size_alloc]
  clear hw1
  refine (must_lit (w.heap.size + 1) [!l.ok, decide ((n : Int) ≤ 4)] 2 2 _ _ w1 hX rfl rfl (by omega)).mono ?_
  rintro e w2 (⟨h1, rfl, hs⟩ | ⟨h1, rfl, hs⟩)
  rotate_left
  · have HF := Lib.hid (show MustPost w (M.lputs l) (.panicked wrongP) w2 from .inr ⟨by rw [E.out, h1]; simp only [Bool.and_false, Bool.false_and, Bool.and_self], rfl, (BK0.out.call (hs)).since⟩)
    clear h1 hs
    go_wp2
    exact ⟨rfl, HF.out⟩
  have H1 := Lib.hid h1
  have BK1 := Lib.hid (BK0.out.call (hs))
  clear h1 hs BK0
  have x0 := BK1.out.cell 0 rfl 0 rfl
  have x1 := BK1.out.cell 0 rfl 1 rfl
  have x2 := BK1.out.cell 0 rfl 2 rfl
  have x3 := BK1.out.cell 0 rfl 3 rfl
  have x4 := BK1.out.cell 0 rfl 4 rfl
  have x5 := BK1.out.cell 0 rfl 5 rfl
  have x6 := BK1.out.cell 0 rfl 6 rfl
  have x7 := BK1.out.cell 0 rfl 7 rfl
  have x8 := BK1.out.cell 0 rfl 8 rfl
  have x9 := BK1.out.cell 0 rfl 9 rfl
  go_wp2_with fail
  refine ((bare_any l A n c (some ⟨w2.heap.size, 0, none⟩) 1 1 [l.version] _ rfl (ints_lit w2.heap.size w2 _ _ _ rfl rfl) (by omega)).mono fun e w' h => h.from (Since.alloc (Below.refl _ _) _)).mono ?_
  rintro e w3 (⟨h2, rfl, hs⟩ | ⟨h2, rfl, hs⟩)
  rotate_left
  · have HF := Lib.hid (show MustPost w (M.lputs l) (.panicked wrongP) w3 from .inr ⟨by rw [E.out, H1.out, h2]; simp only [Bool.and_false, Bool.false_and, Bool.and_self], rfl, (BK1.out.call (hs)).since⟩)
    clear h2 hs
    go_wp2
    exact ⟨rfl, HF.out⟩
  have H2 := Lib.hid h2
  have BK2 := Lib.hid (BK1.out.call (hs))
  clear h2 hs BK1
  clear x0
  clear x1
  clear x2
  clear x3
  clear x4
  clear x5
  clear x6
  clear x7
  clear x8
  clear x9
  have x0 := BK2.out.cell 0 rfl 0 rfl
  have x1 := BK2.out.cell 0 rfl 1 rfl
  have x2 := BK2.out.cell 0 rfl 2 rfl
  have x3 := BK2.out.cell 0 rfl 3 rfl
  have x4 := BK2.out.cell 0 rfl 4 rfl
  have x5 := BK2.out.cell 0 rfl 5 rfl
  have x6 := BK2.out.cell 0 rfl 6 rfl
  have x7 := BK2.out.cell 0 rfl 7 rfl
  have x8 := BK2.out.cell 0 rfl 8 rfl
  have x9 := BK2.out.cell 0 rfl 9 rfl
  have q1 : w.heap.size < w3.heap.size := block_lt_of_cell x0
  have q2 := Nat.ne_of_lt q1
  have q3 := Ne.symm q2
  go_wp2_with fail
  refine ((times_any l A n c (some ⟨w3.heap.size, 0, none⟩) 2 2 [l.term, l.was] (some ⟨w3.heap.size + 1, 0, none⟩) 2 2 [l.index, l.commit] _ rfl ((ints_lit w3.heap.size w3 _ _ _ rfl rfl).since (Since.alloc (Below.refl _ _) _)) (by omega) rfl (ints_lit (w3.heap.size + 1) _ _ _ _ (by rw [World.size_alloc]) rfl) (by omega)).mono fun e w' h => h.from (Since.alloc (Since.alloc (Below.refl _ _) _) _)).mono ?_
  rintro e w4 (⟨h3, rfl, hs⟩ | ⟨h3, rfl, hs⟩)
  rotate_left
  · have HF := Lib.hid (show MustPost w (M.lputs l) (.panicked wrongP) w4 from .inr ⟨by rw [E.out, H1.out, H2.out, h3]; simp only [Bool.and_false, Bool.false_and, Bool.and_self], rfl, (BK2.out.call (hs)).since⟩)
    clear h3 hs
    go_wp2
    exact ⟨rfl, HF.out⟩
  have H3 := Lib.hid h3
  have BK3 := Lib.hid (BK2.out.call (hs))
  clear h3 hs BK2
  clear x0
  clear x1
  clear x2
  clear x3
  clear x4
  clear x5
  clear x6
  clear x7
  clear x8
  clear x9
  have x9 := BK3.out.cell 0 rfl 9 rfl
  go_wp2_with fail
  clear x9
  go_loopw [41] (fun i wr => ∃ k : Nat, k ≤ n ∧ i = .int .i64 (k : Int) ∧ (l.ents.take k).all (fun e => M.tm e.term) = true ∧ Bank w wr [boxAcc w.heap.size 85 #[B8 l.kind, .int .i64 l.src, .int .i64 l.dst, .int .i64 l.term, .int .i64 l.index, .int .i64 l.was, .bool l.ok, .int .i64 l.commit, .int .i64 l.version, .slice A n c].toList]) (fun i _ => n - (intOf i).toNat)
  case atStart => exact ⟨0, by omega, rfl, rfl, BK3.out⟩
  case round =>
    clear BK3
    obtain ⟨k, hk, rfl, hall, hB⟩ := hrel
    have HALL := Lib.hid hall; have BK := Lib.hid hB
    clear hall hB
    have k0 : (0 : Int) ≤ (k : Int) := by omega
    by_cases hkn : k < n
    · have i1 : (k : Int) < (n : Int) := by omega
      have hkl : k < l.ents.length := by rw [HN.out]; exact hkn
      obtain ⟨b, o, rfl, A', m', c', ⟨y0, y1, y2, y3, y4, y5⟩, hrd⟩ := HE.out.since BK.out.since k hkl
      clear hrd
      obtain ⟨x, hx⟩ : ∃ x, x = l.ents[k] := ⟨_, rfl⟩
      rw [← hx] at y0 y1 y2 y3 y4
      have HX := Lib.hid hx
      clear hx
      have x0 := BK.out.cell 0 rfl 0 rfl
      have x1 := BK.out.cell 0 rfl 1 rfl
      have x2 := BK.out.cell 0 rfl 2 rfl
      have x3 := BK.out.cell 0 rfl 3 rfl
      have x4 := BK.out.cell 0 rfl 4 rfl
      have x5 := BK.out.cell 0 rfl 5 rfl
      have x6 := BK.out.cell 0 rfl 6 rfl
      have x7 := BK.out.cell 0 rfl 7 rfl
      have x8 := BK.out.cell 0 rfl 8 rfl
      have x9 := BK.out.cell 0 rfl 9 rfl
      have q1 : w.heap.size < wr.heap.size := block_lt_of_cell x0
      have q2 := Nat.ne_of_lt q1
      have q3 := Ne.symm q2
      go_wp2_with fail
      clear x0 x1 x2 x3 x4 x5 x6 x7 x8 x9 y0 y1 y2 y3 y4 y5 q1 q2 q3
      have BK1 := Lib.hid (BK.out.alloc (.cells #[.int .i64 x.term, B8 x.kind, .int .i64 x.version, .int .i64 x.server, .bool x.good, .slice A' m' c'] 42))
      refine ((times_any l (some ⟨b, o, none⟩) n c (some ⟨wr.heap.size + 1, 0, none⟩) 1 1 [x.term] none 0 0 [] _ rfl (ints_lit (wr.heap.size + 1) (wr.alloc (.cells #[.int .i64 x.term, B8 x.kind, .int .i64 x.version, .int .i64 x.server, .bool x.good, .slice A' m' c'] 42)) _ _ _ (by rw [World.size_alloc]) rfl) (by omega) rfl (IntsRd.nil _ _) (by omega)).mono fun e w' h => h.from (Since.alloc (Below.refl _ _) _)).mono ?_
      rintro e w5 (⟨h, rfl, hs⟩ | ⟨h, rfl, hs⟩)
      · have H := Lib.hid (show M.tm l.ents[k].term = true by rw [← HX.out]; simpa using h)
        have BK2 := Lib.hid (BK1.out.call hs)
        clear h hs BK1
        go_wp2
        go_roundw
        case rel => exact ⟨k + 1, by omega, by go_num, take_all hkl HALL.out H.out, BK2.out⟩
        case measure => simp [intOf]; omega
      · have HF := Lib.hid (show MustPost w (M.lputs l) (.panicked wrongP) w5 from .inr ⟨by rw [E.out, all_false (p := fun e : M.Ent => M.tm e.term) hkl (by show M.tm l.ents[k].term = false; rw [← HX.out]; simpa using h), Bool.and_false], rfl, (BK1.out.call hs).since⟩)
        clear h hs
        go_wp2
        exact ⟨rfl, HF.out⟩
    · have i1 : ¬ (k : Int) < (n : Int) := by omega
      have HF := Lib.hid (show MustPost w (M.lputs l) (.returned (.tuple #[])) wr from .inl ⟨by have := HALL.out; rw [show k = l.ents.length by rw [HN.out]; omega, List.take_length] at this; rw [E.out, H1.out, H2.out, H3.out, this]; rfl, rfl, BK.out.since⟩)
      go_wp2
      go_end0
      exact HF.out

end Go.Proofs.YtdmpphioflcofaaGreat.K

/- The contracts of letter's kinds and check. -/
namespace Go.Proofs.YtdmpphioflcofaaGreat.K
open Go Go.RowKit Go.Maps

theorem setBlock_alloc (w : World) (o o' : Obj) : Go.ChangeMaps.setBlock (w.alloc o) w.heap.size o' = w.alloc o' := by
  have h : (w.heap.push o).setIfInBounds w.heap.size o' = w.heap.push o' := by
    apply Array.toList_inj.1
    rw [Array.toList_setIfInBounds, Array.toList_push, Array.toList_push, List.set_append_right _ _ (by simp)]
    simp
  exact congrArg (fun x => ({ w with heap := x } : World)) h
theorem put_map {P : Program} {t k e : TypeId} (ht : P.underlying t = some (.map k e)) (hk : P.underlying k = some (.int .u8)) (w : World) (es : Array MapEntry) (c : Nat) (n : Int) (v : Value) (hn : (Lit.int .u8 n).wf = true) (hf : Instr.findNow (.int .u8) (.int .u8 n) es.toList 0 = some none) :
    (Instr.mapUpdate t (.map (some w.heap.size)) (.int .u8 n) v).run P (w.alloc (.map es c)) = .ok () (w.alloc (.map (es.push { key := .int .u8 n, val := v, born := c }) (c + 1))) := by
  have hb := (MapKept.heap_alloc w (.map es c)).1
  simp [Instr.mapUpdate, run_underlying ht, MapKept.run_getObj_map hb, (int_keyed hk).check _ false (keyOf_int_mk hk hn), Instr.findKey, run_underlying hk, hf, MapKept.run_setObj_map _ hb, Result.andThen]
  exact setBlock_alloc _ _ _
theorem look_map {P : Program} {t k e : TypeId} (ht : P.underlying t = some (.map k e)) (hk : P.underlying k = some (.int .u8)) {w : World} {g : Nat} {es : Array MapEntry} {c : Nat} (hb : w.heap[g]? = some (.map es c)) (n : Int) (i : Nat) (v : Value) (hn : (Lit.int .u8 n).wf = true) (hf : Instr.findNow (.int .u8) (.int .u8 n) es.toList 0 = some (some (i, v))) :
    (Instr.lookup t (.map (some g)) (.int .u8 n) true).run P w = .ok (.tuple #[v, .bool true]) w := by
  simp [Instr.lookup, run_underlying ht, MapKept.run_getObj_map hb, (int_keyed hk).check _ _ (keyOf_int_mk hk hn), Instr.findKey, run_underlying hk, hf, Result.andThen]
theorem look_none {P : Program} {t k e : TypeId} (ht : P.underlying t = some (.map k e)) (hk : P.underlying k = some (.int .u8)) {w : World} {g : Nat} {es : Array MapEntry} {c : Nat} (hb : w.heap[g]? = some (.map es c)) (n : Int) (z : Value) (hz : (zeroValue e).run P w = .ok z w) (hn : (Lit.int .u8 n).wf = true) (hf : Instr.findNow (.int .u8) (.int .u8 n) es.toList 0 = some none) :
    (Instr.lookup t (.map (some g)) (.int .u8 n) true).run P w = .ok (.tuple #[z, .bool false]) w := by
  simp [Instr.lookup, run_underlying ht, MapKept.run_getObj_map hb, (int_keyed hk).check _ _ (keyOf_int_mk hk hn), Instr.findKey, run_underlying hk, hf, hz, Result.andThen]

def fnV (f : FuncId) : Value := .func (.func f) #[] #[]
def kindsEs : Array MapEntry := #[{ key := .int .u8 1, val := fnV 115, born := 0 }, { key := .int .u8 2, val := fnV 116, born := 1 }, { key := .int .u8 3, val := fnV 117, born := 2 }, { key := .int .u8 4, val := fnV 118, born := 3 }, { key := .int .u8 5, val := fnV 119, born := 4 }]
/-- the map of kinds -/
def KindsPost (w : World) (e : Ending) (w' : World) : Prop := ∃ g, e = .returned (.map (some g)) ∧ w'.heap[g]? = some (.map kindsEs 5) ∧ Since w w'
set_option maxHeartbeats 1000000 in
set_option maxRecDepth 100000 in
theorem kinds_any (w : World) : Calls Tryz.prog 81 #[] w (KindsPost w) := by
  have hmm := @run_makeMap Tryz.prog
  have ht := Tryz.underlying130
  have hk := Tryz.underlying25
  have h1 := put_map ht hk w #[] 0 1 (fnV 115) (by decide) rfl
  have h2 := put_map ht hk w #[{ key := .int .u8 1, val := fnV 115, born := 0 }] 1 2 (fnV 116) (by decide) rfl
  have h3 := put_map ht hk w #[{ key := .int .u8 1, val := fnV 115, born := 0 }, { key := .int .u8 2, val := fnV 116, born := 1 }] 2 3 (fnV 117) (by decide) rfl
  have h4 := put_map ht hk w #[{ key := .int .u8 1, val := fnV 115, born := 0 }, { key := .int .u8 2, val := fnV 116, born := 1 }, { key := .int .u8 3, val := fnV 117, born := 2 }] 3 4 (fnV 118) (by decide) rfl
  have h5 := put_map ht hk w #[{ key := .int .u8 1, val := fnV 115, born := 0 }, { key := .int .u8 2, val := fnV 116, born := 1 }, { key := .int .u8 3, val := fnV 117, born := 2 }, { key := .int .u8 4, val := fnV 118, born := 3 }] 4 5 (fnV 119) (by decide) rfl
  have HFIN := Lib.hid (show KindsPost w (.returned (.map (some w.heap.size))) (w.alloc (.map kindsEs 5)) from ⟨_, rfl, heap_alloc_new w _, Since.alloc (Below.refl _ _) _⟩)
  simp only [List.push_toArray, List.cons_append, List.nil_append, fnV, Nat.reduceAdd] at h1 h2 h3 h4 h5
  clear ht hk
  go_enter Tryz.func81, Tryz.ntmps81
  go_wp2
  go_ret
  exact HFIN.out
end Go.Proofs.YtdmpphioflcofaaGreat.K

/- The contract of letter's check. -/
namespace Go.Proofs.YtdmpphioflcofaaGreat.K
open Go Go.RowKit Go.Maps

/-- what the look-up tells: a check, or none -/
def LookedUp (x : BitVec 8) (v : Value) (ok : Bool) : Prop := ∀ (w : World) (g : Nat), w.heap[g]? = some (.map kindsEs 5) → (Instr.lookup 130 (.map (some g)) (B8 x) true).run Tryz.prog w = .ok (.tuple #[v, .bool ok]) w
set_option maxHeartbeats 8000000 in
set_option maxRecDepth 100000 in
theorem chk_any (l : M.Let) (A : Option Addr) (n c : Nat) (v : Value) (is ok : Bool) (w : World) (hv : LookedUp l.kind v is) (e0 : M.lright l = (is && M.wi l.src 1 7 && M.wi l.dst 1 7 && ok))
    (hf : is = true → ∃ f, (f = 115 ∨ f = 116 ∨ f = 117 ∨ f = 118 ∨ f = 119) ∧ v = .func (.func f) #[] #[] ∧ ∀ w', Since w w' → Calls Tryz.prog f #[.agg #[B8 l.kind, .int .i64 l.src, .int .i64 l.dst, .int .i64 l.term, .int .i64 l.index, .int .i64 l.was, .bool l.ok, .int .i64 l.commit, .int .i64 l.version, .slice A n c]] w' (MustPost w' ok)) :
    Calls Tryz.prog 38 #[.agg #[B8 l.kind, .int .i64 l.src, .int .i64 l.dst, .int .i64 l.term, .int .i64 l.index, .int .i64 l.was, .bool l.ok, .int .i64 l.commit, .int .i64 l.version, .slice A n c]] w (MustPost w (M.lright l)) := by
  have E := Lib.hid e0; have HV := Lib.hid hv; have HF := Lib.hid hf
  have BK0 := Lib.hid ((Bank.nil (Below.refl w.heap.size w)).box #[B8 l.kind, .int .i64 l.src, .int .i64 l.dst, .int .i64 l.term, .int .i64 l.index, .int .i64 l.was, .bool l.ok, .int .i64 l.commit, .int .i64 l.version, .slice A n c] 85 (by simp))
  clear e0 hv hf
  go_enter Tryz.func38, Tryz.ntmps38
  go_wp2_with fail
  generalize w.alloc (.cells #[B8 l.kind, .int .i64 l.src, .int .i64 l.dst, .int .i64 l.term, .int .i64 l.index, .int .i64 l.was, .bool l.ok, .int .i64 l.commit, .int .i64 l.version, .slice A n c] 85) = w1 at *
  have hB := BK0.out.drew
  have x0 := hB.cell 0 rfl 0 rfl
  go_region_law (first
    | (go_simp; go_at_call 81; refine (kinds_any _).mono ?_; rintro e w2 ⟨g, rfl, hg, hs⟩; have hB := hB.call hs; have x0 := hB.cell 0 rfl 0 rfl; have hl := HV.out w2 g hg; clear hg hs)
    | fail "arm")
  all_goals
    have BK1 := Lib.hid hB
    clear hB x0 hl BK0
    go_wp2_with fail
    refine (must_lit w2.heap.size [is] 1 1 _ _ w2 rfl rfl rfl (by omega)).mono ?_
    rintro e w3 (⟨h1, rfl, hs⟩ | ⟨h1, rfl, hs⟩)
    rotate_left
    · have HFIN := Lib.hid (show MustPost w (M.lright l) (.panicked wrongP) w3 from .inr ⟨by rw [E.out, show is = false by simpa using h1]; rfl, rfl, (BK1.out.call hs).since⟩)
      clear h1 hs
      go_wp2
      exact ⟨rfl, HFIN.out⟩
    have his : is = true := by simpa using h1
    subst his
    have BK2 := Lib.hid (BK1.out.call hs)
    obtain ⟨f, hfm, rfl, hc⟩ := HF.out rfl
    have HFM := Lib.hid hfm
    have HC := Lib.hid hc
    clear h1 hs hc hfm BK1 HF
    have x1 := BK2.out.cell 0 rfl 1 rfl
    go_wp2_with fail
    clear x1
    refine (within_any l.src 1 7 w3).mono ?_
    rintro e w4 (⟨h2, rfl, hs⟩ | ⟨h2, rfl, hs⟩)
    rotate_left
    · have HFIN := Lib.hid (show MustPost w (M.lright l) (.panicked wrongP) w4 from .inr ⟨by rw [E.out, h2]; rfl, rfl, (BK2.out.call hs).since⟩)
      clear h2 hs
      go_wp2
      exact ⟨rfl, HFIN.out⟩
    have H2 := Lib.hid h2
    have BK3 := Lib.hid (BK2.out.call hs)
    clear h2 hs BK2
    have x2 := BK3.out.cell 0 rfl 2 rfl
    go_wp2_with fail
    clear x2
    refine (within_any l.dst 1 7 w4).mono ?_
    rintro e w5 (⟨h3, rfl, hs⟩ | ⟨h3, rfl, hs⟩)
    rotate_left
    · have HFIN := Lib.hid (show MustPost w (M.lright l) (.panicked wrongP) w5 from .inr ⟨by rw [E.out, h3, H2.out]; rfl, rfl, (BK3.out.call hs).since⟩)
      clear h3 hs
      go_wp2
      exact ⟨rfl, HFIN.out⟩
    have H3 := Lib.hid h3
    have BK4 := Lib.hid (BK3.out.call hs)
    clear h3 hs BK3
    have x0 := BK4.out.cell 0 rfl 0 rfl
    have x1 := BK4.out.cell 0 rfl 1 rfl
    have x2 := BK4.out.cell 0 rfl 2 rfl
    have x3 := BK4.out.cell 0 rfl 3 rfl
    have x4 := BK4.out.cell 0 rfl 4 rfl
    have x5 := BK4.out.cell 0 rfl 5 rfl
    have x6 := BK4.out.cell 0 rfl 6 rfl
    have x7 := BK4.out.cell 0 rfl 7 rfl
    have x8 := BK4.out.cell 0 rfl 8 rfl
    have x9 := BK4.out.cell 0 rfl 9 rfl
    rcases HFM.out with rfl | rfl | rfl | rfl | rfl
    all_goals
      go_wp2_with fail
      clear x0 x1 x2 x3 x4 x5 x6 x7 x8 x9
      refine (HC.out w5 BK4.out.since).mono ?_
      rintro e w6 (⟨h4, rfl, hs⟩ | ⟨h4, rfl, hs⟩)
      · have HFIN := Lib.hid (show MustPost w (M.lright l) (.returned (.tuple #[])) w6 from .inl ⟨by rw [E.out, H3.out, H2.out, h4]; rfl, rfl, (BK4.out.call hs).since⟩)
        clear h4 hs
        go_wp2
        go_end0
        exact HFIN.out
      · have HFIN := Lib.hid (show MustPost w (M.lright l) (.panicked wrongP) w6 from .inr ⟨by rw [E.out, H3.out, H2.out, h4]; rfl, rfl, (BK4.out.call hs).since⟩)
        clear h4 hs
        go_wp2
        exact ⟨rfl, HFIN.out⟩
theorem looked_1 : LookedUp 1#8 (fnV 115) true := fun _ _ h => look_map Tryz.underlying130 Tryz.underlying25 h 1 0 _ (by decide) rfl
theorem looked_2 : LookedUp 2#8 (fnV 116) true := fun _ _ h => look_map Tryz.underlying130 Tryz.underlying25 h 2 1 _ (by decide) rfl
theorem looked_3 : LookedUp 3#8 (fnV 117) true := fun _ _ h => look_map Tryz.underlying130 Tryz.underlying25 h 3 2 _ (by decide) rfl
theorem looked_4 : LookedUp 4#8 (fnV 118) true := fun _ _ h => look_map Tryz.underlying130 Tryz.underlying25 h 4 3 _ (by decide) rfl
theorem looked_5 : LookedUp 5#8 (fnV 119) true := fun _ _ h => look_map Tryz.underlying130 Tryz.underlying25 h 5 4 _ (by decide) rfl
theorem zero_fn (w : World) : (zeroValue 128).run Tryz.prog w = .ok .nilFunc w := by kernel_rfl
theorem looked_no {x : BitVec 8} (h1 : x ≠ 1#8) (h2 : x ≠ 2#8) (h3 : x ≠ 3#8) (h4 : x ≠ 4#8) (h5 : x ≠ 5#8) : LookedUp x .nilFunc false := fun w _ h => by
  have hx := x.isLt
  have k : ∀ m : Nat, m < 256 → x ≠ BitVec.ofNat 8 m → (((x.toNat : Int)) == (m : Int)) = false := fun m hm hne => by
    rw [beq_eq_false_iff_ne]
    intro e
    exact hne (BitVec.eq_of_toNat_eq (by rw [BitVec.toNat_ofNat]; omega))
  have k1 : ((x.toNat : Int) == 1) = false := k 1 (by omega) h1
  have k2 : ((x.toNat : Int) == 2) = false := k 2 (by omega) h2
  have k3 : ((x.toNat : Int) == 3) = false := k 3 (by omega) h3
  have k4 : ((x.toNat : Int) == 4) = false := k 4 (by omega) h4
  have k5 : ((x.toNat : Int) == 5) = false := k 5 (by omega) h5
  refine look_none Tryz.underlying130 Tryz.underlying25 h (x.toNat : Int) _ (zero_fn w) (by simp [Lit.wf, IntKind.min, IntKind.max, IntKind.bits, IntKind.signed]; omega) ?_
  simp [kindsEs, Instr.findNow, Instr.sameNow, k1, k2, k3, k4, k5]
/-- letter's check -/
theorem lcheck_any (l : M.Let) (A : Option Addr) (n c : Nat) (w : World) (hn : l.ents.length = n) (hn2 : n ≤ 9223372036854775807) (hE : EntsRd w A l.ents) :
    Calls Tryz.prog 38 #[.agg #[B8 l.kind, .int .i64 l.src, .int .i64 l.dst, .int .i64 l.term, .int .i64 l.index, .int .i64 l.was, .bool l.ok, .int .i64 l.commit, .int .i64 l.version, .slice A n c]] w (MustPost w (M.lright l)) := by
  have e : M.lright l = (M.wi l.src 1 7 && M.wi l.dst 1 7 && M.lkind l) := rfl
  by_cases h1 : l.kind = 1#8
  · exact chk_any l A n c _ true (M.lask l) w (by rw [h1]; exact looked_1) (by rw [e, M.lkind, if_pos h1, Bool.true_and]) fun _ => ⟨_, .inl rfl, rfl, fun w' hw => ask_any l A n c w' hn hn2⟩
  by_cases h2 : l.kind = 2#8
  · exact chk_any l A n c _ true (M.lvote l) w (by rw [h2]; exact looked_2) (by rw [e, M.lkind, if_neg h1, if_pos h2, Bool.true_and]) fun _ => ⟨_, .inr (.inl rfl), rfl, fun w' hw => vote_any l A n c w' hn hn2⟩
  by_cases h3 : l.kind = 3#8
  · exact chk_any l A n c _ true (M.lputs l) w (by rw [h3]; exact looked_3) (by rw [e, M.lkind, if_neg h1, if_neg h2, if_pos h3, Bool.true_and]) fun _ => ⟨_, .inr (.inr (.inl rfl)), rfl, fun w' hw => puts_any l A n c w' hn hn2 (hE.since hw)⟩
  by_cases h4 : l.kind = 4#8
  · exact chk_any l A n c _ true (M.ldone l) w (by rw [h4]; exact looked_4) (by rw [e, M.lkind, if_neg h1, if_neg h2, if_neg h3, if_pos h4, Bool.true_and]) fun _ => ⟨_, .inr (.inr (.inr (.inl rfl))), rfl, fun w' hw => done_any l A n c w' hn hn2⟩
  by_cases h5 : l.kind = 5#8
  · exact chk_any l A n c _ true (M.lack l) w (by rw [h5]; exact looked_5) (by rw [e, M.lkind, if_neg h1, if_neg h2, if_neg h3, if_neg h4, if_pos h5, Bool.true_and]) fun _ => ⟨_, .inr (.inr (.inr (.inr rfl))), rfl, fun w' hw => ack_any l A n c w' hn hn2⟩
  exact chk_any l A n c _ false false w (looked_no h1 h2 h3 h4 h5) (by rw [e, M.lkind, if_neg h1, if_neg h2, if_neg h3, if_neg h4, if_neg h5, Bool.and_false]; rfl) fun h => by cases h
end Go.Proofs.YtdmpphioflcofaaGreat.K

/- The contract of the program's rest.take: bytes are taken, or it panics. -/
namespace Go.Proofs.YtdmpphioflcofaaGreat.K
open Go Go.RowKit

def readP (A : Option Addr) (n c : Nat) (made bad : Bool) : List Value := [.slice A n c, .bool made, .bool bad]
/-- the block P is a reader of the program's whose left bytes are l -/
structure PrgR (w : World) (P : Nat) (l : List (BitVec 8)) (A : Option Addr) (n c : Nat) (made bad : Bool) : Prop where
  blk : ∃ t, w.heap[P]? = some (.cells (readP A n c made bad).toArray t (0, 0))
  rd : Rd w A l
  len : l.length = n
  none : A = Option.none → c = 0
  n_le : n ≤ 1000000000000
  cap : n ≤ c ∧ c ≤ 9223372036854775807
  ne : ∀ a, A = some a → a.block ≠ P
  form : ∀ a, A = some a → ∃ g o, a = ⟨g, o, Option.none⟩
theorem PrgR.cell {w : World} {P : Nat} {l : List (BitVec 8)} {A : Option Addr} {n c : Nat} {made bad : Bool} (h : PrgR w P l A n c made bad) {i : Nat} {v : Value} (hv : (readP A n c made bad)[i]? = some v) : w.cell? ⟨P, i, Option.none⟩ = some v := by
  obtain ⟨t, hb⟩ := h.blk
  exact block_cell hb hv
theorem PrgR.free {w : World} {P : Nat} {l : List (BitVec 8)} {A : Option Addr} {n c : Nat} {made bad : Bool} (h : PrgR w P l A n c made bad) (i : Nat) : w.frozen? ⟨P, i, Option.none⟩ = false := by
  obtain ⟨t, hb⟩ := h.blk
  exact frozen_of_row w P i _ t hb
theorem Rd.setCellP {w : World} {A : Option Addr} {l : List (BitVec 8)} (h : Rd w A l) {b i : Nat} (hb : ∀ a, A = some a → a.block ≠ b) (v : Value) : Rd (w.setCell ⟨b, i, none⟩ v) A l := fun k hk => by
  obtain ⟨g', o, e, hc⟩ := h k hk
  exact ⟨g', o, e, by rw [cell_setCell_ne _ (hb _ e)]; exact hc⟩
/-- what a panic bears -/
def shortP : List PanicEntry := [{ v := .iface 207 (.agg #[]), recovered := false }]

set_option maxHeartbeats 1000000 in
theorem take_bad (P : Nat) (l : List (BitVec 8)) (A : Option Addr) (n c : Nat) (made bad : Bool) (k : Int) (w : World) (h : PrgR w P l A n c made bad) (hk : k < 0 ∨ (n : Int) < k) :
    Calls Tryz.prog 123 #[.pointer (some ⟨P, 0, none⟩), .int .i64 k] w fun e w' => e = .panicked shortP ∧ w = w' := by
  have c0 : w.cell? ⟨P, 0, none⟩ = some (.slice A n c) := h.cell rfl
  clear h
  rcases hk with hk | hk
  · have d1 : decide (k < 0) = true := by simpa using hk
    go_enter Tryz.func123, Tryz.ntmps123
    go_wp2
    exact ⟨rfl, rfl, rfl⟩
  · have p1 : ¬ k < 0 := by omega
    have d1 : decide (k < 0) = false := by simpa using p1
    have d2 : decide ((n : Int) < k) = true := by simpa using hk
    go_enter Tryz.func123, Tryz.ntmps123
    go_wp2
    exact ⟨rfl, rfl, rfl⟩

/-- bytes were taken -/
def TakeOk (w : World) (P : Nat) (l : List (BitVec 8)) (A : Option Addr) (n c : Nat) (made bad : Bool) (k : Nat) (e : Ending) (w' : World) : Prop :=
  e = .returned (.slice A k c) ∧ (∃ A', PrgR w' P (l.drop k) A' (n - k) (c - k) made bad ∧ ∀ a', A' = some a' → ∃ a, A = some a ∧ a'.block = a.block) ∧ w.grownBy w' (some P) ∧ Rd w' A (l.take k)
theorem take_post {w : World} {P : Nat} {l : List (BitVec 8)} {A A' : Option Addr} {n c : Nat} {made bad : Bool} (h : PrgR w P l A n c made bad) {k : Nat} (hk : k ≤ n)
    (hA : (c = k ∧ A' = A) ∨ ∃ g o, A = some ⟨g, o, none⟩ ∧ A' = some ⟨g, o + k, none⟩) : TakeOk w P l A n c made bad k (.returned (.slice A k c)) (w.setCell ⟨P, 0, none⟩ (.slice A' (n - k) (c - k))) := by
  obtain ⟨t, hb⟩ := h.blk
  have hlen := h.len
  have hne' : ∀ a', A' = some a' → a'.block ≠ P := by
    intro a' e
    rcases hA with ⟨_, rfl⟩ | ⟨g, o, h1, h2⟩
    · exact h.ne a' e
    · rw [h2] at e; cases e
      exact h.ne ⟨g, o, none⟩ h1
  have hrd : Rd w A' (l.drop k) := by
    intro i hi
    have hi2 : k + i < l.length := by rw [List.length_drop] at hi; omega
    rcases hA with ⟨hc, rfl⟩ | ⟨g, o, h1, h2⟩
    · have := h.cap.1; omega
    · obtain ⟨b, o', e, hc⟩ := h.rd (k + i) hi2
      rw [h1] at e; cases e
      exact ⟨g, o + k, h2, by rw [Nat.add_assoc, hc]; simp⟩
  refine ⟨rfl, ⟨A', ⟨⟨t, block_set hb 0 _⟩, hrd.setCellP hne' _, by rw [List.length_drop]; omega, fun e => ?_, by have := h.n_le; omega, ⟨by have := h.cap; omega, by have := h.cap; omega⟩, hne', fun a e => ?_⟩, fun a' e => ?_⟩, grownBy_setCell w P 0 _, Rd.setCellP (fun i hi => ?_) h.ne _⟩
  · rcases hA with ⟨hc, _⟩ | ⟨g, o, _, h2⟩
    · omega
    · rw [h2] at e; cases e
  · rcases hA with ⟨_, rfl⟩ | ⟨g, o, _, h2⟩
    · exact h.form a e
    · rw [h2] at e; cases e; exact ⟨_, _, rfl⟩
  · rcases hA with ⟨_, rfl⟩ | ⟨g, o, h1, h2⟩
    · exact ⟨a', e, rfl⟩
    · rw [h2] at e; cases e; exact ⟨_, h1, rfl⟩
  · have hi2 : i < l.length := by rw [List.length_take] at hi; omega
    obtain ⟨b, o', e, hc⟩ := h.rd i hi2
    exact ⟨b, o', e, by rw [hc]; simp⟩

set_option maxHeartbeats 1000000 in
theorem take_ok (P : Nat) (l : List (BitVec 8)) (A : Option Addr) (n c : Nat) (made bad : Bool) (k : Nat) (w : World) (h : PrgR w P l A n c made bad) (hk : k ≤ n) :
    Calls Tryz.prog 123 #[.pointer (some ⟨P, 0, none⟩), .int .i64 (k : Int)] w (TakeOk w P l A n c made bad k) := by
  have c0 : w.cell? ⟨P, 0, none⟩ = some (.slice A n c) := h.cell rfl
  have f0 := h.free 0
  have hcap := h.cap
  have hnl := h.n_le
  have p1 : ¬ (k : Int) < 0 := by omega
  have p2 : ¬ (n : Int) < (k : Int) := by omega
  have p3 : (k : Int) ≤ (c : Int) := by omega
  have p4 : (k : Int) ≤ (n : Int) := by omega
  have p0 : (0 : Int) ≤ (k : Int) := by omega
  have H := Lib.hid h
  clear h
  by_cases hck : c = k
  · have hp := take_post H.out hk (A' := A) (.inl ⟨hck, rfl⟩)
    have hnk : n = k := by omega
    subst hnk
    subst hck
    simp only [Nat.sub_self] at hp
    have HP := Lib.hid hp
    clear hp
    go_enter Tryz.func123, Tryz.ntmps123
    go_wp2
    go_ret
    exact HP.out
  · obtain ⟨ad, rfl⟩ : ∃ ad, A = some ad := by
      cases A with
      | some ad => exact ⟨ad, rfl⟩
      | none => have h1 := H.out.none rfl; omega
    obtain ⟨g, o, rfl⟩ := H.out.form ad rfl
    have hp := take_post H.out hk (A' := some ⟨g, o + k, none⟩) (.inr ⟨g, o, rfl, rfl⟩)
    have HP := Lib.hid hp
    clear hp
    go_enter Tryz.func123, Tryz.ntmps123
    go_wp2
    go_ret
    exact HP.out

/-- a number was read -/
def NumOk (w : World) (P : Nat) (l : List (BitVec 8)) (A : Option Addr) (n c : Nat) (made bad : Bool) (e : Ending) (w' : World) : Prop :=
  e = .returned (.int .i64 (M.val (l.take 8))) ∧ (∃ A', PrgR w' P (l.drop 8) A' (n - 8) (c - 8) made bad ∧ ∀ a', A' = some a' → ∃ a, A = some a ∧ a'.block = a.block) ∧ w.grownBy w' (some P)
theorem PrgR.drewN {w : World} {P : Nat} {l : List (BitVec 8)} {A : Option Addr} {n c : Nat} {made bad : Bool} (h : PrgR w P l A n c made bad) (q : Nat) : PrgR (w.drewN q) P l A n c made bad :=
  ⟨h.blk, h.rd, h.len, h.none, h.n_le, h.cap, h.ne, h.form⟩
theorem conv_W64_int' {P : Program} (w : World) (src dst : TypeId) (x : BitVec 64) (hs : P.underlying src = some (.int .u64)) (hd : P.underlying dst = some (.int .i64)) : (convert src dst (W64 x)).run P w = .ok (.int .i64 x.toInt) w := by
  have h : IntKind.i64.wrap (x.toNat : Int) = x.toInt := by
    rw [BitVec.toInt_eq_toNat_bmod]
    simp [IntKind.wrap, IntKind.bits, IntKind.signed, Int.bmod]
    split <;> split <;> omega
  simp [convert, run_underlying hs, run_underlying hd, Conv.intToInt, W64, h]

set_option maxHeartbeats 1000000 in
theorem pnum_bad (P : Nat) (l : List (BitVec 8)) (A : Option Addr) (n c : Nat) (made bad : Bool) (w : World) (h : PrgR w P l A n c made bad) (hn : n < 8) :
    Calls Tryz.prog 88 #[.pointer (some ⟨P, 0, none⟩)] w fun e w' => e = .panicked shortP ∧ w = w' := by
  have H := Lib.hid h
  clear h
  go_enter Tryz.func88, Tryz.ntmps88
  go_wp2_with fail
  refine (take_bad P l A n c made bad 8 w H.out (by omega)).mono ?_
  rintro e w' ⟨rfl, rfl⟩
  go_wp2
  exact ⟨rfl, rfl, rfl⟩

set_option maxHeartbeats 1000000 in
theorem pnum_ok (P : Nat) (l : List (BitVec 8)) (A : Option Addr) (n c : Nat) (made bad : Bool) (w : World) (h : PrgR w P l A n c made bad) (hn : 8 ≤ n) :
    Calls Tryz.prog 88 #[.pointer (some ⟨P, 0, none⟩)] w (NumOk w P l A n c made bad) := by
  have hlen := h.len
  have H := Lib.hid h; have HLEN := Lib.hid hlen
  clear h hlen
  go_enter Tryz.func88, Tryz.ntmps88
  go_wp2_with fail
  refine (take_ok P l A n c made bad 8 w H.out hn).mono ?_
  rintro e w1 ⟨rfl, ⟨A', hpr, hA'⟩, hg, hrd⟩
  have hl8 : (l.take 8).length = 8 := by have := HLEN.out; rw [List.length_take]; omega
  obtain ⟨b, o, rfl, _, hD⟩ := hrd.lay (by omega)
  rw [hl8] at hD
  have HPR := Lib.hid hpr; have HG := Lib.hid hg; have HD := Lib.hid hD; have HL8 := Lib.hid hl8; have HA := Lib.hid hA'
  clear hpr hg hrd hD hl8 hA'
  go_wp2
  go_loopw [3, 5, 9] (fun v _ i wr => ∃ k : Nat, k ≤ 8 ∧ i = .int .i64 (k : Int) ∧ v = W64 (M.w64 ((l.take 8).take k)) ∧ w1 = wr) (fun _ _ i _ => 8 - (intOf i).toNat)
  case atStart => exact ⟨0, by omega, rfl, rfl, rfl⟩
  case round =>
    obtain ⟨k, hk, rfl, rfl, rfl⟩ := hrel
    have k0 : (0 : Int) ≤ (k : Int) := by omega
    rcases Nat.lt_or_ge k 8 with h9 | h9
    · have k1 : (k : Int) < 8 := by omega
      have cx : w1.cell? ⟨b, o + k, none⟩ = some (B8 ((l.take 8).getD k 0)) := HD.out k h9
      go_wp2
      go_roundw
      case rel =>
        refine ⟨k + 1, by omega, by go_num, ?_, by trivial⟩
        have hl := HL8.out
        have hk' : k < (l.take 8).length := by rw [hl]; exact h9
        rw [show (l.take 8).take (k + 1) = (l.take 8).take k ++ [(l.take 8)[k]] from List.take_succ_eq_append_getElem hk', M.w64_snoc, ← M.shift_or]
        have hk2 : k < l.length := by have := HLEN.out; omega
        congr 2
        simp [hk2]
      case measure => simp [intOf]; omega
    · have hk8 : k = 8 := by omega
      have k1 : ¬ (k : Int) < 8 := by omega
      have hcv := fun w => conv_W64_int' (P := Tryz.prog) w 87 3 (M.w64 ((l.take 8).take k)) Tryz.underlying87 Tryz.underlying3
      have HK8 := Lib.hid hk8
      clear hk8
      go_wp2
      go_ret
      refine ⟨?_, ⟨A', HPR.out, HA.out⟩, HG.out⟩
      have e : M.val (l.take 8) = (M.w64 ((l.take 8).take k)).toInt := by rw [HK8.out, List.take_take]; rfl
      rw [e]; rfl
end Go.Proofs.YtdmpphioflcofaaGreat.K

/- The contracts of the program's rest.small and rest.bytes: they read, or panic. -/
namespace Go.Proofs.YtdmpphioflcofaaGreat.K
open Go Go.RowKit

/-- it panicked, and the reader is one still -/
def PBad (w : World) (P : Nat) (made bad : Bool) (e : Ending) (w' : World) : Prop :=
  e = .panicked shortP ∧ (∃ l A n c, PrgR w' P l A n c made bad) ∧ w.grownBy w' (some P)
theorem grown_refl (w : World) (row : Option Nat) : w.grownBy w row := ⟨rfl, rfl, rfl, Nat.le_refl _, fun _ _ _ => rfl⟩
theorem grown_trans' {w w1 w2 : World} {row : Option Nat} (h : w.grownBy w1 row) (h' : w1.grownBy w2 row) : w.grownBy w2 row :=
  ⟨h'.os.trans h.os, h'.tape.trans h.tape, h'.output.trans h.output, Nat.le_trans h.size h'.size, fun k hk hne => (h'.block k (Nat.lt_of_lt_of_le hk h.size) hne).trans (h.block k hk hne)⟩
theorem pnum_bad' (P : Nat) (l : List (BitVec 8)) (A : Option Addr) (n c : Nat) (made bad : Bool) (w : World) (h : PrgR w P l A n c made bad) (hn : n < 8) :
    Calls Tryz.prog 88 #[.pointer (some ⟨P, 0, none⟩)] w (PBad w P made bad) :=
  (pnum_bad P l A n c made bad w h hn).mono fun e w' ⟨he, hw⟩ => by subst hw; exact ⟨he, ⟨l, A, n, c, h⟩, grown_refl _ _⟩

set_option maxHeartbeats 1000000 in
theorem small_ok (P : Nat) (l : List (BitVec 8)) (A : Option Addr) (n c : Nat) (made bad : Bool) (most : Int) (w : World) (h : PrgR w P l A n c made bad) (hn : 8 ≤ n) (h0 : 0 ≤ M.val (l.take 8)) (h1 : M.val (l.take 8) ≤ most) :
    Calls Tryz.prog 125 #[.pointer (some ⟨P, 0, none⟩), .int .i64 most] w (NumOk w P l A n c made bad) := by
  obtain ⟨v, hv⟩ : ∃ v, v = M.val (l.take 8) := ⟨_, rfl⟩
  rw [← hv] at h0 h1
  have g0 : ¬ v < 0 := by omega
  have g1 : ¬ most < v := by omega
  have H := Lib.hid h; have HV := Lib.hid hv
  clear h hv
  go_enter Tryz.func125, Tryz.ntmps125
  go_wp2_with fail
  refine (pnum_ok P l A n c made bad w H.out hn).mono ?_
  rintro e w1 ⟨rfl, hp, hg⟩
  rw [← HV.out]
  have HP := Lib.hid hp; have HG := Lib.hid hg
  clear hp hg
  go_wp2
  go_ret
  exact ⟨by rw [← HV.out]; rfl, HP.out, HG.out⟩
set_option maxHeartbeats 1000000 in
theorem small_bad (P : Nat) (l : List (BitVec 8)) (A : Option Addr) (n c : Nat) (made bad : Bool) (most : Int) (w : World) (h : PrgR w P l A n c made bad) (hb : n < 8 ∨ (8 ≤ n ∧ (M.val (l.take 8) < 0 ∨ most < M.val (l.take 8)))) :
    Calls Tryz.prog 125 #[.pointer (some ⟨P, 0, none⟩), .int .i64 most] w (PBad w P made bad) := by
  have H := Lib.hid h
  clear h
  rcases hb with hn | ⟨hn, hb⟩
  · go_enter Tryz.func125, Tryz.ntmps125
    go_wp2_with fail
    refine (pnum_bad' P l A n c made bad w H.out hn).mono ?_
    rintro e w1 ⟨rfl, hp, hg⟩
    have HP := Lib.hid hp; have HG := Lib.hid hg
    clear hp hg
    go_wp2
    exact ⟨rfl, rfl, HP.out, HG.out⟩
  · obtain ⟨v, hv⟩ : ∃ v, v = M.val (l.take 8) := ⟨_, rfl⟩
    rw [← hv] at hb
    have HV := Lib.hid hv
    clear hv
    rcases hb with hb | hb
    · have d1 : decide (v < 0) = true := by simpa using hb
      go_enter Tryz.func125, Tryz.ntmps125
      go_wp2_with fail
      refine (pnum_ok P l A n c made bad w H.out hn).mono ?_
      rintro e w1 ⟨rfl, ⟨A', hp, _⟩, hg⟩
      rw [← HV.out]
      have HP := Lib.hid hp; have HG := Lib.hid hg
      clear hp hg
      go_wp2
      exact ⟨rfl, rfl, ⟨_, _, _, _, HP.out⟩, HG.out⟩
    · by_cases hv0 : v < 0
      · have d1 : decide (v < 0) = true := by simpa using hv0
        go_enter Tryz.func125, Tryz.ntmps125
        go_wp2_with fail
        refine (pnum_ok P l A n c made bad w H.out hn).mono ?_
        rintro e w1 ⟨rfl, ⟨A', hp, _⟩, hg⟩
        rw [← HV.out]
        have HP := Lib.hid hp; have HG := Lib.hid hg
        clear hp hg
        go_wp2
        exact ⟨rfl, rfl, ⟨_, _, _, _, HP.out⟩, HG.out⟩
      · have d1 : decide (v < 0) = false := by simpa using hv0
        have d2 : decide (most < v) = true := by simpa using hb
        go_enter Tryz.func125, Tryz.ntmps125
        go_wp2_with fail
        refine (pnum_ok P l A n c made bad w H.out hn).mono ?_
        rintro e w1 ⟨rfl, ⟨A', hp, _⟩, hg⟩
        rw [← HV.out]
        have HP := Lib.hid hp; have HG := Lib.hid hg
        clear hp hg
        go_wp2
        exact ⟨rfl, rfl, ⟨_, _, _, _, HP.out⟩, HG.out⟩

/-- bytes were read -/
def BytOk (w : World) (P : Nat) (l : List (BitVec 8)) (A : Option Addr) (made bad : Bool) (e : Ending) (w' : World) : Prop :=
  ∃ B m c' A' n2 c2 l', e = .returned (.slice B m c') ∧ w'.ownsRow w.heap.size 5 1 (.slice B m c') m (bv (M.rdBytes (some l)).1) ∧ (M.rdBytes (some l)).2 = some l' ∧ PrgR w' P l' A' n2 c2 made bad ∧ (∀ a', A' = some a' → ∃ a, A = some a ∧ a'.block = a.block) ∧ w.grownBy w' (some P)
theorem PrgR.grown {w w' : World} {P : Nat} {l : List (BitVec 8)} {A : Option Addr} {n c : Nat} {made bad : Bool} (h : PrgR w P l A n c made bad) {row : Option Nat} (hg : w.grownBy w' row) (hR : row ≠ some P) (hA : ∀ a, A = some a → row ≠ some a.block) : PrgR w' P l A n c made bad := by
  obtain ⟨t, hb⟩ := h.blk
  refine ⟨⟨t, (hg.block P (Array.getElem?_eq_some_iff.1 hb).1 (Ne.symm hR)).trans hb⟩, fun k hk => ?_, h.len, h.none, h.n_le, h.cap, h.ne, h.form⟩
  obtain ⟨b, o, e, hc⟩ := h.rd k hk
  exact ⟨b, o, e, hg.cell hc (Ne.symm (hA ⟨b, o, Option.none⟩ e))⟩

set_option maxHeartbeats 1000000 in
theorem bytes_bad (P : Nat) (l : List (BitVec 8)) (A : Option Addr) (n c : Nat) (made bad : Bool) (w : World) (h : PrgR w P l A n c made bad) (hb : (M.rdBytes (some l)).2 = none) :
    Calls Tryz.prog 126 #[.pointer (some ⟨P, 0, none⟩)] w (PBad w P made bad) := by
  have hlen := h.len
  have hga := World.grownBy_alloc w (.cells #[] 5)
  have h0 := h.grown (hga none) (by simp) (fun _ _ => by simp)
  have H0 := Lib.hid h0; have HGA := Lib.hid (hga (some P))
  clear h h0 hga
  rcases Nat.lt_or_ge n 8 with h8 | h8
  · go_enter Tryz.func126, Tryz.ntmps126
    go_wp2_with fail
    refine (pnum_bad' P l A n c made bad _ H0.out h8).mono ?_
    rintro e w1 ⟨rfl, hp, hg⟩
    have HP := Lib.hid hp; have HG := Lib.hid (grown_trans' HGA.out hg)
    clear hp hg
    go_wp2
    exact ⟨rfl, rfl, HP.out, HG.out⟩
  · have hv : M.val (l.take 8) < 0 ∨ ((n - 8 : Nat) : Int) < M.val (l.take 8) := by
      simp only [M.rdBytes, M.rdNumber] at hb
      rw [if_neg (by omega)] at hb
      simp only at hb
      split at hb
      · rename_i h'; rw [List.length_drop, hlen] at h'; exact h'
      · cases hb
    obtain ⟨v, hvv⟩ : ∃ v, v = M.val (l.take 8) := ⟨_, rfl⟩
    rw [← hvv] at hv
    have HV := Lib.hid hvv
    clear hvv hb hlen
    go_enter Tryz.func126, Tryz.ntmps126
    go_wp2_with fail
    refine (pnum_ok P l A n c made bad _ H0.out h8).mono ?_
    rintro e w1 ⟨rfl, ⟨A', hp, _⟩, hg⟩
    rw [← HV.out]
    have HP := Lib.hid hp; have HG := Lib.hid (grown_trans' HGA.out hg)
    clear hp hg
    go_wp2_with fail
    refine (take_bad P (l.drop 8) A' (n - 8) (c - 8) made bad v w1 HP.out hv).mono ?_
    rintro e w2 ⟨rfl, rfl⟩
    go_wp2
    exact ⟨rfl, rfl, ⟨_, _, _, _, HP.out⟩, HG.out⟩

theorem grown_more {w w2 w3 : World} {P X : Nat} (h : w.grownBy w2 (some P)) (h' : w2.grownBy w3 (some X)) (hX : w.heap.size ≤ X) : w.grownBy w3 (some P) :=
  ⟨h'.os.trans h.os, h'.tape.trans h.tape, h'.output.trans h.output, Nat.le_trans h.size h'.size, fun k hk hne => (h'.block k (Nat.lt_of_lt_of_le hk h.size) (by simp; omega)).trans (h.block k hk hne)⟩
theorem PrgR.lt {w : World} {P : Nat} {l : List (BitVec 8)} {A : Option Addr} {n c : Nat} {made bad : Bool} (h : PrgR w P l A n c made bad) : P < w.heap.size := by
  obtain ⟨t, hb⟩ := h.blk
  exact (Array.getElem?_eq_some_iff.1 hb).1

theorem away {w : World} {A0 A1 A2 : Option Addr} (h0 : ∀ a, A0 = some a → a.block < w.heap.size) (h1 : ∀ a', A1 = some a' → ∃ a, A0 = some a ∧ a'.block = a.block) (h2 : ∀ a', A2 = some a' → ∃ a, A1 = some a ∧ a'.block = a.block) : ∀ a, A2 = some a → some w.heap.size ≠ some a.block := by
  intro a e
  obtain ⟨a1, e1, g1⟩ := h2 a e
  obtain ⟨a0, e0, g0⟩ := h1 a1 e1
  have := h0 a0 e0
  simp; omega
set_option maxHeartbeats 1000000 in
set_option maxRecDepth 100000 in
theorem bytes_ok (P : Nat) (l : List (BitVec 8)) (A : Option Addr) (n c : Nat) (made bad : Bool) (w : World) (l' : List (BitVec 8)) (h : PrgR w P l A n c made bad) (hAB : ∀ a, A = some a → a.block < w.heap.size) (hb : (M.rdBytes (some l)).2 = some l') :
    Calls Tryz.prog 126 #[.pointer (some ⟨P, 0, none⟩)] w (BytOk w P l A made bad) := by
  obtain ⟨i0, hi, hz0, hz1, hz2⟩ := info_parts infoByte
  have hlen := h.len
  have hnl := h.n_le
  have hPl := h.lt
  have hga := World.grownBy_alloc w (.cells #[] 5)
  have h0 := h.grown (hga none) (by simp) (fun _ _ => by simp)
  have hrow := own_lit0 (w := w) (base := w.heap.size) (e := 5) (Nat.le_refl _)
  have hv : 8 ≤ n ∧ 0 ≤ M.val (l.take 8) ∧ M.val (l.take 8) ≤ ((n - 8 : Nat) : Int) ∧ M.rdBytes (some l) = ((l.drop 8).take (M.val (l.take 8)).toNat, some ((l.drop 8).drop (M.val (l.take 8)).toNat)) := by
    simp only [M.rdBytes, M.rdNumber] at hb ⊢
    by_cases h8 : l.length < 8
    · rw [if_pos h8] at hb; cases hb
    · rw [if_neg h8] at hb ⊢
      simp only at hb ⊢
      by_cases hc : M.val (l.take 8) < 0 ∨ ((l.drop 8).length : Int) < M.val (l.take 8)
      · rw [if_pos hc] at hb; cases hb
      · rw [if_neg hc]
        rw [List.length_drop, hlen] at hc
        exact ⟨by omega, by omega, by omega, rfl⟩
  obtain ⟨h8, hv0, hv1, hrb⟩ := hv
  obtain ⟨m, hm⟩ : ∃ m : Nat, M.val (l.take 8) = (m : Int) := ⟨(M.val (l.take 8)).toNat, by omega⟩
  rw [hm] at hrb hv1
  rw [Int.toNat_natCast] at hrb
  have hm1 : m ≤ n - 8 := by omega
  have HRB := Lib.hid hrb; have H0 := Lib.hid h0; have HGA := Lib.hid (hga (some P)); have HROW := Lib.hid hrow; have HM := Lib.hid hm; have HAB := Lib.hid hAB; have HLEN := Lib.hid hlen
  clear h h0 hga hrow hb hrb hm hv0 hv1 hAB hlen
  go_enter Tryz.func126, Tryz.ntmps126
  go_wp2_with fail
  refine (pnum_ok P l A n c made bad _ H0.out h8).mono ?_
  rintro e w1 ⟨rfl, ⟨A1, hp, hA1⟩, hg⟩
  rw [HM.out]
  have HP := Lib.hid hp; have HG := Lib.hid (grown_trans' HGA.out hg); have HA1 := Lib.hid hA1
  have HROW1 := Lib.hid (World.ownsRow.kept HROW.out hg (.inr (by simp [Value.ownBlock]; omega)))
  clear hp hg hA1 HROW
  go_wp2_with fail
  refine (take_ok P (l.drop 8) A1 (n - 8) (c - 8) made bad m w1 HP.out hm1).mono ?_
  rintro e w2 ⟨rfl, ⟨A2, hp2, hA2⟩, hg2, hrd2⟩
  have hcs := hrd2.cells
  have hlm : ((l.drop 8).take m).length = m := by have := HLEN.out; rw [List.length_take, List.length_drop]; omega
  have hl2 : (bv ((l.drop 8).take m)).length = m * 1 := by rw [bv_length, hlm]; omega
  have hnn : A1 = none → m = 0 ∧ c - 8 = 0 := fun e => ⟨by
    rw [e] at hrd2
    rw [hrd2.empty] at hlm; exact hlm.symm, HP.out.none e⟩
  have hs2 : w.heap.size ≤ w2.heap.size := Nat.le_trans HG.out.size hg2.size
  have HP2 := Lib.hid hp2; have HG2 := Lib.hid (grown_trans' HG.out hg2); have HA2 := Lib.hid hA2; have HCS := Lib.hid hcs; have HL2 := Lib.hid hl2; have HNN := Lib.hid hnn
  have HROW2 := Lib.hid (World.ownsRow.kept HROW1.out hg2 (.inr (by simp [Value.ownBlock]; omega)))
  clear hp2 hg2 hA2 hrd2 hcs hlm hl2 hnn HROW1 HP HG
  go_wp2_with (at_builtin; refine wpList_append_any _ rfl _ _ 22 rfl w.heap.size 5 i0 (.int .u8 0) 1 1 Tryz.underlying22 hi hz0 hz1 hz2 rfl (by decide) _ 0 (bv []) rfl HROW2.out A1 m (c - 8) (bv ((l.drop 8).take m)) rfl HNN.out HL2.out HCS.out (bv_one _) (by unfold maxLen; omega) (by omega) hs2 ?_; intro v3 w3 hown3 hgrow3; rw [← bv_append, List.nil_append, Nat.zero_add] at hown3; obtain ⟨B3, d3, rfl⟩ := row_slice hown3; have hgrow4 : w2.grownBy w3 (some w.heap.size) := hgrow3; have HG3 := Lib.hid (grown_more HG2.out hgrow4 (Nat.le_refl _)); have HP3 := Lib.hid (HP2.out.grown hgrow4 (fun e => by (cases e; omega)) (away HAB.out HA1.out HA2.out)); have HO3 := Lib.hid hown3; clear hown3 hgrow3 hgrow4)
  go_ret
  refine ⟨B3, m, d3, A2, _, _, (l.drop 8).drop m, rfl, by rw [HRB.out]; exact HO3.out, by rw [HRB.out], HP3.out, fun a e => ?_, HG3.out⟩
  obtain ⟨a1, e1, h1⟩ := HA2.out a e
  obtain ⟨a0, e0, h0⟩ := HA1.out a1 e1
  exact ⟨a0, e0, h1.trans h0⟩
end Go.Proofs.YtdmpphioflcofaaGreat.K

/- The deferred closures of wire.reads. -/
namespace Go.Proofs.YtdmpphioflcofaaGreat.K
open Go Go.RowKit

theorem tmps21 (a b x : Value) : (#[a, b] ++ ((Array.replicate 19 undef).setIfInBounds 4 x).setIfInBounds 0 x) = #[a, b, x, undef, undef, undef, x, undef, undef, undef, undef, undef, undef, undef, undef, undef, undef, undef, undef, undef, undef] := by
  apply Array.toList_inj.1
  simp [List.replicate]
theorem catchInt_idle (p q : Addr) (w : World) :
    CallsD Tryz.prog 122 #[.pointer (some p), .pointer (some q)] .returning w fun e u' w' => e = .returned (.tuple #[]) ∧ u' = .returning ∧ w' = w := by
  refine callsD_of_wpS Tryz.func122 rfl fun c₀ cs hu => ?_
  apply wpS_seq
  apply wpS_region
  simp [wpOpsS, go_sem, recoverD, hu, Tryz.ntmps122, Exit.thenS]
  refine wpS_of_wp ?_
  rw [tmps21]
  go_wp2
  cases c₀
  simp_all [bodyPostS, results, Tryz.results122]
set_option maxHeartbeats 1000000 in
set_option maxRecDepth 100000 in
theorem catchInt_panicking (O R P : Nat) (x : Int) (A : Option Addr) (l : List (BitVec 8)) (n c : Nat) (w : World) (ho : w.cell? ⟨O, 0, none⟩ = some (.int .i64 x)) (hof : w.frozen? ⟨O, 0, none⟩ = false) (hr : w.cell? ⟨R, 0, none⟩ = some (.pointer (some ⟨P, 0, none⟩))) (hp : PrgR w P l A n c true false) (hOP : O ≠ P) :
    CallsD Tryz.prog 122 #[.pointer (some ⟨O, 0, none⟩), .pointer (some ⟨R, 0, none⟩)] (.panicking shortP) w fun e u' w' =>
      e = .returned (.tuple #[]) ∧ u' = .panicking [{ v := .iface 207 (.agg #[]), recovered := true }] ∧ w' = ((w.alloc (.cells #[] 207)).setCell ⟨O, 0, none⟩ (.int .i64 0)).setCell ⟨P, 2, none⟩ (.bool true) := by
  have hta : ∀ w, (Instr.typeAssert (.iface 207 (.agg #[])) 20 207 true).run Tryz.prog w = .ok (.tuple #[.agg #[], .bool true]) w := fun _ => by kernel_rfl
  refine callsD_of_wpS Tryz.func122 rfl fun c₀ cs hu => ?_
  unfold shortP at hu
  have d0 : w.cell? ⟨P, 2, none⟩ = some (.bool false) := hp.cell rfl
  have hr' := cell_old (.cells #[] 207) hr
  have ho' := cell_old (.cells #[] 207) ho
  have hof' : (w.alloc (.cells #[] 207)).frozen? ⟨O, 0, none⟩ = false := (((Below.refl w.heap.size w).alloc (Nat.le_refl _) (.cells #[] 207)).frozen (p := ⟨O, 0, none⟩) (block_lt_of_cell ho)).trans hof
  have d2 : ((w.alloc (.cells #[] 207)).setCell ⟨O, 0, none⟩ (.int .i64 0)).cell? ⟨P, 2, none⟩ = some (.bool false) := (cell_setCell_ne _ (fun e => hOP e.symm)).trans (cell_old _ d0)
  have f2 : (w.alloc (.cells #[] 207)).frozen? ⟨P, 2, none⟩ = false := (((Below.refl w.heap.size w).alloc (Nat.le_refl _) (.cells #[] 207)).frozen (p := ⟨P, 2, none⟩) (block_lt_of_cell d0)).trans (hp.free 2)
  clear hp d0 hr ho hof
  apply wpS_seq
  apply wpS_region
  simp [wpOpsS, go_sem, recoverD, hu, Tryz.ntmps122, Exit.thenS]
  refine wpS_of_wp ?_
  rw [tmps21]
  go_wp2
  cases c₀
  simp_all [bodyPostS, results, Tryz.results122]
end Go.Proofs.YtdmpphioflcofaaGreat.K
