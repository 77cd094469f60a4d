/- The iterator of frame's scan. -/
import Derived.Test.YtfpjmeknjhhakaaFrAllS
namespace Go.Proofs.Ytfpjmeknjhhakaa.K
open Go Go.RowKit Go.Shelf
attribute [local go_sem] Oper.semAt_some

theorem all_any (S : Nat) (w : World) : Calls Try.prog 51 #[.pointer (some ⟨S, 0, none⟩)] w fun e w' => e = .returned (.func (.func 104) #[] #[.pointer (some ⟨w.heap.size, 0, none⟩)]) ∧ w' = w.alloc (.cells #[.pointer (some ⟨S, 0, none⟩)] 120) := by
  have hmf : ∀ (fn : Fn) (first cap : Array Value) (w : World), (Instr.makeFunc fn first cap).run Try.prog w = .ok (.func fn first cap) w := fun _ _ _ _ => rfl
  go_enter Try.func51, Try.ntmps51
  go_wp2
  go_ret
  exact ⟨rfl, rfl⟩
/-- what next has told, both ways -/
def Uni (w0 : World) (l0 : List (BitVec 8)) (Bx S Bf Lr Dd : Nat) (rec : LoopState → Option Code → Loop) (T : List Acc) (ps : List FR) (kd : Int) (D : Option Addr) (m d : Nat) (bb : Bool) (W : World) : Prop :=
  (bb = true ∧ ∃ bs, SPend w0 l0 Bx S Bf Lr Dd rec T ps ⟨kd, ⟨D, m, d⟩, bs⟩ W) ∨ (bb = false ∧ SEnd w0 l0 Bx S Bf Lr Dd rec T ps W)
section
variable {w0 : World} {l0 : List (BitVec 8)} {Bx S Bf Lr Dd : Nat} {rec : LoopState → Option Code → Loop} {T : List Acc} {ps : List FR} {W : World} {kd : Int} {D : Option Addr} {m d : Nat} {bb : Bool}
theorem mono_next (hl0 : l0.length ≤ 100000000000) (h : SInv w0 l0 Bx S Bf Lr Dd rec T ps W) (n : Nat) :
    CallsIn Fence.wide n Try.prog 105 #[.pointer (some ⟨S, 0, none⟩)] W fun e W' => ∃ kd D m d bb, e = .returned (.tuple #[.agg #[.int .i64 kd, .slice D m d], .bool bb]) ∧ Uni w0 l0 Bx S Bf Lr Dd rec T ps kd D m d bb W' :=
  callsIn_wide.2 ((next_inv w0 l0 Bx S Bf Lr Dd rec T ps W hl0 h).mono fun e W' h => by
    rcases h with ⟨p, he, hP⟩ | ⟨kd, D, m, d, he, hE⟩
    · exact ⟨_, _, _, _, true, he, .inl ⟨rfl, p.bs, hP⟩⟩
    · exact ⟨_, _, _, _, false, he, .inr ⟨rfl, hE⟩⟩)
theorem Uni.alloc (h : Uni w0 l0 Bx S Bf Lr Dd rec T ps kd D m d bb W) (cs : Array Value) (t : TypeId) (hs : cs.size ≤ 1000000) : Uni w0 l0 Bx S Bf Lr Dd rec (boxAcc W.heap.size t cs.toList :: T) ps kd D m d bb (W.alloc (.cells cs t)) :=
  h.imp (fun ⟨h, bs, hp⟩ => ⟨h, bs, hp.alloc cs t hs⟩) (fun ⟨h, hp⟩ => ⟨h, hp.alloc cs t hs⟩)
theorem Uni.set {X : Nat} {t : TypeId} {vs : List Value} (h : Uni w0 l0 Bx S Bf Lr Dd rec (boxAcc X t vs :: T) ps kd D m d bb W) (j : Nat) (v : Value) : Uni w0 l0 Bx S Bf Lr Dd rec (boxAcc X t (vs.set j v) :: T) ps kd D m d bb (W.setCell ⟨X, j, none⟩ v) :=
  h.imp (fun ⟨h, bs, hp⟩ => ⟨h, bs, hp.set j v⟩) (fun ⟨h, hp⟩ => ⟨h, hp.set j v⟩)
theorem Uni.head {X : Nat} {t : TypeId} {vs : List Value} (h : Uni w0 l0 Bx S Bf Lr Dd rec (boxAcc X t vs :: T) ps kd D m d bb W) : W.heap[X]? = some (.cells vs.toArray t (0, 0)) := by
  rcases h with ⟨_, bs, h⟩ | ⟨_, h⟩
  · exact h.head
  · exact h.head
end
def AllRel (w0 : World) (l0 : List (BitVec 8)) (Bx S Bf Lr Dd : Nat) (rec : LoopState → Option Code → Loop) (a b : Value) (wr : World) : Prop :=
  ∃ T ps X kd D m d bb, a = .pointer (some ⟨X, 0, none⟩) ∧ b = .bool bb ∧ Uni w0 l0 Bx S Bf Lr Dd rec (boxAcc X 36 [.int .i64 kd, .slice D m d] :: T) ps kd D m d bb wr
/-- how much may be to come -/
def leftOf (l0 : List (BitVec 8)) (Bf : Nat) (b : Value) (wr : World) : Nat := match b with
  | .bool true => l0.length + 1 - toldOf Bf wr
  | _ => 0
set_option maxHeartbeats 4000000 in
set_option maxRecDepth 100000 in
theorem all1_in (w0 : World) (l0 : List (BitVec 8)) (Bx S Bf Lr Dd : Nat) (rec : LoopState → Option Code → Loop) (n : Nat) (hl0 : l0.length ≤ 100000000000)
    (hY : ∀ T ps p W, SPend w0 l0 Bx S Bf Lr Dd rec T ps p W → YieldAt Fence.wide (n - 1) Try.prog Lr #[.agg #[.int .i64 p.k, .slice p.x.A p.x.n p.x.c]] W fun e W' => e = .returned (.bool true) ∧ SInv w0 l0 Bx S Bf Lr Dd rec T (ps ++ [p]) W')
    (W : World) (h0 : SInv w0 l0 Bx S Bf Lr Dd rec [] [] W) :
    CallsIn Fence.wide n Try.prog 104 #[.func (.yield Lr) #[] #[], .pointer (some ⟨Bx, 0, none⟩)] W fun e W' => (∃ v, e = .returned v) ∧ ∃ T ps, SEnd w0 l0 Bx S Bf Lr Dd rec T ps W' := by
  refine callsIn_of_wp Try.func104 rfl trivial ?_ rfl
  simp only [Try.ntmps104, List.size_toArray, List.length_cons, List.length_nil, Nat.reduceAdd, Nat.reduceSub, Array.replicate_succ, Array.replicate_zero, List.push_toArray, List.append_toArray, List.nil_append, List.cons_append]
  have hc := h0.recv
  have HI := Lib.hid h0
  have HY := Lib.hid hY
  clear h0 hY
  gi_wp2_with fail
  refine ⟨trivial, (fun h => by simp [Fence.wide] at h), ?_⟩
  refine (mono_next hl0 HI.out _).mono ?_
  rintro e w1 ⟨kd, D, m, d, bb, rfl, hU⟩
  have HR := Lib.hid (show AllRel w0 l0 Bx S Bf Lr Dd rec (.pointer (some ⟨w1.heap.size, 0, none⟩)) (.bool bb) (w1.alloc (.cells #[.int .i64 kd, .slice D m d] 36)) from ⟨_, _, _, kd, D, m, d, bb, rfl, rfl, hU.alloc #[.int .i64 kd, .slice D m d] 36 (by simp)⟩)
  clear hU hc HI
  gi_wp2_with fail
  gi_loopw [3, 4] (fun a b wr => AllRel w0 l0 Bx S Bf Lr Dd rec a b wr) (fun _ b wr => leftOf l0 Bf b wr)
  case atStart => exact HR.out
  case round =>
    clear HR
    obtain ⟨T, ps, X, kd', D', m', d', bb', rfl, rfl, hU⟩ := hrel
    obtain ⟨⟨x0, x1⟩, y0, y1⟩ := cells_two hU.head
    rcases hU with ⟨rfl, bs, hP⟩ | ⟨rfl, hE⟩
    · obtain ⟨fn, tmps, assign, body, hy, hR⟩ := HY.out _ _ _ _ hP
      have hlt := hP.told
      have HLT := Lib.hid hlt
      clear hlt
      have HP := Lib.hid hP
      clear hP
      gi_wp2_with fail
      refine ⟨(fun h => by simp [Fence.wide] at h), ?_⟩
      refine hR.mono ?_
      rintro e w2 ⟨rfl, hI⟩
      obtain ⟨⟨q0, q1⟩, z0, z1⟩ := cells_two hI.head
      have HI2 := Lib.hid (hI.alloc #[.int .i64 kd', .slice D' m' d'] 36 (by simp))
      have rc := HI2.out.recv
      clear hI x0 x1 y0 y1 hR
      gi_wp2_with fail
      refine ⟨trivial, (fun h => by simp [Fence.wide] at h), ?_⟩
      refine (mono_next hl0 HI2.out _).mono ?_
      rintro e w3 ⟨kd3, D3, m3, d3, bb3, rfl, hU3⟩
      have HU4 := Lib.hid ((hU3.set 0 (.int .i64 kd3)).set 1 (.slice D3 m3 d3))
      obtain ⟨⟨v0, v1⟩, f0, f1⟩ := cells_two hU3.head
      clear hU3 q0 q1 z0 z1 rc HI2
      gi_wp2_with fail
      have hrel : AllRel w0 l0 Bx S Bf Lr Dd rec (.pointer (some ⟨w2.heap.size, 0, none⟩)) (.bool bb3) ((w3.setCell ⟨w2.heap.size, 0, none⟩ (.int .i64 kd3)).setCell ⟨w2.heap.size, 1, none⟩ (.slice D3 m3 d3)) := ⟨_, _, _, kd3, D3, m3, d3, bb3, rfl, rfl, HU4.out⟩
      have hmeas : leftOf l0 Bf (.bool bb3) ((w3.setCell ⟨w2.heap.size, 0, none⟩ (.int .i64 kd3)).setCell ⟨w2.heap.size, 1, none⟩ (.slice D3 m3 d3)) < leftOf l0 Bf (.bool true) wr := by
        have h1 := HLT.out
        show _ < l0.length + 1 - toldOf Bf wr
        rcases HU4.out with ⟨rfl, bs3, hP3⟩ | ⟨rfl, _⟩
        · have h2 := hP3.told
          show l0.length + 1 - toldOf Bf _ < _
          rw [h2.1, h1.1]
          have h3 := h2.2
          rw [List.length_append] at h3 ⊢
          simp at h3 ⊢
          omega
        · show 0 < _
          omega
      have HM := Lib.hid hmeas; have HRL := Lib.hid hrel
      clear hmeas hrel
      go_roundw
      case rel => exact HRL.out
      case measure => exact HM.out
    · have HE := Lib.hid hE
      clear hE
      gi_wp2_with fail
      refine ⟨fun _ h => (by cases h), ?_⟩
      gi_wp2_with fail
      go_end0
      exact ⟨⟨_, rfl⟩, _, _, HE.out⟩
end Go.Proofs.Ytfpjmeknjhhakaa.K
