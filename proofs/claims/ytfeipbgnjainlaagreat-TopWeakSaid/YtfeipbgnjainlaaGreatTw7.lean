/- What all servers look at: TSpB -/
import Derived.Test.YtfeipbgnjainlaaGreatTw6
import Derived.Test.YtfeipbgnjainlaaGreatTw1
import Derived.Deep.DeepCutAuto
set_option linter.unusedVariables false
set_option linter.unusedSimpArgs false
/- (made by genspan.py) The contract of span.over. -/
set_option maxRecDepth 100000
set_option maxHeartbeats 4000000
namespace Go.Proofs.YtfeipbgnjainlaaGreat.K
open Go Go.RowKit Go.Maps Go.Sort

theorem spcut_agg (lo hi : BitVec 64) (b : Bool) (w : World) : Calls Tryz.prog 187 #[.agg #[W64 lo,W64 hi],.bool b] w (Ret w (.agg #[W64 (T.Sp.cut ⟨lo,hi⟩ b).lo,W64 (T.Sp.cut ⟨lo,hi⟩ b).hi])) := spcut_any ⟨lo,hi⟩ b w
theorem Bank.sub {w0 w : World} {L L' : List Acc} (h : Bank w0 w L) (hs : L'.Sublist L) : Bank w0 w L' := ⟨h.since,fun x hx => h.own x (hs.subset hx),h.sep.sublist hs⟩
theorem Bank.boxL {w0 w : World} {L : List Acc} (h : Bank w0 w L) (l : List Value) (t : TypeId) (hs : l.length ≤ 1000000) : Bank w0 (w.alloc (.cells l.toArray t)) (boxAcc w.heap.size t l :: L) := h.box l.toArray t (by simpa using hs)
/-- a world that a bank tells, whatever it is -/
theorem wp_hid {P : Program} {c : Code} {Q : Exit → Act → World → Prop} {a : Act} {w0 w : World} {L : List Acc} (hB : RowKit.Hid (Bank w0 w L)) (h : ∀ w',RowKit.Hid (Bank w0 w' L) → c.wp P Q a w') : c.wp P Q a w := h w hB
/-- the first boxes of a call -/
theorem bk1 (w : World) (l1 : List Value) (t1 : TypeId) (h1 : l1.length ≤ 1000000 := by simp) : RowKit.Hid (Bank w (w.alloc (.cells l1.toArray t1)) [boxAcc (w.heap.size) t1 l1]) := by
 have h := (Bank.nil (Below.refl w.heap.size w)).boxL l1 t1 h1
 exact h
theorem bk2 (w : World) (l1 : List Value) (t1 : TypeId) (l2 : List Value) (t2 : TypeId) (h1 : l1.length ≤ 1000000 := by simp) (h2 : l2.length ≤ 1000000 := by simp) : RowKit.Hid (Bank w ((w.alloc (.cells l1.toArray t1)).alloc (.cells l2.toArray t2)) [boxAcc (w.heap.size + 1) t2 l2,boxAcc (w.heap.size) t1 l1]) := by
 have h := ((Bank.nil (Below.refl w.heap.size w)).boxL l1 t1 h1).boxL l2 t2 h2
 simp only [World.size_alloc] at h
 exact h
theorem bk3 (w : World) (l1 : List Value) (t1 : TypeId) (l2 : List Value) (t2 : TypeId) (l3 : List Value) (t3 : TypeId) (h1 : l1.length ≤ 1000000 := by simp) (h2 : l2.length ≤ 1000000 := by simp) (h3 : l3.length ≤ 1000000 := by simp) : RowKit.Hid (Bank w (((w.alloc (.cells l1.toArray t1)).alloc (.cells l2.toArray t2)).alloc (.cells l3.toArray t3)) [boxAcc (w.heap.size + 1 + 1) t3 l3,boxAcc (w.heap.size + 1) t2 l2,boxAcc (w.heap.size) t1 l1]) := by
 have h := (((Bank.nil (Below.refl w.heap.size w)).boxL l1 t1 h1).boxL l2 t2 h2).boxL l3 t3 h3
 simp only [World.size_alloc] at h
 exact h
theorem bk4 (w : World) (l1 : List Value) (t1 : TypeId) (l2 : List Value) (t2 : TypeId) (l3 : List Value) (t3 : TypeId) (l4 : List Value) (t4 : TypeId) (h1 : l1.length ≤ 1000000 := by simp) (h2 : l2.length ≤ 1000000 := by simp) (h3 : l3.length ≤ 1000000 := by simp) (h4 : l4.length ≤ 1000000 := by simp) : RowKit.Hid (Bank w ((((w.alloc (.cells l1.toArray t1)).alloc (.cells l2.toArray t2)).alloc (.cells l3.toArray t3)).alloc (.cells l4.toArray t4)) [boxAcc (w.heap.size + 1 + 1 + 1) t4 l4,boxAcc (w.heap.size + 1 + 1) t3 l3,boxAcc (w.heap.size + 1) t2 l2,boxAcc (w.heap.size) t1 l1]) := by
 have h := ((((Bank.nil (Below.refl w.heap.size w)).boxL l1 t1 h1).boxL l2 t2 h2).boxL l3 t3 h3).boxL l4 t4 h4
 simp only [World.size_alloc] at h
 exact h
theorem cell_drew {w : World} {p : Addr} {v : Value} (h : w.cell? p = some v) : w.drew.cell? p = some v := h
theorem Bank.twice {w0 w : World} {L : List Acc} {i : Nat} {g : Nat} {t : TypeId} {vs : List Value} (h : Bank w0 w (L.set i (boxAcc g t vs))) (hl : i < L.length) (j : Nat) (v : Value) : Bank w0 (w.setCell ⟨g,j,Option.none⟩ v) (L.set i (boxAcc g t (vs.set j v))) := by
 have := h.boxSet i (by rw [List.getElem?_set_self hl]) j v
 rwa [List.set_set] at this
theorem Bank.set7 {w0 w : World} {L : List Acc} (h : Bank w0 w L) (i : Nat) {g : Nat} {t : TypeId} {v0 v1 v2 v3 v4 v5 v6 : Value} (hi : L[i]? = some (boxAcc g t [v0,v1,v2,v3,v4,v5,v6])) (u0 u1 u2 u3 u4 u5 u6 : Value) : Bank w0 (((((((w.setCell ⟨g,0,Option.none⟩ u0).setCell ⟨g,1,Option.none⟩ u1).setCell ⟨g,2,Option.none⟩ u2).setCell ⟨g,3,Option.none⟩ u3).setCell ⟨g,4,Option.none⟩ u4).setCell ⟨g,5,Option.none⟩ u5).setCell ⟨g,6,Option.none⟩ u6) (L.set i (boxAcc g t [u0,u1,u2,u3,u4,u5,u6])) := by
 have hl : i < L.length := (List.getElem?_eq_some_iff.1 hi).1
 exact (((((((h.boxSet i hi 0 u0).twice hl 1 u1).twice hl 2 u2).twice hl 3 u3).twice hl 4 u4).twice hl 5 u5).twice hl 6 u6)
theorem ovk {w0 w : World} {g X Y : Nat} {p : Acc} {t T : TypeId} {v0 v1 v2 v3 v4 v5 v6 a b c d : Value} (h : Bank w0 w [boxAcc g T [v0,v1,v2,v3,v4,v5,v6],p,boxAcc Y t [c,d],boxAcc X t [a,b]]) (u0 u1 u2 u3 u4 u5 u6 : Value) :
  (((((((w.setCell ⟨g,0,none⟩ u0).setCell ⟨g,1,none⟩ u1).setCell ⟨g,2,none⟩ u2).setCell ⟨g,3,none⟩ u3).setCell ⟨g,4,none⟩ u4).setCell ⟨g,5,none⟩ u5).setCell ⟨g,6,none⟩ u6).cell? ⟨X,0,none⟩ = some a ∧ (((((((w.setCell ⟨g,0,none⟩ u0).setCell ⟨g,1,none⟩ u1).setCell ⟨g,2,none⟩ u2).setCell ⟨g,3,none⟩ u3).setCell ⟨g,4,none⟩ u4).setCell ⟨g,5,none⟩ u5).setCell ⟨g,6,none⟩ u6).cell? ⟨X,1,none⟩ = some b ∧ (((((((w.setCell ⟨g,0,none⟩ u0).setCell ⟨g,1,none⟩ u1).setCell ⟨g,2,none⟩ u2).setCell ⟨g,3,none⟩ u3).setCell ⟨g,4,none⟩ u4).setCell ⟨g,5,none⟩ u5).setCell ⟨g,6,none⟩ u6).cell? ⟨Y,0,none⟩ = some c ∧ (((((((w.setCell ⟨g,0,none⟩ u0).setCell ⟨g,1,none⟩ u1).setCell ⟨g,2,none⟩ u2).setCell ⟨g,3,none⟩ u3).setCell ⟨g,4,none⟩ u4).setCell ⟨g,5,none⟩ u5).setCell ⟨g,6,none⟩ u6).cell? ⟨Y,1,none⟩ = some d := by
 have hB := h.set7 0 rfl u0 u1 u2 u3 u4 u5 u6
 exact ⟨hB.cell (vs := [a,b]) 3 rfl 0 rfl,hB.cell (vs := [a,b]) 3 rfl 1 rfl,hB.cell (vs := [c,d]) 2 rfl 0 rfl,hB.cell (vs := [c,d]) 2 rfl 1 rfl⟩
theorem ove {w0 w : World} {g : Nat} {p q r : Acc} {T : TypeId} {v0 v1 v2 v3 v4 v5 v6 : Value} (h : Bank w0 w [boxAcc g T [v0,v1,v2,v3,v4,v5,v6],p,q,r]) (u0 u1 u2 u3 u4 u5 u6 : Value) : Bank w0 (((((((w.setCell ⟨g,0,none⟩ u0).setCell ⟨g,1,none⟩ u1).setCell ⟨g,2,none⟩ u2).setCell ⟨g,3,none⟩ u3).setCell ⟨g,4,none⟩ u4).setCell ⟨g,5,none⟩ u5).setCell ⟨g,6,none⟩ u6) [boxAcc g T [u0,u1,u2,u3,u4,u5,u6],p] :=
 (h.set7 0 rfl u0 u1 u2 u3 u4 u5 u6).sub (.cons_cons _ (.cons_cons _ (.cons _ (.cons _ .slnil))))
theorem ovf {w0 w : World} {p q r : Acc} {T : TypeId} (h : Bank w0 w [p,q,r]) (l : List Value) (hs : l.length ≤ 1000000) : Bank w0 (w.alloc (.cells l.toArray T)) [boxAcc w.heap.size T l,p] :=
 (h.boxL l T hs).sub (.cons_cons _ (.cons_cons _ (.cons _ (.cons _ .slnil))))
def OvI (w : World) (l : List Value) (X2 : Nat) (s : Value) (wx : World) : Prop := ∃ g,s = .pointer (some ⟨g,0,none⟩) ∧ Bank w wx [boxAcc g 190 l,boxAcc X2 190 [W64 0#64,W64 0#64,W64 0#64,W64 0#64,.bool false,W64 0#64,W64 0#64]]
theorem ovI_mk {w wx : World} {l : List Value} {X2 g : Nat} (h : Bank w wx [boxAcc g 190 l,boxAcc X2 190 [W64 0#64,W64 0#64,W64 0#64,W64 0#64,.bool false,W64 0#64,W64 0#64]]) : OvI w l X2 (.pointer (some ⟨g,0,none⟩)) wx := ⟨g,rfl,h⟩
theorem spover_any (narrow : Bool) (s t : T.Sp) (w : World) : Calls Tryz.prog 136 #[.bool narrow,spv s,spv t] w (Ret w (wkv (T.Wk.over narrow s t))) := by
 obtain ⟨lo,hi⟩ := s
 obtain ⟨lo2,hi2⟩ := t
 unfold spv
 have BK := bk3 w [W64 lo,W64 hi] 111 [W64 lo2,W64 hi2] 111 [W64 0#64,W64 0#64,W64 0#64,W64 0#64,.bool false,W64 0#64,W64 0#64] 190
 go_enter Tryz.func136,Tryz.ntmps136
 go_upto_region 1 with fail
 generalize hX : w.heap.size = X at *
 have HX := Lib.hid hX
 clear hX
 refine wp_hid BK (fun w1 BK => ?_)
 go_cut [7] (fun s wx => OvI w [W64 (T.Sp.cut ⟨lo,hi⟩ narrow).lo,W64 (T.Sp.cut ⟨lo,hi⟩ narrow).hi,W64 (T.Sp.cut ⟨lo2,hi2⟩ narrow).lo,W64 (T.Sp.cut ⟨lo2,hi2⟩ narrow).hi,.bool narrow,W64 18446744073709551615#64,W64 64#64] (X + 1 + 1) s wx)
 case first =>
  have hB := BK.out
  obtain ⟨y0,y1⟩ : w1.drew.cell? ⟨X,0,none⟩ = some (W64 lo) ∧ w1.drew.cell? ⟨X,1,none⟩ = some (W64 hi) := ⟨hB.cell 2 rfl 0 rfl,hB.cell 2 rfl 1 rfl⟩
  obtain ⟨y2,y3⟩ : w1.drew.cell? ⟨X + 1,0,none⟩ = some (W64 lo2) ∧ w1.drew.cell? ⟨X + 1,1,none⟩ = some (W64 hi2) := ⟨hB.cell 1 rfl 0 rfl,hB.cell 1 rfl 1 rfl⟩
  go_region_held3 (fun w' => w'.cell? ⟨X,0,none⟩ = some (W64 lo) ∧ w'.cell? ⟨X,1,none⟩ = some (W64 hi) ∧ w'.cell? ⟨X + 1,0,none⟩ = some (W64 lo2) ∧ w'.cell? ⟨X + 1,1,none⟩ = some (W64 hi2))
   (first
    | with_reducible exact ⟨hB.cell 2 rfl 0 rfl,hB.cell 2 rfl 1 rfl,hB.cell 1 rfl 0 rfl,hB.cell 1 rfl 1 rfl⟩
    | with_reducible exact ⟨hB.cell 3 rfl 0 rfl,hB.cell 3 rfl 1 rfl,hB.cell 2 rfl 0 rfl,hB.cell 2 rfl 1 rfl⟩
    | with_reducible exact ⟨cell_drew (hB.cell 2 rfl 0 rfl),cell_drew (hB.cell 2 rfl 1 rfl),cell_drew (hB.cell 1 rfl 0 rfl),cell_drew (hB.cell 1 rfl 1 rfl)⟩
    | with_reducible exact ⟨cell_old _ (hB.cell 2 rfl 0 rfl),cell_old _ (hB.cell 2 rfl 1 rfl),cell_old _ (hB.cell 1 rfl 0 rfl),cell_old _ (hB.cell 1 rfl 1 rfl)⟩
    | with_reducible exact ⟨cell_drew (cell_old _ (hB.cell 2 rfl 0 rfl)),cell_drew (cell_old _ (hB.cell 2 rfl 1 rfl)),cell_drew (cell_old _ (hB.cell 1 rfl 0 rfl)),cell_drew (cell_old _ (hB.cell 1 rfl 1 rfl))⟩
    | with_reducible exact ovk hB _ _ _ _ _ _ _
    | fail "keep")
   (first
    | (go_at_call 187; refine (spcut_agg _ _ _ _).mono ?_; rintro e w2 ⟨rfl,hs⟩; (first | (have hB := hB.call hs; have q0 := hB.cell 0 rfl 0 rfl; have q1 := hB.cell 0 rfl 1 rfl; have q2 := hB.cell 0 rfl 2 rfl; have q3 := hB.cell 0 rfl 3 rfl; have q4 := hB.cell 0 rfl 4 rfl; have q5 := hB.cell 0 rfl 5 rfl; have q6 := hB.cell 0 rfl 6 rfl; have p0 := hB.free 0 rfl 0; have p1 := hB.free 0 rfl 1; have p2 := hB.free 0 rfl 2; have p3 := hB.free 0 rfl 3; have p4 := hB.free 0 rfl 4; have p5 := hB.free 0 rfl 5; have p6 := hB.free 0 rfl 6) | (have hB := hB.drew.call hs; have q0 := hB.cell 0 rfl 0 rfl; have q1 := hB.cell 0 rfl 1 rfl; have q2 := hB.cell 0 rfl 2 rfl; have q3 := hB.cell 0 rfl 3 rfl; have q4 := hB.cell 0 rfl 4 rfl; have q5 := hB.cell 0 rfl 5 rfl; have q6 := hB.cell 0 rfl 6 rfl; have p0 := hB.free 0 rfl 0; have p1 := hB.free 0 rfl 1; have p2 := hB.free 0 rfl 2; have p3 := hB.free 0 rfl 3; have p4 := hB.free 0 rfl 4; have p5 := hB.free 0 rfl 5; have p6 := hB.free 0 rfl 6) | (have hB := (hB.boxL [W64 0#64,W64 0#64,W64 0#64,W64 0#64,.bool false,W64 0#64,W64 0#64] 190 (by simp)).call hs; have q0 := hB.cell 0 rfl 0 rfl; have q1 := hB.cell 0 rfl 1 rfl; have q2 := hB.cell 0 rfl 2 rfl; have q3 := hB.cell 0 rfl 3 rfl; have q4 := hB.cell 0 rfl 4 rfl; have q5 := hB.cell 0 rfl 5 rfl; have q6 := hB.cell 0 rfl 6 rfl; have p0 := hB.free 0 rfl 0; have p1 := hB.free 0 rfl 1; have p2 := hB.free 0 rfl 2; have p3 := hB.free 0 rfl 3; have p4 := hB.free 0 rfl 4; have p5 := hB.free 0 rfl 5; have p6 := hB.free 0 rfl 6) | (have hB := (hB.boxL [W64 0#64,W64 0#64,W64 0#64,W64 0#64,.bool false,W64 0#64,W64 0#64] 190 (by simp)).drew.call hs; have q0 := hB.cell 0 rfl 0 rfl; have q1 := hB.cell 0 rfl 1 rfl; have q2 := hB.cell 0 rfl 2 rfl; have q3 := hB.cell 0 rfl 3 rfl; have q4 := hB.cell 0 rfl 4 rfl; have q5 := hB.cell 0 rfl 5 rfl; have q6 := hB.cell 0 rfl 6 rfl; have p0 := hB.free 0 rfl 0; have p1 := hB.free 0 rfl 1; have p2 := hB.free 0 rfl 2; have p3 := hB.free 0 rfl 3; have p4 := hB.free 0 rfl 4; have p5 := hB.free 0 rfl 5; have p6 := hB.free 0 rfl 6)); clear hs)
    | fail "arm")
  all_goals
   go_wp2_with fail
   go_meet
   first
    | (have hZ := fun a b c d e f g => ove hB a b c d e f g; with_reducible exact ovI_mk (hZ _ _ _ _ _ _ _))
    | with_reducible exact ovI_mk (ovf hB _ (by simp))
 case rest =>
  obtain ⟨g,rfl,hB⟩ := hcut
  have HB := Lib.hid hB
  have hne : g ≠ X + 1 + 1 := hB.ne (i := 0) (j := 1) rfl rfl (by decide)
  have hne2 : X + 1 + 1 ≠ g := fun e => hne e.symm
  obtain ⟨z0,z1,z2,z3,z4,z5,z6⟩ := hB.q7 0 rfl
  obtain ⟨x0,x1,x2,x3,x4,x5,x6,f0,f1,f2,f3,f4,f5,f6⟩ := hB.r7 1 rfl
  have p5 := hB.free 0 rfl 5
  have p6 := hB.free 0 rfl 6
  clear hB BK
  generalize X + 1 + 1 = Y at *
  cases narrow with
  | false =>
   go_wp2
   refine bodyPost_ret (v := (.agg #[W64 (T.Sp.cut ⟨lo,hi⟩ false).lo,W64 (T.Sp.cut ⟨lo,hi⟩ false).hi,W64 (T.Sp.cut ⟨lo2,hi2⟩ false).lo,W64 (T.Sp.cut ⟨lo2,hi2⟩ false).hi,.bool false,W64 18446744073709551615#64,W64 64#64])) ?_ rfl ⟨rfl,(HB.out.set7 1 rfl _ _ _ _ _ _ _).since⟩
   simp [results,Tryz.results136,go_sem,x0,x1,x2,x3,x4,x5,x6]
  | true =>
   go_wp2
   refine bodyPost_ret (v := (.agg #[W64 (T.Sp.cut ⟨lo,hi⟩ true).lo,W64 (T.Sp.cut ⟨lo,hi⟩ true).hi,W64 (T.Sp.cut ⟨lo2,hi2⟩ true).lo,W64 (T.Sp.cut ⟨lo2,hi2⟩ true).hi,.bool true,W64 4294967295#64,W64 32#64])) ?_ rfl ⟨rfl,(((HB.out.boxSet 0 rfl 5 _).boxSet 0 rfl 6 _).set7 1 rfl _ _ _ _ _ _ _).since⟩
   simp [results,Tryz.results136,go_sem,x0,x1,x2,x3,x4,x5,x6,hne,hne2]
end Go.Proofs.YtfeipbgnjainlaaGreat.K
