/- Loads that are taken first in a drawn region which later writes their cells: the condition on the world may hang on what has come up. Plain lemmas over any program (the base's wpAnyH with S by what is listed). -/
import Derived.OrdersHeld
import Derived.Deep.RegionHeld
namespace Go.Proofs.YtdmpphioflcofaaGreat.K
open Go

section
variable {P : Program} {ops : Array Oper} {Q : Exit → Act → World → Prop} {md : Region.Mode} {S : Array Bool → World → Prop}
/-- what has come up has come up behind what it waits for -/
def ShutL (md : Region.Mode) (ops : Array Oper) (l : Array Bool) : Prop := ∀ j oj, ops[j]? = some oj → l.getD j false = true → ∀ e ∈ oj.after, Region.binds md e = true → l.getD e.on false = true
theorem ShutL.start (n : Nat) : ShutL md ops (Array.replicate n false) := fun j oj _ h => by
  exfalso
  rw [Array.getD_eq_getD_getElem?] at h
  rcases Nat.lt_or_ge j n with h1 | h1
  · rw [Array.getElem?_replicate, if_pos h1] at h; simp at h
  · rw [Array.getElem?_replicate, if_neg (by omega)] at h; simp at h
theorem getD_set_same {l : Array Bool} {i : Nat} (h : i < l.size) (d : Bool) : (l.setIfInBounds i true).getD i d = true := by
  simp [Array.getD_eq_getD_getElem?, h]
theorem getD_mono {l : Array Bool} {i j : Nat} (h : l.getD j false = true) : (l.setIfInBounds i true).getD j false = true := by
  by_cases hij : i = j
  · subst hij
    have : i < l.size := by
      rcases Nat.lt_or_ge i l.size with h1 | h1
      · exact h1
      · rw [Array.getD_eq_getD_getElem?, Array.getElem?_eq_none h1] at h; simp at h
    exact getD_set_same this _
  · rw [getD_set_ne false hij]; exact h
theorem ShutL.set {l : Array Bool} {i : Nat} (h : ShutL md ops l) (hi : i ∈ Region.ready md ops l) : ShutL md ops (l.setIfInBounds i true) := fun j oj hj hl e he hb => by
  by_cases hij : i = j
  · subst hij
    obtain ⟨_, o, ho, hall⟩ := mem_ready.1 hi
    rw [hj] at ho
    cases ho
    exact getD_mono (hall e he hb)
  · rw [getD_set_ne false hij] at hl
    exact getD_mono (h j oj hj hl e he hb)
/-- whatever order is picked, and S holds behind every operation, of what has come up then -/
def wpAnyL (P : Program) (md : Region.Mode) (ops : Array Oper) (Q : Exit → Act → World → Prop) (S : Array Bool → World → Prop) : Nat → Array Bool → Act → World → Prop
  | 0, listed, a, w => Region.ready md ops listed = [] ∧ Q .normal a w
  | fuel + 1, listed, a, w =>
    (Region.ready md ops listed = [] → Q .normal a w) ∧
    ∀ i ∈ Region.ready md ops listed, wpOp P ops Q i (fun a' w' => S (listed.setIfInBounds i true) w' ∧ wpAnyL P md ops Q S fuel (listed.setIfInBounds i true) a' w') a w
theorem wpAny_of_L : ∀ (fuel : Nat) (listed : Array Bool) (a : Act) (w : World), wpAnyL P md ops Q S fuel listed a w → wpAny P md ops Q fuel listed a w
  | 0, _, _, _, h => h
  | fuel + 1, _, _, _, h => ⟨h.1, fun i hi => wpOp_mono (fun a' w' h' => wpAny_of_L fuel _ a' w' h'.2) (h.2 i hi)⟩
theorem wpAnyL_first {i : Nat} {oi : Oper} {v : Value} {S0 : World → Prop} (hi : ops[i]? = some oi) (hsel : ∀ (j : Nat) (o : Oper) cs b, ops[j]? = some o → o.op ≠ .select cs b)
    (hQ : ∀ c a w, Q (.panic c) (a.put oi.dst v) w → Q (.panic c) a w) (hm : ∀ l w, S (l.setIfInBounds i true) w ↔ S l w) (h0 : ∀ l w, ShutL md ops l → l.getD i true = false → S l w → S0 w) :
    ∀ (fuel : Nat) (listed : Array Bool) (a : Act) (w : World), ShutL md ops listed →
      (∀ j oj, ops[j]? = some oj → j ≠ i → listed.getD j true = false → (∀ e ∈ oj.after, Region.binds md e = true → e.on ≠ i) → oi.apart ops oj = true) →
      i ∈ Region.ready md ops listed → YieldsIf P ops S0 oi v a → S listed w →
      wpAnyL P md ops Q S fuel (listed.setIfInBounds i true) (a.put oi.dst v) w → wpAnyL P md ops Q S (fuel + 1) listed a w := by
  intro fuel
  induction fuel with
  | zero =>
    intro listed a w hsh _ hr hy hS H
    refine ⟨fun h => (by rw [h] at hr; cases hr), fun j hj => ?_⟩
    by_cases hji : j = i
    · subst hji; exact hy.wpOp hi (h0 _ _ hsh (mem_ready.1 hr).1 hS) ⟨(hm _ _).2 hS, H⟩
    · have := ready_mono hj hji
      rw [H.1] at this
      cases this
  | succ fuel ih =>
    intro listed a w hsh hfree hr hy hS H
    refine ⟨fun h => (by rw [h] at hr; cases hr), fun j hj => ?_⟩
    by_cases hji : j = i
    · subst hji; exact hy.wpOp hi (h0 _ _ hsh (mem_ready.1 hr).1 hS) ⟨(hm _ _).2 hS, H⟩
    · have h1 := H.2 j (ready_mono hj hji)
      obtain ⟨hjun, oj, hoj, hall⟩ := mem_ready.1 hj
      have hnot : ∀ e ∈ oj.after, Region.binds md e = true → e.on ≠ i := fun e he hb heq => by
        have h1 := hall e he hb
        have h0 := (mem_ready.1 hr).1
        rw [heq] at h1
        rcases Nat.lt_or_ge i listed.size with h' | h'
        · simp [h'] at h0 h1; rw [h0] at h1; cases h1
        · simp [Array.getElem?_eq_none h'] at h1
      have h2 := wpOp_putIf hoj (hfree j oj hoj hji hjun hnot) (fun cs b => hsel i oi cs b hi) (fun cs b => hsel j oj cs b hoj) hQ hy h1
      have hfree' : ∀ k ok, ops[k]? = some ok → k ≠ i → (listed.setIfInBounds j true).getD k true = false →
          (∀ e ∈ ok.after, Region.binds md e = true → e.on ≠ i) → oi.apart ops ok = true := fun k ok hk hki hun hno => by
        refine hfree k ok hk hki ?_ hno
        by_cases hjk : j = k
        · subst hjk; exact hjun
        · rw [getD_set_ne true hjk] at hun; exact hun
      refine wpOp_mono (fun a' w' h3 => ?_) h2
      have h4 := h3.2
      rw [Array.setIfInBounds_comm _ _ (Ne.symm hji)] at h4
      have h5 := (hm _ _).1 h4.1
      exact ⟨h5, ih (listed.setIfInBounds j true) a' w' (hsh.set hj) hfree' (ready_mono hr (Ne.symm hji)) h3.1 h5 h4.2⟩
/-- take number i first -/
theorem wpAnyL_take {S0 : World → Prop} {i : Nat} {oi : Oper} {v : Value} {fuel : Nat} {listed : Array Bool} {a : Act} {w : World} (hi : ops[i]? = some oi)
    (hs : Region.noSelect ops = true) (hf : Region.free md ops listed i = true) (hr : (Region.ready md ops listed).contains i = true)
    (hQ : ∀ c a w, Q (.panic c) (a.put oi.dst v) w → Q (.panic c) a w) (hm : ∀ l w, S (l.setIfInBounds i true) w ↔ S l w) (h0 : ∀ l w, ShutL md ops l → l.getD i true = false → S l w → S0 w)
    (hsh : ShutL md ops listed) (hy : YieldsIf P ops S0 oi v a) (hS : S listed w)
    (h : ShutL md ops (listed.setIfInBounds i true) → S (listed.setIfInBounds i true) w → wpAnyL P md ops Q S fuel (listed.setIfInBounds i true) (a.put oi.dst v) w) : wpAnyL P md ops Q S (fuel + 1) listed a w :=
  wpAnyL_first hi (Region.noSelect_spec hs) hQ hm h0 fuel listed a w hsh (Region.free_spec hi hf) (by simpa using hr) hy hS (h (hsh.set (by simpa using hr)) ((hm _ _).2 hS))
/-- but one may come up -/
theorem wpAnyL_one {i : Nat} {o : Oper} {fuel : Nat} {listed : Array Bool} {a : Act} {w : World} (hsh : ShutL md ops listed) (hr : Region.ready md ops listed = [i]) (ho : ops[i]? = some o)
    (h : ∀ K' : Act → World → Prop, Shut (∀ a w, S (listed.setIfInBounds i true) w → (ShutL md ops (listed.setIfInBounds i true) → S (listed.setIfInBounds i true) w → wpAnyL P md ops Q S fuel (listed.setIfInBounds i true) a w) → K' a w) → if Region.wanted o (yielded ops a.tmps) = true then Oper.wp P o a w K' Q else K' (a.put o.dst undef) w) :
    wpAnyL P md ops Q S (fuel + 1) listed a w :=
  ⟨fun h0 => (by rw [hr] at h0; cases h0), fun j hj => by
    rw [hr] at hj
    obtain rfl := List.mem_singleton.1 hj
    exact wpOp_step ho (fun K' hK => h K' (fun a w hS hW => hK a w ⟨hS, hW (hsh.set (by rw [hr]; exact List.mem_singleton.2 rfl)) hS⟩))⟩
theorem wpAnyL_done {listed : Array Bool} {a : Act} {w : World} (hr : Region.ready md ops listed = []) (h : Q .normal a w) : ∀ fuel, wpAnyL P md ops Q S fuel listed a w
  | 0 => ⟨hr, h⟩
  | _ + 1 => ⟨fun _ => h, by rw [hr]; simp⟩
/-- the beginning -/
theorem wp_region_L {id : Nat} {a : Act} {w : World} (S : Array Bool → World → Prop) (hm : P.follows .mixedOrders = true)
    (h : ShutL .any ops (Array.replicate ops.size false) → wpAnyL P .any ops Q S ops.size (Array.replicate ops.size false) a w.drew) : (Code.region id ops true).wp P Q a w :=
  wp_region_any hm (wpAny_of_L _ _ _ _ (h (ShutL.start _)))
/-- the same, behind a structure: so that no elaborator reduces what is left -/
structure WL (P : Program) (md : Region.Mode) (ops : Array Oper) (Q : Exit → Act → World → Prop) (S : Array Bool → World → Prop) (fuel : Nat) (listed : Array Bool) (a : Act) (w : World) : Prop where
  out : wpAnyL P md ops Q S fuel listed a w
theorem WL.take {S0 : World → Prop} {i : Nat} {oi : Oper} {v : Value} {fuel : Nat} {listed : Array Bool} {a : Act} {w : World} (hi : ops[i]? = some oi)
    (hs : Region.noSelect ops = true) (hf : Region.free md ops listed i = true) (hr : (Region.ready md ops listed).contains i = true)
    (hQ : ∀ c a w, Q (.panic c) (a.put oi.dst v) w → Q (.panic c) a w) (hm : ∀ l w, S (l.setIfInBounds i true) w ↔ S l w) (h0 : ∀ l w, ShutL md ops l → l.getD i true = false → S l w → S0 w)
    (hsh : ShutL md ops listed) (hy : YieldsIf P ops S0 oi v a) (hS : S listed w)
    (h : ShutL md ops (listed.setIfInBounds i true) → S (listed.setIfInBounds i true) w → WL P md ops Q S fuel (listed.setIfInBounds i true) (a.put oi.dst v) w) : WL P md ops Q S (fuel + 1) listed a w :=
  ⟨wpAnyL_take hi hs hf hr hQ hm h0 hsh hy hS (fun h1 h2 => (h h1 h2).out)⟩
theorem WL.one {i : Nat} {o : Oper} {fuel : Nat} {listed : Array Bool} {a : Act} {w : World} (hsh : ShutL md ops listed) (hr : Region.ready md ops listed = [i]) (ho : ops[i]? = some o)
    (h : ∀ K' : Act → World → Prop, Shut (∀ a w, S (listed.setIfInBounds i true) w → (ShutL md ops (listed.setIfInBounds i true) → S (listed.setIfInBounds i true) w → WL P md ops Q S fuel (listed.setIfInBounds i true) a w) → K' a w) → if Region.wanted o (yielded ops a.tmps) = true then Oper.wp P o a w K' Q else K' (a.put o.dst undef) w) :
    WL P md ops Q S (fuel + 1) listed a w :=
  ⟨wpAnyL_one hsh hr ho (fun K' hK => h K' (fun a w hS hW => hK a w hS (fun h1 h2 => (hW h1 h2).out)))⟩
theorem WL.done {listed : Array Bool} {a : Act} {w : World} (hr : Region.ready md ops listed = []) (h : Q .normal a w) (fuel : Nat) : WL P md ops Q S fuel listed a w := ⟨wpAnyL_done hr h fuel⟩
theorem WL.region {id : Nat} {a : Act} {w : World} (S : Array Bool → World → Prop) (hm : P.follows .mixedOrders = true)
    (h : ShutL .any ops (Array.replicate ops.size false) → WL P .any ops Q S ops.size (Array.replicate ops.size false) a w.drew) : (Code.region id ops true).wp P Q a w :=
  wp_region_L S hm (fun h1 => (h h1).out)
/-- C until operation j has come up, D throughout -/
def SApp (j : Nat) (C D : World → Prop) (l : Array Bool) (w : World) : Prop := (l.getD j false = false → C w) ∧ D w
theorem SApp.intro {j : Nat} {C D : World → Prop} {l : Array Bool} {w : World} (h : l.getD j false = false → C w) (h2 : D w) : SApp j C D l w := ⟨h, h2⟩
theorem SApp.hm {i j : Nat} {C D : World → Prop} (hij : i ≠ j) : ∀ (l : Array Bool) w, SApp j C D (l.setIfInBounds i true) w ↔ SApp j C D l w := fun l w => by
  unfold SApp
  rw [getD_set_ne false hij]
theorem SApp.any {i j : Nat} {C D : World → Prop} : ∀ (l : Array Bool) w, ShutL md ops l → l.getD i true = false → SApp j C D l w → True := fun _ _ _ _ _ => trivial
theorem SApp.both {i j : Nat} {C D : World → Prop} (h : (ops[j]?.map fun o => o.after.any fun e => Region.binds md e && e.on == i) = some true) : ∀ (l : Array Bool) w, ShutL md ops l → l.getD i true = false → SApp j C D l w → C w ∧ D w := fun l w hl hi hS => by
  refine ⟨hS.1 ?_, hS.2⟩
  cases hj : l.getD j false with
  | false => rfl
  | true =>
    exfalso
    cases ho : ops[j]? with
    | none => rw [ho] at h; cases h
    | some o =>
      rw [ho] at h
      simp only [Option.map_some, Option.some.injEq] at h
      obtain ⟨e, he, h2⟩ := Array.any_eq_true'.1 h
      rw [Bool.and_eq_true] at h2
      have h3 := hl j o ho hj e he h2.1
      rw [show e.on = i by simpa using h2.2] at h3
      rw [Array.getD_eq_getD_getElem?] at hi h3
      cases hx : l[i]? with
      | none => rw [hx] at hi; simp at hi
      | some b => rw [hx] at hi h3; simp at hi h3; rw [hi] at h3; cases h3
theorem SApp.right {i j : Nat} {C D : World → Prop} : ∀ (l : Array Bool) w, ShutL md ops l → l.getD i true = false → SApp j C D l w → D w := fun _ _ _ _ h => h.2
end
end Go.Proofs.YtdmpphioflcofaaGreat.K
