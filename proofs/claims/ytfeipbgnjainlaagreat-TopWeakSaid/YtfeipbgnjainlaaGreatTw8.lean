/- What all servers look at: TWf, TWithin, TExec, TLower, TSim, TShape, TShift, TIr -/
import Derived.Test.YtfeipbgnjainlaaGreatTw3
set_option linter.unusedVariables false
set_option linter.unusedSimpArgs false
/- Places stay right: what operators and questions leave of spans are spans, and no wider. No program in sight. -/
namespace Go.Proofs.YtfeipbgnjainlaaGreat.T

theorem Sp.right_has {s : Sp} (h : s.right = true) : s.has s.lo = true := by
 rw [Sp.right_iff] at h
 rw [Sp.has_iff]
 exact ⟨Nat.le_refl _,h⟩
theorem sdo_right' (op : Int) (narrow : Bool) (a b : Sp) (ho : 1 ≤ op ∧ op ≤ 13) (ha : a.right = true) (hb : b.right = true) (hn : op = 4 ∨ op = 5 → nought b narrow = false) : (sdo op narrow a b).right = true := by
 refine sdo_right op narrow a b a.lo b.lo ho (Sp.right_has ha) (Sp.right_has hb) ?_
 by_cases hd : op = 4 ∨ op = 5
 ·exact nought_err (hn hd) (Sp.right_has hb) op ho
 ·exact aerr_ok op narrow b.lo ho hd
/-- no wider, and a span -/
def Sub (s a : Sp) : Prop := s.right = true ∧ a.lo.toNat ≤ s.lo.toNat ∧ s.hi.toNat ≤ a.hi.toNat
theorem Sub.refl {a : Sp} (h : a.right = true) : Sub a a := ⟨h,Nat.le_refl _,Nat.le_refl _⟩
def Subs (o : Option (Sp × Sp)) (a b : Sp) : Prop := ∀ s t,o = some (s,t) → Sub s a ∧ Sub t b
theorem Subs.swap {o : Option (Sp × Sp)} {a b : Sp} (h : Subs o a b) : Subs (o.map T.swap) b a := by
 intro s t he
 cases o with
 | none => cases he
 | some p =>
  obtain ⟨x,y⟩ := p
  simp only [Option.map_some,T.swap,Option.some.injEq,Prod.mk.injEq] at he
  obtain ⟨rfl,rfl⟩ := he
  obtain ⟨h1,h2⟩ := h x y rfl
  exact ⟨h2,h1⟩
section
variable {w : Wk}
theorem Wk.gt_sub (ha : w.a.right = true) (hb : w.b.right = true) : Subs w.gt w.a w.b := by
 intro s t he
 rw [Sp.right_iff] at ha hb
 unfold Wk.gt at he
 split at he
 ·rename_i hc
  simp only [BitVec.ult,decide_eq_true_eq] at hc
  simp only [Option.some.injEq,Prod.mk.injEq] at he
  obtain ⟨rfl,rfl⟩ := he
  have := w.a.hi.isLt
  have e1 : (w.b.lo + 1).toNat = w.b.lo.toNat + 1 := by rw [BitVec.toNat_add,show (1 : U).toNat = 1 by rfl]; omega
  have e2 : (w.a.hi - 1).toNat = w.a.hi.toNat - 1 := by rw [BitVec.toNat_sub,show (1 : U).toNat = 1 by rfl]; omega
  refine ⟨⟨?_,?_,Nat.le_refl _⟩,⟨?_,Nat.le_refl _,?_⟩⟩
  ·rw [Sp.right_iff]; simp only [umax_toNat,e1]; omega
  ·simp only [umax_toNat]; omega
  ·rw [Sp.right_iff]; simp only [umin_toNat,e2]; omega
  ·simp only [umin_toNat]; omega
 ·cases he
theorem Wk.ge_sub (ha : w.a.right = true) (hb : w.b.right = true) : Subs w.ge w.a w.b := by
 intro s t he
 rw [Sp.right_iff] at ha hb
 unfold Wk.ge at he
 split at he
 ·rename_i hc
  simp only [BitVec.ule,decide_eq_true_eq] at hc
  simp only [Option.some.injEq,Prod.mk.injEq] at he
  obtain ⟨rfl,rfl⟩ := he
  refine ⟨⟨?_,?_,Nat.le_refl _⟩,⟨?_,Nat.le_refl _,?_⟩⟩
  ·rw [Sp.right_iff]; simp only [umax_toNat]; omega
  ·simp only [umax_toNat]; omega
  ·rw [Sp.right_iff]; simp only [umin_toNat]; omega
  ·simp only [umin_toNat]; omega
 ·cases he
theorem without_sub {s n : Sp} (h : s.right = true) : Sub (s.without n) s := by
 unfold Sp.without
 split
 ·exact Sub.refl h
 ·rename_i hc
  simp only [Bool.or_eq_true,Bool.not_eq_true',not_or,Bool.not_eq_false] at hc
  obtain ⟨c1,c2⟩ := hc
  rw [Sp.one_iff] at c1
  rw [Sp.right_iff] at h
  have := s.hi.isLt
  have e1 : (s.lo + 1).toNat = s.lo.toNat + 1 := by rw [BitVec.toNat_add,show (1 : U).toNat = 1 by rfl]; omega
  have e2 : (s.hi - 1).toNat = s.hi.toNat - 1 := by rw [BitVec.toNat_sub,show (1 : U).toNat = 1 by rfl]; omega
  unfold Sub
  rw [Sp.right_iff]
  simp only
  by_cases q1 : (s.lo == n.lo) = true
  ·have f1 := congrArg BitVec.toNat (beq_iff_eq.1 q1)
   by_cases q2 : (s.hi == n.lo) = true
   ·have f2 := congrArg BitVec.toNat (beq_iff_eq.1 q2)
    omega
   ·rw [if_pos q1,if_neg q2,e1]; omega
  ·by_cases q2 : (s.hi == n.lo) = true
   ·rw [if_neg q1,if_pos q2,e2]; omega
   ·rw [if_neg q1,if_neg q2]; omega
theorem Wk.plain_sub (ha : w.a.right = true) (hb : w.b.right = true) (op : Int) : Subs (w.plain op) w.a w.b := by
 unfold Wk.plain
 split
 ·intro s t he
  unfold Sp.meet at he
  split at he
  ·rename_i hc
   simp only [Option.map_some,Option.some.injEq,Prod.mk.injEq] at he
   obtain ⟨rfl,rfl⟩ := he
   refine ⟨⟨hc,?_,?_⟩,⟨hc,?_,?_⟩⟩ <;> (simp only [umax_toNat,umin_toNat]; omega)
  ·cases he
 split
 ·intro s t he
  split at he
  ·simp only [Option.some.injEq,Prod.mk.injEq] at he
   obtain ⟨rfl,rfl⟩ := he
   exact ⟨without_sub ha,without_sub hb⟩
  ·cases he
 split
 ·exact Wk.gt_sub ha hb
 split
 ·exact Wk.ge_sub ha hb
 split
 ·exact (Wk.gt_sub (w := w.turned) hb ha).swap
 ·exact (Wk.ge_sub (w := w.turned) hb ha).swap
theorem same_sub (ha : w.a.right = true) (hb : w.b.right = true) : Subs (some (w.a,w.b)) w.a w.b := by
 intro s t he
 simp only [Option.some.injEq,Prod.mk.injEq] at he
 obtain ⟨rfl,rfl⟩ := he
 exact ⟨Sub.refl ha,Sub.refl hb⟩
theorem none_sub {a b : Sp} : Subs none a b := fun s t he => by cases he
theorem Wk.ask_sub (ha : w.a.right = true) (hb : w.b.right = true) (op : Int) (yes : Bool) : Subs (w.ask op yes) w.a w.b := by
 unfold Wk.ask
 split
 ·unfold Wk.set
  split
  ·split
   ·rename_i hc
    intro s t he
    simp only [Bool.and_eq_true,BitVec.ult,decide_eq_true_eq] at hc
    simp only [Option.some.injEq,Prod.mk.injEq] at he
    obtain ⟨rfl,rfl⟩ := he
    rw [Sp.right_iff] at ha hb
    obtain ⟨⟨h1,h2⟩,_⟩ := hc
    rw [show (0 : U).toNat = 0 by rfl] at h1 h2
    refine ⟨⟨?_,?_,Nat.le_refl _⟩,⟨?_,?_,Nat.le_refl _⟩⟩
    ·rw [Sp.right_iff]; simp only [umax_toNat]; rw [show (1 : U).toNat = 1 by rfl]; omega
    ·simp only [umax_toNat]; omega
    ·rw [Sp.right_iff]; simp only [umax_toNat]; rw [show (1 : U).toNat = 1 by rfl]; omega
    ·simp only [umax_toNat]; omega
   ·exact none_sub
  ·split
   ·exact same_sub ha hb
   ·exact none_sub
 ·generalize (if yes then op else opp op) = op'
  unfold Wk.askd
  split
  ·unfold Wk.signed
   split
   ·exact same_sub ha hb
   split
   ·exact Wk.plain_sub ha hb _
   split
   ·exact same_sub ha hb
   ·exact none_sub
  ·exact Wk.plain_sub ha hb _
end
theorem cut_sub {a : Sp} (narrow : Bool) (h : a.right = true) (hm : ¬ (Wk.over narrow a a).most.toNat < a.hi.toNat) : a.cut narrow = a := by
 unfold Sp.cut
 cases narrow with
 | false => rfl
 | true =>
  simp only [if_true]
  rw [Wk.most_nat] at hm
  have hw : (Wk.over true a a).narrow = true := rfl
  rw [hw,if_pos rfl] at hm
  rw [Sp.right_iff] at h
  have e1 : (a.lo >>> 32) = (a.hi >>> 32) := BitVec.eq_of_toNat_eq (by rw [shr32,shr32]; omega)
  rw [e1]
  simp only [bne_self_eq_false,Bool.false_eq_true,if_false]
  obtain ⟨l,r⟩ := a
  simp only at hm h ⊢
  congr 1
  ·exact BitVec.eq_of_toNat_eq (by rw [and_half]; omega)
  ·exact BitVec.eq_of_toNat_eq (by rw [and_half]; omega)
/-- what a question leaves is no wider -/
theorem sif_sub (op : Int) (narrow yes : Bool) (a b : Sp) (ha : a.right = true) (hb : b.right = true) : Subs (sif op narrow yes a b) a b := by
 intro s t he
 unfold sif at he
 split at he
 ·cases hq : (Wk.over narrow a b).ask op yes with
  | none => rw [hq] at he; cases he
  | some p =>
   obtain ⟨x,y⟩ := p
   rw [hq] at he
   simp only [Option.map_some,Option.some.injEq,Prod.mk.injEq] at he
   obtain ⟨rfl,rfl⟩ := he
   obtain ⟨h1,h2⟩ := Wk.ask_sub (w := Wk.over narrow a b) (Sp.cut_le narrow ha).1 (Sp.cut_le narrow hb).1 op yes x y hq
   have one : ∀ (c r : Sp),c.right = true → Sub r (c.cut narrow) → Sub (if (Wk.over narrow a b).most.ult c.hi then c else r) c := by
    intro c r hc hr
    split
    ·exact Sub.refl hc
    ·rename_i hm
     simp only [BitVec.ult,decide_eq_true_eq] at hm
     rw [cut_sub narrow hc (by rw [Wk.most_nat] at hm ⊢; exact hm)] at hr
     exact hr
   exact ⟨one a x ha h1,one b y hb h2⟩
 ·simp only [Option.some.injEq,Prod.mk.injEq] at he
  obtain ⟨rfl,rfl⟩ := he
  exact ⟨Sub.refl ha,Sub.refl hb⟩
/-- one of the two ends may be -/
theorem sif_one (op : Int) (narrow : Bool) (a b : Sp) (ho : 17 ≤ op ∧ op ≤ 27) (ha : a.right = true) (hb : b.right = true) : ∃ yes p,sif op narrow yes a b = some p := by
 obtain ⟨s,t,h,_⟩ := sif_sound op narrow (ais op narrow a.lo b.lo) a b a.lo b.lo ho (Sp.right_has ha) (Sp.right_has hb) rfl
 exact ⟨_,_,h⟩
/-! ### places -/
structure Pl.Wf (p : Pl) : Prop where
 live : p.live = true
 rl : p.regs.length = 11
 bl : p.bytes.length = 512
 l0 : 0 ≤ p.least
 ll : p.least ≤ 65535
 right : ∀ k ∈ p.regs,k.right = true
theorem Kn.none_right : Kn.none.right = true := by decide
theorem Pl.Wf.reg {p : Pl} (h : p.Wf) (r : Int) : (p.reg r).right = true := by
 unfold Pl.reg
 rw [List.getD_eq_getElem?_getD]
 cases hx : p.regs[r.toNat]? with
 | none => exact Kn.none_right
 | some k => exact h.right k (List.mem_of_getElem? hx)
theorem Pl.Wf.put {p : Pl} (h : p.Wf) (r : Int) {k : Kn} (hk : k.right = true) : (p.put r k).Wf := by
 refine ⟨h.live,by simp [Pl.put,h.rl],h.bl,h.l0,h.ll,fun q hq => ?_⟩
 rcases List.mem_or_eq_of_mem_set hq with hq | rfl
 ·exact h.right q hq
 ·exact hk
theorem Kn.join_right (a b : Kn) : (a.join b).right = true := by
 unfold Kn.join
 split
 ·exact Kn.none_right
 ·rename_i hr
  simp only [Bool.or_eq_true,Bool.not_eq_true',not_or,Bool.not_eq_false] at hr
  obtain ⟨h1,h2⟩ := hr
  have hj : ∀ s t : Sp,s.right = true → t.right = true → (s.join t).right = true := fun s t hs ht => by
   rw [Sp.right_iff] at hs ht ⊢
   simp only [Sp.join,umin_toNat,umax_toNat]
   omega
  have hnum : ∀ k : Kn,k.right = true → k.isN = true → k.numS.right = true := fun k hk hn => by
   unfold Kn.numS
   split
   ·decide
   ·rename_i h4
    have h1 : k.k = 1 := by
     rcases Kn.num_of hn with e | e
     ·exact absurd e h4
     ·exact e
    rw [Kn.right_12 (.inl h1)] at hk
    exact hk
  split
  ·exact h1
  ·split
   ·rename_i hn
    rw [Bool.and_eq_true] at hn
    rw [Kn.right_12 (.inl rfl)]
    exact hj _ _ (hnum a h1 hn.1) (hnum b h2 hn.2)
   ·split
    ·rename_i hp
     rw [Kn.right_12 (.inr rfl)]
     rw [Kn.right_12 (.inr hp.1)] at h1
     rw [Kn.right_12 (.inr hp.2)] at h2
     exact hj _ _ h1 h2
    ·exact Kn.none_right
theorem Pl.start_wf : Pl.start.Wf := ⟨rfl,rfl,List.length_replicate,by decide,by decide,fun k hk => by
 simp only [Pl.start,List.mem_cons,List.mem_nil_iff,or_false] at hk
 rcases hk with rfl | rfl | rfl | rfl | rfl | rfl | rfl | rfl | rfl | rfl | rfl <;> decide⟩
theorem Pl.tell_wf {q p : Pl} (hq : q.live = true → q.Wf) (hp : p.Wf) : (q.tell p).Wf := by
 unfold Pl.tell
 split
 ·rename_i hl
  have h := hq hl
  refine ⟨rfl,by simp [h.rl,hp.rl],by simp [h.bl,hp.bl],?_,?_,fun k hk => ?_⟩
  ·have := h.l0; have := hp.l0; simp only; omega
  ·have := h.ll; simp only; omega
  ·obtain ⟨i,hi⟩ := List.mem_iff_getElem?.1 hk
   rw [List.getElem?_zipWith] at hi
   cases h1 : q.regs[i]? with
   | none => rw [h1] at hi; cases hi
   | some x =>
    cases h2 : p.regs[i]? with
    | none => rw [h1,h2] at hi; cases hi
    | some y =>
     rw [h1,h2] at hi
     cases hi
     exact Kn.join_right x y
 ·exact hp
theorem kdo_right (op : Int) (narrow : Bool) (a b k : Kn) (h : kdo op narrow a b = (k,0)) : k.right = true := by
 unfold kdo at h
 split at h
 ·simp at h
 rename_i h1
 have hop : 1 ≤ op ∧ op ≤ 13 := by omega
 have ha : a.right = true := by
  cases hx : a.right with
  | true => rfl
  | false => exact absurd (.inr (.inr (.inl hx))) h1
 have hb : b.right = true := by
  cases hx : b.right with
  | true => rfl
  | false => exact absurd (.inr (.inr (.inr hx))) h1
 split at h
 ·simp at h
 split at h
 ·rw [← show b = k from congrArg Prod.fst h]; exact hb
 have hnum : ∀ k : Kn,k.right = true → k.isN = true → k.numS.right = true := fun k hk hn => by
  unfold Kn.numS
  split
  ·decide
  ·rename_i h4
   have h1 : k.k = 1 := by
    rcases Kn.num_of hn with e | e
    ·exact absurd e h4
    ·exact e
   rw [Kn.right_12 (.inl h1)] at hk
   exact hk
 generalize ha' : (if op = 12 then b else a) = a' at h
 generalize hb' : (if op = 13 then a else b) = b' at h
 have hra : a'.right = true := by rw [← ha']; split <;> assumption
 have hrb : b'.right = true := by rw [← hb']; split <;> assumption
 simp only at h
 split at h
 ·simp at h
 rename_i h3
 split at h
 ·rename_i h4
  rw [Bool.and_eq_true] at h4
  rw [← show (⟨1,sdo op narrow a'.numS b'.numS⟩ : Kn) = k from congrArg Prod.fst h,Kn.right_12 (.inl rfl)]
  refine sdo_right' op narrow _ _ hop (hnum a' hra h4.1) (hnum b' hrb h4.2) fun hd => ?_
  cases hz : nought b'.numS narrow with
  | false => rfl
  | true => exact absurd (by simp [h4.1,h4.2,hd,hz]) h3
 ·split at h
  ·rename_i h4 h5
   simp only [Bool.or_eq_true,Bool.and_eq_true,decide_eq_true_eq,Bool.not_eq_true'] at h5
   have hm : (op = 1 ∨ op = 2) ∧ b'.isN = true := by
    rcases h5 with ⟨⟨⟨m1,m2⟩,m3⟩,_⟩ | ⟨⟨⟨⟨m1,m2⟩,m3⟩,_⟩,_⟩ <;> exact ⟨m1,m3⟩
   rw [← show (⟨a'.k,sdo op false a'.s b'.numS⟩ : Kn) = k from congrArg Prod.fst h]
   have hd : ¬ (op = 4 ∨ op = 5) := by omega
   rcases h5 with ⟨_,m⟩ | ⟨⟨_,m⟩,m'⟩
   ·rw [Kn.right_12 (.inr m)] at hra
    rw [Kn.right_12 (a := ⟨a'.k,sdo op false a'.s b'.numS⟩) (.inr m)]
    exact sdo_right' op false _ _ hop hra (hnum b' hrb hm.2) (fun e => absurd e hd)
   ·rw [Kn.right_3 m] at hra
    rw [Kn.right_3 (a := ⟨a'.k,sdo op false a'.s b'.numS⟩) m]
    have hsx : a'.s = Sp.of a'.s.lo := beq_iff_eq.1 hra
    have hsy : b'.numS = Sp.of b'.numS.lo := Sp.eq_of (Sp.right_has (hnum b' hrb hm.2)) (by simpa using m')
    rw [moved_one hm.1 hsx hsy]
    exact beq_iff_eq.2 rfl
  ·simp at h
theorem asN_sp {p : Pl} (h : p.Wf) {k : Kn} (hk : k.right = true) {s : Sp} (ha : asN p k = (0,s)) : s.right = true ∧ (k.k = 1 ∧ s = k.s ∨ k.k = 4 ∧ s.hi.toNat = 65535) := by
 unfold asN at ha
 split at ha
 ·simp at ha
 split at ha
 ·rename_i k1
  simp only [Prod.mk.injEq,true_and] at ha
  rw [Kn.right_12 (.inl k1)] at hk
  rw [← ha]
  exact ⟨hk,.inl ⟨k1,rfl⟩⟩
 split at ha
 ·rename_i k4
  simp only [Prod.mk.injEq,true_and] at ha
  have h0 := h.l0
  have h1 := h.ll
  rw [← ha]
  refine ⟨?_,.inr ⟨k4,rfl⟩⟩
  rw [Sp.right_iff]
  simp only
  unfold wide
  rw [BitVec.toNat_ofInt,show (65535#64 : U).toNat = 65535 by rfl]
  omega
 ·simp at ha
theorem with_wf {p : Pl} (h : p.Wf) (r : Int) {s : Sp} (hs : s.right = true) (hl : (p.reg r).k ≠ 1 → s.hi.toNat ≤ 65535) : (p.with r s).Wf := by
 unfold Pl.with
 split
 ·exact h.put r (by rw [Kn.right_12 (.inl rfl)]; exact hs)
 ·rename_i hk
  have h2 := hl hk
  rw [Sp.right_iff] at hs
  have e1 : s.lo.toInt = (s.lo.toNat : Int) := by rw [BitVec.toInt_eq_toNat_cond,if_pos (by omega)]
  refine ⟨h.live,h.rl,h.bl,?_,?_,h.right⟩
  ·have := h.l0; simp only; omega
  ·have := h.ll; simp only; omega
theorem second_right {p : Pl} (h : p.Wf) (i : Ins) : (second i p).right = true := by
 unfold second
 split
 ·rw [Kn.right_12 (.inl rfl),Sp.right_iff]; exact Nat.le_refl _
 ·exact h.reg _
theorem with_k (p : Pl) (r q : Int) (s : Sp) : ((p.with r s).reg q).k = (p.reg q).k ∨ (r.toNat = q.toNat ∧ (p.reg r).k = 1 ∧ ((p.with r s).reg q).k = 1) := by
 unfold Pl.with
 split
 ·rename_i h
  by_cases e : r.toNat = q.toNat ∧ q.toNat < p.regs.length
  ·right
   refine ⟨e.1,h,?_⟩
   simp only [Pl.put,Pl.reg,getD_set]
   rw [if_pos e]
  ·left
   simp only [Pl.put,Pl.reg,getD_set]
   rw [if_neg e]
 ·left; rfl
theorem ended_wf {p : Pl} (h : p.Wf) (i : Ins) {M N : Sp} (ha : asN p (p.reg i.dst) = (0,M)) (hb : asN p (second i p) = (0,N)) (yes : Bool) : ∀ q,ended i p yes M N = some q → q.Wf := by
 intro q hq
 obtain ⟨a1,a2⟩ := asN_sp h (h.reg _) ha
 obtain ⟨b1,b2⟩ := asN_sp h (second_right h i) hb
 unfold ended at hq
 cases hs : sif i.op i.narrow yes M N with
 | none => rw [hs] at hq; cases hq
 | some st =>
  obtain ⟨s,t⟩ := st
  rw [hs] at hq
  simp only [Option.map_some,Option.some.injEq] at hq
  obtain ⟨⟨s1,s2,s3⟩,t1,t2,t3⟩ := sif_sub i.op i.narrow yes M N a1 b1 s t hs
  have w1 := with_wf h i.dst s1 (fun e => by
   rcases a2 with ⟨e2,_⟩ | ⟨_,e2⟩
   ·exact absurd e2 e
   ·omega)
  subst hq
  split
  ·exact w1
  ·rename_i hu
   split
   ·refine with_wf w1 i.src t1 fun e => ?_
    have e1 : second i p = p.reg i.src := by unfold second; rw [if_neg hu]
    rw [e1] at b2
    rcases b2 with ⟨e2,_⟩ | ⟨_,e2⟩
    ·rcases with_k p i.dst i.src s with e3 | ⟨_,_,e3⟩
     ·exact absurd (e3.trans e2) e
     ·exact absurd e3 e
    ·omega
   ·exact h
/-- what is told is right -/
theorem cstep_wf {p : Pl} (h : p.Wf) (i : Ins) {ah af : Option Pl} (hc : cstep i p = (0,ah,af)) : (∀ q,ah = some q → q.Wf) ∧ (∀ q,af = some q → q.Wf) := by
 unfold cstep at hc
 split at hc
 ·split at hc
  ·rename_i he; exact absurd (congrArg Prod.fst hc) he
  ·simp only [Prod.mk.injEq,true_and] at hc
   obtain ⟨rfl,rfl⟩ := hc
   refine ⟨fun q hq => ?_,fun q hq => by cases hq⟩
   cases hq
   exact h.put _ (by rw [loaded,Kn.right_12 (.inl rfl),Sp.right_iff]; exact Nat.zero_le _)
 split at hc
 ·split at hc
  ·rename_i he; exact absurd (congrArg Prod.fst hc) he
  ·simp only [Prod.mk.injEq,true_and] at hc
   obtain ⟨rfl,rfl⟩ := hc
   refine ⟨fun q hq => ?_,fun q hq => by cases hq⟩
   cases hq
   exact ⟨h.live,h.rl,by unfold Pl.wrote; simp only; rw [setAll_length]; exact h.bl,h.l0,h.ll,h.right⟩
 split at hc
 ·simp only [Prod.mk.injEq,true_and] at hc
  obtain ⟨rfl,rfl⟩ := hc
  exact ⟨fun q hq => (by cases hq),fun q hq => (by cases hq; exact h)⟩
 split at hc
 ·simp only [Prod.mk.injEq] at hc
  obtain ⟨_,rfl,rfl⟩ := hc
  exact ⟨fun q hq => (by cases hq),fun q hq => (by cases hq)⟩
 split at hc
 ·split at hc
  ·rename_i he; exact absurd (congrArg Prod.fst hc) he
  ·rename_i he
   simp only [ne_eq,Decidable.not_not] at he
   simp only [Prod.mk.injEq,true_and] at hc
   obtain ⟨rfl,rfl⟩ := hc
   refine ⟨fun q hq => ?_,fun q hq => by cases hq⟩
   cases hq
   exact h.put _ (kdo_right i.op i.narrow (p.reg i.dst) (if i.op = 13 then Kn.none else second i p) _ (Prod.ext rfl he))
 split at hc
 ·simp at hc
 split at hc
 ·rename_i he; exact absurd (congrArg Prod.fst hc) he
 rename_i hea
 split at hc
 ·rename_i he; exact absurd (congrArg Prod.fst hc) he
 rename_i heb
 simp only [ne_eq,Decidable.not_not] at hea heb
 simp only [Prod.mk.injEq,true_and] at hc
 obtain ⟨rfl,rfl⟩ := hc
 have ha : asN p (p.reg i.dst) = (0,(asN p (p.reg i.dst)).2) := Prod.ext hea rfl
 have hb : asN p (second i p) = (0,(asN p (second i p)).2) := Prod.ext heb rfl
 exact ⟨ended_wf h i ha hb false,ended_wf h i ha hb true⟩
end Go.Proofs.YtfeipbgnjainlaaGreat.T
/- One thing that is known lies within another; and what is told of a place lies within what is known there. No program in sight. -/
namespace Go.Proofs.YtfeipbgnjainlaaGreat.T

def Kn.within (a b : Kn) : Bool :=
 if a.right = false ∨ b.right = false then false else if b.k = 0 then true else if b.k = 4 ∨ b.k = 3 then decide (a = b) else if b.k = 1 ∧ a.k = 4 then a.numS.within b.s else decide (a.k = b.k) && a.s.within b.s
theorem Sp.within_refl (s : Sp) : s.within s = true := by rw [Sp.within_iff]; omega
theorem Sp.within_trans {s t u : Sp} (h1 : s.within t = true) (h2 : t.within u = true) : s.within u = true := by
 rw [Sp.within_iff] at *; omega
theorem Sp.within_join_left (s t : Sp) : s.within (s.join t) = true := by
 rw [Sp.within_iff]
 simp only [Sp.join,umin_toNat,umax_toNat]
 omega
theorem Kn.right_cases {a : Kn} (h : a.right = true) : a.k = 0 ∨ a.k = 1 ∨ a.k = 2 ∨ a.k = 3 ∨ a.k = 4 := by
 unfold Kn.right at h
 split at h
 ·omega
 split at h
 ·omega
 ·rw [Bool.and_eq_true,decide_eq_true_eq] at h
  omega
theorem Kn.within_refl {a : Kn} (h : a.right = true) : a.within a = true := by
 unfold Kn.within
 rw [if_neg (by rw [h]; simp)]
 split
 ·rfl
 split
 ·simp
 ·rw [if_neg (by omega),decide_eq_true rfl,Bool.true_and]
  exact Sp.within_refl _
theorem Kn.within_right {a b : Kn} (h : a.within b = true) : a.right = true ∧ b.right = true := by
 unfold Kn.within at h
 split at h
 ·cases h
 ·rename_i hr
  constructor
  ·cases hx : a.right with
   | true => rfl
   | false => exact absurd (.inl hx) hr
  ·cases hx : b.right with
   | true => rfl
   | false => exact absurd (.inr hx) hr
/-- the same as cases -/
theorem Kn.within_iff {a b : Kn} (ha : a.right = true) (hb : b.right = true) : a.within b = true ↔ (b.k = 0 ∨ (b.k = 4 ∨ b.k = 3) ∧ a = b ∨ b.k = 1 ∧ a.k = 4 ∧ a.numS.within b.s = true ∨ (b.k = 1 ∨ b.k = 2) ∧ a.k = b.k ∧ a.s.within b.s = true) := by
 unfold Kn.within
 rw [if_neg (by rw [ha,hb]; simp)]
 have hc := Kn.right_cases hb
 split
 ·rename_i h; exact ⟨fun _ => .inl h,fun _ => rfl⟩
 split
 ·rename_i h0 h
  rw [decide_eq_true_eq]
  constructor
  ·intro e; exact .inr (.inl ⟨h,e⟩)
  ·rintro (e | ⟨_,e⟩ | ⟨e,_⟩ | ⟨e,_⟩)
   ·omega
   ·exact e
   ·omega
   ·omega
 split
 ·rename_i h0 h1 h
  constructor
  ·intro e; exact .inr (.inr (.inl ⟨h.1,h.2,e⟩))
  ·rintro (e | ⟨e,_⟩ | ⟨_,_,e⟩ | ⟨_,e,_⟩)
   ·omega
   ·omega
   ·exact e
   ·omega
 ·rename_i h0 h1 h
  rw [Bool.and_eq_true,decide_eq_true_eq]
  constructor
  ·rintro ⟨e1,e2⟩; exact .inr (.inr (.inr ⟨by omega,e1,e2⟩))
  ·rintro (e | ⟨e,_⟩ | ⟨e1,e2,_⟩ | ⟨_,e⟩)
   ·omega
   ·omega
   ·exact absurd ⟨e1,e2⟩ h
   ·exact e
theorem Kn.within_trans {a b c : Kn} (h1 : a.within b = true) (h2 : b.within c = true) : a.within c = true := by
 obtain ⟨ra,rb⟩ := Kn.within_right h1
 obtain ⟨_,rc⟩ := Kn.within_right h2
 rw [Kn.within_iff ra rb] at h1
 rw [Kn.within_iff rb rc] at h2
 rw [Kn.within_iff ra rc]
 rcases h2 with e | ⟨e,rfl⟩ | ⟨e1,e2,e3⟩ | ⟨e1,e2,e3⟩
 ·exact .inl e
 ·rcases h1 with f | ⟨f,rfl⟩ | ⟨f,_⟩ | ⟨f,_⟩
  ·omega
  ·exact .inr (.inl ⟨e,rfl⟩)
  ·omega
  ·omega
 ·rcases h1 with f | ⟨f,rfl⟩ | ⟨f,_⟩ | ⟨f,_⟩
  ·omega
  ·exact .inr (.inr (.inl ⟨e1,e2,e3⟩))
  ·omega
  ·omega
 ·rcases h1 with f | ⟨f,rfl⟩ | ⟨f1,f2,f3⟩ | ⟨f1,f2,f3⟩
  ·omega
  ·omega
  ·exact .inr (.inr (.inl ⟨by omega,f2,Sp.within_trans f3 e3⟩))
  ·exact .inr (.inr (.inr ⟨e1,by omega,Sp.within_trans f3 e3⟩))
theorem Kn.join_within {a b : Kn} (ha : a.right = true) (hb : b.right = true) : a.within (a.join b) = true := by
 have hr := Kn.join_right a b
 have hjn : a.join b = if a = b then a else if a.isN && b.isN then ⟨1,a.numS.join b.numS⟩ else if a.k = 2 ∧ b.k = 2 then ⟨2,a.s.join b.s⟩ else Kn.none := by
  unfold Kn.join
  rw [if_neg (by rw [ha,hb]; simp)]
 rw [hjn] at hr ⊢
 split
 ·exact Kn.within_refl ha
 rename_i hne
 rw [if_neg hne] at hr
 split
 ·rename_i hn
  rw [if_pos hn] at hr
  rw [Kn.within_iff ha hr]
  rw [Bool.and_eq_true] at hn
  rcases Kn.num_of hn.1 with e | e
  ·exact .inr (.inr (.inl ⟨rfl,e,Sp.within_join_left _ _⟩))
  ·have e2 : a.numS = a.s := by unfold Kn.numS; rw [if_neg (by omega)]
   refine .inr (.inr (.inr ⟨.inl rfl,e,?_⟩))
   simp only
   rw [← e2]
   exact Sp.within_join_left _ _
 rename_i hn
 rw [if_neg hn] at hr
 split
 ·rename_i hp
  rw [if_pos hp] at hr
  rw [Kn.within_iff ha hr]
  exact .inr (.inr (.inr ⟨.inr rfl,hp.1,Sp.within_join_left _ _⟩))
 ·rename_i hp
  rw [if_neg hp] at hr
  rw [Kn.within_iff ha hr]
  exact .inl rfl
theorem Kn.join_within' {a b : Kn} (ha : a.right = true) (hb : b.right = true) : b.within (a.join b) = true := by
 rw [Kn.join_comm]; exact Kn.join_within hb ha
/-- what holds of the one holds of the other -/
theorem Kn.within_holds {a b : Kn} (h : a.within b = true) {vk : Int} {n : U} {len : Nat} (ha : a.holds vk n len) (hl : len ≤ 65535) : b.holds vk n len := by
 obtain ⟨ra,rb⟩ := Kn.within_right h
 rw [Kn.within_iff ra rb] at h
 obtain ⟨_,hv⟩ := ha
 refine ⟨rb,?_⟩
 rcases h with e | ⟨e,rfl⟩ | ⟨e1,e2,e3⟩ | ⟨e1,e2,e3⟩
 ·exact .inl e
 ·exact hv
 ·rcases hv with f | ⟨_,f1,f2⟩ | ⟨f,_⟩
  ·omega
  ·refine .inr (.inr ⟨.inl e1,f1.trans e1.symm,?_⟩)
   rw [Sp.within_iff] at e3
   unfold Kn.numS at e3
   rw [if_pos e2] at e3
   simp only at e3
   rw [show (0 : U).toNat = 0 by rfl,show (65535#64 : U).toNat = 65535 by rfl] at e3
   rw [Sp.has_iff]
   omega
  ·omega
 ·rcases hv with f | ⟨f,_⟩ | ⟨_,f1,f2⟩
  ·omega
  ·omega
  ·refine .inr (.inr ⟨by omega,f1.trans e2,?_⟩)
   rw [Sp.within_iff] at e3
   rw [Sp.has_iff] at f2 ⊢
   omega
/-- a place says as much as another one -/
structure Pl.In (a b : Pl) : Prop where
 regs : ∀ r,r < 11 → (a.regs.getD r Kn.none).within (b.regs.getD r Kn.none) = true
 bytes : ∀ j,j < 512 → b.bytes.getD j false = true → a.bytes.getD j false = true
 least : b.least ≤ a.least
theorem Pl.In.trans {a b c : Pl} (h1 : a.In b) (h2 : b.In c) : a.In c :=
 ⟨fun r hr => Kn.within_trans (h1.regs r hr) (h2.regs r hr),fun j hj hb => h1.bytes j hj (h2.bytes j hj hb),Int.le_trans h2.least h1.least⟩
theorem Pl.Wf.getD {p : Pl} (h : p.Wf) (r : Nat) : (p.regs.getD r Kn.none).right = true := by
 have := h.reg (r : Int)
 unfold Pl.reg at this
 simpa using this
theorem Pl.In.refl {a : Pl} (h : a.Wf) : a.In a := ⟨fun r _ => Kn.within_refl (h.getD r),fun _ _ h => h,Int.le_refl _⟩
theorem zipWith_getD {α β γ : Type _} (f : α → β → γ) (l : List α) (k : List β) (j : Nat) (a : α) (b : β) (c : γ) (h1 : j < l.length) (h2 : j < k.length) : (List.zipWith f l k).getD j c = f (l.getD j a) (k.getD j b) := by
 rw [List.getD_eq_getElem?_getD,List.getD_eq_getElem?_getD,List.getD_eq_getElem?_getD,List.getElem?_zipWith,List.getElem?_eq_getElem h1,List.getElem?_eq_getElem h2]
 rfl
theorem Pl.tell_new {q p : Pl} (hq : q.live = true → q.Wf) (hp : p.Wf) : p.In (q.tell p) := by
 unfold Pl.tell
 split
 ·rename_i hl
  have h := hq hl
  refine ⟨fun r hr => ?_,fun j hj hb => ?_,by simp only; omega⟩
  ·rw [zipWith_getD Kn.join _ _ r Kn.none Kn.none Kn.none (by rw [h.rl]; exact hr) (by rw [hp.rl]; exact hr)]
   exact Kn.join_within' (h.getD r) (hp.getD r)
  ·simp only at hb
   rw [zipWith_getD (· && ·) _ _ j false false false (by rw [h.bl]; exact hj) (by rw [hp.bl]; exact hj),Bool.and_eq_true] at hb
   exact hb.2
 ·exact Pl.In.refl hp
theorem Pl.tell_old {q p : Pl} (hl : q.live = true) (h : q.Wf) (hp : p.Wf) : q.In (q.tell p) := by
 unfold Pl.tell
 rw [if_pos hl]
 refine ⟨fun r hr => ?_,fun j hj hb => ?_,by simp only; omega⟩
 ·rw [zipWith_getD Kn.join _ _ r Kn.none Kn.none Kn.none (by rw [h.rl]; exact hr) (by rw [hp.rl]; exact hr)]
  exact Kn.join_within (h.getD r) (hp.getD r)
 ·simp only at hb
  rw [zipWith_getD (· && ·) _ _ j false false false (by rw [h.bl]; exact hj) (by rw [hp.bl]; exact hj),Bool.and_eq_true] at hb
  exact hb.1
theorem Pl.In.holds {a b : Pl} (h : a.In b) (hb : b.Wf) {m : Mc} {len : Nat} (hl : len ≤ 65535) (ha : PlH a m len) : PlH b m len :=
 ⟨hb.live,hb.rl,hb.bl,ha.ml,ha.sl,ha.tl,fun r hr => Kn.within_holds (h.regs r hr) (ha.regs r hr) hl,fun j hj hx => ha.bytes j hj (h.bytes j hj hx),hb.l0,Int.le_trans h.least ha.ll⟩
/-! ### all places -/
def plAt (ps : List Pl) (j : Nat) : Pl := ps.getD j Pl.dead
/-- what is told is known there -/
def Known (ps : List Pl) (j : Nat) (o : Option Pl) : Prop := ∀ q,o = some q → (plAt ps j).live = true ∧ q.In (plAt ps j)
/-- a place was gone through, and all that it tells is known -/
def Went (l : List Ins) (ps : List Pl) (j : Nat) : Prop := ∀ i,l[j]? = some i → (plAt ps j).live = true → ∃ ah af,cstep i (plAt ps j) = (0,ah,af) ∧ Known ps (j + 1) ah ∧ Known ps (j + 1 + i.off.toNat) af
def AllWf (ps : List Pl) : Prop := ∀ j,(plAt ps j).live = true → (plAt ps j).Wf
theorem plAt_set (ps : List Pl) (i j : Nat) (p : Pl) : plAt (ps.set i p) j = if i = j ∧ j < ps.length then p else plAt ps j := getD_set ps i j p Pl.dead
section
variable {l : List Ins} {ps : List Pl}
theorem told_length (ps : List Pl) (t : Nat) (o : Option Pl) : (told ps t o).length = ps.length := by
 cases o with
 | none => rfl
 | some p => simp [told]
theorem told_wf (h : AllWf ps) (t : Nat) (o : Option Pl) (ho : ∀ q,o = some q → q.Wf) : AllWf (told ps t o) := by
 cases o with
 | none => exact h
 | some p =>
  intro j hl
  have e : told ps t (some p) = ps.set t ((plAt ps t).tell p) := rfl
  rw [e] at hl ⊢
  rw [plAt_set] at hl ⊢
  by_cases c : t = j ∧ j < ps.length
  ·rw [if_pos c] at hl ⊢
   exact Pl.tell_wf (fun h0 => h t h0) (ho p rfl)
  ·rw [if_neg c] at hl ⊢
   exact h j hl
/-- what was known is known still -/
theorem told_known (h : AllWf ps) (t : Nat) (o : Option Pl) (ho : ∀ q,o = some q → q.Wf) {j : Nat} {k : Option Pl} (hk : Known ps j k) : Known (told ps t o) j k := by
 cases o with
 | none => exact hk
 | some p =>
  intro q hq
  obtain ⟨h1,h2⟩ := hk q hq
  have e : told ps t (some p) = ps.set t ((plAt ps t).tell p) := rfl
  rw [e,plAt_set]
  by_cases c : t = j ∧ j < ps.length
  ·rw [if_pos c]
   obtain ⟨rfl,_⟩ := c
   exact ⟨(Pl.tell_wf (fun h0 => h t h0) (ho p rfl)).live,h2.trans (Pl.tell_old h1 (h t h1) (ho p rfl))⟩
  ·rw [if_neg c]
   exact ⟨h1,h2⟩
theorem told_new (h : AllWf ps) (t : Nat) (o : Option Pl) (ho : ∀ q,o = some q → q.Wf) (ht : o ≠ none → t < ps.length) : Known (told ps t o) t o := by
 cases o with
 | none => intro q hq; cases hq
 | some p =>
  intro q hq
  cases hq
  have e : told ps t (some p) = ps.set t ((plAt ps t).tell p) := rfl
  rw [e,plAt_set,if_pos ⟨rfl,ht (by simp)⟩]
  exact ⟨(Pl.tell_wf (fun h0 => h t h0) (ho p rfl)).live,Pl.tell_new (fun h0 => h t h0) (ho p rfl)⟩
theorem told_before (t : Nat) (o : Option Pl) (j : Nat) (hj : j < t) : plAt (told ps t o) j = plAt ps j := by
 cases o with
 | none => rfl
 | some p =>
  have e : told ps t (some p) = ps.set t ((plAt ps t).tell p) := rfl
  rw [e,plAt_set,if_neg (by omega)]
/-- jumps go forward and stay within; the end is not run into -/
structure Shaped (l : List Ins) : Prop where
 ne : l ≠ []
 right : ∀ i ∈ l,i.right = true
 fwd : ∀ j i,l[j]? = some i → i.jumps = true → 0 ≤ i.off ∧ j + 1 + i.off.toNat < l.length
 last : ∀ j i,l[j]? = some i → i.op ≠ 28 → i.op ≠ 16 → j + 1 < l.length
theorem cstep_range {i : Ins} {p : Pl} {ah af : Option Pl} (hc : cstep i p = (0,ah,af)) : (ah ≠ none → i.op ≠ 28 ∧ i.op ≠ 16) ∧ (af ≠ none → 16 ≤ i.op ∧ i.op ≠ 28) := by
 unfold cstep at hc
 split at hc
 ·split at hc <;> (simp only [Prod.mk.injEq] at hc; obtain ⟨_,rfl,rfl⟩ := hc; exact ⟨fun _ => by omega,fun h => absurd rfl h⟩)
 split at hc
 ·split at hc <;> (simp only [Prod.mk.injEq] at hc; obtain ⟨_,rfl,rfl⟩ := hc; exact ⟨fun _ => by omega,fun h => absurd rfl h⟩)
 split at hc
 ·simp only [Prod.mk.injEq] at hc; obtain ⟨_,rfl,rfl⟩ := hc; exact ⟨fun h => absurd rfl h,fun _ => by omega⟩
 split at hc
 ·simp only [Prod.mk.injEq] at hc; obtain ⟨_,rfl,rfl⟩ := hc; exact ⟨fun h => absurd rfl h,fun h => absurd rfl h⟩
 split at hc
 ·split at hc <;> (simp only [Prod.mk.injEq] at hc; obtain ⟨_,rfl,rfl⟩ := hc; exact ⟨fun _ => by omega,fun h => absurd rfl h⟩)
 ·exact ⟨fun _ => by omega,fun _ => by omega⟩
theorem jumps_of {i : Ins} (hr : i.right = true) (h : 16 ≤ i.op ∧ i.op ≠ 28) : i.jumps = true := by
 have := (right_facts hr).2.2.2.2.2.1
 unfold Ins.jumps
 rw [decide_eq_true_eq]; omega
/-- one more place is gone through -/
theorem pstep_went (hs : Shaped l) (hl : ps.length = l.length) (h : AllWf ps) (at' : Nat) (hw : ∀ j,j < at' → Went l ps j) (he : (pstep l at' ps).1 = 0) :
  (pstep l at' ps).2.length = l.length ∧ AllWf (pstep l at' ps).2 ∧ (∀ j,j < at' + 1 → Went l (pstep l at' ps).2 j) ∧ (∀ j,j ≤ at' → plAt (pstep l at' ps).2 j = plAt ps j) ∧ ∀ j k,Known ps j k → Known (pstep l at' ps).2 j k := by
 unfold pstep at he ⊢
 cases hi : l[at']? with
 | none =>
  refine ⟨hl,h,fun j hj => ?_,fun _ _ => rfl,fun _ _ h => h⟩
  rcases Nat.lt_or_ge j at' with h1 | h1
  ·exact hw j h1
  ·have e : j = at' := by omega
   subst e
   intro i h2
   rw [hi] at h2; cases h2
 | some i =>
  rw [hi] at he
  simp only at he ⊢
  by_cases hlv : (ps.getD at' Pl.dead).live = true
  ·rw [if_pos hlv] at he ⊢
   obtain ⟨ah,af,hc⟩ : ∃ ah af,cstep i (ps.getD at' Pl.dead) = (0,ah,af) := by
    split at he
    ·rename_i h1; exact absurd he h1
    ·rename_i h1
     simp only [ne_eq,Decidable.not_not] at h1
     exact ⟨_,_,Prod.ext h1 rfl⟩
   rw [hc]
   simp only [ne_eq,not_true_eq_false,if_false]
   have hwf := cstep_wf (h at' hlv) i hc
   have hrg := cstep_range hc
   have hir : i.right = true := hs.right i (List.mem_of_getElem? hi)
   have h1 := told_wf h (at' + 1) ah hwf.1
   have h2 := told_wf h1 (at' + 1 + i.off.toNat) af hwf.2
   have kept : ∀ j k,Known ps j k → Known (told (told ps (at' + 1) ah) (at' + 1 + i.off.toNat) af) j k := fun j k hk =>
    told_known h1 _ _ hwf.2 (told_known h _ _ hwf.1 hk)
   have same : ∀ j,j ≤ at' → plAt (told (told ps (at' + 1) ah) (at' + 1 + i.off.toNat) af) j = plAt ps j := fun j hj => by
    rw [told_before _ _ _ (by omega),told_before _ _ _ (by omega)]
   refine ⟨by rw [told_length,told_length,hl],h2,fun j hj => ?_,same,kept⟩
   rcases Nat.lt_or_ge j at' with h3 | h3
   ·intro i2 hi2 hl2
    rw [same j (by omega)] at hl2 ⊢
    obtain ⟨a2,f2,c2,k1,k2⟩ := hw j h3 i2 hi2 hl2
    exact ⟨a2,f2,c2,kept _ _ k1,kept _ _ k2⟩
   ·have e : j = at' := by omega
    subst e
    intro i2 hi2 _
    rw [hi] at hi2
    cases hi2
    rw [same j (Nat.le_refl _)]
    refine ⟨ah,af,hc,told_known h1 _ _ hwf.2 (told_new h _ _ hwf.1 fun hne => ?_),told_new h1 _ _ hwf.2 fun hne => ?_⟩
    ·rw [hl]
     exact hs.last j i hi (hrg.1 hne).1 (hrg.1 hne).2
    ·rw [told_length,hl]
     exact (hs.fwd j i hi (jumps_of hir (hrg.2 hne))).2
  ·rw [if_neg hlv] at he ⊢
   refine ⟨hl,h,fun j hj => ?_,fun _ _ => rfl,fun _ _ h => h⟩
   rcases Nat.lt_or_ge j at' with h3 | h3
   ·exact hw j h3
   ·have e : j = at' := by omega
    subst e
    intro i2 _ hl2
    exact absurd hl2 hlv
theorem psteps_went (hs : Shaped l) : ∀ (n at' : Nat) (ps : List Pl),ps.length = l.length → AllWf ps → (∀ j,j < at' → Went l ps j) → (psteps l n at' ps).1.1 = 0 →
  (psteps l n at' ps).2.length = l.length ∧ AllWf (psteps l n at' ps).2 ∧ (∀ j,j < at' + n → Went l (psteps l n at' ps).2 j) ∧ ∀ j k,Known ps j k → Known (psteps l n at' ps).2 j k
 | 0,at',ps,hl,h,hw,_ => ⟨hl,h,hw,fun _ _ h => h⟩
 | n + 1,at',ps,hl,h,hw,he => by
  unfold psteps at he ⊢
  by_cases h0 : (pstep l at' ps).1 ≠ 0
  ·rw [if_pos h0] at he
   exact absurd he h0
  ·rw [if_neg h0] at he ⊢
   simp only [ne_eq,Decidable.not_not] at h0
   obtain ⟨a1,a2,a3,_,a5⟩ := pstep_went hs hl h at' hw h0
   obtain ⟨b1,b2,b3,b4⟩ := psteps_went hs n (at' + 1) _ a1 a2 a3 he
   exact ⟨b1,b2,fun j hj => b3 j (by omega),fun j k hk => b4 j k (a5 j k hk)⟩
end
/-- the places of a filter -/
def places0 (l : List Ins) : List Pl := (List.replicate l.length Pl.dead).set 0 Pl.start
def placesOf (l : List Ins) : (Int × Nat) × List Pl := psteps l l.length 0 (places0 l)
/-- a filter that may be let in, and what is known at its places -/
structure Typed (l : List Ins) (ps : List Pl) : Prop where
 len : ps.length = l.length
 wf : AllWf ps
 went : ∀ j,j < l.length → Went l ps j
 first : Known ps 0 (some Pl.start)
theorem typed_of {l : List Ins} (hs : Shaped l) (he : (placesOf l).1.1 = 0) : Typed l (placesOf l).2 := by
 have hd : ∀ j,plAt (List.replicate l.length Pl.dead) j = Pl.dead := fun j => by
  unfold plAt
  rw [List.getD_eq_getElem?_getD,List.getElem?_replicate]
  split <;> rfl
 have hn : 0 < l.length := List.length_pos_iff.2 hs.ne
 have h0 : ∀ j,plAt (places0 l) j = if j = 0 then Pl.start else Pl.dead := fun j => by
  unfold places0
  rw [plAt_set,hd,List.length_replicate]
  by_cases hj : j = 0
  ·subst hj; rw [if_pos ⟨rfl,hn⟩,if_pos rfl]
  ·rw [if_neg (fun e => hj e.1.symm),if_neg hj]
 obtain ⟨a1,a2,a3,a4⟩ := psteps_went hs l.length 0 (places0 l) (by simp [places0]) (fun j hj => by
  rw [h0] at hj ⊢
  split
  ·exact Pl.start_wf
  ·rename_i hne
   rw [if_neg hne] at hj
   cases hj) (fun j hj => absurd hj (Nat.not_lt_zero _)) he
 refine ⟨a1,a2,fun j hj => a3 j (by omega),a4 0 _ fun q hq => ?_⟩
 cases hq
 rw [h0,if_pos rfl]
 exact ⟨rfl,Pl.In.refl Pl.start_wf⟩
end Go.Proofs.YtfeipbgnjainlaaGreat.T
/- A filter that may be let in ends on every packet, within as many steps as it has instructions. No program in sight. -/
namespace Go.Proofs.YtfeipbgnjainlaaGreat.T

/-- so many steps to a verdict -/
def Runs (l : List Ins) (pk : List B) : Nat → Mc → U → Prop
 | 0,_,_ => False
 | k + 1,m,v => ∃ i m',l[m.at']? = some i ∧ estep pk i { m with at' := m.at' + 1 } = (0,m') ∧ ((k = 0 ∧ m'.verdict = some v) ∨ (m'.verdict = none ∧ Runs l pk k m' v))
theorem start_holds (len : Nat) (hl : len ≤ 65535) : PlH Pl.start (Mc.start len) len := by
 refine ⟨rfl,rfl,List.length_replicate,rfl,List.length_replicate,List.length_replicate,fun r hr => ?_,fun j hj hb => ?_,by decide,Int.natCast_nonneg _⟩
 ·have hn : Kn.none.holds 0 0 len := Kn.none_holds _ _ _
  have h1 : (⟨2,Sp.zero⟩ : Kn).holds 2 0 len := ⟨by decide,.inr (.inr ⟨.inr (.inl rfl),rfl,by decide⟩)⟩
  have h2 : (⟨4,Sp.zero⟩ : Kn).holds 1 (BitVec.ofNat 64 len) len := ⟨by decide,.inr (.inl ⟨rfl,rfl,by rw [BitVec.toNat_ofNat]; omega⟩)⟩
  have h3 : (⟨3,Sp.zero⟩ : Kn).holds 3 0 len := ⟨by decide,.inr (.inr ⟨.inr (.inr rfl),rfl,by decide⟩)⟩
  have hc : r = 0 ∨ r = 1 ∨ r = 2 ∨ r = 3 ∨ r = 4 ∨ r = 5 ∨ r = 6 ∨ r = 7 ∨ r = 8 ∨ r = 9 ∨ r = 10 := by omega
  rcases hc with rfl | rfl | rfl | rfl | rfl | rfl | rfl | rfl | rfl | rfl | rfl
  ·exact hn
  ·exact h1
  ·exact h2
  ·exact hn
  ·exact hn
  ·exact hn
  ·exact hn
  ·exact hn
  ·exact hn
  ·exact hn
  ·exact h3
 ·have e : (Pl.start.bytes).getD j false = false := by
   show (List.replicate 512 false).getD j false = false
   rw [List.getD_eq_getElem?_getD,List.getElem?_replicate]
   split <;> rfl
  rw [e] at hb; cases hb
/-- the machine stands at a place that is known of -/
structure At (l : List Ins) (ps : List Pl) (len : Nat) (m : Mc) : Prop where
 verdict : m.verdict = none
 lt : m.at' < l.length
 live : (plAt ps m.at').live = true
 holds : PlH (plAt ps m.at') m len
theorem step_at {l : List Ins} {ps : List Pl} {pk : List B} {m : Mc} (hs : Shaped l) (ht : Typed l ps) (hl : pk.length ≤ 65535) (h : At l ps pk.length m) :
  ∃ i m',l[m.at']? = some i ∧ estep pk i { m with at' := m.at' + 1 } = (0,m') ∧ ((∃ v,m'.verdict = some v) ∨ (At l ps pk.length m' ∧ m.at' < m'.at')) := by
 have hlt0 := h.lt
 have hi : l[m.at']? = some l[m.at'] := List.getElem?_eq_getElem h.lt
 obtain ⟨ah,af,hc,k1,k2⟩ := ht.went m.at' h.lt _ hi h.live
 have hr : l[m.at'].right = true := hs.right _ (List.getElem_mem h.lt)
 obtain ⟨m',he,ha⟩ := step_sound l[m.at'] hr pk rfl hl (h.holds.at'' (m.at' + 1)) hc
 refine ⟨_,m',hi,he,?_⟩
 have hrg := cstep_range hc
 rcases ha with ⟨_,hv,_⟩ | ⟨_,hv,⟨e1,q,e2,e3⟩ | ⟨e1,ej,q,e2,e3⟩⟩
 ·exact .inl ⟨_,hv⟩
 ·right
  simp only at e1 hv
  obtain ⟨g1,g2⟩ := k1 q e2
  have hlt := hs.last m.at' _ hi (hrg.1 (by rw [e2]; simp)).1 (hrg.1 (by rw [e2]; simp)).2
  refine ⟨⟨hv.trans h.verdict,by rw [e1]; exact hlt,by rw [e1]; exact g1,by rw [e1]; exact g2.holds (ht.wf _ g1) hl e3⟩,by omega⟩
 ·right
  simp only at e1 hv
  obtain ⟨g1,g2⟩ := k2 q e2
  have hlt := hs.fwd m.at' _ hi ej
  refine ⟨⟨hv.trans h.verdict,by rw [e1]; exact hlt.2,by rw [e1]; exact g1,by rw [e1]; exact g2.holds (ht.wf _ g1) hl e3⟩,by omega⟩
theorem runs_at {l : List Ins} {ps : List Pl} {pk : List B} (hs : Shaped l) (ht : Typed l ps) (hl : pk.length ≤ 65535) : ∀ (n : Nat) (m : Mc),l.length - m.at' ≤ n → At l ps pk.length m → ∃ k v,k ≤ n ∧ Runs l pk k m v
 | 0,m,hn,h => absurd h.lt (by omega)
 | n + 1,m,hn,h => by
  obtain ⟨i,m',h1,h2,h3⟩ := step_at hs ht hl h
  rcases h3 with ⟨v,hv⟩ | ⟨ha,hlt⟩
  ·exact ⟨1,v,by omega,i,m',h1,h2,.inl ⟨rfl,hv⟩⟩
  ·obtain ⟨k,v,hk,hr⟩ := runs_at hs ht hl n m' (by omega) ha
   exact ⟨k + 1,v,by omega,i,m',h1,h2,.inr ⟨ha.verdict,hr⟩⟩
/-- a filter that may be let in ends -/
theorem runs_of {l : List Ins} {ps : List Pl} (hs : Shaped l) (ht : Typed l ps) (pk : List B) (hl : pk.length ≤ 65535) : ∃ k v,k ≤ l.length ∧ Runs l pk k (Mc.start pk.length) v := by
 obtain ⟨h1,h2⟩ := ht.first _ rfl
 obtain ⟨k,v,hk,hr⟩ := runs_at hs ht hl l.length (Mc.start pk.length) (Nat.sub_le _ _) ⟨rfl,List.length_pos_iff.2 hs.ne,h1,h2.holds (ht.wf 0 h1) hl (start_holds _ hl)⟩
 exact ⟨k,v,hk,hr⟩
end Go.Proofs.YtfeipbgnjainlaaGreat.T
/- Code that is made of a filter, the machine of registers, and that it tells the same verdict. No program in sight. -/
namespace Go.Proofs.YtfeipbgnjainlaaGreat.T

structure Fl where
 do' : Int
 what : Int
 narrow : Bool
 d : Int
 a : Int
 b : Int
 n : U
 size : Int
 to : Int
deriving DecidableEq
def Fl.zero : Fl := ⟨0,0,false,0,0,0,0,0,0⟩
/-- what a second part needs; and its register -/
def lsec (i : Ins) : List Fl := if i.useImm then [{ Fl.zero with do' := 1,d := 15,n := wide i.imm }] else []
def lreg (i : Ins) : Int := if i.useImm then 15 else i.src
def lgoes (at' : Nat) (to : Int) : List Fl := if (at' : Int) + 1 < to then [{ Fl.zero with do' := 7,to := to }] else []
def lreckon (i : Ins) : List Fl :=
 if i.op = 13 then [{ Fl.zero with do' := 3,what := i.op,narrow := i.narrow,d := i.dst,a := i.dst }]
 else if i.op = 12 ∧ i.narrow = false ∧ i.useImm = true then [{ Fl.zero with do' := 1,d := i.dst,n := wide i.imm }]
 else if i.op = 12 ∧ i.narrow = false then [{ Fl.zero with do' := 2,d := i.dst,a := i.src }]
 else lsec i ++ [{ Fl.zero with do' := 3,what := i.op,narrow := i.narrow,d := i.dst,a := i.dst,b := lreg i }]
def lbranch (ps : List Pl) (at' : Nat) (i : Ins) : List Fl :=
 if i.off = 0 ∨ (plAt ps (at' + 1 + i.off.toNat)).live = false then []
 else if (plAt ps (at' + 1)).live = false then lgoes at' ((at' : Int) + 1 + i.off)
 else lsec i ++ [{ Fl.zero with do' := 8,what := i.op,narrow := i.narrow,a := i.dst,b := lreg i,to := (at' : Int) + 1 + i.off }]
/-- the code of an instruction -/
def lone (ps : List Pl) (at' : Nat) (i : Ins) : List Fl :=
 if i.op = 14 then [{ Fl.zero with do' := if ((plAt ps at').reg i.src).k = 3 then 5 else 4,d := i.dst,a := i.src,n := wide i.off,size := i.size }]
 else if i.op = 15 then lsec i ++ [{ Fl.zero with do' := 6,a := i.dst,b := lreg i,n := wide i.off,size := i.size }]
 else if i.op = 16 then lgoes at' ((at' : Int) + 1 + i.off)
 else if i.op = 28 then [{ Fl.zero with do' := 9 }]
 else if i.jumps then lbranch ps at' i
 else lreckon i
def lat (l : List Ins) (ps : List Pl) (n : Nat) : List Fl := match l[n]? with
 | none => []
 | some i => if (plAt ps n).live then lone ps n i else []
/-- the code of so many places -/
def lout (l : List Ins) (ps : List Pl) : Nat → List Fl
 | 0 => []
 | n + 1 => lout l ps n ++ lat l ps n
def lbegin (l : List Ins) (ps : List Pl) (n : Nat) : Nat := (lout l ps n).length
def lpatch (l : List Ins) (ps : List Pl) (f : Fl) : Fl := if f.do' = 7 ∨ f.do' = 8 then { f with to := (lbegin l ps f.to.toNat : Int) } else f
def lmake (l : List Ins) (ps : List Pl) : List Fl := (lout l ps l.length).map (lpatch l ps)

/-! ### the machine of registers -/
structure Fm where
 regs : List U
 stk : List B
 at' : Nat
def Fm.reg (m : Fm) (r : Int) : U := m.regs.getD r.toNat 0
def Fm.put (m : Fm) (r : Int) (v : U) : Fm := { m with regs := m.regs.set r.toNat v }
def Fm.start (len : Nat) : Fm := ⟨(List.replicate 16 0).set 2 (BitVec.ofNat 64 len),List.replicate 512 0,0⟩
def cellErr (at' size : Int) : Bool := decide (at' < -512 ∨ -size < at')
/-- one instruction that goes on; none: it ends, or goes wrong -/
def fstep (pk : List B) (f : Fl) (m : Fm) : Option Fm :=
 if f.do' = 1 then some (m.put f.d f.n)
 else if f.do' = 2 then some (m.put f.d (m.reg f.a))
 else if f.do' = 3 then (if aerr f.what f.narrow (m.reg f.b) = 0 then some (m.put f.d (ado f.what f.narrow (m.reg f.a) (m.reg f.b))) else none)
 else if f.do' = 4 then (if getErr pk.length (m.reg f.a + f.n).toInt f.size = 0 then some (m.put f.d (gets pk (m.reg f.a + f.n).toInt.toNat f.size.toNat)) else none)
 else if f.do' = 5 then (if cellErr (m.reg f.a + f.n).toInt f.size then none else some (m.put f.d (gets m.stk ((m.reg f.a + f.n).toInt + 512).toNat f.size.toNat)))
 else if f.do' = 6 then (if cellErr (m.reg f.a + f.n).toInt f.size then none else some { m with stk := puts m.stk ((m.reg f.a + f.n).toInt + 512).toNat f.size.toNat (m.reg f.b) })
 else if f.do' = 7 then some { m with at' := f.to.toNat }
 else if f.do' = 8 then some (if ais f.what f.narrow (m.reg f.a) (m.reg f.b) then { m with at' := f.to.toNat } else m)
 else none
/-- so many steps to the end, and the verdict there -/
def FRuns (c : List Fl) (pk : List B) : Nat → Fm → U → Prop
 | 0,_,_ => False
 | k + 1,m,v => ∃ f,c[m.at']? = some f ∧ ((k = 0 ∧ f.do' = 9 ∧ v = m.reg f.a) ∨ ∃ m',fstep pk f { m with at' := m.at' + 1 } = some m' ∧ FRuns c pk k m' v)
/-- steps that go on -/
inductive FSteps (c : List Fl) (pk : List B) : Nat → Fm → Fm → Prop
 | nil (m : Fm) : FSteps c pk 0 m m
 | cons {k : Nat} {m m1 m2 : Fm} {f : Fl} : c[m.at']? = some f → fstep pk f { m with at' := m.at' + 1 } = some m1 → FSteps c pk k m1 m2 → FSteps c pk (k + 1) m m2
theorem FSteps.runs {c : List Fl} {pk : List B} {k n : Nat} {m m' : Fm} {v : U} (h : FSteps c pk k m m') (hr : FRuns c pk n m' v) : FRuns c pk (k + n) m v := by
 induction h with
 | nil m => rw [Nat.zero_add]; exact hr
 | cons h1 h2 _ ih =>
  rw [show ∀ k,k + 1 + n = (k + n) + 1 from fun k => by omega]
  exact ⟨_,h1,.inr ⟨_,h2,ih hr⟩⟩
/-- both machines say the same -/
structure Rel (m : Mc) (f : Fm) : Prop where
 ml : m.regs.length = 11
 fl : f.regs.length = 16
 regs : ∀ r,r < 11 → f.regs.getD r 0 = (m.regs.getD r (0,0)).2
 stk : f.stk = m.stk
section
variable {m : Mc} {f : Fm}
theorem Rel.reg (h : Rel m f) (r : Int) (h1 : r ≤ 10) : f.reg r = (m.reg r).2 := h.regs r.toNat (by omega)
theorem Rel.put (h : Rel m f) (r : Int) (h0 : 0 ≤ r) (h1 : r ≤ 10) (v : Int × U) (k k' : Nat) : Rel { (m.put r v) with at' := k } { (f.put r v.2) with at' := k' } := by
 refine ⟨by simp [Mc.put,h.ml],by simp [Fm.put,h.fl],fun j hj => ?_,h.stk⟩
 simp only [Mc.put,Fm.put,getD_set,h.ml,h.fl]
 by_cases e : r.toNat = j
 ·rw [if_pos ⟨e,by omega⟩,if_pos ⟨e,by omega⟩]
 ·rw [if_neg (fun x => e x.1),if_neg (fun x => e x.1)]; exact h.regs j hj
theorem Rel.spare (h : Rel m f) (v : U) : Rel m (f.put 15 v) := by
 refine ⟨h.ml,by simp [Fm.put,h.fl],fun j hj => ?_,h.stk⟩
 simp only [Fm.put,getD_set]
 rw [if_neg (by show ¬ ((15 : Int).toNat = j ∧ _); intro e; have := e.1; simp at this; omega)]
 exact h.regs j hj
theorem Rel.ats (h : Rel m f) (k k' : Nat) : Rel { m with at' := k } { f with at' := k' } := ⟨h.ml,h.fl,h.regs,h.stk⟩
theorem start_rel (len : Nat) : Rel (Mc.start len) (Fm.start len) := by
 refine ⟨rfl,by show ((List.replicate 16 (0 : U)).set 2 _).length = 16; rw [List.length_set,List.length_replicate],fun r hr => ?_,rfl⟩
 have hc : r = 0 ∨ r = 1 ∨ r = 2 ∨ r = 3 ∨ r = 4 ∨ r = 5 ∨ r = 6 ∨ r = 7 ∨ r = 8 ∨ r = 9 ∨ r = 10 := by omega
 rcases hc with rfl | rfl | rfl | rfl | rfl | rfl | rfl | rfl | rfl | rfl | rfl <;> rfl
/-- the second part's register, behind what it needs -/
theorem lsec_steps {c : List Fl} {pk : List B} (h : Rel m f) (i : Ins) (hs : i.src ≤ 10) (hc : ∀ t g,(lsec i)[t]? = some g → c[f.at' + t]? = some g) :
  ∃ k f',FSteps c pk k f f' ∧ Rel m f' ∧ f'.at' = f.at' + (lsec i).length ∧ f'.reg (lreg i) = (esecond i m).2 := by
 unfold lsec lreg esecond at *
 cases hu : i.useImm with
 | false =>
  simp only [Bool.false_eq_true,if_false]
  exact ⟨0,f,.nil f,h,rfl,h.reg i.src hs⟩
 | true =>
  rw [hu] at hc
  simp only [if_true] at hc ⊢
  have h1 := hc 0 _ rfl
  refine ⟨1,{ (f.put 15 (wide i.imm)) with at' := f.at' + 1 },.cons h1 (by rw [fstep,if_pos rfl]; rfl) (.nil _),?_,rfl,?_⟩
  ·exact (h.spare _).ats m.at' _
  ·show ((f.regs.set 15 (wide i.imm)).getD 15 0) = wide i.imm
   rw [getD_set,if_pos ⟨rfl,by rw [h.fl]; decide⟩]
end
section
variable {l : List Ins} {ps : List Pl}
theorem lout_get (n j t : Nat) (hj : j < n) (g : Fl) (h : (lat l ps j)[t]? = some g) : (lout l ps n)[lbegin l ps j + t]? = some g := by
 induction n with
 | zero => omega
 | succ n ih =>
  show (lout l ps n ++ lat l ps n)[lbegin l ps j + t]? = some g
  rcases Nat.lt_or_ge j n with h1 | h1
  ·have h2 := ih h1
   rw [List.getElem?_append_left (List.getElem?_eq_some_iff.1 h2).1]
   exact h2
  ·have e : j = n := by omega
   subst e
   rw [List.getElem?_append_right (by unfold lbegin; omega)]
   rw [show lbegin l ps j + t - (lout l ps j).length = t by unfold lbegin; omega]
   exact h
theorem lbegin_succ (j : Nat) : lbegin l ps (j + 1) = lbegin l ps j + (lat l ps j).length := by
 unfold lbegin
 show (lout l ps j ++ lat l ps j).length = _
 rw [List.length_append]
theorem lmake_get (j t : Nat) (hj : j < l.length) (g : Fl) (h : (lat l ps j)[t]? = some g) : (lmake l ps)[lbegin l ps j + t]? = some (lpatch l ps g) := by
 unfold lmake
 rw [List.getElem?_map,lout_get l.length j t hj g h]
 rfl
theorem lat_of {j : Nat} {i : Ins} (hi : l[j]? = some i) (hl : (plAt ps j).live = true) : lat l ps j = lone ps j i := by
 unfold lat
 rw [hi]
 simp only [hl,if_true]
theorem lpatch_other (g : Fl) (h : g.do' ≠ 7 ∧ g.do' ≠ 8) : lpatch l ps g = g := by
 unfold lpatch
 rw [if_neg (by omega)]
end
end Go.Proofs.YtfeipbgnjainlaaGreat.T
/- The code of a filter tells what the filter tells. No program in sight. -/
namespace Go.Proofs.YtfeipbgnjainlaaGreat.T

section
variable {l : List Ins} {ps : List Pl} {pk : List B} {m : Mc} {f : Fm}
theorem one_step {j t : Nat} (hj : j < l.length) {g g' : Fl} (h : (lat l ps j)[t]? = some g) (hp : lpatch l ps g = g') (hat : f.at' = lbegin l ps j + t) {f' : Fm} (hst : fstep pk g' { f with at' := f.at' + 1 } = some f') : FSteps (lmake l ps) pk 1 f f' :=
 .cons (by rw [hat,lmake_get j t hj g h,hp]) hst (.nil _)
theorem FSteps.trans {c : List Fl} {k n : Nat} {f1 f2 f3 : Fm} (h : FSteps c pk k f1 f2) (h2 : FSteps c pk n f2 f3) : FSteps c pk (k + n) f1 f3 := by
 induction h with
 | nil m => rw [Nat.zero_add]; exact h2
 | cons a b _ ih =>
  rw [show ∀ k,k + 1 + n = (k + n) + 1 from fun k => by omega]
  exact .cons a b (ih h2)
theorem lsec_do (i : Ins) : ∀ g ∈ lsec i,g.do' = 1 := by
 intro g hg
 unfold lsec at hg
 split at hg
 ·rw [List.mem_singleton.1 hg]
 ·cases hg
/-- what a second part needs, out of the code of a place that begins with it -/
theorem sec_steps {j : Nat} (hj : j < l.length) (hR : Rel m f) (hat : f.at' = lbegin l ps j) (i : Ins) (hs : i.src ≤ 10) (rest : List Fl) (hl : lat l ps j = lsec i ++ rest) :
  ∃ k f',FSteps (lmake l ps) pk k f f' ∧ Rel m f' ∧ f'.at' = lbegin l ps j + (lsec i).length ∧ f'.reg (lreg i) = (esecond i m).2 := by
 rw [← hat]
 refine lsec_steps hR i hs fun t g hg => ?_
 have h1 : (lat l ps j)[t]? = some g := by
  rw [hl,List.getElem?_append_left (List.getElem?_eq_some_iff.1 hg).1]; exact hg
 have hd := lsec_do i g (List.mem_of_getElem? hg)
 rw [hat,lmake_get j t hj g h1,lpatch_other g (by omega)]
theorem lat_len {j : Nat} {i : Ins} {g : Fl} (hl : lat l ps j = lsec i ++ [g]) : lbegin l ps (j + 1) = lbegin l ps j + (lsec i).length + 1 := by
 rw [lbegin_succ,hl,List.length_append,List.length_singleton]; omega
/-- a second part, and one more instruction -/
theorem sec_one {j : Nat} (hj : j < l.length) (hR : Rel m f) (hat : f.at' = lbegin l ps j) (i : Ins) (hs : i.src ≤ 10) {g g' : Fl} (hl : lat l ps j = lsec i ++ [g]) (hp : lpatch l ps g = g') (T : Fm → Fm)
  (hst : ∀ f1 : Fm,Rel m f1 → f1.reg (lreg i) = (esecond i m).2 → fstep pk g' { f1 with at' := lbegin l ps (j + 1) } = some (T f1)) :
  ∃ k f1,FSteps (lmake l ps) pk k f (T f1) ∧ Rel m f1 ∧ f1.reg (lreg i) = (esecond i m).2 := by
 obtain ⟨k,f1,h1,h2,h3,h4⟩ := sec_steps (pk := pk) hj hR hat i hs [g] hl
 have hg : (lat l ps j)[(lsec i).length]? = some g := by rw [hl,List.getElem?_append_right (Nat.le_refl _)]; simp
 have h5 := one_step (pk := pk) (f := f1) hj hg hp h3 (f' := T f1) (by rw [h3,← lat_len hl]; exact hst f1 h2 h4)
 exact ⟨k + 1,f1,h1.trans h5,h2,h4⟩
theorem Mc.reg_at (m : Mc) (k : Nat) (r : Int) : Mc.reg { m with at' := k } r = m.reg r := rfl
theorem ado12 (a b : U) : ado 12 true a b = (low b).setWidth 64 := by simp [ado,adoN]
theorem sim_load {i : Ins} (hr : i.right = true) (ho : i.op = 14) {j : Nat} (hj : j < l.length) (hi : l[j]? = some i) (hlv : (plAt ps j).live = true) (hR : Rel m f) (hat : f.at' = lbegin l ps j) (hP : PlH (plAt ps j) m pk.length) {ah af : Option Pl} (hc : cstep i (plAt ps j) = (0,ah,af)) {m' : Mc} (he : estep pk i m = (0,m')) :
  ∃ k f',FSteps (lmake l ps) pk k f f' ∧ Rel m' f' ∧ f'.at' = lbegin l ps (j + 1) := by
 obtain ⟨hd,hs,hof,him,hsz,hop,_⟩ := right_facts hr
 have hla : lat l ps j = [{ Fl.zero with do' := if ((plAt ps j).reg i.src).k = 3 then 5 else 4,d := i.dst,a := i.src,n := wide i.off,size := i.size }] := by
  rw [lat_of hi hlv,lone,if_pos ho]
 have hb : lbegin l ps (j + 1) = lbegin l ps j + 1 := by rw [lbegin_succ,hla]; rfl
 have hg : (lat l ps j)[0]? = some { Fl.zero with do' := if ((plAt ps j).reg i.src).k = 3 then 5 else 4,d := i.dst,a := i.src,n := wide i.off,size := i.size } := by rw [hla]; rfl
 have hreg := hP.reg i.src hs.1 hs.2
 have hk : ((plAt ps j).reg i.src).k = 3 ∨ ((plAt ps j).reg i.src).k = 2 := by
  unfold cstep at hc
  rw [if_pos ho] at hc
  split at hc
  ·rename_i h; exact absurd (congrArg Prod.fst hc) h
  ·rename_i h
   simp only [ne_eq,Decidable.not_not] at h
   unfold loadErr at h
   split at h
   ·left; assumption
   split at h
   ·right; assumption
   split at h
   ·rename_i h2; exact absurd h h2
   ·omega
 have hfs : f.reg i.src = (m.reg i.src).2 := hR.reg i.src hs.2
 unfold estep at he
 rw [if_neg (by omega),if_neg (by omega),if_pos ho] at he
 split at he
 ·simp at he
 by_cases c1 : (m.reg i.src).1 = 1
 ·rw [if_pos c1] at he; simp at he
 rw [if_neg c1] at he
 by_cases h2 : (m.reg i.src).1 = 2
 ·rw [if_pos h2] at he
  by_cases hge : getErr pk.length ((m.reg i.src).2 + wide i.off).toInt i.size = 0
  rotate_left
  ·rw [if_pos hge] at he; exact absurd (congrArg Prod.fst he) hge
  rw [if_neg (fun e => e hge)] at he
  have hm' : m' = m.put i.dst (1,gets pk ((m.reg i.src).2 + wide i.off).toInt.toNat i.size.toNat) := (congrArg Prod.snd he).symm
  have hk2 : ¬ ((plAt ps j).reg i.src).k = 3 := fun e => by have := (holds_frame hreg e).1; omega
  rw [if_neg hk2] at hg
  refine ⟨1,{ f.put i.dst (gets pk ((m.reg i.src).2 + wide i.off).toInt.toNat i.size.toNat) with at' := f.at' + 1 },one_step hj hg (lpatch_other _ (by simp [Fl.zero])) (by rw [hat]; rfl) ?_,?_,by rw [hat,hb]⟩
  ·show (if getErr pk.length (f.reg i.src + wide i.off).toInt i.size = 0 then _ else none) = _
   rw [hfs,if_pos hge]
   show some (Fm.put { f with at' := f.at' + 1 } i.dst (gets pk (f.reg i.src + wide i.off).toInt.toNat i.size.toNat)) = _
   rw [hfs]; rfl
  ·rw [hm']
   exact hR.put i.dst hd.1 hd.2 (1,_) _ _
 ·rw [if_neg h2] at he
  by_cases hfe : frameErr (m.reg i.src).2 i = 0
  rotate_left
  ·rw [if_pos hfe] at he; simp at he
  rw [if_neg (fun e => e hfe)] at he
  by_cases has : allSet m.set (((m.reg i.src).2 + wide i.off).toInt + 512).toNat i.size.toNat = false
  ·rw [if_pos has] at he; simp at he
  rw [if_neg has] at he
  have hm' : m' = m.put i.dst (1,gets m.stk (((m.reg i.src).2 + wide i.off).toInt + 512).toNat i.size.toNat) := (congrArg Prod.snd he).symm
  have hk3 : ((plAt ps j).reg i.src).k = 3 := by
   rcases hk with e | e
   ·exact e
   ·have := (holds_kind hreg (by omega) (by omega)).1
    exact absurd (this.trans e) h2
  rw [if_pos hk3] at hg
  have hce : cellErr ((m.reg i.src).2 + wide i.off).toInt i.size = false := by
   unfold frameErr at hfe
   unfold cellErr
   rw [decide_eq_false_iff_not]
   intro e
   rw [if_pos (by omega)] at hfe
   omega
  refine ⟨1,{ f.put i.dst (gets f.stk (((m.reg i.src).2 + wide i.off).toInt + 512).toNat i.size.toNat) with at' := f.at' + 1 },one_step hj hg (lpatch_other _ (by simp [Fl.zero])) (by rw [hat]; rfl) ?_,?_,by rw [hat,hb]⟩
  ·show (if cellErr (f.reg i.src + wide i.off).toInt i.size then none else some (Fm.put { f with at' := f.at' + 1 } i.dst (gets f.stk ((f.reg i.src + wide i.off).toInt + 512).toNat i.size.toNat))) = _
   rw [hfs,hce]; rfl
  ·rw [hm',hR.stk]
   exact hR.put i.dst hd.1 hd.2 (1,_) _ _
theorem sim_put {i : Ins} (hr : i.right = true) (ho : i.op = 15) {j : Nat} (hj : j < l.length) (hi : l[j]? = some i) (hlv : (plAt ps j).live = true) (hR : Rel m f) (hat : f.at' = lbegin l ps j) {m' : Mc} (he : estep pk i m = (0,m')) :
  ∃ k f',FSteps (lmake l ps) pk k f f' ∧ Rel m' f' ∧ f'.at' = lbegin l ps (j + 1) := by
 obtain ⟨hd,hs,hof,him,hsz,hop,_⟩ := right_facts hr
 have hla : lat l ps j = lsec i ++ [{ Fl.zero with do' := 6,a := i.dst,b := lreg i,n := wide i.off,size := i.size }] := by
  rw [lat_of hi hlv,lone,if_neg (by omega),if_pos ho]
 unfold estep at he
 rw [if_neg (by omega),if_neg (by omega),if_neg (by omega),if_pos ho] at he
 split at he
 ·simp at he
 by_cases c1 : (m.reg i.dst).1 = 2
 ·rw [if_pos c1] at he; simp at he
 rw [if_neg c1] at he
 by_cases c2 : (m.reg i.dst).1 = 1 ∨ (esecond i m).1 ≠ 1
 ·rw [if_pos c2] at he; simp at he
 rw [if_neg c2] at he
 by_cases hfe : frameErr (m.reg i.dst).2 i = 0
 rotate_left
 ·rw [if_pos hfe] at he; simp at he
 rw [if_neg (fun e => e hfe)] at he
 have hm' := (congrArg Prod.snd he).symm
 simp only at hm'
 have hce : cellErr ((m.reg i.dst).2 + wide i.off).toInt i.size = false := by
  unfold frameErr at hfe
  unfold cellErr
  rw [decide_eq_false_iff_not]
  intro e
  rw [if_pos (by omega)] at hfe
  omega
 obtain ⟨k,f1,h1,h2,h3⟩ := sec_one (pk := pk) hj hR hat i hs.2 hla (lpatch_other _ (by simp [Fl.zero])) (fun f1 => { f1 with stk := puts f1.stk (((m.reg i.dst).2 + wide i.off).toInt + 512).toNat i.size.toNat (esecond i m).2,at' := lbegin l ps (j + 1) }) (fun f1 g1 g2 => by
  show (if cellErr (f1.reg i.dst + wide i.off).toInt i.size then none else some { f1 with stk := puts f1.stk ((f1.reg i.dst + wide i.off).toInt + 512).toNat i.size.toNat (f1.reg (lreg i)),at' := lbegin l ps (j + 1) }) = _
  rw [g1.reg i.dst hd.2,g2,hce]; rfl)
 refine ⟨k,_,h1,?_,rfl⟩
 rw [hm']
 exact ⟨h2.ml,h2.fl,h2.regs,by simp only [h2.stk]⟩
theorem sim_alu {i : Ins} (hr : i.right = true) (ho : i.op ≤ 13) {j : Nat} (hj : j < l.length) (hi : l[j]? = some i) (hlv : (plAt ps j).live = true) (hR : Rel m f) (hat : f.at' = lbegin l ps j) {m' : Mc} (he : estep pk i m = (0,m')) :
  ∃ k f',FSteps (lmake l ps) pk k f f' ∧ Rel m' f' ∧ f'.at' = lbegin l ps (j + 1) := by
 obtain ⟨hd,hs,hof,him,hsz,hop,_⟩ := right_facts hr
 have hnj : i.jumps = false := by unfold Ins.jumps; rw [decide_eq_false_iff_not]; omega
 have hla : lat l ps j = lreckon i := by
  rw [lat_of hi hlv,lone,if_neg (by omega),if_neg (by omega),if_neg (by omega),if_neg (by omega),hnj]; rfl
 have single : ∀ g : Fl,lat l ps j = [g] → g.do' ≠ 7 ∧ g.do' ≠ 8 → ∀ (v : Int × U),(∀ f1 : Fm,f1.regs = f.regs → fstep pk g f1 = some (f1.put i.dst v.2)) → m' = m.put i.dst v → ∃ k f',FSteps (lmake l ps) pk k f f' ∧ Rel m' f' ∧ f'.at' = lbegin l ps (j + 1) := by
  intro g hg hd7 v hst hm
  have hb : lbegin l ps (j + 1) = lbegin l ps j + 1 := by rw [lbegin_succ,hg]; rfl
  refine ⟨1,{ f.put i.dst v.2 with at' := f.at' + 1 },one_step (t := 0) hj (by rw [hg]; rfl) (lpatch_other _ hd7) (by rw [hat]; rfl) (hst _ rfl),?_,by rw [hat,hb]⟩
  rw [hm]
  exact hR.put i.dst hd.1 hd.2 v _ _
 have twice : ∀ g : Fl,lat l ps j = lsec i ++ [g] → g.do' ≠ 7 ∧ g.do' ≠ 8 → ∀ (v : Int × U),(∀ f1 : Fm,Rel m f1 → f1.reg (lreg i) = (esecond i m).2 → fstep pk g { f1 with at' := lbegin l ps (j + 1) } = some (Fm.put { f1 with at' := lbegin l ps (j + 1) } i.dst v.2)) → m' = m.put i.dst v → ∃ k f',FSteps (lmake l ps) pk k f f' ∧ Rel m' f' ∧ f'.at' = lbegin l ps (j + 1) := by
  intro g hg hd7 v hst hm
  obtain ⟨k,f1,h1,h2,_⟩ := sec_one (pk := pk) hj hR hat i hs.2 hg (lpatch_other _ hd7) (fun f1 => Fm.put { f1 with at' := lbegin l ps (j + 1) } i.dst v.2) hst
  refine ⟨k,_,h1,?_,rfl⟩
  rw [hm]
  exact h2.put i.dst hd.1 hd.2 v _ _
 unfold estep at he
 by_cases h12 : i.op = 12
 ·rw [if_pos h12] at he
  split at he
  ·simp at he
  by_cases c1 : (i.narrow && decide ((esecond i m).1 ≠ 1)) = true
  ·rw [if_pos c1] at he; simp at he
  rw [if_neg c1] at he
  have hm' := (congrArg Prod.snd he).symm
  simp only at hm'
  cases hn : i.narrow with
  | false =>
   rw [hn] at hm'
   simp only [Bool.false_eq_true,if_false] at hm'
   cases hu : i.useImm with
   | true =>
    refine single _ (hla.trans (by rw [lreckon,if_neg (by omega),if_pos ⟨h12,hn,hu⟩])) (by simp [Fl.zero]) ((esecond i m).1,(esecond i m).2) (fun f1 hf1 => ?_) hm'
    rw [fstep,if_pos rfl]
    unfold esecond
    rw [hu]; rfl
   | false =>
    refine single _ (hla.trans (by rw [lreckon,if_neg (by omega),if_neg (by rw [hu]; simp),if_pos ⟨h12,hn⟩])) (by simp [Fl.zero]) ((esecond i m).1,(esecond i m).2) (fun f1 hf1 => ?_) hm'
    rw [fstep,if_neg (by simp),if_pos rfl]
    have e2 : f1.reg i.src = (esecond i m).2 := by
     unfold Fm.reg
     rw [hf1]
     unfold esecond
     rw [hu]
     exact hR.reg i.src hs.2
    show some (f1.put i.dst (f1.reg i.src)) = _
    rw [e2]
  | true =>
   rw [hn] at hm'
   simp only [if_true] at hm'
   refine twice _ (hla.trans (by rw [lreckon,if_neg (by omega),if_neg (by rw [hn]; simp),if_neg (by rw [hn]; simp)])) (by simp [Fl.zero]) _ (fun f1 g1 g2 => ?_) hm'
   show (if aerr i.op i.narrow (f1.reg (lreg i)) = 0 then some (Fm.put { f1 with at' := lbegin l ps (j + 1) } i.dst (ado i.op i.narrow (f1.reg i.dst) (f1.reg (lreg i)))) else none) = _
   rw [g2,h12,hn,if_pos (aerr_ok 12 true _ (by omega) (by omega)),ado12]
 rw [if_neg h12] at he
 by_cases h13 : i.op = 13
 ·rw [if_pos h13] at he
  split at he
  ·simp at he
  by_cases c1 : (m.reg i.dst).1 ≠ 1
  ·rw [if_pos c1] at he; simp at he
  rw [if_neg c1] at he
  have hm' := (congrArg Prod.snd he).symm
  simp only at hm'
  refine single _ (hla.trans (by rw [lreckon,if_pos h13])) (by simp [Fl.zero]) ((m.reg i.dst).1,ado 13 i.narrow (m.reg i.dst).2 0) (fun f1 hf1 => ?_) hm'
  show (if aerr i.op i.narrow (f1.reg 0) = 0 then some (f1.put i.dst (ado i.op i.narrow (f1.reg i.dst) (f1.reg 0))) else none) = _
  have e2 : f1.reg i.dst = (m.reg i.dst).2 := by unfold Fm.reg; rw [hf1]; exact hR.reg i.dst hd.2
  rw [h13,if_pos (aerr_ok 13 i.narrow _ (by omega) (by omega)),e2,ado_13 i.narrow _ (f1.reg 0) 0]
 rw [if_neg h13,if_neg (by omega),if_neg (by omega),if_neg (by omega),if_neg (by omega),if_pos (by omega)] at he
 split at he
 ·simp at he
 by_cases c1 : (esecond i m).1 ≠ 1 ∨ ((m.reg i.dst).1 ≠ 1 ∧ ¬ ((i.op = 1 ∨ i.op = 2) ∧ i.narrow = false))
 ·rw [if_pos c1] at he; simp at he
 rw [if_neg c1] at he
 by_cases hae : aerr i.op i.narrow (esecond i m).2 = 0
 rotate_left
 ·rw [if_pos hae] at he; exact absurd (congrArg Prod.fst he) hae
 rw [if_neg (fun e => e hae)] at he
 have hm' := (congrArg Prod.snd he).symm
 simp only at hm'
 refine twice _ (hla.trans (by rw [lreckon,if_neg h13,if_neg (fun e => h12 e.1),if_neg (fun e => h12 e.1)])) (by simp [Fl.zero]) _ (fun f1 g1 g2 => ?_) hm'
 show (if aerr i.op i.narrow (f1.reg (lreg i)) = 0 then some (Fm.put { f1 with at' := lbegin l ps (j + 1) } i.dst (ado i.op i.narrow (f1.reg i.dst) (f1.reg (lreg i)))) else none) = _
 rw [g2,if_pos hae,g1.reg i.dst hd.2]
/-- a jump in the code -/
theorem goes_steps {j t : Nat} (hj : j < l.length) (hR : Rel m f) {to : Nat} (hla : lat l ps j = lgoes j (to : Int)) (hto : j + 1 ≤ to) (hat : f.at' = lbegin l ps j) (hx : t = to) :
  ∃ k f',FSteps (lmake l ps) pk k f f' ∧ Rel m f' ∧ f'.at' = lbegin l ps t := by
 subst hx
 unfold lgoes at hla
 split at hla
 ·refine ⟨1,{ f with at' := lbegin l ps t },one_step (t := 0) hj (by rw [hla]; rfl) (by rw [lpatch,if_pos (.inl rfl)]) (by rw [hat]; rfl) ?_,hR.ats m.at' _,rfl⟩
  show some { f with at' := ((lbegin l ps ((t : Int)).toNat : Nat) : Int).toNat } = _
  simp
 ·have e : t = j + 1 := by omega
  subst e
  refine ⟨0,f,.nil f,hR,?_⟩
  rw [hat,lbegin_succ,hla]; rfl
theorem sim_branch {i : Ins} (hr : i.right = true) (ho : 17 ≤ i.op ∧ i.op ≤ 27) {j : Nat} (hj : j < l.length) (hi : l[j]? = some i) (hlv : (plAt ps j).live = true) (hR : Rel m f) (hat : f.at' = lbegin l ps j) {m' : Mc} (he : estep pk i m = (0,m')) (hlv' : (plAt ps m'.at').live = true) (hf : 0 ≤ i.off) (hma : m.at' = j + 1) :
  ∃ k f',FSteps (lmake l ps) pk k f f' ∧ Rel m' f' ∧ f'.at' = lbegin l ps m'.at' := by
 obtain ⟨hd,hs,hof,him,hsz,hop,_⟩ := right_facts hr
 have hjp : i.jumps = true := by unfold Ins.jumps; rw [decide_eq_true_eq]; omega
 have hla : lat l ps j = lbranch ps j i := by
  rw [lat_of hi hlv,lone,if_neg (by omega),if_neg (by omega),if_neg (by omega),if_neg (by omega),if_pos hjp]
 unfold estep at he
 rw [if_neg (by omega),if_neg (by omega),if_neg (by omega),if_neg (by omega),if_neg (by omega),if_neg (by omega),if_neg (by omega)] at he
 split at he
 ·simp at he
 by_cases c1 : (m.reg i.dst).1 ≠ 1 ∨ (esecond i m).1 ≠ 1
 ·rw [if_pos c1] at he; simp at he
 rw [if_neg c1] at he
 have hm' := (congrArg Prod.snd he).symm
 simp only [hma] at hm'
 have hcast : ((j : Int) + 1 + i.off) = ((j + 1 + i.off.toNat : Nat) : Int) := by omega
 unfold lbranch at hla
 split at hla
 ·rename_i hz
  have hb : lbegin l ps (j + 1) = lbegin l ps j := by rw [lbegin_succ,hla]; rfl
  have hna : m'.at' = j + 1 := by
   rw [hm'] at hlv' ⊢
   split
   ·rename_i ha
    rw [if_pos ha] at hlv'
    simp only at hlv' ⊢
    rcases hz with e | e
    ·rw [e]; rfl
    ·rw [e] at hlv'; cases hlv'
   ·exact hma
  refine ⟨0,f,.nil f,?_,by rw [hna,hb,hat]⟩
  rw [hm']
  split
  ·exact hR.ats _ f.at'
  ·exact hR.ats _ f.at'
 rename_i hz
 split at hla
 ·rename_i hn
  have hna : m'.at' = j + 1 + i.off.toNat := by
   rw [hm'] at hlv' ⊢
   split
   ·rfl
   ·rename_i ha
    rw [if_neg ha,hma] at hlv'
    rw [hn] at hlv'; cases hlv'
  rw [hcast] at hla
  obtain ⟨k,f',h1,h2,h3⟩ := goes_steps (pk := pk) hj hR hla (by omega) hat hna
  refine ⟨k,f',h1,?_,h3⟩
  rw [hm']
  split
  ·exact h2.ats _ f'.at'
  ·exact h2.ats _ f'.at'
 ·rename_i hn
  obtain ⟨k,f1,h1,h2,h3⟩ := sec_one (pk := pk) hj hR hat i hs.2 hla (g' := { Fl.zero with do' := 8,what := i.op,narrow := i.narrow,a := i.dst,b := lreg i,to := (lbegin l ps (j + 1 + i.off.toNat) : Int) }) (by rw [lpatch,if_pos (.inr rfl),hcast]; simp only [Int.toNat_natCast])
   (fun f1 => if ais i.op i.narrow (m.reg i.dst).2 (esecond i m).2 then { f1 with at' := lbegin l ps (j + 1 + i.off.toNat) } else { f1 with at' := lbegin l ps (j + 1) }) (fun f1 g1 g2 => by
    show some (if ais i.op i.narrow (f1.reg i.dst) (f1.reg (lreg i)) then { f1 with at' := ((lbegin l ps (j + 1 + i.off.toNat) : Nat) : Int).toNat } else { f1 with at' := lbegin l ps (j + 1) }) = _
    rw [g2,g1.reg i.dst hd.2,Int.toNat_natCast])
  refine ⟨k,_,h1,?_,?_⟩
  ·rw [hm']
   split
   ·exact h2.ats _ _
   ·exact h2.ats _ _
  ·rw [hm']
   split
   ·rfl
   ·rw [hma]
/-- one instruction that goes on -/
theorem sim_step (hs : Shaped l) (ht : Typed l ps) (hl : pk.length ≤ 65535) (hA : At l ps pk.length m) (hR : Rel m f) (hat : f.at' = lbegin l ps m.at') {i : Ins} {m' : Mc} (hi : l[m.at']? = some i) (he : estep pk i { m with at' := m.at' + 1 } = (0,m')) (hA' : At l ps pk.length m') :
  ∃ k f',FSteps (lmake l ps) pk k f f' ∧ Rel m' f' ∧ f'.at' = lbegin l ps m'.at' := by
 have hr : i.right = true := hs.right i (List.mem_of_getElem? hi)
 obtain ⟨hd,hsr,hof,him,hsz,hop,_⟩ := right_facts hr
 obtain ⟨ah,af,hc,_,_⟩ := ht.went m.at' hA.lt i hi hA.live
 obtain ⟨m2,he2,ha⟩ := step_sound i hr pk rfl hl (hA.holds.at'' (m.at' + 1)) hc
 rw [he] at he2
 cases he2
 have next : i.op ≤ 15 → m'.at' = m.at' + 1 := fun h => by
  rcases ha with ⟨h1,_⟩ | ⟨_,_,⟨e1,_⟩ | ⟨_,e2,_⟩⟩
  ·omega
  ·exact e1
  ·unfold Ins.jumps at e2
   rw [decide_eq_true_eq] at e2
   omega
 by_cases h14 : i.op = 14
 ·rw [next (by omega)]; exact sim_load hr h14 hA.lt hi hA.live (hR.ats (m.at' + 1) f.at') hat (hA.holds.at'' (m.at' + 1)) hc he
 by_cases h15 : i.op = 15
 ·rw [next (by omega)]; exact sim_put hr h15 hA.lt hi hA.live (hR.ats (m.at' + 1) f.at') hat he
 by_cases h13 : i.op ≤ 13
 ·rw [next (by omega)]; exact sim_alu hr h13 hA.lt hi hA.live (hR.ats (m.at' + 1) f.at') hat he
 by_cases h28 : i.op = 28
 ·exfalso
  rcases ha with ⟨_,hv,_⟩ | ⟨h,_⟩
  ·rw [hA'.verdict] at hv; cases hv
  ·exact h h28
 have hjp : i.jumps = true := by unfold Ins.jumps; rw [decide_eq_true_eq]; omega
 have hfw := (hs.fwd _ _ hi hjp).1
 by_cases h16 : i.op = 16
 ·have hla : lat l ps m.at' = lgoes m.at' ((m.at' + 1 + i.off.toNat : Nat) : Int) := by
   rw [lat_of hi hA.live,lone,if_neg (by omega),if_neg (by omega),if_pos h16]
   congr 1; omega
  have hm' : m' = { m with at' := m.at' + 1 + i.off.toNat } := by
   unfold estep at he
   rw [if_neg (by omega),if_neg (by omega),if_neg (by omega),if_neg (by omega),if_pos h16] at he
   exact (congrArg Prod.snd he).symm
  obtain ⟨k,f',h1,h2,h3⟩ := goes_steps (pk := pk) hA.lt hR hla (by omega) hat rfl
  refine ⟨k,f',h1,?_,by rw [hm']; exact h3⟩
  rw [hm']
  exact h2.ats _ f'.at'
 ·exact sim_branch hr (by omega) hA.lt hi hA.live (hR.ats (m.at' + 1) f.at') hat he hA'.live hfw rfl
/-- the last one -/
theorem sim_last (hA : At l ps pk.length m) (hR : Rel m f) (hat : f.at' = lbegin l ps m.at') {i : Ins} {m' : Mc} (hi : l[m.at']? = some i) (ho : i.op = 28) {m0 : Mc} (hm0 : ∀ r,m0.reg r = m.reg r) (he : estep pk i m0 = (0,m')) {v : U} (hv : m'.verdict = some v) : FRuns (lmake l ps) pk 1 f v := by
 have hla : lat l ps m.at' = [{ Fl.zero with do' := 9 }] := by
  rw [lat_of hi hA.live,lone,if_neg (by omega),if_neg (by omega),if_neg (by omega),if_pos ho]
 unfold estep at he
 rw [if_neg (by omega),if_neg (by omega),if_neg (by omega),if_neg (by omega),if_neg (by omega),if_pos ho] at he
 split at he
 ·simp at he
 by_cases c1 : (m0.reg 0).1 ≠ 1
 ·rw [if_pos c1] at he; simp at he
 rw [if_neg c1] at he
 have hm' := (congrArg Prod.snd he).symm
 simp only at hm'
 have hv2 : v = (m.reg 0).2 := by
  rw [hm'] at hv
  rw [← hm0]
  exact (Option.some.inj hv).symm
 refine ⟨{ Fl.zero with do' := 9 },?_,.inl ⟨rfl,rfl,?_⟩⟩
 ·have h := lmake_get (l := l) (ps := ps) m.at' 0 hA.lt _ (by rw [hla]; rfl)
  rw [hat]
  exact h
 ·rw [hv2]
  exact (hR.reg 0 (by omega)).symm
/-- the code tells the filter's verdict -/
theorem sim_runs (hs : Shaped l) (ht : Typed l ps) (hl : pk.length ≤ 65535) : ∀ (k : Nat) (m : Mc) (f : Fm) (v : U),At l ps pk.length m → Rel m f → f.at' = lbegin l ps m.at' → Runs l pk k m v → ∃ n,FRuns (lmake l ps) pk n f v
 | 0,_,_,_,_,_,_,h => absurd h (by simp [Runs])
 | k + 1,m,f,v,hA,hR,hat,h => by
  obtain ⟨i,m',hi,he,h3⟩ := h
  obtain ⟨i2,m2,hi2,he2,h4⟩ := step_at hs ht hl hA
  rw [hi] at hi2
  cases hi2
  rw [he] at he2
  cases he2
  rcases h3 with ⟨_,hv⟩ | ⟨hv,hr⟩
  ·have h28 : i.op = 28 := by
    have hri : i.right = true := hs.right i (List.mem_of_getElem? hi)
    obtain ⟨ah,af,hc,_,_⟩ := ht.went m.at' hA.lt i hi hA.live
    obtain ⟨m3,he3,ha⟩ := step_sound i hri pk rfl hl (hA.holds.at'' (m.at' + 1)) hc
    rw [he] at he3
    cases he3
    rcases ha with ⟨h,_⟩ | ⟨_,h,_⟩
    ·exact h
    ·have hvn : m.verdict = none := hA.verdict
     rw [hv] at h
     exact absurd (h.trans hvn) (by simp)
   exact ⟨1,sim_last (m0 := { m with at' := m.at' + 1 }) hA hR hat hi h28 (fun _ => rfl) he hv⟩
  ·rcases h4 with ⟨v',hv'⟩ | ⟨hA',_⟩
   ·rw [hv] at hv'; cases hv'
   ·obtain ⟨n,f',h5,h6,h7⟩ := sim_step hs ht hl hA hR hat hi he hA'
    obtain ⟨n2,h8⟩ := sim_runs hs ht hl k m' f' v hA' h6 h7 hr
    exact ⟨n + n2,h5.runs h8⟩
theorem sim_of (hs : Shaped l) (ht : Typed l ps) (pk : List B) (hl : pk.length ≤ 65535) {k : Nat} {v : U} (hr : Runs l pk k (Mc.start pk.length) v) : ∃ n,FRuns (lmake l ps) pk n (Fm.start pk.length) v := by
 obtain ⟨h1,h2⟩ := ht.first _ rfl
 exact sim_runs hs ht hl k _ _ v ⟨rfl,List.length_pos_iff.2 hs.ne,h1,h2.holds (ht.wf 0 h1) hl (start_holds _ hl)⟩ (start_rel _) rfl hr
end
end Go.Proofs.YtfeipbgnjainlaaGreat.T
/- shape.Check: a model; and that what it lets pass is well formed. No program in sight. -/
namespace Go.Proofs.YtfeipbgnjainlaaGreat.T

def Ins.zero : Ins := ⟨0,false,0,0,false,0,0,0⟩
def insAt (l : List Ins) (j : Nat) : Ins := l.getD j Ins.zero
/-- the first place, of so many from one on, at which something is wrong -/
def firstOf (f : Nat → Int) : Nat → Nat → Option (Int × Nat)
 | 0,_ => none
 | n + 1,j => if f j ≠ 0 then some (f j,j) else firstOf f n (j + 1)
theorem firstOf_none {f : Nat → Int} : ∀ {n j : Nat},firstOf f n j = none → ∀ k,j ≤ k → k < j + n → f k = 0
 | 0,_,_,k,h1,h2 => by omega
 | n + 1,j,h,k,h1,h2 => by
  unfold firstOf at h
  split at h
  ·cases h
  ·rename_i h0
   by_cases e : k = j
   ·subst e; exact Decidable.not_not.1 h0
   ·exact firstOf_none h k (by omega) (by omega)
theorem firstOf_some {f : Nat → Int} : ∀ {n j : Nat} {r : Int × Nat},firstOf f n j = some r → r.1 ≠ 0 ∧ j ≤ r.2 ∧ r.2 < j + n
 | 0,_,_,h => by cases h
 | n + 1,j,r,h => by
  unfold firstOf at h
  split at h
  ·rename_i h0
   cases h
   exact ⟨h0,Nat.le_refl _,by omega⟩
  ·obtain ⟨h1,h2,h3⟩ := firstOf_some h
   exact ⟨h1,by omega,by omega⟩
def q1 (l : List Ins) (j : Nat) : Int := if (insAt l j).right then 0 else 4
def q2 (l : List Ins) (j : Nat) : Int :=
 if (insAt l j).jumps = false then 0 else if (insAt l j).off < 0 then 100 else if (l.length : Int) ≤ j + 1 + (insAt l j).off then 101 else 0
def q3 (l : List Ins) (j : Nat) : Int := if j + 1 = l.length ∧ (insAt l j).op ≠ 28 ∧ (insAt l j).op ≠ 16 then 102 else 0
/-- what may come behind: of a filter whose jumps go forward -/
def nexts (l : List Ins) (j : Nat) : List Nat :=
 if (insAt l j).op = 28 then [] else if (insAt l j).op = 16 then [j + 1 + (insAt l j).off.toNat] else if (insAt l j).jumps = false ∨ (insAt l j).off = 0 then [j + 1] else [j + 1,j + 1 + (insAt l j).off.toNat]
def markTo (c : List Bool) (j to : Nat) : List Bool := c.set to (c.getD to false || c.getD j false)
def comeStep (l : List Ins) (c : List Bool) (j : Nat) : List Bool := (nexts l j).foldl (fun c t => markTo c j t) c
/-- so many places gone through -/
def comes (l : List Ins) : Nat → List Bool
 | 0 => (List.replicate l.length false).set 0 true
 | n + 1 => comeStep l (comes l n) n
def q4 (l : List Ins) (j : Nat) : Int := if (comes l (j + 1)).getD j false = false then 103 else 0
def orElse' (a b : Option (Int × Nat)) : Option (Int × Nat) := match a with
 | some r => some r
 | none => b
def shapeO (l : List Ins) : Option (Int × Nat) := orElse' (firstOf (q1 l) l.length 0) (orElse' (firstOf (q2 l) l.length 0) (orElse' (firstOf (q3 l) l.length 0) (firstOf (q4 l) l.length 0)))
def shapeF (l : List Ins) : Int × Nat := if l.length = 0 then (6,0) else if 4096 < l.length then (3,0) else match shapeO l with
 | some r => r
 | none => (0,0)
theorem insAt_get {l : List Ins} {j : Nat} {i : Ins} (h : l[j]? = some i) : insAt l j = i := by
 unfold insAt
 rw [List.getD_eq_getElem?_getD,h]
 rfl
theorem shapeO_none {l : List Ins} (h : shapeO l = none) : (∀ j,j < l.length → q1 l j = 0) ∧ (∀ j,j < l.length → q2 l j = 0) ∧ (∀ j,j < l.length → q3 l j = 0) ∧ (∀ j,j < l.length → q4 l j = 0) := by
 unfold shapeO at h
 cases h1 : firstOf (q1 l) l.length 0 with
 | some r => rw [h1] at h; cases h
 | none =>
  rw [h1] at h
  cases h2 : firstOf (q2 l) l.length 0 with
  | some r => rw [h2] at h; cases h
  | none =>
   rw [h2] at h
   cases h3 : firstOf (q3 l) l.length 0 with
   | some r => rw [h3] at h; cases h
   | none =>
    rw [h3] at h
    exact ⟨fun j hj => firstOf_none h1 j (Nat.zero_le _) (by omega),fun j hj => firstOf_none h2 j (Nat.zero_le _) (by omega),fun j hj => firstOf_none h3 j (Nat.zero_le _) (by omega),fun j hj => firstOf_none h j (Nat.zero_le _) (by omega)⟩
theorem shapeF_err {l : List Ins} (h : (shapeF l).1 = 0) : shapeF l = (0,0) ∧ l.length ≠ 0 ∧ l.length ≤ 4096 ∧ shapeO l = none := by
 unfold shapeF at h ⊢
 split at h
 ·cases h
 ·split at h
  ·cases h
  ·rename_i h1 h2
   cases ho : shapeO l with
   | none => exact ⟨by rw [if_neg h1,if_neg h2],h1,by omega,rfl⟩
   | some r =>
    rw [ho] at h
    exfalso
    unfold shapeO orElse' at ho
    repeat' split at ho
    all_goals first
     | (rename_i e; cases ho; exact (firstOf_some e).1 h)
     | exact (firstOf_some ho).1 h
theorem shaped_of {l : List Ins} (h : (shapeF l).1 = 0) : Shaped l := by
 obtain ⟨_,hn,_,ho⟩ := shapeF_err h
 obtain ⟨h1,h2,h3,_⟩ := shapeO_none ho
 refine ⟨fun e => hn (by rw [e]; rfl),fun i hi => ?_,fun j i hi hj => ?_,fun j i hi ha hb => ?_⟩
 ·obtain ⟨j,hj,e⟩ := List.getElem_of_mem hi
  have := h1 j hj
  unfold q1 at this
  rw [insAt_get (List.getElem?_eq_some_iff.2 ⟨hj,e⟩)] at this
  split at this
  ·assumption
  ·cases this
 ·have hl := (List.getElem?_eq_some_iff.1 hi).1
  have := h2 j hl
  unfold q2 at this
  rw [insAt_get hi,hj] at this
  simp only [Bool.true_eq_false,if_false] at this
  split at this
  ·cases this
  ·split at this
   ·cases this
   ·exact ⟨by omega,by omega⟩
 ·have hl := (List.getElem?_eq_some_iff.1 hi).1
  have := h3 j hl
  unfold q3 at this
  rw [insAt_get hi] at this
  split at this
  ·cases this
  ·rename_i hc
   rcases Nat.lt_or_ge (j + 1) l.length with h | h
   ·exact h
   ·exact absurd ⟨by omega,ha,hb⟩ hc
/-- what check.Places tells: the error and where; and the places -/
def placesF (l : List Ins) : (Int × Nat) × List Pl := if (shapeF l).1 ≠ 0 then (shapeF l,[]) else if (placesOf l).1.1 ≠ 0 then ((placesOf l).1,[]) else ((0,0),(placesOf l).2)
theorem placesF_ok {l : List Ins} (h : (placesF l).1.1 = 0) : (shapeF l).1 = 0 ∧ (placesOf l).1.1 = 0 ∧ placesF l = ((0,0),(placesOf l).2) := by
 unfold placesF at h ⊢
 split at h
 ·rename_i h1; exact absurd h h1
 ·split at h
  ·rename_i h1; exact absurd h h1
  ·rename_i h1 h2
   rw [if_neg h1,if_neg h2]
   exact ⟨Decidable.not_not.1 h1,Decidable.not_not.1 h2,rfl⟩
end Go.Proofs.YtfeipbgnjainlaaGreat.T
/- A filter with a Mov of a number to a register that it never names in front is let in, and tells the same. No program in sight. -/
namespace Go.Proofs.YtfeipbgnjainlaaGreat.T

def K8 (n : Int) : Kn := ⟨1,Sp.of (wide n)⟩
def movI (n : Int) : Ins := ⟨12,false,8,0,true,0,n,0⟩
/-- a place, and what register 8 is -/
def Pl.up (K : Kn) (p : Pl) : Pl := p.put 8 K
section
variable {K : Kn} {p q : Pl}
theorem up_reg (r : Int) (h0 : 0 ≤ r) (h8 : r ≠ 8) : (p.up K).reg r = p.reg r := by
 show (p.regs.set 8 K).getD r.toNat Kn.none = p.regs.getD r.toNat Kn.none
 rw [getD_set,if_neg (by omega)]
theorem up_put (r : Int) (h0 : 0 ≤ r) (h8 : r ≠ 8) (k : Kn) : (p.up K).put r k = (p.put r k).up K := by
 show ({ p with regs := (p.regs.set 8 K).set r.toNat k } : Pl) = { p with regs := (p.regs.set r.toNat k).set 8 K }
 rw [List.set_comm _ _ (by omega : (8 : Nat) ≠ r.toNat)]
theorem up_asN (k : Kn) : asN (p.up K) k = asN p k := rfl
theorem up_second (i : Ins) (h0 : 0 ≤ i.src) (h8 : i.src ≠ 8) : second i (p.up K) = second i p := by
 unfold second
 rw [up_reg i.src h0 h8]
theorem up_with (r : Int) (h0 : 0 ≤ r) (h8 : r ≠ 8) (s : Sp) : (p.up K).with r s = (p.with r s).up K := by
 unfold Pl.with
 rw [up_reg r h0 h8,up_put r h0 h8]
 split <;> rfl
theorem up_ended (i : Ins) (hd : 0 ≤ i.dst ∧ i.dst ≠ 8) (hs : 0 ≤ i.src ∧ i.src ≠ 8) (yes : Bool) (m n : Sp) : ended i (p.up K) yes m n = (ended i p yes m n).map (Pl.up K) := by
 unfold ended
 cases sif i.op i.narrow yes m n with
 | none => rfl
 | some xy =>
  simp only [Option.map]
  congr 1
  split
  ·exact up_with _ hd.1 hd.2 _
  ·split
   ·rw [up_with _ hd.1 hd.2,up_with _ hs.1 hs.2]
   ·rfl
def upR (K : Kn) (r : Int × Option Pl × Option Pl) : Int × Option Pl × Option Pl := (r.1,r.2.1.map (Pl.up K),r.2.2.map (Pl.up K))
theorem up_cstep (i : Ins) (hd : 0 ≤ i.dst ∧ i.dst ≠ 8) (hs : 0 ≤ i.src ∧ i.src ≠ 8) : cstep i (p.up K) = upR K (cstep i p) := by
 have e1 : loadErr i (p.up K) = loadErr i p := by unfold loadErr; rw [up_reg _ hs.1 hs.2]; rfl
 have e2 : putErr i (p.up K) = putErr i p := by unfold putErr; rw [up_reg _ hd.1 hd.2,up_second _ hs.1 hs.2]; rfl
 have e3 : kof i (p.up K) = kof i p := by unfold kof; rw [up_reg _ hd.1 hd.2,up_second _ hs.1 hs.2]
 have e4 : (p.up K).wrote i = (p.wrote i).up K := by unfold Pl.wrote; rw [up_reg _ hd.1 hd.2]; rfl
 unfold cstep
 rw [e1,e2,e3,e4,up_reg _ hd.1 hd.2,up_second _ hs.1 hs.2,up_reg 0 (by decide) (by decide),up_put _ hd.1 hd.2,up_put _ hd.1 hd.2,up_ended i hd hs,up_ended i hd hs]
 simp only [up_asN,apply_ite (upR K)]
 rfl
theorem zipWith_set' {α β γ : Type _} (f : α → β → γ) : ∀ (l : List α) (k : List β) (j : Nat) (a : α) (b : β),List.zipWith f (l.set j a) (k.set j b) = (List.zipWith f l k).set j (f a b)
 | [],k,j,a,b => by simp
 | _ :: _,[],j,a,b => by simp
 | x :: l,y :: k,0,a,b => by simp
 | x :: l,y :: k,j + 1,a,b => by simp [zipWith_set' f l k j a b]
theorem join_self (h : K.right = true) : K.join K = K := by
 unfold Kn.join
 rw [h]
 simp
theorem up_tell (hK : K.right = true) (q p : Pl) : (q.up K).tell (p.up K) = (q.tell p).up K := by
 unfold Pl.tell
 show (if q.live then _ else _) = _
 cases q.live with
 | false => rfl
 | true =>
  simp only [if_true]
  show (⟨true,List.zipWith Kn.join (q.regs.set 8 K) (p.regs.set 8 K),_,_⟩ : Pl) = ⟨true,(List.zipWith Kn.join q.regs p.regs).set 8 K,_,_⟩
  rw [zipWith_set',join_self hK]
  rfl
theorem dead_up : Pl.dead.up K = Pl.dead := rfl
theorem getD_map_up (ps : List Pl) (j : Nat) : (ps.map (Pl.up K)).getD j Pl.dead = (ps.getD j Pl.dead).up K := by
 rw [List.getD_eq_getElem?_getD,List.getD_eq_getElem?_getD,List.getElem?_map]
 cases ps[j]? with
 | none => rfl
 | some x => rfl
theorem told_up (hK : K.right = true) (s : Pl) (ps : List Pl) (t : Nat) (o : Option Pl) : told (s :: ps.map (Pl.up K)) (t + 1) (o.map (Pl.up K)) = s :: (told ps t o).map (Pl.up K) := by
 cases o with
 | none => rfl
 | some p =>
  show (s :: ps.map (Pl.up K)).set (t + 1) (((s :: ps.map (Pl.up K)).getD (t + 1) Pl.dead).tell (p.up K)) = s :: (ps.set t ((ps.getD t Pl.dead).tell p)).map (Pl.up K)
  rw [List.getD_cons_succ,getD_map_up,up_tell hK,List.set_cons_succ,List.map_set]
end
section
variable {l : List Ins} {a : Ins} {K : Kn}
/-- the register is never named -/
def Never (l : List Ins) : Prop := ∀ i ∈ l,(0 ≤ i.dst ∧ i.dst ≠ 8) ∧ (0 ≤ i.src ∧ i.src ≠ 8)
theorem pstep_up (hN : Never l) (hK : K.right = true) (s : Pl) (j : Nat) (ps : List Pl) : pstep (a :: l) (j + 1) (s :: ps.map (Pl.up K)) = ((pstep l j ps).1,s :: (pstep l j ps).2.map (Pl.up K)) := by
 unfold pstep
 rw [List.getElem?_cons_succ]
 cases hi : l[j]? with
 | none => rfl
 | some i =>
  obtain ⟨hd,hs⟩ := hN i (List.mem_of_getElem? hi)
  simp only
  rw [List.getD_cons_succ,getD_map_up]
  rw [show ((ps.getD j Pl.dead).up K).live = (ps.getD j Pl.dead).live from rfl]
  split
  ·have e1 : (cstep i ((ps.getD j Pl.dead).up K)).1 = (cstep i (ps.getD j Pl.dead)).1 := by rw [up_cstep i hd hs]; rfl
   have e2 : (cstep i ((ps.getD j Pl.dead).up K)).2.1 = (cstep i (ps.getD j Pl.dead)).2.1.map (Pl.up K) := by rw [up_cstep i hd hs]; rfl
   have e3 : (cstep i ((ps.getD j Pl.dead).up K)).2.2 = (cstep i (ps.getD j Pl.dead)).2.2.map (Pl.up K) := by rw [up_cstep i hd hs]; rfl
   rw [e1,e2,e3]
   by_cases hz : (cstep i (ps.getD j Pl.dead)).1 ≠ 0
   ·rw [if_pos hz,if_pos hz]
   ·rw [if_neg hz,if_neg hz,told_up hK,show j + 1 + 1 + i.off.toNat = (j + 1 + i.off.toNat) + 1 by omega,told_up hK]
  ·rfl
theorem psteps_up (hN : Never l) (hK : K.right = true) (s : Pl) : ∀ (n j : Nat) (ps : List Pl),(psteps l n j ps).1.1 = 0 → psteps (a :: l) n (j + 1) (s :: ps.map (Pl.up K)) = ((0,0),s :: (psteps l n j ps).2.map (Pl.up K))
 | 0,_,_,_ => rfl
 | n + 1,j,ps,h => by
  unfold psteps at h ⊢
  rw [pstep_up hN hK]
  simp only at h ⊢
  by_cases h0 : (pstep l j ps).1 = 0
  ·rw [if_neg (fun e => e h0)] at h ⊢
   rw [psteps_up hN hK s n (j + 1) _ h]
   rw [if_neg (fun e => e h0)]
  ·rw [if_pos h0] at h
   exact absurd h h0
theorem movI_right (n : Int) (h : -2147483648 ≤ n ∧ n ≤ 2147483647) : (movI n).right = true := by
 have f0 : fl 12 0 = true := by decide
 have f1 : fl 12 1 = false := by decide
 have f2 : fl 12 2 = false := by decide
 have f3 : fl 12 3 = true := by decide
 have f4 : fl 12 4 = false := by decide
 have f5 : fl 12 5 = false := by decide
 have f6 : fl 12 6 = true := by decide
 have h1 : (movI n).bare = movI n := by simp [Ins.bare,movI,f0,f1,f2,f3,f4,f5,f6]
 unfold Ins.right
 rw [h1]
 have h2 : wi (movI n).imm (-2147483648) 2147483647 = true := by
  unfold wi
  rw [Bool.and_eq_true,decide_eq_true_eq,decide_eq_true_eq]
  exact h
 rw [h2]
 simp only [decide_true,Bool.and_true]
 show (decide (fields 12 ≠ 0) && wi 8 0 (if fl 12 0 = true then 9 else 10) && wi 0 0 10 && wi 0 (-32768) 32767 && (!fl 12 5 || sized 0)) = true
 decide
theorem K8_right (n : Int) : (K8 n).right = true := by
 rw [Kn.right_12 (.inl rfl),Sp.right_iff]
 exact Nat.le_refl _
theorem movI_cstep (n : Int) : cstep (movI n) Pl.start = (0,some (Pl.start.up (K8 n)),none) := by
 have hr : (⟨1,Sp.of (wide n)⟩ : Kn).right = true := K8_right n
 have hk : kof (movI n) Pl.start = (K8 n,0) := by
  show kdo 12 false (Pl.start.reg 8) ⟨1,Sp.of (wide n)⟩ = _
  have h8 : Pl.start.reg 8 = Kn.none := rfl
  rw [h8]
  unfold kdo
  rw [if_neg (by rw [hr,Kn.none_right]; simp),if_neg (by simp),if_pos ⟨rfl,rfl⟩]
  rfl
 unfold cstep
 rw [hk]
 rfl
theorem places_up (hN : Never l) (hne : l ≠ []) (n : Int) (h : (placesOf l).1.1 = 0) : placesOf (movI n :: l) = ((0,0),Pl.start :: (placesOf l).2.map (Pl.up (K8 n))) := by
 have hp : pstep (movI n :: l) 0 (places0 (movI n :: l)) = (0,Pl.start :: (places0 l).map (Pl.up (K8 n))) := by
  unfold pstep
  have e : places0 (movI n :: l) = Pl.start :: List.replicate l.length Pl.dead := by
   unfold places0
   rw [List.length_cons,List.replicate_succ,List.set_cons_zero]
  rw [e]
  simp only [List.getElem?_cons_zero,List.getD_cons_zero]
  rw [if_pos (show Pl.start.live = true from rfl),movI_cstep]
  simp only [ne_eq,not_true_eq_false,if_false]
  congr 1
  cases l with
  | nil => exact absurd rfl hne
  | cons b l =>
   unfold places0
   rw [List.length_cons,List.replicate_succ]
   simp only [told,List.set_cons_zero,List.map_cons,List.map_replicate,dead_up]
   rfl
 unfold placesOf at h ⊢
 rw [List.length_cons]
 rw [psteps,hp]
 simp only [ne_eq,not_true_eq_false,if_false]
 exact psteps_up hN (K8_right n) _ _ _ _ h
theorem insAt_succ (j : Nat) : insAt (a :: l) (j + 1) = insAt l j := by
 unfold insAt
 rw [List.getD_cons_succ]
theorem markTo_cons (b : Bool) (c : List Bool) (j t : Nat) : markTo (b :: c) (j + 1) (t + 1) = b :: markTo c j t := by
 unfold markTo
 rw [List.getD_cons_succ,List.getD_cons_succ,List.set_cons_succ]
theorem nexts_succ (j : Nat) : nexts (a :: l) (j + 1) = (nexts l j).map (· + 1) := by
 unfold nexts
 rw [insAt_succ]
 have e : j + 1 + 1 + (insAt l j).off.toNat = j + 1 + (insAt l j).off.toNat + 1 := by omega
 rw [e]
 repeat' split
 all_goals rfl
theorem comeStep_cons (b : Bool) (c : List Bool) (j : Nat) : comeStep (a :: l) (b :: c) (j + 1) = b :: comeStep l c j := by
 unfold comeStep
 rw [nexts_succ]
 generalize nexts l j = ts
 induction ts generalizing c with
 | nil => rfl
 | cons t ts ih => rw [List.map_cons,List.foldl_cons,List.foldl_cons,markTo_cons,ih]
theorem comes_succ (n : Int) (hne : l ≠ []) : ∀ j,comes (movI n :: l) (j + 1) = true :: comes l j
 | 0 => by
  cases l with
  | nil => exact absurd rfl hne
  | cons b l => rfl
 | j + 1 => by
  show comeStep (movI n :: l) (comes (movI n :: l) (j + 1)) (j + 1) = true :: comeStep l (comes l j) j
  rw [comes_succ n hne j,comeStep_cons]
theorem firstOf_of {f : Nat → Int} : ∀ {n j : Nat},(∀ k,j ≤ k → k < j + n → f k = 0) → firstOf f n j = none
 | 0,_,_ => rfl
 | n + 1,j,h => by
  unfold firstOf
  rw [if_neg (fun e => e (h j (Nat.le_refl _) (by omega)))]
  exact firstOf_of fun k h1 h2 => h k (by omega) (by omega)
theorem shape_up (n : Int) (hn : -2147483648 ≤ n ∧ n ≤ 2147483647) (hl : l.length < 4096) (h : (shapeF l).1 = 0) : shapeF (movI n :: l) = (0,0) := by
 obtain ⟨_,h0,_,ho⟩ := shapeF_err h
 obtain ⟨h1,h2,h3,h4⟩ := shapeO_none ho
 have hne : l ≠ [] := fun e => h0 (by rw [e]; rfl)
 have g1 : firstOf (q1 (movI n :: l)) (movI n :: l).length 0 = none := firstOf_of fun k _ hk => by
  cases k with
  | zero =>
   show (if (movI n).right then (0 : Int) else 4) = 0
   rw [if_pos (movI_right n hn)]
  | succ k =>
   have := h1 k (by rw [List.length_cons] at hk; omega)
   unfold q1 at this ⊢
   rw [insAt_succ]; exact this
 have g2 : firstOf (q2 (movI n :: l)) (movI n :: l).length 0 = none := firstOf_of fun k _ hk => by
  cases k with
  | zero => rfl
  | succ k =>
   have := h2 k (by rw [List.length_cons] at hk; omega)
   unfold q2 at this ⊢
   rw [insAt_succ,List.length_cons]
   repeat' split at this
   all_goals first | (cases this; done) | skip
   ·rename_i e; rw [if_pos e]
   ·rename_i e1 e2 e3; rw [if_neg e1,if_neg e2,if_neg (by omega)]
 have g3 : firstOf (q3 (movI n :: l)) (movI n :: l).length 0 = none := firstOf_of fun k _ hk => by
  cases k with
  | zero =>
   unfold q3
   rw [if_neg]
   rw [List.length_cons]
   intro e
   omega
  | succ k =>
   have := h3 k (by rw [List.length_cons] at hk; omega)
   unfold q3 at this ⊢
   rw [insAt_succ,List.length_cons]
   split at this
   ·cases this
   ·rename_i e; rw [if_neg (fun x => e ⟨by omega,x.2⟩)]
 have g4 : firstOf (q4 (movI n :: l)) (movI n :: l).length 0 = none := firstOf_of fun k _ hk => by
  unfold q4
  rw [comes_succ n hne]
  cases k with
  | zero => rfl
  | succ k =>
   have := h4 k (by rw [List.length_cons] at hk; omega)
   unfold q4 at this
   rw [List.getD_cons_succ]
   exact this
 have go : shapeO (movI n :: l) = none := by unfold shapeO; rw [g1,g2,g3,g4]; rfl
 unfold shapeF
 rw [if_neg (by rw [List.length_cons]; omega),if_neg (by rw [List.length_cons]; omega),go]
theorem placesF_up (hN : Never l) (n : Int) (hn : -2147483648 ≤ n ∧ n ≤ 2147483647) (hl : l.length < 4096) (h : (placesF l).1.1 = 0) : (placesF (movI n :: l)).1.1 = 0 := by
 obtain ⟨h1,h2,_⟩ := placesF_ok h
 have hne : l ≠ [] := (shaped_of h1).ne
 unfold placesF
 rw [shape_up n hn hl h1,places_up hN hne n h2]
 rfl

/-! ### the machine -/
def Mc.up (v : Int × U) (m : Mc) : Mc := { m with regs := m.regs.set 8 v,at' := m.at' + 1 }
variable {v : Int × U} {m : Mc}
theorem mup_reg (r : Int) (h0 : 0 ≤ r) (h8 : r ≠ 8) : (m.up v).reg r = m.reg r := by
 show (m.regs.set 8 v).getD r.toNat (0,0) = m.regs.getD r.toNat (0,0)
 rw [getD_set,if_neg (by omega)]
theorem mup_put (r : Int) (h0 : 0 ≤ r) (h8 : r ≠ 8) (x : Int × U) : (m.up v).put r x = (m.put r x).up v := by
 show ({ m with regs := (m.regs.set 8 v).set r.toNat x,at' := m.at' + 1 } : Mc) = { m with regs := (m.regs.set r.toNat x).set 8 v,at' := m.at' + 1 }
 rw [List.set_comm _ _ (by omega : (8 : Nat) ≠ r.toNat)]
def upM (v : Int × U) (r : Int × Mc) : Int × Mc := (r.1,r.2.up v)
theorem upM_mk (v : Int × U) (a : Int) (m : Mc) : upM v (a,m) = (a,m.up v) := rfl
theorem mup_estep (pk : List B) (i : Ins) (hd : 0 ≤ i.dst ∧ i.dst ≠ 8) (hs : 0 ≤ i.src ∧ i.src ≠ 8) : estep pk i (m.up v) = upM v (estep pk i m) := by
 have e1 : esecond i (m.up v) = esecond i m := by unfold esecond; rw [mup_reg _ hs.1 hs.2]
 have e2 : unset (m.up v) i.src = unset m i.src := by unfold unset; rw [mup_reg _ hs.1 hs.2]
 have e3 : unset (m.up v) i.dst = unset m i.dst := by unfold unset; rw [mup_reg _ hd.1 hd.2]
 have e4 : secErr i (m.up v) = secErr i m := by unfold secErr; rw [e2]
 have e5 : unset (m.up v) 0 = unset m 0 := by unfold unset; rw [mup_reg 0 (by decide) (by decide)]
 have e6 : ({ (m.up v) with at' := (m.up v).at' + i.off.toNat } : Mc) = Mc.up v { m with at' := m.at' + i.off.toNat } := by
  show ({ m with regs := m.regs.set 8 v,at' := m.at' + 1 + i.off.toNat } : Mc) = { m with regs := m.regs.set 8 v,at' := m.at' + i.off.toNat + 1 }
  rw [show m.at' + 1 + i.off.toNat = m.at' + i.off.toNat + 1 by omega]
 unfold estep
 simp only [e1,e2,e3,e4,e5,e6,mup_reg _ hs.1 hs.2,mup_reg _ hd.1 hd.2,mup_reg 0 (by decide) (by decide),mup_put _ hd.1 hd.2,apply_ite (upM v),upM_mk,apply_ite (Mc.up v)]
 rfl
theorem runs_up {pk : List B} (hN : Never l) : ∀ (k : Nat) (m : Mc) (x : U),Runs l pk k m x → Runs (a :: l) pk k (m.up v) x
 | 0,_,_,h => absurd h (by simp [Runs])
 | k + 1,m,x,h => by
  obtain ⟨i,m',h1,h2,h3⟩ := h
  obtain ⟨hd,hs⟩ := hN i (List.mem_of_getElem? h1)
  refine ⟨i,m'.up v,by rw [show (m.up v).at' = m.at' + 1 from rfl,List.getElem?_cons_succ]; exact h1,?_,?_⟩
  ·have := mup_estep (v := v) (m := { m with at' := m.at' + 1 }) pk i hd hs
   rw [h2] at this
   exact this
  ·rcases h3 with ⟨e1,e2⟩ | ⟨e1,e2⟩
   ·exact .inl ⟨e1,e2⟩
   ·exact .inr ⟨e1,runs_up hN k m' x e2⟩
theorem runs_weak {pk : List B} (hN : Never l) (n : Int) {k : Nat} {x : U} (hx : 0 < k) (h : Runs l pk k (Mc.start pk.length) x) : Runs (movI n :: l) pk (k + 1) (Mc.start pk.length) x := by
 refine ⟨movI n,(Mc.start pk.length).up (1,wide n),rfl,?_,.inr ⟨rfl,runs_up hN k _ x h⟩⟩
 rfl
end
end Go.Proofs.YtfeipbgnjainlaaGreat.T
/- What code is made of a filter that may be let in is right. No program in sight. -/
namespace Go.Proofs.YtfeipbgnjainlaaGreat.T

def reg16 (r : Int) : Prop := 0 ≤ r ∧ r ≤ 15
/-- an instruction is right, where it goes on as P says -/
def Fl.okP (P : Nat → Prop) (f : Fl) : Prop :=
 (∃ d n,f = { Fl.zero with do' := 1,d := d,n := n } ∧ reg16 d) ∨
 (∃ d a,f = { Fl.zero with do' := 2,d := d,a := a } ∧ reg16 d ∧ reg16 a) ∨
 (∃ w nr d a b,f = { Fl.zero with do' := 3,what := w,narrow := nr,d := d,a := a,b := b } ∧ 1 ≤ w ∧ w ≤ 13 ∧ reg16 d ∧ reg16 a ∧ reg16 b ∧ (w = 13 → b = 0)) ∨
 (∃ k d a n s,(k = 4 ∨ k = 5) ∧ f = { Fl.zero with do' := k,d := d,a := a,n := n,size := s } ∧ reg16 d ∧ reg16 a ∧ sized s = true) ∨
 (∃ a b n s,f = { Fl.zero with do' := 6,a := a,b := b,n := n,size := s } ∧ reg16 a ∧ reg16 b ∧ sized s = true) ∨
 (∃ to : Nat,f = { Fl.zero with do' := 7,to := (to : Int) } ∧ P to) ∨
 (∃ w nr a b,∃ to : Nat,f = { Fl.zero with do' := 8,what := w,narrow := nr,a := a,b := b,to := (to : Int) } ∧ 17 ≤ w ∧ w ≤ 27 ∧ reg16 a ∧ reg16 b ∧ P to) ∨
 f = { Fl.zero with do' := 9 }
section
variable {P Q : Nat → Prop}
theorem ok_set {d : Int} (n : U) (h : reg16 d) : Fl.okP P { Fl.zero with do' := 1,d := d,n := n } := .inl ⟨d,n,rfl,h⟩
theorem ok_move {d a : Int} (h : reg16 d) (h2 : reg16 a) : Fl.okP P { Fl.zero with do' := 2,d := d,a := a } := .inr (.inl ⟨d,a,rfl,h,h2⟩)
theorem ok_alu {w d a b : Int} (nr : Bool) (h0 : 1 ≤ w) (h1 : w ≤ 13) (h : reg16 d) (h2 : reg16 a) (h3 : reg16 b) (h4 : w = 13 → b = 0) : Fl.okP P { Fl.zero with do' := 3,what := w,narrow := nr,d := d,a := a,b := b } := .inr (.inr (.inl ⟨w,nr,d,a,b,rfl,h0,h1,h,h2,h3,h4⟩))
theorem ok_load {k d a s : Int} (n : U) (hk : k = 4 ∨ k = 5) (h : reg16 d) (h2 : reg16 a) (hs : sized s = true) : Fl.okP P { Fl.zero with do' := k,d := d,a := a,n := n,size := s } := .inr (.inr (.inr (.inl ⟨k,d,a,n,s,hk,rfl,h,h2,hs⟩)))
theorem ok_write {a b s : Int} (n : U) (h : reg16 a) (h2 : reg16 b) (hs : sized s = true) : Fl.okP P { Fl.zero with do' := 6,a := a,b := b,n := n,size := s } := .inr (.inr (.inr (.inr (.inl ⟨a,b,n,s,rfl,h,h2,hs⟩))))
theorem ok_goto {to : Nat} (h : P to) : Fl.okP P { Fl.zero with do' := 7,to := (to : Int) } := .inr (.inr (.inr (.inr (.inr (.inl ⟨to,rfl,h⟩)))))
theorem ok_if {w a b : Int} (nr : Bool) {to : Nat} (h0 : 17 ≤ w) (h1 : w ≤ 27) (h2 : reg16 a) (h3 : reg16 b) (h : P to) : Fl.okP P { Fl.zero with do' := 8,what := w,narrow := nr,a := a,b := b,to := (to : Int) } := .inr (.inr (.inr (.inr (.inr (.inr (.inl ⟨w,nr,a,b,to,rfl,h0,h1,h2,h3,h⟩))))))
theorem ok_end : Fl.okP P { Fl.zero with do' := 9 } := .inr (.inr (.inr (.inr (.inr (.inr (.inr rfl))))))
end
section
variable {l : List Ins} {ps : List Pl}
/-- where code goes on: as places -/
def Later (l : List Ins) (ps : List Pl) (j to : Nat) : Prop := j < to ∧ to < l.length ∧ (plAt ps to).live = true
theorem lsec_ok {P : Nat → Prop} (i : Ins) : ∀ g ∈ lsec i,g.okP P := by
 unfold lsec
 split
 ·intro g hg
  rw [List.mem_singleton] at hg
  subst hg
  exact ok_set _ ⟨by decide,by decide⟩
 ·intro g hg; cases hg
theorem lreg_16 {i : Ins} (hs : 0 ≤ i.src ∧ i.src ≤ 10) : reg16 (lreg i) := by
 unfold lreg
 split
 ·exact ⟨by decide,by decide⟩
 ·exact ⟨hs.1,by omega⟩
theorem goes_ok {j to : Nat} (h : Later l ps j to) : ∀ g ∈ lgoes j (to : Int),g.okP (Later l ps j) := by
 unfold lgoes
 split
 ·intro g hg
  rw [List.mem_singleton] at hg
  subst hg
  exact ok_goto h
 ·intro g hg; cases hg
theorem lone_ok (hs : Shaped l) (ht : Typed l ps) {j : Nat} {i : Ins} (hi : l[j]? = some i) (hlv : (plAt ps j).live = true) : ∀ g ∈ lone ps j i,g.okP (Later l ps j) := by
 have hjl := (List.getElem?_eq_some_iff.1 hi).1
 have hr : i.right = true := hs.right i (List.mem_of_getElem? hi)
 obtain ⟨hd,hsr,hof,him,hsz,hop,_⟩ := right_facts hr
 have d16 : reg16 i.dst := ⟨hd.1,by omega⟩
 have s16 : reg16 i.src := ⟨hsr.1,by omega⟩
 have l16 := lreg_16 hsr
 intro g hg
 unfold lone at hg
 split at hg
 ·rename_i h14
  rw [List.mem_singleton] at hg
  subst hg
  refine ok_load _ ?_ d16 s16 (hsz (.inl h14))
  split
  ·exact .inr rfl
  ·exact .inl rfl
 ·split at hg
  ·rename_i h15
   rcases List.mem_append.1 hg with hg | hg
   ·exact lsec_ok i g hg
   ·rw [List.mem_singleton] at hg
    subst hg
    exact ok_write _ d16 l16 (hsz (.inr h15))
  ·split at hg
   ·rename_i h16
    have hjp : i.jumps = true := by unfold Ins.jumps; rw [decide_eq_true_eq]; omega
    obtain ⟨hf0,hf⟩ := hs.fwd j i hi hjp
    have hlive : (plAt ps (j + 1 + i.off.toNat)).live = true := by
     obtain ⟨ah,af,hc,_,k2⟩ := ht.went j hjl i hi hlv
     unfold cstep at hc
     rw [if_neg (by omega),if_neg (by omega),if_pos h16] at hc
     simp only [Prod.mk.injEq] at hc
     exact (k2 _ hc.2.2.symm).1
    rw [show ((j : Int) + 1 + i.off) = ((j + 1 + i.off.toNat : Nat) : Int) by omega] at hg
    exact goes_ok ⟨by omega,hf,hlive⟩ g hg
   ·split at hg
    ·rw [List.mem_singleton] at hg
     subst hg
     exact ok_end
    ·split at hg
     ·rename_i h14 h15 h16 h28 hjp
      obtain ⟨hf0,hf⟩ := hs.fwd j i hi hjp
      unfold lbranch at hg
      split at hg
      ·cases hg
      ·rename_i hnl
       have hlive : (plAt ps (j + 1 + i.off.toNat)).live = true := by
        cases e : (plAt ps (j + 1 + i.off.toNat)).live with
        | true => rfl
        | false => exact absurd (.inr e) hnl
       rw [show ((j : Int) + 1 + i.off) = ((j + 1 + i.off.toNat : Nat) : Int) by omega] at hg
       split at hg
       ·exact goes_ok ⟨by omega,hf,hlive⟩ g hg
       ·rcases List.mem_append.1 hg with hg | hg
        ·exact lsec_ok i g hg
        ·rw [List.mem_singleton] at hg
         subst hg
         have hj2 : 16 ≤ i.op ∧ i.op ≤ 27 := by unfold Ins.jumps at hjp; exact of_decide_eq_true hjp
         exact ok_if _ (by omega) (by omega) d16 l16 ⟨by omega,hf,hlive⟩
     ·rename_i h14 h15 h16 h28 hjp
      have hj2 : i.op ≤ 13 := by
       unfold Ins.jumps at hjp
       rw [decide_eq_true_eq] at hjp
       omega
      unfold lreckon at hg
      split at hg
      ·rename_i h13
       rw [List.mem_singleton] at hg
       subst hg
       exact ok_alu _ (by omega) (by omega) d16 d16 ⟨by decide,by decide⟩ fun _ => rfl
      ·split at hg
       ·rw [List.mem_singleton] at hg
        subst hg
        exact ok_set _ d16
       ·split at hg
        ·rw [List.mem_singleton] at hg
         subst hg
         exact ok_move d16 s16
        ·rename_i h13 _ _
         rcases List.mem_append.1 hg with hg | hg
         ·exact lsec_ok i g hg
         ·rw [List.mem_singleton] at hg
          subst hg
          exact ok_alu _ (by omega) (by omega) d16 d16 l16 fun e => absurd e h13
theorem lat_ok (hs : Shaped l) (ht : Typed l ps) {j : Nat} : ∀ g ∈ lat l ps j,g.okP (Later l ps j) := by
 intro g hg
 unfold lat at hg
 cases hi : l[j]? with
 | none => rw [hi] at hg; cases hg
 | some i =>
  rw [hi] at hg
  simp only at hg
  split at hg
  ·rename_i hlv
   exact lone_ok hs ht hi hlv g hg
  ·cases hg
theorem lout_inv {n x : Nat} {g : Fl} (h : (lout l ps n)[x]? = some g) : ∃ j t,j < n ∧ x = lbegin l ps j + t ∧ (lat l ps j)[t]? = some g := by
 induction n with
 | zero => simp [lout] at h
 | succ n ih =>
  unfold lout at h
  rcases Nat.lt_or_ge x (lout l ps n).length with hx | hx
  ·rw [List.getElem?_append_left hx] at h
   obtain ⟨j,t,h1,h2,h3⟩ := ih h
   exact ⟨j,t,by omega,h2,h3⟩
  ·rw [List.getElem?_append_right hx] at h
   exact ⟨n,x - (lout l ps n).length,by omega,by unfold lbegin; omega,h⟩
theorem lbegin_mono {j k : Nat} (h : j ≤ k) : lbegin l ps j ≤ lbegin l ps k := by
 induction k with
 | zero => rw [show j = 0 by omega]; exact Nat.le_refl _
 | succ k ih =>
  rcases Nat.lt_or_ge j (k + 1) with h1 | h1
  ·rw [lbegin_succ]
   exact Nat.le_trans (ih (by omega)) (Nat.le_add_right _ _)
  ·rw [show j = k + 1 by omega]; exact Nat.le_refl _
/-- a place that is come to, behind which none is, is an exit -/
theorem last_exit (hs : Shaped l) (ht : Typed l ps) {j : Nat} {i : Ins} (hi : l[j]? = some i) (hlv : (plAt ps j).live = true) (hno : ∀ k,j < k → k < l.length → (plAt ps k).live = false) : i.op = 28 := by
 have hjl := (List.getElem?_eq_some_iff.1 hi).1
 have hr : i.right = true := hs.right i (List.mem_of_getElem? hi)
 obtain ⟨hd,hsr,hof,him,hsz,hop,_⟩ := right_facts hr
 by_cases h28 : i.op = 28
 ·exact h28
 exfalso
 obtain ⟨ah,af,hc,k1,k2⟩ := ht.went j hjl i hi hlv
 have hnext : ∀ q,ah = some q → i.op ≠ 16 → False := fun q hq h16 => by
  have h1 := (k1 q hq).1
  rw [hno (j + 1) (by omega) (hs.last j i hi h28 h16)] at h1
  cases h1
 have hfar : ∀ q,af = some q → 16 ≤ i.op → False := fun q hq h16 => by
  have h1 := (k2 q hq).1
  have hjp : i.jumps = true := by unfold Ins.jumps; rw [decide_eq_true_eq]; omega
  rw [hno (j + 1 + i.off.toNat) (by omega) (hs.fwd j i hi hjp).2] at h1
  cases h1
 unfold cstep at hc
 split at hc
 ·rename_i h14
  split at hc
  ·rename_i he; simp only [Prod.mk.injEq] at hc; exact he hc.1
  ·simp only [Prod.mk.injEq] at hc
   exact hnext _ hc.2.1.symm (by omega)
 split at hc
 ·rename_i h15
  split at hc
  ·rename_i he; simp only [Prod.mk.injEq] at hc; exact he hc.1
  ·simp only [Prod.mk.injEq] at hc
   exact hnext _ hc.2.1.symm (by omega)
 split at hc
 ·rename_i h16
  simp only [Prod.mk.injEq] at hc
  exact hfar _ hc.2.2.symm (by omega)
 first | rw [if_neg h28] at hc | skip
 split at hc
 ·split at hc
  ·rename_i he; simp only [Prod.mk.injEq] at hc; exact he hc.1
  ·simp only [Prod.mk.injEq] at hc
   exact hnext _ hc.2.1.symm (by omega)
 split at hc
 ·simp at hc
 split at hc
 ·rename_i he; simp only [Prod.mk.injEq] at hc; exact he hc.1
 split at hc
 ·rename_i he; simp only [Prod.mk.injEq] at hc; exact he hc.1
 rename_i h14 h15 h16 h13 hk ha hb
 simp only [Prod.mk.injEq,true_and] at hc
 have ha' := Decidable.not_not.1 ha
 have hb' := Decidable.not_not.1 hb
 have hw := ht.wf j hlv
 have ra := (asN_sp hw (hw.reg i.dst) (s := (asN (plAt ps j) ((plAt ps j).reg i.dst)).2) (by rw [← ha'])).1
 have rb := (asN_sp hw (second_right hw i) (s := (asN (plAt ps j) (second i (plAt ps j))).2) (by rw [← hb'])).1
 obtain ⟨yes,p,hp⟩ := sif_one i.op i.narrow _ _ ⟨by omega,by omega⟩ ra rb
 cases yes with
 | false =>
  have h1 : ah ≠ none := by rw [← hc.1]; unfold ended; rw [hp]; simp
  cases ah with
  | none => exact h1 rfl
  | some q => exact hnext q rfl h16
 | true =>
  have h1 : af ≠ none := by rw [← hc.2]; unfold ended; rw [hp]; simp
  cases af with
  | none => exact h1 rfl
  | some q => exact hfar q rfl (by omega)
/-- the last place that is come to -/
theorem last_live (ht : Typed l ps) (hne : l ≠ []) : ∃ j,j < l.length ∧ (plAt ps j).live = true ∧ ∀ k,j < k → k < l.length → (plAt ps k).live = false := by
 have h0 : (plAt ps 0).live = true := (ht.first _ rfl).1
 have hp := List.length_pos_iff.2 hne
 suffices ∀ n,n ≤ l.length → 0 < n → ∃ j,j < n ∧ (plAt ps j).live = true ∧ ∀ k,j < k → k < n → (plAt ps k).live = false from this l.length (Nat.le_refl _) hp
 intro n
 induction n with
 | zero => intro _ h; omega
 | succ n ih =>
  intro h1 _
  cases hl : (plAt ps n).live with
  | true => exact ⟨n,by omega,hl,fun k h2 h3 => by omega⟩
  | false =>
   rcases Nat.eq_zero_or_pos n with rfl | hn
   ·rw [h0] at hl; cases hl
   ·obtain ⟨j,g1,g2,g3⟩ := ih (by omega) hn
    refine ⟨j,by omega,g2,fun k h2 h3 => ?_⟩
    rcases Nat.lt_or_ge k n with h4 | h4
    ·exact g3 k h2 h4
    ·rw [show k = n by omega]; exact hl
theorem lat_dead {j : Nat} (h : (plAt ps j).live = false) : lat l ps j = [] := by
 unfold lat
 split
 ·rfl
 ·rw [h]; rfl
theorem lout_succ (n : Nat) : lout l ps (n + 1) = lout l ps n ++ lat l ps n := rfl
theorem lout_dead {j : Nat} : ∀ {n : Nat},j ≤ n → (∀ k,j ≤ k → k < n → (plAt ps k).live = false) → lout l ps n = lout l ps j
 | 0,h,_ => by rw [show j = 0 by omega]
 | n + 1,h,hd => by
  rcases Nat.lt_or_ge j (n + 1) with h1 | h1
  ·rw [lout_succ,lat_dead (hd n (by omega) (by omega)),List.append_nil]
   exact lout_dead (by omega) fun k h2 h3 => hd k h2 (by omega)
  ·rw [show j = n + 1 by omega]
theorem lmake_last (hs : Shaped l) (ht : Typed l ps) : ∃ j,j < l.length ∧ (plAt ps j).live = true ∧ (∀ k,j < k → k < l.length → (plAt ps k).live = false) ∧ lout l ps l.length = lout l ps j ++ [{ Fl.zero with do' := 9 }] := by
 obtain ⟨j,h1,h2,h3⟩ := last_live ht hs.ne
 have hi : l[j]? = some l[j] := List.getElem?_eq_getElem h1
 have h28 := last_exit hs ht hi h2 h3
 refine ⟨j,h1,h2,h3,?_⟩
 rw [lout_dead (j := j + 1) (by omega) (fun k g1 g2 => h3 k (by omega) g2)]
 rw [lout_succ,lat_of hi h2,lone,if_neg (by omega),if_neg (by omega),if_neg (by omega),if_pos h28]
/-- code that is right -/
structure FRight (c : List Fl) : Prop where
 ne : c ≠ []
 len : c.length ≤ 16384
 last : ∃ f,c[c.length - 1]? = some f ∧ f = { Fl.zero with do' := 9 }
 all : ∀ x (f : Fl),c[x]? = some f → f.okP fun to => x < to ∧ to < c.length
theorem lsec_len (i : Ins) : (lsec i).length ≤ 1 := by
 unfold lsec
 split <;> simp
theorem lgoes_len (j : Nat) (to : Int) : (lgoes j to).length ≤ 1 := by
 unfold lgoes
 split <;> simp
theorem lat_len2 (j : Nat) : (lat l ps j).length ≤ 2 := by
 unfold lat
 split
 ·simp
 ·rename_i i hi
  have h1 := lsec_len i
  have h2 := lgoes_len j ((j : Int) + 1 + i.off)
  split
  ·unfold lone lreckon lbranch
   repeat' split
   all_goals (first | (simp only [List.length_append,List.length_cons,List.length_nil]; omega) | omega)
  ·simp
theorem lout_len (n : Nat) : (lout l ps n).length ≤ 2 * n := by
 induction n with
 | zero => simp [lout]
 | succ n ih =>
  unfold lout
  have := lat_len2 (l := l) (ps := ps) n
  rw [List.length_append]
  omega
theorem lmake_right (hs : Shaped l) (ht : Typed l ps) (hl : l.length ≤ 4096) : FRight (lmake l ps) := by
 obtain ⟨J,hJ,hlJ,hno,hout⟩ := lmake_last hs ht
 have hlen : (lmake l ps).length = (lout l ps J).length + 1 := by
  unfold lmake
  rw [List.length_map,hout,List.length_append]
  rfl
 refine ⟨fun e => by rw [e] at hlen; simp at hlen,?_,?_,fun x f hx => ?_⟩
 ·unfold lmake
  rw [List.length_map]
  have := lout_len (l := l) (ps := ps) l.length
  omega
 ·refine ⟨_,?_,rfl⟩
  rw [hlen,Nat.add_sub_cancel]
  unfold lmake
  rw [List.getElem?_map,hout,List.getElem?_append_right (Nat.le_refl _),Nat.sub_self]
  rfl
 ·unfold lmake at hx
  rw [List.getElem?_map] at hx
  cases hg : (lout l ps l.length)[x]? with
  | none => rw [hg] at hx; cases hx
  | some g =>
   rw [hg] at hx
   obtain ⟨j,t,hj,hxe,hgt⟩ := lout_inv hg
   have hok := lat_ok hs ht g (List.mem_of_getElem? hgt)
   have htl := (List.getElem?_eq_some_iff.1 hgt).1
   have hto : ∀ to,Later l ps j to → x < lbegin l ps to ∧ lbegin l ps to < (lmake l ps).length := fun to ⟨h1,h2,h3⟩ => by
    have m1 := lbegin_mono (l := l) (ps := ps) (show j + 1 ≤ to by omega)
    rw [lbegin_succ] at m1
    have hle : to ≤ J := by
     rcases Nat.lt_or_ge J to with h4 | h4
     ·rw [hno to h4 h2] at h3; cases h3
     ·exact h4
    have m2 := lbegin_mono (l := l) (ps := ps) hle
    rw [hlen]
    unfold lbegin at *
    omega
   simp only [Option.map,Option.some.injEq] at hx
   subst hx
   rcases hok with ⟨d,n,rfl,h1⟩ | ⟨d,a,rfl,h1,h2⟩ | ⟨w,nr,d,a,b,rfl,h1,h2,h3,h4,h5,h6⟩ | ⟨k,d,a,n,s,hk,rfl,h1,h2,h3⟩ | ⟨a,b,n,s,rfl,h1,h2,h3⟩ | ⟨to,rfl,h1⟩ | ⟨w,nr,a,b,to,rfl,h1,h2,h3,h4,h5⟩ | rfl
   ·rw [lpatch_other _ ⟨by simp,by simp⟩]; exact ok_set _ h1
   ·rw [lpatch_other _ ⟨by simp,by simp⟩]; exact ok_move h1 h2
   ·rw [lpatch_other _ ⟨by simp,by simp⟩]; exact ok_alu _ h1 h2 h3 h4 h5 h6
   ·rw [lpatch_other _ ⟨by simp only; omega,by simp only; omega⟩]; exact ok_load _ hk h1 h2 h3
   ·rw [lpatch_other _ ⟨by simp,by simp⟩]; exact ok_write _ h1 h2 h3
   ·rw [lpatch,if_pos (.inl rfl)]
    exact ok_goto (to := lbegin l ps ((to : Int)).toNat) (by rw [Int.toNat_natCast]; exact hto to h1)
   ·rw [lpatch,if_pos (.inr rfl)]
    exact ok_if _ (to := lbegin l ps ((to : Int)).toNat) h1 h2 h3 h4 (by rw [Int.toNat_natCast]; exact hto to h5)
   ·rw [lpatch_other _ ⟨by simp,by simp⟩]; exact ok_end
end
end Go.Proofs.YtfeipbgnjainlaaGreat.T
