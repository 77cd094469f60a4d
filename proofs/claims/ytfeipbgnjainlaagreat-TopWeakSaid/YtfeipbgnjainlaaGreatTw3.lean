/- What all servers look at: FrWords, TKind, TMach, TWords, TMaps, TAluC32, TAluC64, TShelf, TSound, TStep -/
import Derived.Test.YtfeipbgnjainlaaGreatTw1
import Derived.Test.YtfeipbgnjainlaaGreatTw2
import Derived.Maps.Own
import Derived.Deep.RegionLaw
import Derived.Shelf.Small.Bits
import Derived.Shelf.Small.Wraps
import Derived.Shelf.Strconv.Itoa0
import Derived.Shelf.Sort.Plain
import Derived.Shelf.Bits.Mul64
import Derived.Shelf.Slices.Turned
import Derived.Ground.Names2Prog
import Derived.Shelf.Slices.CompactI
import Derived.Shelf.Slices.SearchI
import Derived.Shelf.Slices.Cells
import Derived.Shelf.Slices.In.SortNone
import Derived.Ground.SlgnProg
import Derived.Shelf.SlicesE.Clone
set_option linter.unusedVariables false
set_option linter.unusedSimpArgs false
/- More laws on opaque words: unary minus, comparisons with constants, conversions. -/
namespace Go.Proofs.YtfeipbgnjainlaaGreat.K
open Go Go.RowKit

theorem wrap_u32' (n : Int) : IntKind.u32.wrap n = n % 4294967296 := by simp [IntKind.wrap,IntKind.bits,IntKind.signed]
theorem W32_neg (x : BitVec 32) : Op.unary .neg (W32 x) = pure (W32 (-x)) := by
 have h : IntKind.u32.wrap (0 - (x.toNat : Int)) = ((-x).toNat : Int) := by
  rw [wrap_u32',BitVec.toNat_neg]
  have := x.isLt
  omega
 show Op.intArith .sub .u32 0 (x.toNat : Int) = _
 simp [Op.intArith]
 exact congrArg (fun z => (pure (Value.int .u32 z) : Sem Value)) (by simpa using h)
attribute [go_sem] W32_neg
section
variable {P : Program} (w : World) (src dst : TypeId)
end
end Go.Proofs.YtfeipbgnjainlaaGreat.K
/- What is known of registers: definitions, and that it holds on of what operators make. No program in sight. -/
namespace Go.Proofs.YtfeipbgnjainlaaGreat.T

/-- what is known: 0 unset, 1 number, 2 packet, 3 frame, 4 length -/
structure Kn where
 k : Int
 s : Sp
deriving DecidableEq
def Sp.zero : Sp := ⟨0,0⟩
def Kn.none : Kn := ⟨0,Sp.zero⟩
def Kn.right (a : Kn) : Bool := if a.k = 4 ∨ a.k = 0 then a.s == Sp.zero else if a.k = 1 ∨ a.k = 2 then a.s.right else decide (a.k = 3) && a.s == Sp.of a.s.lo
def Kn.numS (a : Kn) : Sp := if a.k = 4 then ⟨0,65535#64⟩ else a.s
def Kn.isN (a : Kn) : Bool := decide (a.k = 4) || decide (a.k = 1)
def Kn.join (a b : Kn) : Kn :=
 if !a.right || !b.right then Kn.none else if a = b then a else if a.isN && b.isN then ⟨1,a.numS.join b.numS⟩ else if a.k = 2 ∧ b.k = 2 then ⟨2,a.s.join b.s⟩ else Kn.none
def nought (s : Sp) (narrow : Bool) : Bool := s.has 0 || narrow && !s.within (Sp.all true)
/-- what is known of what an operator makes; and its error -/
def kdo (op : Int) (narrow : Bool) (a b : Kn) : Kn × Int :=
 if op < 1 ∨ 13 < op ∨ a.right = false ∨ b.right = false then (Kn.none,2)
 else if (op ≠ 12 ∧ a.k = 0) ∨ (op ≠ 13 ∧ b.k = 0) then (Kn.none,110)
 else if op = 12 ∧ narrow = false then (b,0)
 else
  let a' := if op = 12 then b else a
  let b' := if op = 13 then a else b
  let moves := decide (op = 1 ∨ op = 2) && !narrow && b'.isN
  if a'.isN && b'.isN && decide (op = 4 ∨ op = 5) && nought b'.numS narrow then (Kn.none,113)
  else if a'.isN && b'.isN then (⟨1,sdo op narrow a'.numS b'.numS⟩,0)
  else if moves && decide (a'.k = 2) || moves && decide (a'.k = 3) && b'.numS.lo == b'.numS.hi then (⟨a'.k,sdo op false a'.s b'.numS⟩,0)
  else (Kn.none,114)

/-- it holds of a value: of what kind, which number, where the packet is so long -/
def Kn.holds (a : Kn) (vk : Int) (n : U) (len : Nat) : Prop :=
 a.right = true ∧ (a.k = 0 ∨ (a.k = 4 ∧ vk = 1 ∧ n.toNat = len) ∨ ((a.k = 1 ∨ a.k = 2 ∨ a.k = 3) ∧ vk = a.k ∧ a.s.has n = true))
theorem Kn.none_holds (vk : Int) (n : U) (len : Nat) : Kn.none.holds vk n len := ⟨by decide,.inl rfl⟩
theorem Sp.has_right {s : Sp} {n : U} (h : s.has n = true) : s.right = true := by
 rw [Sp.has_iff] at h
 rw [Sp.right_iff]; omega
/-- as a number, it holds too -/
theorem Kn.num_holds {a : Kn} {vk : Int} {n : U} {len : Nat} (h : a.holds vk n len) (ha : a.isN = true) (hl : len ≤ 65535) : vk = 1 ∧ a.numS.has n = true := by
 obtain ⟨h1,h2⟩ := h
 simp only [Kn.isN,Bool.or_eq_true,decide_eq_true_eq] at ha
 unfold Kn.numS
 rcases ha with ha | ha
 ·rw [if_pos ha]
  rcases h2 with h2 | ⟨_,h3,h4⟩ | ⟨h3,_⟩
  ·omega
  ·refine ⟨h3,?_⟩
   rw [Sp.has_iff]
   simp only
   rw [show (65535#64 : U).toNat = 65535 by rfl]
   exact ⟨Nat.zero_le _,by omega⟩
  ·omega
 ·rw [if_neg (by omega)]
  rcases h2 with h2 | ⟨h3,_⟩ | ⟨_,h3,h4⟩
  ·omega
  ·omega
  ·exact ⟨h3.trans ha,h4⟩
theorem Kn.num_of {a : Kn} (h : a.isN = true) : a.k = 4 ∨ a.k = 1 := by simpa [Kn.isN] using h
theorem Sp.join_comm (s t : Sp) : s.join t = t.join s := by
 unfold Sp.join
 congr 1
 ·exact BitVec.eq_of_toNat_eq (by rw [umin_toNat,umin_toNat,Nat.min_comm])
 ·exact BitVec.eq_of_toNat_eq (by rw [umax_toNat,umax_toNat,Nat.max_comm])
theorem Kn.join_comm (a b : Kn) : a.join b = b.join a := by
 unfold Kn.join
 rw [Bool.or_comm,Bool.and_comm,Sp.join_comm a.numS,Sp.join_comm a.s]
 by_cases h : a = b
 ·subst h; rfl
 ·have h' : ¬ b = a := fun e => h e.symm
  simp only [h,h',if_false]
  by_cases hp : a.k = 2 ∧ b.k = 2
  ·have hp' : b.k = 2 ∧ a.k = 2 := ⟨hp.2,hp.1⟩
   simp only [hp,hp',and_self,if_true]
  ·have hp' : ¬ (b.k = 2 ∧ a.k = 2) := fun e => hp ⟨e.2,e.1⟩
   simp only [hp,hp',if_false]
/-- no number of it is nought -/
theorem nought_err {s : Sp} {narrow : Bool} (h : nought s narrow = false) {n : U} (hn : s.has n = true) (op : Int) (ho : 1 ≤ op ∧ op ≤ 13) : aerr op narrow n = 0 := by
 unfold nought at h
 rw [Bool.or_eq_false_iff] at h
 obtain ⟨h1,h2⟩ := h
 have hn0 : n ≠ 0 := fun e => by rw [e,h1] at hn; cases hn
 have hno : ∀ (k : Nat) (p : BitVec k),p ≠ 0#k → aerrN k op p = 0 := fun k p hp => by
  unfold aerrN
  rw [if_neg (fun e => hp e.2),if_pos ho]
 unfold aerr
 cases narrow with
 | false => exact hno 64 n hn0
 | true =>
  simp only [Bool.true_and,Bool.not_eq_false',Sp.within_iff] at h2
  rw [Sp.has_iff] at hn
  obtain ⟨_,h3⟩ := h2
  have h4 : (Sp.all true).hi.toNat = 4294967295 := by decide
  refine hno 32 (low n) fun e => ?_
  have e2 := congrArg BitVec.toNat e
  rw [low_toNat,Nat.mod_eq_of_lt (by omega)] at e2
  exact hn0 (BitVec.eq_of_toNat_eq e2)
theorem aerr_ok (op : Int) (narrow : Bool) (n : U) (ho : 1 ≤ op ∧ op ≤ 13) (h : ¬ (op = 4 ∨ op = 5)) : aerr op narrow n = 0 := by
 have hno : ∀ (k : Nat) (p : BitVec k),aerrN k op p = 0 := fun k p => by
  unfold aerrN
  rw [if_neg (fun e => h e.1),if_pos ho]
 unfold aerr
 split
 ·exact hno _ _
 ·exact hno _ _
theorem ule_ult (p q : U) : (p.ule q || q.ult p) = true := by
 simp only [BitVec.ule,BitVec.ult,Bool.or_eq_true,decide_eq_true_eq]
 omega
theorem Sp.eq_of {s : Sp} {n : U} (h : s.has n = true) (e : s.lo = s.hi) : s = Sp.of n := by
 obtain ⟨p,q⟩ := s
 simp only at e
 subst e
 rw [Sp.has_iff] at h
 have : p = n := BitVec.eq_of_toNat_eq (by simp only at h; omega)
 rw [this]; rfl
theorem Kn.right_3 {a : Kn} (h : a.k = 3) : a.right = (a.s == Sp.of a.s.lo) := by
 unfold Kn.right
 rw [if_neg (by omega),if_neg (by omega),decide_eq_true h,Bool.true_and]
theorem Kn.right_12 {a : Kn} (h : a.k = 1 ∨ a.k = 2) : a.right = a.s.right := by
 unfold Kn.right
 rw [if_neg (by omega),if_pos h]
theorem ado_1 (X Y : U) : ado 1 false X Y = X + Y := by simp [ado,adoN]
theorem ado_2 (X Y : U) : ado 2 false X Y = X - Y := by simp [ado,adoN]
/-- a pointer moved -/
theorem moved_one {op : Int} (ho : op = 1 ∨ op = 2) {a b : Sp} {X Y : U} (ha : a = Sp.of X) (hb : b = Sp.of Y) : sdo op false a b = Sp.of (ado op false X Y) := by
 subst ha hb
 have hr : ∀ Z : U,(Sp.of Z).right = true := fun Z => by rw [Sp.right_iff]; exact Nat.le_refl _
 unfold sdo
 rw [if_pos ⟨by omega,hr X,hr Y⟩]
 rcases ho with rfl | rfl
 ·rw [ado_1]
  have e : (Wk.over false (Sp.of X) (Sp.of Y)).rule 1 = some (Sp.of (X + Y)) := by
   unfold Wk.rule
   rw [if_pos rfl]
   have e0 : Wk.over false (Sp.of X) (Sp.of Y) = ⟨⟨X,X⟩,⟨Y,Y⟩,false⟩ := by simp only [Wk.over,Sp.cut,Sp.of,Bool.false_eq_true,if_false]
   rw [e0]
   unfold Wk.add
   simp only
   rw [if_pos (ule_ult Y _)]
   simp only [Wk.ends,Wk.most,Bool.false_eq_true,if_false,and_ones,Sp.of]
  rw [e]; rfl
 ·rw [ado_2]
  have e : (Wk.over false (Sp.of X) (Sp.of Y)).rule 2 = some (Sp.of (X - Y)) := by
   unfold Wk.rule
   rw [if_neg (by decide),if_pos rfl]
   have e0 : Wk.over false (Sp.of X) (Sp.of Y) = ⟨⟨X,X⟩,⟨Y,Y⟩,false⟩ := by simp only [Wk.over,Sp.cut,Sp.of,Bool.false_eq_true,if_false]
   rw [e0]
   unfold Wk.sub
   simp only
   rw [if_pos (ule_ult Y X)]
   simp only [Wk.ends,Wk.most,Bool.false_eq_true,if_false,and_ones,Sp.of]
  rw [e]; rfl
/-- what an operator makes of values: of what kind it is, and that it is not wrong -/
theorem kdo_sound (op : Int) (narrow : Bool) (a b k : Kn) (vka vkb : Int) (X Y : U) (len : Nat) (hl : len ≤ 65535) (ha : a.holds vka X len) (hb : b.holds vkb Y len) (ho : op ≠ 12 ∧ op ≠ 13) (h : kdo op narrow a b = (k,0)) :
  vkb = 1 ∧ (vka = 1 ∨ ((op = 1 ∨ op = 2) ∧ narrow = false)) ∧ a.k ≠ 0 ∧ b.k ≠ 0 ∧ aerr op narrow Y = 0 ∧ k.holds vka (ado op narrow X Y) len := by
 unfold kdo at h
 split at h
 ·simp at h
 rename_i h1
 have hop : 1 ≤ op ∧ op ≤ 13 := by omega
 split at h
 ·simp at h
 rename_i h2
 have ha0 : a.k ≠ 0 := fun e => h2 (.inl ⟨ho.1,e⟩)
 have hb0 : b.k ≠ 0 := fun e => h2 (.inr ⟨ho.2,e⟩)
 rw [if_neg (by omega)] at h
 simp only [if_neg ho.1,if_neg ho.2] at h
 split at h
 ·simp at h
 rename_i h3
 split at h
 ·rename_i h4
  rw [Bool.and_eq_true] at h4
  obtain ⟨a1,a2⟩ := Kn.num_holds ha h4.1 hl
  obtain ⟨b1,b2⟩ := Kn.num_holds hb h4.2 hl
  have he : aerr op narrow Y = 0 := by
   by_cases hd : op = 4 ∨ op = 5
   ·have hz : nought b.numS narrow = false := by
     cases hz : nought b.numS narrow with
     | false => rfl
     | true => exact absurd (by simp [h4.1,h4.2,hd,hz]) h3
    exact nought_err hz b2 op hop
   ·exact aerr_ok op narrow Y hop hd
  have hk : k = ⟨1,sdo op narrow a.numS b.numS⟩ := (congrArg Prod.fst h).symm
  have hs := sdo_sound op narrow a.numS b.numS X Y hop a2 b2 he
  subst hk
  exact ⟨b1,.inl a1,ha0,hb0,he,Sp.has_right hs,.inr (.inr ⟨.inl rfl,a1,hs⟩)⟩
 ·split at h
  ·rename_i h4 h5
   simp only [Bool.or_eq_true,Bool.and_eq_true,decide_eq_true_eq,Bool.not_eq_true'] at h5
   have hm : (op = 1 ∨ op = 2) ∧ narrow = false ∧ b.isN = true := by
    rcases h5 with ⟨⟨⟨m1,m2⟩,m3⟩,_⟩ | ⟨⟨⟨⟨m1,m2⟩,m3⟩,_⟩,_⟩ <;> exact ⟨m1,m2,m3⟩
   obtain ⟨m1,rfl,m3⟩ := hm
   obtain ⟨b1,b2⟩ := Kn.num_holds hb m3 hl
   have hd : ¬ (op = 4 ∨ op = 5) := by omega
   have he : aerr op false Y = 0 := aerr_ok op false Y hop hd
   have hk : k = ⟨a.k,sdo op false a.s b.numS⟩ := (congrArg Prod.fst h).symm
   have hak : a.k = 2 ∨ (a.k = 3 ∧ b.numS.lo = b.numS.hi) := by
    rcases h5 with ⟨_,m⟩ | ⟨⟨_,m⟩,m'⟩
    ·exact .inl m
    ·exact .inr ⟨m,by simpa using m'⟩
   obtain ⟨hra,hva⟩ := ha
   have hv : vka = a.k ∧ a.s.has X = true := by
    rcases hva with e | ⟨e,_⟩ | ⟨_,e,e2⟩
    ·exact absurd e ha0
    ·omega
    ·exact ⟨e,e2⟩
   have hs := sdo_sound op false a.s b.numS X Y hop hv.2 b2 he
   refine ⟨b1,.inr ⟨m1,rfl⟩,ha0,hb0,he,?_⟩
   subst hk
   refine ⟨?_,.inr (.inr ⟨by rcases hak with e | ⟨e,_⟩ <;> simp [e],hv.1,hs⟩)⟩
   rcases hak with e | ⟨e,e2⟩
   ·rw [Kn.right_12 (a := ⟨a.k,sdo op false a.s b.numS⟩) (.inr e)]
    exact Sp.has_right hs
   ·rw [Kn.right_3 (a := ⟨a.k,sdo op false a.s b.numS⟩) e]
    have hra2 : a.s = Sp.of a.s.lo := by
     rw [Kn.right_3 e] at hra
     exact beq_iff_eq.1 hra
    have hsx : a.s = Sp.of X := Sp.eq_of hv.2 (by rw [hra2]; rfl)
    have hsy : b.numS = Sp.of Y := Sp.eq_of b2 e2
    rw [moved_one m1 hsx hsy]
    exact beq_iff_eq.2 rfl
  ·simp at h
theorem ado_13 (narrow : Bool) (X Y Z : U) : ado 13 narrow X Y = ado 13 narrow X Z := by
 unfold ado adoN
 simp
theorem ado_12 (narrow : Bool) (X Z Y : U) : ado 12 narrow X Y = ado 12 narrow Z Y := by
 unfold ado adoN
 simp
/-- Neg -/
theorem kdo_neg (narrow : Bool) (a b k : Kn) (vka : Int) (X : U) (len : Nat) (hl : len ≤ 65535) (ha : a.holds vka X len) (h : kdo 13 narrow a b = (k,0)) :
  a.k ≠ 0 ∧ vka = 1 ∧ k.holds 1 (ado 13 narrow X 0) len := by
 unfold kdo at h
 split at h
 ·simp at h
 split at h
 ·simp at h
 rename_i h1 h2
 have ha0 : a.k ≠ 0 := fun e => h2 (.inl ⟨by decide,e⟩)
 rw [if_neg (by simp)] at h
 simp only [show ¬ ((13 : Int) = 12) by decide,if_false,if_true] at h
 split at h
 ·simp at h
 split at h
 ·rename_i h4
  rw [Bool.and_self] at h4
  obtain ⟨a1,a2⟩ := Kn.num_holds ha h4 hl
  have hk : k = ⟨1,sdo 13 narrow a.numS a.numS⟩ := (congrArg Prod.fst h).symm
  have hs := sdo_sound 13 narrow a.numS a.numS X X (by omega) a2 a2 (aerr_ok 13 narrow X (by omega) (by omega))
  subst hk
  rw [ado_13 narrow X 0 X]
  exact ⟨ha0,a1,Sp.has_right hs,.inr (.inr ⟨.inl rfl,rfl,hs⟩)⟩
 ·simp at h
/-- Mov -/
theorem kdo_mov (narrow : Bool) (a b k : Kn) (vkb : Int) (Z Y : U) (len : Nat) (hl : len ≤ 65535) (hb : b.holds vkb Y len) (h : kdo 12 narrow a b = (k,0)) :
  b.k ≠ 0 ∧ (narrow = false → k = b) ∧ (narrow = true → vkb = 1 ∧ k.holds 1 (ado 12 true Z Y) len) := by
 unfold kdo at h
 split at h
 ·simp at h
 split at h
 ·simp at h
 rename_i h1 h2
 have hb0 : b.k ≠ 0 := fun e => h2 (.inr ⟨by decide,e⟩)
 split at h
 ·rename_i h3
  refine ⟨hb0,fun _ => (congrArg Prod.fst h).symm,fun e => ?_⟩
  rw [h3.2] at e; cases e
 ·rename_i h3
  have hn : narrow = true := by
   cases narrow with
   | true => rfl
   | false => exact absurd ⟨rfl,rfl⟩ h3
  subst hn
  refine ⟨hb0,fun e => by (cases e),fun _ => ?_⟩
  simp only [show ¬ ((12 : Int) = 13) by decide,if_false,if_true] at h
  split at h
  ·simp at h
  split at h
  ·rename_i h4
   rw [Bool.and_self] at h4
   obtain ⟨b1,b2⟩ := Kn.num_holds hb h4 hl
   have hk : k = ⟨1,sdo 12 true b.numS b.numS⟩ := (congrArg Prod.fst h).symm
   have hs := sdo_sound 12 true b.numS b.numS Y Y (by omega) b2 b2 (aerr_ok 12 true Y (by omega) (by omega))
   subst hk
   rw [ado_12 true Z Y Y]
   exact ⟨b1,Sp.has_right hs,.inr (.inr ⟨.inl rfl,rfl,hs⟩)⟩
  ·simp at h
end Go.Proofs.YtfeipbgnjainlaaGreat.T
/- Instructions, what is known at places, the machine: definitions. No program in sight. -/
namespace Go.Proofs.YtfeipbgnjainlaaGreat.T

abbrev B := BitVec 8
/-- what alu.do tells beside its error -/
def aluR (n : Nat) (op : Int) (a b : BitVec n) : BitVec n := if aerrN n op b = 0 then adoN n op a b else 0#n
structure Ins where
 op : Int
 narrow : Bool
 dst : Int
 src : Int
 useImm : Bool
 off : Int
 imm : Int
 size : Int
deriving DecidableEq
/-- flags of an instruction's fields: 1 target, 2 Dst, 4 Src, 8 second, 16 Off, 32 Size, 64 widths, 128 known -/
def fields (op : Int) : Nat := if 1 ≤ op ∧ op ≤ 12 then 201 else if op = 13 then 193 else if op = 14 then 181 else if op = 15 then 186 else if op = 16 then 144 else if 17 ≤ op ∧ op ≤ 27 then 218 else if op = 28 then 128 else 0
def wi (n least most : Int) : Bool := decide (least ≤ n) && decide (n ≤ most)
def sized (n : Int) : Bool := decide (n = 1 ∨ n = 2 ∨ n = 4 ∨ n = 8)
def fl (op : Int) (b : Nat) : Bool := (fields op).testBit b
/-- the instruction with no more than what its kind has -/
def Ins.bare (i : Ins) : Ins :=
 ⟨i.op,fl i.op 6 && i.narrow,if fl i.op 0 || fl i.op 1 then i.dst else 0,if fl i.op 2 || fl i.op 3 && !i.useImm then i.src else 0,fl i.op 3 && i.useImm,if fl i.op 4 then i.off else 0,if fl i.op 3 && i.useImm then i.imm else 0,if fl i.op 5 then i.size else 0⟩
def Ins.right (i : Ins) : Bool :=
 decide (fields i.op ≠ 0) && decide (i = i.bare) && wi i.dst 0 (if fl i.op 0 then 9 else 10) && wi i.src 0 10 && wi i.off (-32768) 32767 && wi i.imm (-2147483648) 2147483647 && (!fl i.op 5 || sized i.size)
def Ins.jumps (i : Ins) : Bool := decide (16 ≤ i.op ∧ i.op ≤ 27)
/-- what is known at a place -/
structure Pl where
 live : Bool
 regs : List Kn
 bytes : List Bool
 least : Int
deriving DecidableEq
def Pl.dead : Pl := ⟨false,[],[],0⟩
def Pl.start : Pl := ⟨true,[Kn.none,⟨2,Sp.zero⟩,⟨4,Sp.zero⟩,Kn.none,Kn.none,Kn.none,Kn.none,Kn.none,Kn.none,Kn.none,⟨3,Sp.zero⟩],List.replicate 512 false,0⟩
/-- more is told of a place -/
def Pl.tell (q p : Pl) : Pl := if q.live then ⟨true,List.zipWith Kn.join q.regs p.regs,List.zipWith (· && ·) q.bytes p.bytes,min q.least p.least⟩ else p
def Pl.reg (p : Pl) (r : Int) : Kn := p.regs.getD r.toNat Kn.none
def Pl.put (p : Pl) (r : Int) (k : Kn) : Pl := { p with regs := p.regs.set r.toNat k }
/-- a number's 64 bits -/
def wide (n : Int) : U := BitVec.ofInt 64 n
def second (i : Ins) (p : Pl) : Kn := if i.useImm then ⟨1,Sp.of (wide i.imm)⟩ else p.reg i.src
/-- as a number; or the error -/
def asN (p : Pl) (k : Kn) : Int × Sp := if k.k = 0 then (110,Sp.zero) else if k.k = 1 then (0,k.s) else if k.k = 4 then (0,⟨wide p.least,65535#64⟩) else (111,Sp.zero)
/-- where a frame points, as a number from the stack's end -/
def frameAt (k : Kn) (i : Ins) : Int := (k.s.lo + wide i.off).toInt
/-- may these bytes of the stack be; which error -/
def partErr (at' : Int) (size : Int) : Int := if sized size = false then 2 else if at' < -512 ∨ -size < at' then 112 else 0
def allSet (b : List Bool) (from' n : Nat) : Bool := (List.range n).all fun j => b.getD (from' + j) false
def setAll (b : List Bool) (from' n : Nat) : List Bool := b.mapIdx fun j x => x || (decide (from' ≤ j) && decide (j < from' + n))
def readErr (b : List Bool) (at' : Int) (size : Int) : Int := if partErr at' size ≠ 0 then partErr at' size else if allSet b (512 + at').toNat size.toNat then 0 else 110
def Pl.with (p : Pl) (r : Int) (s : Sp) : Pl := if (p.reg r).k = 1 then p.put r ⟨1,s⟩ else { p with least := max p.least s.lo.toInt }
/-- what a conditional jump tells of one of its ends -/
def ended (i : Ins) (p : Pl) (yes : Bool) (m n : Sp) : Option Pl :=
 (sif i.op i.narrow yes m n).map fun xy => if i.useImm then p.with i.dst xy.1 else if i.src ≠ i.dst then (p.with i.dst xy.1).with i.src xy.2 else p
def loadErr (i : Ins) (p : Pl) : Int :=
 if (p.reg i.src).k = 3 then readErr p.bytes (frameAt (p.reg i.src) i) i.size
 else if (p.reg i.src).k = 2 then (if (65535#64).ult (p.reg i.src).s.hi then 112 else if (p.reg i.src).s.lo.toInt + i.off < 0 ∨ p.least < (p.reg i.src).s.hi.toInt + i.off + i.size then 112 else 0)
 else if (asN p (p.reg i.src)).1 ≠ 0 then (asN p (p.reg i.src)).1 else 111
def putErr (i : Ins) (p : Pl) : Int :=
 if (p.reg i.dst).k = 0 ∨ (second i p).k = 0 then 110 else if (p.reg i.dst).k = 2 then 114 else if (p.reg i.dst).k ≠ 3 then 111 else if (asN p (second i p)).1 ≠ 0 then (asN p (second i p)).1 else partErr (frameAt (p.reg i.dst) i) i.size
def kof (i : Ins) (p : Pl) : Kn × Int := kdo i.op i.narrow (p.reg i.dst) (if i.op = 13 then Kn.none else second i p)
def loaded (i : Ins) : Kn := ⟨1,⟨0,ones >>> (64 - 8 * i.size).toNat⟩⟩
def Pl.wrote (p : Pl) (i : Ins) : Pl := { p with bytes := setAll p.bytes (512 + frameAt (p.reg i.dst) i).toNat i.size.toNat }
/-- an instruction at a place: an error; or what it tells of the next place, of the one that is jumped to -/
def cstep (i : Ins) (p : Pl) : Int × Option Pl × Option Pl :=
 if i.op = 14 then (if loadErr i p ≠ 0 then (loadErr i p,none,none) else (0,some (p.put i.dst (loaded i)),none))
 else if i.op = 15 then (if putErr i p ≠ 0 then (putErr i p,none,none) else (0,some (p.wrote i),none))
 else if i.op = 16 then (0,none,some p)
 else if i.op = 28 then ((asN p (p.reg 0)).1,none,none)
 else if i.op ≤ 13 then (if (kof i p).2 ≠ 0 then ((kof i p).2,none,none) else (0,some (p.put i.dst (kof i p).1),none))
 else if (p.reg i.dst).k = 0 ∨ (second i p).k = 0 then (110,none,none)
 else if (asN p (p.reg i.dst)).1 ≠ 0 then ((asN p (p.reg i.dst)).1,none,none)
 else if (asN p (second i p)).1 ≠ 0 then ((asN p (second i p)).1,none,none)
 else (0,ended i p false (asN p (p.reg i.dst)).2 (asN p (second i p)).2,ended i p true (asN p (p.reg i.dst)).2 (asN p (second i p)).2)
/-- what is told of places -/
def told (ps : List Pl) (at' : Nat) (p : Option Pl) : List Pl := match p with
 | none => ps
 | some p => ps.set at' ((ps.getD at' Pl.dead).tell p)
/-- one place is gone through -/
def pstep (l : List Ins) (at' : Nat) (ps : List Pl) : Int × List Pl := match l[at']? with
 | none => (0,ps)
 | some i => if (ps.getD at' Pl.dead).live then
   let r := cstep i (ps.getD at' Pl.dead)
   if r.1 ≠ 0 then (r.1,ps) else (0,told (told ps (at' + 1) r.2.1) (at' + 1 + i.off.toNat) r.2.2)
  else (0,ps)
/-- so many places more are gone through: an error and where, and the places -/
def psteps (l : List Ins) : Nat → Nat → List Pl → (Int × Nat) × List Pl
 | 0,_,ps => ((0,0),ps)
 | n + 1,at',ps => if (pstep l at' ps).1 ≠ 0 then (((pstep l at' ps).1,at'),ps) else psteps l n (at' + 1) (pstep l at' ps).2

/-! ### the machine -/
structure Mc where
 regs : List (Int × U)
 stk : List B
 set : List Bool
 at' : Nat
 verdict : Option U
def Mc.reg (m : Mc) (r : Int) : Int × U := m.regs.getD r.toNat (0,0)
def Mc.put (m : Mc) (r : Int) (v : Int × U) : Mc := { m with regs := m.regs.set r.toNat v }
/-- a number's bytes, the highest first -/
def gets (b : List B) (at' n : Nat) : U := (List.range n).foldl (fun s j => s ||| ((b.getD (at' + j) 0).setWidth 64 <<< (8 * (n - 1 - j)))) 0
def puts (b : List B) (at' n : Nat) (v : U) : List B := b.mapIdx fun j x => if at' ≤ j ∧ j < at' + n then (v >>> (8 * (n - 1 - (j - at')))).setWidth 8 else x
def getErr (len : Nat) (at' size : Int) : Int := if sized size = false then 2 else if at' < 0 ∨ (len : Int) - size < at' then 112 else 0
/-- where bytes of the stack begin; or the error -/
def frameErr (n : U) (i : Ins) : Int := if (n + wide i.off).toInt + 512 < 0 ∨ 512 - i.size < (n + wide i.off).toInt + 512 then 112 else 0
def esecond (i : Ins) (m : Mc) : Int × U := if i.useImm then (1,wide i.imm) else m.reg i.src
/-- are registers set: those asked for ahead, and the second part's -/
def unset (m : Mc) (r : Int) : Bool := decide ((m.reg r).1 = 0)
def secErr (i : Ins) (m : Mc) : Int := if !i.useImm && unset m i.src then 110 else 0
def estep (pk : List B) (i : Ins) (m : Mc) : Int × Mc :=
 if i.op = 12 then
  let b := esecond i m
  if secErr i m ≠ 0 then (110,m)
  else if i.narrow && decide (b.1 ≠ 1) then (114,m)
  else (0,m.put i.dst (b.1,if i.narrow then (low b.2).setWidth 64 else b.2))
 else if i.op = 13 then
  let a := m.reg i.dst
  if unset m i.dst then (110,m) else if a.1 ≠ 1 then (114,m) else (0,m.put i.dst (a.1,ado 13 i.narrow a.2 0))
 else if i.op = 14 then
  let p := m.reg i.src
  if unset m i.src then (110,m)
  else if p.1 = 1 then (111,m)
  else if p.1 = 2 then
   let at' := (p.2 + wide i.off).toInt
   if getErr pk.length at' i.size ≠ 0 then (getErr pk.length at' i.size,m) else (0,m.put i.dst (1,gets pk at'.toNat i.size.toNat))
  else
   let at' := ((p.2 + wide i.off).toInt + 512).toNat
   if frameErr p.2 i ≠ 0 then (112,m) else if allSet m.set at' i.size.toNat = false then (110,m) else (0,m.put i.dst (1,gets m.stk at' i.size.toNat))
 else if i.op = 15 then
  let p := m.reg i.dst
  let b := esecond i m
  if unset m i.dst || decide (secErr i m ≠ 0) then (110,m)
  else if p.1 = 2 then (114,m)
  else if p.1 = 1 ∨ b.1 ≠ 1 then (111,m)
  else
   let at' := ((p.2 + wide i.off).toInt + 512).toNat
   if frameErr p.2 i ≠ 0 then (112,m) else (0,{ m with set := setAll m.set at' i.size.toNat,stk := puts m.stk at' i.size.toNat b.2 })
 else if i.op = 16 then (0,{ m with at' := m.at' + i.off.toNat })
 else if i.op = 28 then (if unset m 0 then (110,m) else if (m.reg 0).1 ≠ 1 then (111,m) else (0,{ m with verdict := some (m.reg 0).2 }))
 else if i.op < 12 then
  let a := m.reg i.dst
  let b := esecond i m
  if unset m i.dst || decide (secErr i m ≠ 0) then (110,m)
  else if b.1 ≠ 1 ∨ (a.1 ≠ 1 ∧ ¬ ((i.op = 1 ∨ i.op = 2) ∧ i.narrow = false)) then (114,m)
  else if aerr i.op i.narrow b.2 ≠ 0 then (aerr i.op i.narrow b.2,m) else (0,m.put i.dst (a.1,ado i.op i.narrow a.2 b.2))
 else
  let a := m.reg i.dst
  let b := esecond i m
  if unset m i.dst || decide (secErr i m ≠ 0) then (110,m)
  else if a.1 ≠ 1 ∨ b.1 ≠ 1 then (111,m)
  else (0,if ais i.op i.narrow a.2 b.2 then { m with at' := m.at' + i.off.toNat } else m)
def Mc.start (len : Nat) : Mc := ⟨[(0,0),(2,0),(1,BitVec.ofNat 64 len),(0,0),(0,0),(0,0),(0,0),(0,0),(0,0),(0,0),(3,0)],List.replicate 512 0,List.replicate 512 false,0,none⟩
end Go.Proofs.YtfeipbgnjainlaaGreat.T
/- (made by gentwords.py) Laws of Go's operators on opaque words of 64 and of 32 bits, further: what the filters' layers need. Plain lemmas over any program. -/
namespace Go.Proofs.YtfeipbgnjainlaaGreat.K
open Go Go.RowKit

def S32 (x : BitVec 32) : Value := .int .i32 x.toInt
def S64 (x : BitVec 64) : Value := .int .i64 x.toInt
section
variable (t : TypeId) (x y : BitVec 32)
theorem W32_sub : binOp .sub t (W32 x) (W32 y) = pure (W32 (x - y)) := by
 have h : IntKind.u32.wrap ((x.toNat : Int) - (y.toNat : Int)) = ((x - y).toNat : Int) := by
  rw [wrap_u32',BitVec.toNat_sub]
  have := x.isLt
  have := y.isLt
  omega
 simp only [W32,binOp_sub,Op.intArith,h]
theorem W32_nz (hy : y ≠ 0#32) : ¬ (y.toNat : Int) = 0 := fun e => hy (BitVec.eq_of_toNat_eq (by simpa using e))
theorem W32_quo (hy : y ≠ 0#32) : binOp .quo t (W32 x) (W32 y) = pure (W32 (x / y)) := by
 have h0 := W32_nz y hy
 have h : IntKind.u32.wrap ((x.toNat : Int).tdiv (y.toNat : Int)) = ((x / y).toNat : Int) := by
  rw [show (x.toNat : Int).tdiv (y.toNat : Int) = ((x.toNat / y.toNat : Nat) : Int) from rfl,wrap_u32_nat,BitVec.toNat_ofNat,BitVec.toNat_udiv]
  have h2 := Nat.div_le_self x.toNat y.toNat
  have h3 := x.isLt
  rw [Nat.mod_eq_of_lt (by omega)]
 rw [show binOp .quo t (W32 x) (W32 y) = Op.intDiv .quo .u32 (x.toNat : Int) (y.toNat : Int) from binOp_quo ..]
 unfold Op.intDiv
 rw [if_neg (by simpa using h0)]
 simp only [h,W32]
theorem W32_rem (hy : y ≠ 0#32) : binOp .rem t (W32 x) (W32 y) = pure (W32 (x % y)) := by
 have h0 := W32_nz y hy
 have h : (x.toNat : Int).tmod (y.toNat : Int) = ((x % y).toNat : Int) := by
  rw [show (x.toNat : Int).tmod (y.toNat : Int) = ((x.toNat % y.toNat : Nat) : Int) from rfl,BitVec.toNat_umod]
 rw [show binOp .rem t (W32 x) (W32 y) = Op.intDiv .rem .u32 (x.toNat : Int) (y.toNat : Int) from binOp_rem ..]
 unfold Op.intDiv
 rw [if_neg (by simpa using h0)]
 simp only [h,W32]
theorem W32_leq : binOp .leq t (W32 x) (W32 y) = pure (.bool (x.ule y)) := by
 have h : decide ((x.toNat : Int) ≤ (y.toNat : Int)) = x.ule y := by
  unfold BitVec.ule
  rw [decide_eq_decide]; omega
 simp only [W32,binOp_leq,h]
theorem W32_geq : binOp .geq t (W32 x) (W32 y) = pure (.bool (y.ule x)) := by
 have h : decide ((x.toNat : Int) ≥ (y.toNat : Int)) = y.ule x := by
  unfold BitVec.ule
  rw [decide_eq_decide]; omega
 simp only [W32,binOp_geq,h]
theorem W32_shlW : binOp .shl t (W32 x) (W32 y) = pure (W32 (x <<< y.toNat)) := W32_shl' t x .u32 y.toNat
theorem W32_shrW : binOp .shr t (W32 x) (W32 y) = pure (W32 (x >>> y.toNat)) := W32_shr' t x .u32 y.toNat
theorem S32_shrW : binOp .shr t (S32 x) (W32 y) = pure (S32 (x.sshiftRight y.toNat)) := by
 rw [show binOp .shr t (S32 x) (W32 y) = Op.shift .shr .i32 x.toInt .u32 (y.toNat : Int) from rfl,shift_shr_any _ _ _ _ (Int.natCast_nonneg _)]
 simp only [Int.toNat_natCast,IntKind.bits]
 have e : (x.sshiftRight y.toNat).toInt = x.toInt / 2 ^ min y.toNat 32 := by
  rw [BitVec.toInt_sshiftRight,Int.shiftRight_eq_div_pow]
  rcases Nat.le_total y.toNat 32 with h | h
  ·rw [Nat.min_eq_left h]; simp
  ·rw [Nat.min_eq_right h]
   have b1 : x.toInt < 2147483648 := x.toInt_lt
   have b2 : -2147483648 ≤ x.toInt := x.le_toInt
   have hp : (2 : Nat) ^ 32 ≤ 2 ^ y.toNat := Nat.pow_le_pow_right (by omega) h
   have hq : ((2 : Int) ^ 32) = 4294967296 := by decide
   rw [hq]
   generalize 2 ^ y.toNat = p at hp
   by_cases hn : x.toInt < 0
   ·have e1 : x.toInt / (p : Int) = -1 := by
     rw [Int.ediv_eq_iff_of_pos (by omega)]
     omega
    rw [e1]; omega
   ·rw [Int.ediv_eq_zero_of_lt (by omega) (by omega)]; omega
 rw [S32,e]
theorem S32_lss : binOp .lss t (S32 x) (S32 y) = pure (.bool (x.slt y)) := by
 simp only [S32,binOp_lss,BitVec.slt]
theorem S32_gtr : binOp .gtr t (S32 x) (S32 y) = pure (.bool (y.slt x)) := by
 simp only [S32,binOp_gtr,BitVec.slt,gt_iff_lt]
theorem S32_leq : binOp .leq t (S32 x) (S32 y) = pure (.bool (x.sle y)) := by
 simp only [S32,binOp_leq,BitVec.sle]
theorem S32_geq : binOp .geq t (S32 x) (S32 y) = pure (.bool (y.sle x)) := by
 simp only [S32,binOp_geq,BitVec.sle,ge_iff_le]
end
section
variable (t : TypeId) (x y : BitVec 64)
theorem W64_sub : binOp .sub t (W64 x) (W64 y) = pure (W64 (x - y)) := by
 have h : IntKind.u64.wrap ((x.toNat : Int) - (y.toNat : Int)) = ((x - y).toNat : Int) := by
  rw [wrap_u64',BitVec.toNat_sub]
  have := x.isLt
  have := y.isLt
  omega
 simp only [W64,binOp_sub,Op.intArith,h]
theorem W64_nz (hy : y ≠ 0#64) : ¬ (y.toNat : Int) = 0 := fun e => hy (BitVec.eq_of_toNat_eq (by simpa using e))
theorem W64_quo (hy : y ≠ 0#64) : binOp .quo t (W64 x) (W64 y) = pure (W64 (x / y)) := by
 have h0 := W64_nz y hy
 have h : IntKind.u64.wrap ((x.toNat : Int).tdiv (y.toNat : Int)) = ((x / y).toNat : Int) := by
  rw [show (x.toNat : Int).tdiv (y.toNat : Int) = ((x.toNat / y.toNat : Nat) : Int) from rfl,wrap_u64_nat,BitVec.toNat_ofNat,BitVec.toNat_udiv]
  have h2 := Nat.div_le_self x.toNat y.toNat
  have h3 := x.isLt
  rw [Nat.mod_eq_of_lt (by omega)]
 rw [show binOp .quo t (W64 x) (W64 y) = Op.intDiv .quo .u64 (x.toNat : Int) (y.toNat : Int) from binOp_quo ..]
 unfold Op.intDiv
 rw [if_neg (by simpa using h0)]
 simp only [h,W64]
theorem W64_rem (hy : y ≠ 0#64) : binOp .rem t (W64 x) (W64 y) = pure (W64 (x % y)) := by
 have h0 := W64_nz y hy
 have h : (x.toNat : Int).tmod (y.toNat : Int) = ((x % y).toNat : Int) := by
  rw [show (x.toNat : Int).tmod (y.toNat : Int) = ((x.toNat % y.toNat : Nat) : Int) from rfl,BitVec.toNat_umod]
 rw [show binOp .rem t (W64 x) (W64 y) = Op.intDiv .rem .u64 (x.toNat : Int) (y.toNat : Int) from binOp_rem ..]
 unfold Op.intDiv
 rw [if_neg (by simpa using h0)]
 simp only [h,W64]
theorem W64_leq : binOp .leq t (W64 x) (W64 y) = pure (.bool (x.ule y)) := by
 have h : decide ((x.toNat : Int) ≤ (y.toNat : Int)) = x.ule y := by
  unfold BitVec.ule
  rw [decide_eq_decide]; omega
 simp only [W64,binOp_leq,h]
theorem W64_geq : binOp .geq t (W64 x) (W64 y) = pure (.bool (y.ule x)) := by
 have h : decide ((x.toNat : Int) ≥ (y.toNat : Int)) = y.ule x := by
  unfold BitVec.ule
  rw [decide_eq_decide]; omega
 simp only [W64,binOp_geq,h]
theorem W64_shlW : binOp .shl t (W64 x) (W64 y) = pure (W64 (x <<< y.toNat)) := W64_shl' t x .u64 y.toNat
theorem W64_shrW : binOp .shr t (W64 x) (W64 y) = pure (W64 (x >>> y.toNat)) := W64_shr' t x .u64 y.toNat
theorem S64_shrW : binOp .shr t (S64 x) (W64 y) = pure (S64 (x.sshiftRight y.toNat)) := by
 rw [show binOp .shr t (S64 x) (W64 y) = Op.shift .shr .i64 x.toInt .u64 (y.toNat : Int) from rfl,shift_shr_any _ _ _ _ (Int.natCast_nonneg _)]
 simp only [Int.toNat_natCast,IntKind.bits]
 have e : (x.sshiftRight y.toNat).toInt = x.toInt / 2 ^ min y.toNat 64 := by
  rw [BitVec.toInt_sshiftRight,Int.shiftRight_eq_div_pow]
  rcases Nat.le_total y.toNat 64 with h | h
  ·rw [Nat.min_eq_left h]; simp
  ·rw [Nat.min_eq_right h]
   have b1 : x.toInt < 9223372036854775808 := x.toInt_lt
   have b2 : -9223372036854775808 ≤ x.toInt := x.le_toInt
   have hp : (2 : Nat) ^ 64 ≤ 2 ^ y.toNat := Nat.pow_le_pow_right (by omega) h
   have hq : ((2 : Int) ^ 64) = 18446744073709551616 := by decide
   rw [hq]
   generalize 2 ^ y.toNat = p at hp
   by_cases hn : x.toInt < 0
   ·have e1 : x.toInt / (p : Int) = -1 := by
     rw [Int.ediv_eq_iff_of_pos (by omega)]
     omega
    rw [e1]; omega
   ·rw [Int.ediv_eq_zero_of_lt (by omega) (by omega)]; omega
 rw [S64,e]
theorem S64_lss : binOp .lss t (S64 x) (S64 y) = pure (.bool (x.slt y)) := by
 simp only [S64,binOp_lss,BitVec.slt]
theorem S64_gtr : binOp .gtr t (S64 x) (S64 y) = pure (.bool (y.slt x)) := by
 simp only [S64,binOp_gtr,BitVec.slt,gt_iff_lt]
theorem S64_leq : binOp .leq t (S64 x) (S64 y) = pure (.bool (x.sle y)) := by
 simp only [S64,binOp_leq,BitVec.sle]
theorem S64_geq : binOp .geq t (S64 x) (S64 y) = pure (.bool (y.sle x)) := by
 simp only [S64,binOp_geq,BitVec.sle,ge_iff_le]
end
theorem W64_neg (x : BitVec 64) : Op.unary .neg (W64 x) = pure (W64 (-x)) := by
 have h : IntKind.u64.wrap (0 - (x.toNat : Int)) = ((-x).toNat : Int) := by
  rw [wrap_u64',BitVec.toNat_neg]
  have := x.isLt
  omega
 show Op.intArith .sub .u64 0 (x.toNat : Int) = _
 simp [Op.intArith]
 exact congrArg (fun z => (pure (Value.int .u64 z) : Sem Value)) (by simpa using h)
section
variable {P : Program} (w : World) (src dst : TypeId)
theorem conv_W64_W32 (x : BitVec 64) (hs : P.underlying src = some (.int .u64)) (hd : P.underlying dst = some (.int .u32)) : (convert src dst (W64 x)).run P w = .ok (W32 (T.low x)) w := by
 have h : IntKind.u32.wrap (x.toNat : Int) = ((T.low x).toNat : Int) := by
  rw [wrap_u32_nat,BitVec.toNat_ofNat,T.low,BitVec.toNat_setWidth]
 simp [convert,run_underlying hs,run_underlying hd,Conv.intToInt,W64,W32,h]
theorem conv_W32_W64 (x : BitVec 32) (hs : P.underlying src = some (.int .u32)) (hd : P.underlying dst = some (.int .u64)) : (convert src dst (W32 x)).run P w = .ok (W64 (x.setWidth 64)) w := by
 have h : IntKind.u64.wrap (x.toNat : Int) = ((x.setWidth 64).toNat : Int) := by
  rw [wrap_u64_nat,BitVec.toNat_ofNat,BitVec.toNat_setWidth]
 simp [convert,run_underlying hs,run_underlying hd,Conv.intToInt,W64,W32,h]
theorem wrap_i32_nat (x : BitVec 32) : IntKind.i32.wrap (x.toNat : Int) = x.toInt := by
 have h := x.isLt
 simp only [IntKind.wrap,IntKind.bits,IntKind.signed,BitVec.toInt_eq_toNat_cond]
 simp
 split <;> split <;> omega
theorem wrap_i64_nat (x : BitVec 64) : IntKind.i64.wrap (x.toNat : Int) = x.toInt := by
 have h := x.isLt
 simp only [IntKind.wrap,IntKind.bits,IntKind.signed,BitVec.toInt_eq_toNat_cond]
 simp
 split <;> split <;> omega
theorem conv_W32_S32 (x : BitVec 32) (hs : P.underlying src = some (.int .u32)) (hd : P.underlying dst = some (.int .i32)) : (convert src dst (W32 x)).run P w = .ok (S32 x) w := by
 simp [convert,run_underlying hs,run_underlying hd,Conv.intToInt,W32,S32,wrap_i32_nat]
theorem conv_W64_S64 (x : BitVec 64) (hs : P.underlying src = some (.int .u64)) (hd : P.underlying dst = some (.int .i64)) : (convert src dst (W64 x)).run P w = .ok (S64 x) w := by
 simp [convert,run_underlying hs,run_underlying hd,Conv.intToInt,W64,S64,wrap_i64_nat]
theorem wrap_u32_toInt (x : BitVec 32) : IntKind.u32.wrap x.toInt = (x.toNat : Int) := by
 have h := x.isLt
 rw [wrap_u32',BitVec.toInt_eq_toNat_cond]
 split <;> omega
theorem wrap_u64_toInt (x : BitVec 64) : IntKind.u64.wrap x.toInt = (x.toNat : Int) := by
 have h := x.isLt
 rw [wrap_u64',BitVec.toInt_eq_toNat_cond]
 split <;> omega
theorem conv_S32_W32 (x : BitVec 32) (hs : P.underlying src = some (.int .i32)) (hd : P.underlying dst = some (.int .u32)) : (convert src dst (S32 x)).run P w = .ok (W32 x) w := by
 simp [convert,run_underlying hs,run_underlying hd,Conv.intToInt,W32,S32,wrap_u32_toInt]
theorem conv_S64_W64 (x : BitVec 64) (hs : P.underlying src = some (.int .i64)) (hd : P.underlying dst = some (.int .u64)) : (convert src dst (S64 x)).run P w = .ok (W64 x) w := by
 simp [convert,run_underlying hs,run_underlying hd,Conv.intToInt,W64,S64,wrap_u64_toInt]
theorem wrap_u64_int (z : Int) : IntKind.u64.wrap z = ((T.wide z).toNat : Int) := by
 rw [wrap_u64',T.wide,BitVec.toNat_ofInt]
 omega
end
section
variable {P : Program} (w : World) (ts : Array TypeId) (t : TypeId) (x y : BitVec 64)
theorem W64_max : (Builtin.max_ ts t #[W64 x,W64 y]).run P w = .ok (W64 (T.umax x y)) w := by
 rw [W64,W64,run_max_int2]
 congr 1
 unfold T.umax BitVec.ult W64
 by_cases h : x.toNat < y.toNat
 ·rw [if_pos (by omega),if_pos (by simpa using h)]
 ·rw [if_neg (by omega),if_neg (by simpa using h)]
theorem W64_min : (Builtin.min_ ts t #[W64 x,W64 y]).run P w = .ok (W64 (T.umin x y)) w := by
 rw [W64,W64,run_min_int2]
 congr 1
 unfold T.umin BitVec.ult W64
 by_cases h : y.toNat < x.toNat
 ·rw [if_pos (by omega),if_pos (by simpa using h)]
 ·rw [if_neg (by omega),if_neg (by simpa using h)]
end
attribute [go_sem ↓ high] W32_sub W32_quo W32_rem W32_leq W32_geq W32_shlW W32_shrW S32_shrW S32_lss S32_gtr S32_leq S32_geq W64_sub W64_quo W64_rem W64_leq W64_geq W64_shlW W64_shrW S64_shrW S64_lss S64_gtr S64_leq S64_geq W64_neg conv_W64_W32 conv_W32_W64 conv_W32_S32 conv_W64_S64 conv_S32_W32 conv_S64_W64 W64_max W64_min
/-! ### constants -/
theorem lit64_0 : Value.int .u64 0 = W64 0#64 := rfl
theorem lit64_1 : Value.int .u64 1 = W64 1#64 := rfl
theorem lit64_8 : Value.int .u64 8 = W64 8#64 := rfl
theorem lit64_16 : Value.int .u64 16 = W64 16#64 := rfl
theorem lit64_31 : Value.int .u64 31 = W64 31#64 := rfl
theorem lit64_32 : Value.int .u64 32 = W64 32#64 := rfl
theorem lit64_63 : Value.int .u64 63 = W64 63#64 := rfl
theorem lit64_64 : Value.int .u64 64 = W64 64#64 := rfl
theorem lit64_65535 : Value.int .u64 65535 = W64 65535#64 := rfl
theorem lit64_4294967295 : Value.int .u64 4294967295 = W64 4294967295#64 := rfl
theorem lit64_18446744073709551615 : Value.int .u64 18446744073709551615 = W64 18446744073709551615#64 := rfl
theorem lit32_0 : Value.int .u32 0 = W32 0#32 := rfl
theorem lit32_32 : Value.int .u32 32 = W32 32#32 := rfl
attribute [go_sem] lit64_0 lit64_1 lit64_8 lit64_16 lit64_31 lit64_32 lit64_63 lit64_64 lit64_65535 lit64_4294967295 lit64_18446744073709551615 lit32_0 lit32_32
end Go.Proofs.YtfeipbgnjainlaaGreat.K
/- Maps from small numbers, made by a literal: what is put, what is looked up. Plain lemmas over any program. -/
namespace Go.Proofs.YtfeipbgnjainlaaGreat.K
open Go Go.RowKit Go.Maps

/-- a closure -/
def fnC (f : FuncId) (caps : Array Value) : Value := .func (.func f) #[] caps
theorem setBlock_allocT (w : World) (o o' : Obj) : Go.ChangeMaps.setBlock (w.alloc o) w.heap.size o' = w.alloc o' := by
 have h : (w.heap.push o).setIfInBounds w.heap.size o' = w.heap.push o' := by
  apply Array.toList_inj.1
  rw [Array.toList_setIfInBounds,Array.toList_push,Array.toList_push,List.set_append_right _ _ (by simp)]
  simp
 exact congrArg (fun x => ({ w with heap := x } : World)) h
def ment (p : (Int × Value) × Nat) : MapEntry := { key := .int .u8 p.1.1,val := p.1.2,born := p.2 }
/-- entries of a map, in the order in which they were put -/
def mes (l : List (Int × Value)) : Array MapEntry := (l.zipIdx.map ment).toArray
theorem mes_snoc (l : List (Int × Value)) (p : Int × Value) : mes (l ++ [p]) = (mes l).push { key := .int .u8 p.1,val := p.2,born := l.length } := by
 simp [mes,List.zipIdx_append,ment]
theorem findNow_mes (n : Int) : ∀ (l : List (Int × Value)) (i j : Nat),(∀ p ∈ l,p.1 ≠ n) → Instr.findNow (.int .u8) (.int .u8 n) ((l.zipIdx j).map ment) i = some none
 | [],i,j,_ => rfl
 | p :: l,i,j,h => by
  have h1 : (n == p.1) = false := by rw [beq_eq_false_iff_ne]; exact fun e => h p (List.mem_cons_self ..) e.symm
  have ih := findNow_mes n l (i + 1) (j + 1) (fun q hq => h q (List.mem_cons_of_mem _ hq))
  simp only [List.zipIdx_cons,List.map_cons,Instr.findNow,ment,Instr.sameNow,h1]
  exact ih
theorem findNow_hit (n : Int) (v : Value) : ∀ (l : List (Int × Value)) (i j : Nat),(n,v) ∈ l → (l.Pairwise fun p q => p.1 ≠ q.1) → ∃ k,Instr.findNow (.int .u8) (.int .u8 n) ((l.zipIdx j).map ment) i = some (some (k,v))
 | [],_,_,h,_ => by cases h
 | p :: l,i,j,h,hp => by
  by_cases e : p.1 = n
  ·have e2 : p = (n,v) := by
    rcases List.mem_cons.1 h with h | h
    ·exact h.symm
    ·exact absurd e ((List.pairwise_cons.1 hp).1 _ h)
   subst e2
   refine ⟨i,?_⟩
   have h1 : (n == n) = true := beq_self_eq_true n
   have h2 : Instr.sameNow (.int .u8) (.int .u8 n) (.int .u8 n) = some true := by simp [Instr.sameNow]
   show Instr.findNow (.int .u8) (.int .u8 n) (ment ((n,v),j) :: (l.zipIdx (j + 1)).map ment) i = _
   unfold Instr.findNow ment
   rw [h2]
  ·have h1 : (n == p.1) = false := by rw [beq_eq_false_iff_ne]; exact fun e2 => e e2.symm
   have h2 : (n,v) ∈ l := by
    rcases List.mem_cons.1 h with h | h
    ·rw [← h] at e; exact absurd rfl e
    ·exact h
   obtain ⟨k,hk⟩ := findNow_hit n v l (i + 1) (j + 1) h2 (List.pairwise_cons.1 hp).2
   refine ⟨k,?_⟩
   simp only [List.zipIdx_cons,List.map_cons,Instr.findNow,ment,Instr.sameNow,h1]
   exact hk
theorem key_wf {n : Int} (h0 : 0 ≤ n) (h1 : n ≤ 255) : (Lit.int .u8 n).wf = true := by
 simp [Lit.wf,IntKind.min,IntKind.max,IntKind.bits,IntKind.signed]
 omega
section
variable {P : Program} {t k e : TypeId}
theorem put_mes (ht : P.underlying t = some (.map k e)) (hk : P.underlying k = some (.int .u8)) (w : World) (l : List (Int × Value)) (n : Int) (v : Value) (h0 : 0 ≤ n) (h1 : n ≤ 255) (hf : ∀ p ∈ l,p.1 ≠ n) :
  (Instr.mapUpdate t (.map (some w.heap.size)) (.int .u8 n) v).run P (w.alloc (.map (mes l) l.length)) = .ok () (w.alloc (.map (mes (l ++ [(n,v)])) (l.length + 1))) := by
 have hb := (MapKept.heap_alloc w (.map (mes l) l.length)).1
 have hf2 : Instr.findNow (.int .u8) (.int .u8 n) (mes l).toList 0 = some none := findNow_mes n l 0 0 hf
 rw [mes_snoc]
 simp [Instr.mapUpdate,run_underlying ht,MapKept.run_getObj_map hb,(int_keyed hk).check _ false (keyOf_int_mk hk (key_wf h0 h1)),Instr.findKey,run_underlying hk,hf2,MapKept.run_setObj_map _ hb,Result.andThen]
 exact setBlock_allocT _ _ _
theorem look_mes (ht : P.underlying t = some (.map k e)) (hk : P.underlying k = some (.int .u8)) {w : World} {g : Nat} {l : List (Int × Value)} {c : Nat} (hb : w.heap[g]? = some (.map (mes l) c)) (n : Int) (v : Value) (h0 : 0 ≤ n) (h1 : n ≤ 255) (hm : (n,v) ∈ l) (hp : l.Pairwise fun p q => p.1 ≠ q.1) :
  (Instr.lookup t (.map (some g)) (.int .u8 n) true).run P w = .ok (.tuple #[v,.bool true]) w := by
 obtain ⟨i,hf⟩ := findNow_hit n v l 0 0 hm hp
 have hf2 : Instr.findNow (.int .u8) (.int .u8 n) (mes l).toList 0 = some (some (i,v)) := hf
 simp [Instr.lookup,run_underlying ht,MapKept.run_getObj_map hb,(int_keyed hk).check _ _ (keyOf_int_mk hk (key_wf h0 h1)),Instr.findKey,run_underlying hk,hf2,Result.andThen]
theorem look_mes1 (ht : P.underlying t = some (.map k e)) (hk : P.underlying k = some (.int .u8)) {w : World} {g : Nat} {l : List (Int × Value)} {c : Nat} (hb : w.heap[g]? = some (.map (mes l) c)) (n : Int) (v : Value) (h0 : 0 ≤ n) (h1 : n ≤ 255) (hm : (n,v) ∈ l) (hp : l.Pairwise fun p q => p.1 ≠ q.1) :
  (Instr.lookup t (.map (some g)) (.int .u8 n) false).run P w = .ok v w := by
 obtain ⟨i,hf⟩ := findNow_hit n v l 0 0 hm hp
 have hf2 : Instr.findNow (.int .u8) (.int .u8 n) (mes l).toList 0 = some (some (i,v)) := hf
 simp [Instr.lookup,run_underlying ht,MapKept.run_getObj_map hb,(int_keyed hk).check _ _ (keyOf_int_mk hk (key_wf h0 h1)),Instr.findKey,run_underlying hk,hf2,Result.andThen]
theorem look_none2 (ht : P.underlying t = some (.map k e)) (hk : P.underlying k = some (.int .u8)) {w : World} {g : Nat} {l : List (Int × Value)} {c : Nat} (hb : w.heap[g]? = some (.map (mes l) c)) (n : Int) (z : Value) (hz : (zeroValue e).run P w = .ok z w) (h0 : 0 ≤ n) (h1 : n ≤ 255) (hf : ∀ p ∈ l,p.1 ≠ n) :
  (Instr.lookup t (.map (some g)) (.int .u8 n) true).run P w = .ok (.tuple #[z,.bool false]) w := by
 have hf2 : Instr.findNow (.int .u8) (.int .u8 n) (mes l).toList 0 = some none := findNow_mes n l 0 0 hf
 simp [Instr.lookup,run_underlying ht,MapKept.run_getObj_map hb,(int_keyed hk).check _ _ (keyOf_int_mk hk (key_wf h0 h1)),Instr.findKey,run_underlying hk,hf2,hz,Result.andThen]
theorem look_none1 (ht : P.underlying t = some (.map k e)) (hk : P.underlying k = some (.int .u8)) {w : World} {g : Nat} {l : List (Int × Value)} {c : Nat} (hb : w.heap[g]? = some (.map (mes l) c)) (n : Int) (z : Value) (hz : (zeroValue e).run P w = .ok z w) (h0 : 0 ≤ n) (h1 : n ≤ 255) (hf : ∀ p ∈ l,p.1 ≠ n) :
  (Instr.lookup t (.map (some g)) (.int .u8 n) false).run P w = .ok z w := by
 have hf2 : Instr.findNow (.int .u8) (.int .u8 n) (mes l).toList 0 = some none := findNow_mes n l 0 0 hf
 simp [Instr.lookup,run_underlying ht,MapKept.run_getObj_map hb,(int_keyed hk).check _ _ (keyOf_int_mk hk (key_wf h0 h1)),Instr.findKey,run_underlying hk,hf2,hz,Result.andThen]
end
end Go.Proofs.YtfeipbgnjainlaaGreat.K
/- (made by gentalu.py) The contracts of alu.do's closures, 32 bits. -/
set_option maxRecDepth 100000
set_option maxHeartbeats 1000000
namespace Go.Proofs.YtfeipbgnjainlaaGreat.K
open Go Go.RowKit Go.Maps

theorem clo32_1 (w : World) (X Y : Nat) (a b : BitVec 32) (hX : w.cell? ⟨X,0,none⟩ = some (W32 (a))) (hY : w.cell? ⟨Y,0,none⟩ = some (W32 (b))) :
  Calls Tryz.prog 149 #[.pointer (some ⟨X,0,none⟩),.pointer (some ⟨Y,0,none⟩)] w fun e w' => e = .returned (W32 (T.adoN 32 1 a b)) ∧ Since w w' := by
 have HFIN := Lib.hid (show ∀ q,Since w (w.drewN q) from fun q => below_drewN (Below.refl _ _) q)
 go_enter Tryz.func149,Tryz.ntmps149
 go_wp2
 go_ret
 exact ⟨rfl,HFIN.out 0⟩
theorem clo32_2 (w : World) (X Y : Nat) (a b : BitVec 32) (hX : w.cell? ⟨X,0,none⟩ = some (W32 (a))) (hY : w.cell? ⟨Y,0,none⟩ = some (W32 (b))) :
  Calls Tryz.prog 150 #[.pointer (some ⟨X,0,none⟩),.pointer (some ⟨Y,0,none⟩)] w fun e w' => e = .returned (W32 (T.adoN 32 2 a b)) ∧ Since w w' := by
 have HFIN := Lib.hid (show ∀ q,Since w (w.drewN q) from fun q => below_drewN (Below.refl _ _) q)
 go_enter Tryz.func150,Tryz.ntmps150
 go_wp2
 go_ret
 exact ⟨rfl,HFIN.out 0⟩
theorem clo32_3 (w : World) (X Y : Nat) (a b : BitVec 32) (hX : w.cell? ⟨X,0,none⟩ = some (W32 (a))) (hY : w.cell? ⟨Y,0,none⟩ = some (W32 (b))) :
  Calls Tryz.prog 151 #[.pointer (some ⟨X,0,none⟩),.pointer (some ⟨Y,0,none⟩)] w fun e w' => e = .returned (W32 (T.adoN 32 3 a b)) ∧ Since w w' := by
 have HFIN := Lib.hid (show ∀ q,Since w (w.drewN q) from fun q => below_drewN (Below.refl _ _) q)
 go_enter Tryz.func151,Tryz.ntmps151
 go_wp2
 go_ret
 exact ⟨rfl,HFIN.out 0⟩
theorem clo32_4 (w : World) (X Y : Nat) (a b : BitVec 32) (hX : w.cell? ⟨X,0,none⟩ = some (W32 (a))) (hY : w.cell? ⟨Y,0,none⟩ = some (W32 (b))) (hb : b ≠ 0#32) :
  Calls Tryz.prog 152 #[.pointer (some ⟨X,0,none⟩),.pointer (some ⟨Y,0,none⟩)] w fun e w' => e = .returned (W32 (T.adoN 32 4 a b)) ∧ Since w w' := by
 have HFIN := Lib.hid (show ∀ q,Since w (w.drewN q) from fun q => below_drewN (Below.refl _ _) q)
 go_enter Tryz.func152,Tryz.ntmps152
 go_wp2
 go_ret
 exact ⟨rfl,HFIN.out 0⟩
theorem clo32_5 (w : World) (X Y : Nat) (a b : BitVec 32) (hX : w.cell? ⟨X,0,none⟩ = some (W32 (a))) (hY : w.cell? ⟨Y,0,none⟩ = some (W32 (b))) (hb : b ≠ 0#32) :
  Calls Tryz.prog 153 #[.pointer (some ⟨X,0,none⟩),.pointer (some ⟨Y,0,none⟩)] w fun e w' => e = .returned (W32 (T.adoN 32 5 a b)) ∧ Since w w' := by
 have HFIN := Lib.hid (show ∀ q,Since w (w.drewN q) from fun q => below_drewN (Below.refl _ _) q)
 go_enter Tryz.func153,Tryz.ntmps153
 go_wp2
 go_ret
 exact ⟨rfl,HFIN.out 0⟩
theorem clo32_6 (w : World) (X Y : Nat) (a b : BitVec 32) (hX : w.cell? ⟨X,0,none⟩ = some (W32 (a))) (hY : w.cell? ⟨Y,0,none⟩ = some (W32 (b))) :
  Calls Tryz.prog 154 #[.pointer (some ⟨X,0,none⟩),.pointer (some ⟨Y,0,none⟩)] w fun e w' => e = .returned (W32 (T.adoN 32 6 a b)) ∧ Since w w' := by
 have HFIN := Lib.hid (show ∀ q,Since w (w.drewN q) from fun q => below_drewN (Below.refl _ _) q)
 go_enter Tryz.func154,Tryz.ntmps154
 go_wp2
 go_ret
 exact ⟨rfl,HFIN.out 0⟩
theorem clo32_7 (w : World) (X Y : Nat) (a b : BitVec 32) (hX : w.cell? ⟨X,0,none⟩ = some (W32 (a))) (hY : w.cell? ⟨Y,0,none⟩ = some (W32 (b))) :
  Calls Tryz.prog 155 #[.pointer (some ⟨X,0,none⟩),.pointer (some ⟨Y,0,none⟩)] w fun e w' => e = .returned (W32 (T.adoN 32 7 a b)) ∧ Since w w' := by
 have HFIN := Lib.hid (show ∀ q,Since w (w.drewN q) from fun q => below_drewN (Below.refl _ _) q)
 go_enter Tryz.func155,Tryz.ntmps155
 go_wp2
 go_ret
 exact ⟨rfl,HFIN.out 0⟩
theorem clo32_8 (w : World) (X Y : Nat) (a b : BitVec 32) (hX : w.cell? ⟨X,0,none⟩ = some (W32 (a))) (hY : w.cell? ⟨Y,0,none⟩ = some (W32 (b))) :
  Calls Tryz.prog 156 #[.pointer (some ⟨X,0,none⟩),.pointer (some ⟨Y,0,none⟩)] w fun e w' => e = .returned (W32 (T.adoN 32 8 a b)) ∧ Since w w' := by
 have HFIN := Lib.hid (show ∀ q,Since w (w.drewN q) from fun q => below_drewN (Below.refl _ _) q)
 go_enter Tryz.func156,Tryz.ntmps156
 go_wp2
 go_ret
 exact ⟨rfl,HFIN.out 0⟩
theorem clo32_9 (w : World) (X Y Z : Nat) (a b : BitVec 32) (hX : w.cell? ⟨X,0,none⟩ = some (W32 (a))) (hY : w.cell? ⟨Y,0,none⟩ = some (W32 (b))) (hZ : w.cell? ⟨Z,0,none⟩ = some (W32 (32#32))) :
  Calls Tryz.prog 157 #[.pointer (some ⟨X,0,none⟩),.pointer (some ⟨Y,0,none⟩),.pointer (some ⟨Z,0,none⟩)] w fun e w' => e = .returned (W32 (T.adoN 32 9 a b)) ∧ Since w w' := by
 have hz : (32#32 : BitVec 32) ≠ 0#32 := by decide
 have HFIN := Lib.hid (show ∀ q,Since w (w.drewN q) from fun q => below_drewN (Below.refl _ _) q)
 go_enter Tryz.func157,Tryz.ntmps157
 go_wp2_with fail
 go_quiet (fail)
 go_wp2
 go_ret
 exact ⟨rfl,HFIN.out _⟩
theorem clo32_10 (w : World) (X Y Z : Nat) (a b : BitVec 32) (hX : w.cell? ⟨X,0,none⟩ = some (W32 (a))) (hY : w.cell? ⟨Y,0,none⟩ = some (W32 (b))) (hZ : w.cell? ⟨Z,0,none⟩ = some (W32 (32#32))) :
  Calls Tryz.prog 158 #[.pointer (some ⟨X,0,none⟩),.pointer (some ⟨Y,0,none⟩),.pointer (some ⟨Z,0,none⟩)] w fun e w' => e = .returned (W32 (T.adoN 32 10 a b)) ∧ Since w w' := by
 have hz : (32#32 : BitVec 32) ≠ 0#32 := by decide
 have HFIN := Lib.hid (show ∀ q,Since w (w.drewN q) from fun q => below_drewN (Below.refl _ _) q)
 go_enter Tryz.func158,Tryz.ntmps158
 go_wp2_with fail
 go_quiet (fail)
 go_wp2
 go_ret
 exact ⟨rfl,HFIN.out _⟩
theorem clo32_11 (w : World) (X Y Z : Nat) (a b : BitVec 32) (hX : w.cell? ⟨X,0,none⟩ = some (W32 (a))) (hY : w.cell? ⟨Y,0,none⟩ = some (W32 (b))) (hZ : w.cell? ⟨Z,0,none⟩ = some (W32 (32#32))) :
  Calls Tryz.prog 159 #[.pointer (some ⟨X,0,none⟩),.pointer (some ⟨Y,0,none⟩),.pointer (some ⟨Z,0,none⟩)] w fun e w' => e = .returned (W32 (T.adoN 32 11 a b)) ∧ Since w w' := by
 have hz : (32#32 : BitVec 32) ≠ 0#32 := by decide
 have HFIN := Lib.hid (show ∀ q,Since w (w.drewN q) from fun q => below_drewN (Below.refl _ _) q)
 go_enter Tryz.func159,Tryz.ntmps159
 go_wp2_with fail
 go_quiet (fail)
 go_wp2
 go_ret
 exact ⟨rfl,HFIN.out _⟩
theorem clo32_12 (w : World) (Y : Nat) (a b : BitVec 32) (hY : w.cell? ⟨Y,0,none⟩ = some (W32 (b))) :
  Calls Tryz.prog 160 #[.pointer (some ⟨Y,0,none⟩)] w fun e w' => e = .returned (W32 (T.adoN 32 12 a b)) ∧ Since w w' := by
 have HFIN := Lib.hid (show ∀ q,Since w (w.drewN q) from fun q => below_drewN (Below.refl _ _) q)
 go_enter Tryz.func160,Tryz.ntmps160
 go_wp2
 go_ret
 exact ⟨rfl,HFIN.out 0⟩
theorem clo32_13 (w : World) (X : Nat) (a b : BitVec 32) (hX : w.cell? ⟨X,0,none⟩ = some (W32 (a))) :
  Calls Tryz.prog 161 #[.pointer (some ⟨X,0,none⟩)] w fun e w' => e = .returned (W32 (T.adoN 32 13 a b)) ∧ Since w w' := by
 have HFIN := Lib.hid (show ∀ q,Since w (w.drewN q) from fun q => below_drewN (Below.refl _ _) q)
 go_enter Tryz.func161,Tryz.ntmps161
 go_wp2
 go_ret
 exact ⟨rfl,HFIN.out 0⟩
end Go.Proofs.YtfeipbgnjainlaaGreat.K
/- (made by gentalu.py) The contracts of alu.do's closures, 64 bits. -/
set_option maxRecDepth 100000
set_option maxHeartbeats 1000000
namespace Go.Proofs.YtfeipbgnjainlaaGreat.K
open Go Go.RowKit Go.Maps

theorem clo64_1 (w : World) (X Y : Nat) (a b : BitVec 64) (hX : w.cell? ⟨X,0,none⟩ = some (W64 (a))) (hY : w.cell? ⟨Y,0,none⟩ = some (W64 (b))) :
  Calls Tryz.prog 162 #[.pointer (some ⟨X,0,none⟩),.pointer (some ⟨Y,0,none⟩)] w fun e w' => e = .returned (W64 (T.adoN 64 1 a b)) ∧ Since w w' := by
 have HFIN := Lib.hid (show ∀ q,Since w (w.drewN q) from fun q => below_drewN (Below.refl _ _) q)
 go_enter Tryz.func162,Tryz.ntmps162
 go_wp2
 go_ret
 exact ⟨rfl,HFIN.out 0⟩
theorem clo64_2 (w : World) (X Y : Nat) (a b : BitVec 64) (hX : w.cell? ⟨X,0,none⟩ = some (W64 (a))) (hY : w.cell? ⟨Y,0,none⟩ = some (W64 (b))) :
  Calls Tryz.prog 163 #[.pointer (some ⟨X,0,none⟩),.pointer (some ⟨Y,0,none⟩)] w fun e w' => e = .returned (W64 (T.adoN 64 2 a b)) ∧ Since w w' := by
 have HFIN := Lib.hid (show ∀ q,Since w (w.drewN q) from fun q => below_drewN (Below.refl _ _) q)
 go_enter Tryz.func163,Tryz.ntmps163
 go_wp2
 go_ret
 exact ⟨rfl,HFIN.out 0⟩
theorem clo64_3 (w : World) (X Y : Nat) (a b : BitVec 64) (hX : w.cell? ⟨X,0,none⟩ = some (W64 (a))) (hY : w.cell? ⟨Y,0,none⟩ = some (W64 (b))) :
  Calls Tryz.prog 164 #[.pointer (some ⟨X,0,none⟩),.pointer (some ⟨Y,0,none⟩)] w fun e w' => e = .returned (W64 (T.adoN 64 3 a b)) ∧ Since w w' := by
 have HFIN := Lib.hid (show ∀ q,Since w (w.drewN q) from fun q => below_drewN (Below.refl _ _) q)
 go_enter Tryz.func164,Tryz.ntmps164
 go_wp2
 go_ret
 exact ⟨rfl,HFIN.out 0⟩
theorem clo64_4 (w : World) (X Y : Nat) (a b : BitVec 64) (hX : w.cell? ⟨X,0,none⟩ = some (W64 (a))) (hY : w.cell? ⟨Y,0,none⟩ = some (W64 (b))) (hb : b ≠ 0#64) :
  Calls Tryz.prog 165 #[.pointer (some ⟨X,0,none⟩),.pointer (some ⟨Y,0,none⟩)] w fun e w' => e = .returned (W64 (T.adoN 64 4 a b)) ∧ Since w w' := by
 have HFIN := Lib.hid (show ∀ q,Since w (w.drewN q) from fun q => below_drewN (Below.refl _ _) q)
 go_enter Tryz.func165,Tryz.ntmps165
 go_wp2
 go_ret
 exact ⟨rfl,HFIN.out 0⟩
theorem clo64_5 (w : World) (X Y : Nat) (a b : BitVec 64) (hX : w.cell? ⟨X,0,none⟩ = some (W64 (a))) (hY : w.cell? ⟨Y,0,none⟩ = some (W64 (b))) (hb : b ≠ 0#64) :
  Calls Tryz.prog 166 #[.pointer (some ⟨X,0,none⟩),.pointer (some ⟨Y,0,none⟩)] w fun e w' => e = .returned (W64 (T.adoN 64 5 a b)) ∧ Since w w' := by
 have HFIN := Lib.hid (show ∀ q,Since w (w.drewN q) from fun q => below_drewN (Below.refl _ _) q)
 go_enter Tryz.func166,Tryz.ntmps166
 go_wp2
 go_ret
 exact ⟨rfl,HFIN.out 0⟩
theorem clo64_6 (w : World) (X Y : Nat) (a b : BitVec 64) (hX : w.cell? ⟨X,0,none⟩ = some (W64 (a))) (hY : w.cell? ⟨Y,0,none⟩ = some (W64 (b))) :
  Calls Tryz.prog 167 #[.pointer (some ⟨X,0,none⟩),.pointer (some ⟨Y,0,none⟩)] w fun e w' => e = .returned (W64 (T.adoN 64 6 a b)) ∧ Since w w' := by
 have HFIN := Lib.hid (show ∀ q,Since w (w.drewN q) from fun q => below_drewN (Below.refl _ _) q)
 go_enter Tryz.func167,Tryz.ntmps167
 go_wp2
 go_ret
 exact ⟨rfl,HFIN.out 0⟩
theorem clo64_7 (w : World) (X Y : Nat) (a b : BitVec 64) (hX : w.cell? ⟨X,0,none⟩ = some (W64 (a))) (hY : w.cell? ⟨Y,0,none⟩ = some (W64 (b))) :
  Calls Tryz.prog 168 #[.pointer (some ⟨X,0,none⟩),.pointer (some ⟨Y,0,none⟩)] w fun e w' => e = .returned (W64 (T.adoN 64 7 a b)) ∧ Since w w' := by
 have HFIN := Lib.hid (show ∀ q,Since w (w.drewN q) from fun q => below_drewN (Below.refl _ _) q)
 go_enter Tryz.func168,Tryz.ntmps168
 go_wp2
 go_ret
 exact ⟨rfl,HFIN.out 0⟩
theorem clo64_8 (w : World) (X Y : Nat) (a b : BitVec 64) (hX : w.cell? ⟨X,0,none⟩ = some (W64 (a))) (hY : w.cell? ⟨Y,0,none⟩ = some (W64 (b))) :
  Calls Tryz.prog 169 #[.pointer (some ⟨X,0,none⟩),.pointer (some ⟨Y,0,none⟩)] w fun e w' => e = .returned (W64 (T.adoN 64 8 a b)) ∧ Since w w' := by
 have HFIN := Lib.hid (show ∀ q,Since w (w.drewN q) from fun q => below_drewN (Below.refl _ _) q)
 go_enter Tryz.func169,Tryz.ntmps169
 go_wp2
 go_ret
 exact ⟨rfl,HFIN.out 0⟩
theorem clo64_9 (w : World) (X Y Z : Nat) (a b : BitVec 64) (hX : w.cell? ⟨X,0,none⟩ = some (W64 (a))) (hY : w.cell? ⟨Y,0,none⟩ = some (W64 (b))) (hZ : w.cell? ⟨Z,0,none⟩ = some (W64 (64#64))) :
  Calls Tryz.prog 170 #[.pointer (some ⟨X,0,none⟩),.pointer (some ⟨Y,0,none⟩),.pointer (some ⟨Z,0,none⟩)] w fun e w' => e = .returned (W64 (T.adoN 64 9 a b)) ∧ Since w w' := by
 have hz : (64#64 : BitVec 64) ≠ 0#64 := by decide
 have HFIN := Lib.hid (show ∀ q,Since w (w.drewN q) from fun q => below_drewN (Below.refl _ _) q)
 go_enter Tryz.func170,Tryz.ntmps170
 go_wp2_with fail
 go_quiet (fail)
 go_wp2
 go_ret
 exact ⟨rfl,HFIN.out _⟩
theorem clo64_10 (w : World) (X Y Z : Nat) (a b : BitVec 64) (hX : w.cell? ⟨X,0,none⟩ = some (W64 (a))) (hY : w.cell? ⟨Y,0,none⟩ = some (W64 (b))) (hZ : w.cell? ⟨Z,0,none⟩ = some (W64 (64#64))) :
  Calls Tryz.prog 171 #[.pointer (some ⟨X,0,none⟩),.pointer (some ⟨Y,0,none⟩),.pointer (some ⟨Z,0,none⟩)] w fun e w' => e = .returned (W64 (T.adoN 64 10 a b)) ∧ Since w w' := by
 have hz : (64#64 : BitVec 64) ≠ 0#64 := by decide
 have HFIN := Lib.hid (show ∀ q,Since w (w.drewN q) from fun q => below_drewN (Below.refl _ _) q)
 go_enter Tryz.func171,Tryz.ntmps171
 go_wp2_with fail
 go_quiet (fail)
 go_wp2
 go_ret
 exact ⟨rfl,HFIN.out _⟩
theorem clo64_11 (w : World) (X Y Z : Nat) (a b : BitVec 64) (hX : w.cell? ⟨X,0,none⟩ = some (W64 (a))) (hY : w.cell? ⟨Y,0,none⟩ = some (W64 (b))) (hZ : w.cell? ⟨Z,0,none⟩ = some (W64 (64#64))) :
  Calls Tryz.prog 172 #[.pointer (some ⟨X,0,none⟩),.pointer (some ⟨Y,0,none⟩),.pointer (some ⟨Z,0,none⟩)] w fun e w' => e = .returned (W64 (T.adoN 64 11 a b)) ∧ Since w w' := by
 have hz : (64#64 : BitVec 64) ≠ 0#64 := by decide
 have HFIN := Lib.hid (show ∀ q,Since w (w.drewN q) from fun q => below_drewN (Below.refl _ _) q)
 go_enter Tryz.func172,Tryz.ntmps172
 go_wp2_with fail
 go_quiet (fail)
 go_wp2
 go_ret
 exact ⟨rfl,HFIN.out _⟩
theorem clo64_12 (w : World) (Y : Nat) (a b : BitVec 64) (hY : w.cell? ⟨Y,0,none⟩ = some (W64 (b))) :
  Calls Tryz.prog 173 #[.pointer (some ⟨Y,0,none⟩)] w fun e w' => e = .returned (W64 (T.adoN 64 12 a b)) ∧ Since w w' := by
 have HFIN := Lib.hid (show ∀ q,Since w (w.drewN q) from fun q => below_drewN (Below.refl _ _) q)
 go_enter Tryz.func173,Tryz.ntmps173
 go_wp2
 go_ret
 exact ⟨rfl,HFIN.out 0⟩
theorem clo64_13 (w : World) (X : Nat) (a b : BitVec 64) (hX : w.cell? ⟨X,0,none⟩ = some (W64 (a))) :
  Calls Tryz.prog 174 #[.pointer (some ⟨X,0,none⟩)] w fun e w' => e = .returned (W64 (T.adoN 64 13 a b)) ∧ Since w w' := by
 have HFIN := Lib.hid (show ∀ q,Since w (w.drewN q) from fun q => below_drewN (Below.refl _ _) q)
 go_enter Tryz.func174,Tryz.ntmps174
 go_wp2
 go_ret
 exact ⟨rfl,HFIN.out 0⟩
end Go.Proofs.YtfeipbgnjainlaaGreat.K
/- (made by genshelf.py) Contracts of the library's functions: written by the shelf's own tools, in plain words. -/
namespace Go.Proofs
open Go.Shelf
def Tryz.lays129_ren : Go.Shelf.Ren := ⟨fun | 129 => 148 | n => n,fun | 53 => 34 | 3 => 3 | 4 => 4 | 46 => 158 | 5 => 5 | 9 => 9 | n => n,fun | n => n⟩
theorem Tryz.lays129 : Go.Proofs.Lays.n129 Tryz.prog Tryz.lays129_ren := {
 mixed := by kernel_rfl
 f129 := Tryz.func148.trans (congrArg some (by kernel_rfl))
 t3 := Tryz.underlying3
 a3 := Tryz.isAgg3
 z3 := Tryz.sizeOf3
 v3 := Tryz.zeroValue3
 t4 := Tryz.underlying4
 a4 := Tryz.isAgg4
 z4 := Tryz.sizeOf4
 v4 := Tryz.zeroValue4
 t5 := Tryz.underlying5
 a5 := Tryz.isAgg5
 z5 := Tryz.sizeOf5
 v5 := Tryz.zeroValue5
 t9 := Tryz.underlying9
 a9 := Tryz.isAgg9
 z9 := Tryz.sizeOf9
 v9 := Tryz.zeroValue9
 t46 := Tryz.underlying158
 a46 := Tryz.isAgg158
 z46 := Tryz.sizeOf158
 v46 := Tryz.zeroValue158
 t53 := Tryz.underlying34
 a53 := Tryz.isAgg34
 z53 := Tryz.sizeOf34
 v53 := Tryz.zeroValue34 }
theorem Tryz.bits_Len64 (x : Int) (w : World) (h0 : 0 ≤ x) (h1 : x ≤ 18446744073709551615) :
  Calls Tryz.prog 148 #[.int .u64 x] w fun e w' => e = .returned (.int .i64 (Lib.bitLen x.toNat)) ∧ w' = w := Any.bits_Len64 Tryz.lays129 x w h0 h1
def Tryz.lays189_ren : Go.Shelf.Ren := ⟨fun | 189 => 73 | 125 => 108 | 257 => 107 | 128 => 147 | 129 => 148 | 294 => 138 | 295 => 139 | 296 => 140 | 297 => 141 | 298 => 142 | 299 => 143 | 216 => 144 | 300 => 145 | 301 => 146 | 328 => 192 | 329 => 193 | 330 => 194 | 331 => 195 | 332 => 196 | 215 => 197 | 343 => 220 | n => n,fun | 28 => 60 | 3 => 3 | 46 => 158 | 0 => 0 | 51 => 125 | 53 => 34 | 4 => 4 | 183 => 197 | 182 => 196 | 131 => 202 | 5 => 5 | 9 => 9 | 218 => 229 | 222 => 232 | 228 => 240 | 229 => 241 | n => n,fun | n => n⟩
theorem Tryz.lays189 : Go.Proofs.Lays.n189 Tryz.prog Tryz.lays189_ren := {
 mixed := by kernel_rfl
 f125 := Tryz.func108.trans (congrArg some (by kernel_rfl))
 f128 := Tryz.func147.trans (congrArg some (by kernel_rfl))
 f129 := Tryz.func148.trans (congrArg some (by kernel_rfl))
 f189 := Tryz.func73.trans (congrArg some (by kernel_rfl))
 f215 := Tryz.func197.trans (congrArg some (by kernel_rfl))
 f216 := Tryz.func144.trans (congrArg some (by kernel_rfl))
 f257 := Tryz.func107.trans (congrArg some (by kernel_rfl))
 f294 := Tryz.func138.trans (congrArg some (by kernel_rfl))
 f295 := Tryz.func139.trans (congrArg some (by kernel_rfl))
 f296 := Tryz.func140.trans (congrArg some (by kernel_rfl))
 f297 := Tryz.func141.trans (congrArg some (by kernel_rfl))
 f298 := Tryz.func142.trans (congrArg some (by kernel_rfl))
 f299 := Tryz.func143.trans (congrArg some (by kernel_rfl))
 f300 := Tryz.func145.trans (congrArg some (by kernel_rfl))
 f301 := Tryz.func146.trans (congrArg some (by kernel_rfl))
 f328 := Tryz.func192.trans (congrArg some (by kernel_rfl))
 f329 := Tryz.func193.trans (congrArg some (by kernel_rfl))
 f330 := Tryz.func194.trans (congrArg some (by kernel_rfl))
 f331 := Tryz.func195.trans (congrArg some (by kernel_rfl))
 f332 := Tryz.func196.trans (congrArg some (by kernel_rfl))
 f343 := Tryz.func220.trans (congrArg some (by kernel_rfl))
 t0 := Tryz.underlying0
 a0 := Tryz.isAgg0
 z0 := Tryz.sizeOf0
 v0 := Tryz.zeroValue0
 t3 := Tryz.underlying3
 a3 := Tryz.isAgg3
 z3 := Tryz.sizeOf3
 v3 := Tryz.zeroValue3
 t4 := Tryz.underlying4
 a4 := Tryz.isAgg4
 z4 := Tryz.sizeOf4
 v4 := Tryz.zeroValue4
 t5 := Tryz.underlying5
 a5 := Tryz.isAgg5
 z5 := Tryz.sizeOf5
 v5 := Tryz.zeroValue5
 t9 := Tryz.underlying9
 a9 := Tryz.isAgg9
 z9 := Tryz.sizeOf9
 v9 := Tryz.zeroValue9
 t28 := Tryz.underlying60
 a28 := Tryz.isAgg60
 z28 := Tryz.sizeOf60
 v28 := Tryz.zeroValue60
 t46 := Tryz.underlying158
 a46 := Tryz.isAgg158
 z46 := Tryz.sizeOf158
 v46 := Tryz.zeroValue158
 t51 := Tryz.underlying125
 a51 := Tryz.isAgg125
 z51 := Tryz.sizeOf125
 v51 := Tryz.zeroValue125
 t53 := Tryz.underlying34
 a53 := Tryz.isAgg34
 z53 := Tryz.sizeOf34
 v53 := Tryz.zeroValue34
 t131 := Tryz.underlying202
 a131 := Tryz.isAgg202
 z131 := Tryz.sizeOf202
 v131 := Tryz.zeroValue202
 t182 := Tryz.underlying196
 a182 := Tryz.isAgg196
 z182 := Tryz.sizeOf196
 v182 := Tryz.zeroValue196
 t183 := Tryz.underlying197
 a183 := Tryz.isAgg197
 z183 := Tryz.sizeOf197
 v183 := Tryz.zeroValue197
 t218 := Tryz.underlying229
 a218 := Tryz.isAgg229
 z218 := Tryz.sizeOf229
 v218 := Tryz.zeroValue229
 t222 := Tryz.underlying232
 a222 := Tryz.isAgg232
 z222 := Tryz.sizeOf232
 v222 := Tryz.zeroValue232
 t228 := Tryz.underlying240
 a228 := Tryz.isAgg240
 z228 := Tryz.sizeOf240
 v228 := Tryz.zeroValue240
 t229 := Tryz.underlying241
 a229 := Tryz.isAgg241
 z229 := Tryz.sizeOf241
 v229 := Tryz.zeroValue241 }
open Go.Sort Go.RowKit in
theorem Tryz.slices_Sort_int (blk off cap : Nat) (zs : List Int) (w : World) (hH : Holds (Value.int .i64) w blk off zs.toArray) (hblk : blk < w.heap.size) (hsz : zs.length < 4611686018427387904) :
  Calls Tryz.prog 73 #[.slice (some ⟨blk,off,none⟩) zs.length cap] w fun e w' =>
   e = .returned (.tuple #[]) ∧ ∃ n os,w' = grow (putRow (Value.int .i64) (Sort.ahead w n) blk off (zs.mergeSort fun x y => decide (x ≤ y)).toArray) os := Any.slices_Sort_int Tryz.lays189 blk off cap zs w hH hblk hsz
def Tryz.lays264_ren : Go.Shelf.Ren := ⟨fun | 264 => 222 | n => n,fun | 53 => 34 | 46 => 158 | n => n,fun | n => n⟩
theorem Tryz.lays264 : Go.Proofs.Lays.n264 Tryz.prog Tryz.lays264_ren := {
 mixed := by kernel_rfl
 f264 := Tryz.func222.trans (congrArg some (by kernel_rfl))
 t46 := Tryz.underlying158
 a46 := Tryz.isAgg158
 z46 := Tryz.sizeOf158
 v46 := Tryz.zeroValue158
 t53 := Tryz.underlying34
 a53 := Tryz.isAgg34
 z53 := Tryz.sizeOf34
 v53 := Tryz.zeroValue34 }
open Go.RowKit Go.Lib in
theorem Tryz.bits_Mul64 (x y : Nat) (hx : x < 18446744073709551616) (hy : y < 18446744073709551616) (w : World) :
  Calls Tryz.prog 222 #[.int .u64 x,.int .u64 y] w fun e w' => e = .returned (.tuple #[.int .u64 ((x * y / 18446744073709551616 : Nat) : Int),.int .u64 ((x * y % 18446744073709551616 : Nat) : Int)]) ∧ w' = w := Any.bits_Mul64 Tryz.lays264 x y hx hy w
def Tryz.lays107_ren : Go.Shelf.Ren := ⟨fun | 107 => 71 | 108 => 106 | n => n,fun | 28 => 60 | 3 => 3 | 4 => 4 | 0 => 0 | n => n,fun | n => n⟩
theorem Tryz.lays107 : Go.Proofs.Lays.n107 Tryz.prog Tryz.lays107_ren := {
 mixed := by kernel_rfl
 f107 := Tryz.func71.trans (congrArg some (by kernel_rfl))
 f108 := Tryz.func106.trans (congrArg some (by kernel_rfl))
 t0 := Tryz.underlying0
 a0 := Tryz.isAgg0
 z0 := Tryz.sizeOf0
 v0 := Tryz.zeroValue0
 t3 := Tryz.underlying3
 a3 := Tryz.isAgg3
 z3 := Tryz.sizeOf3
 v3 := Tryz.zeroValue3
 t4 := Tryz.underlying4
 a4 := Tryz.isAgg4
 z4 := Tryz.sizeOf4
 v4 := Tryz.zeroValue4
 t28 := Tryz.underlying60
 a28 := Tryz.isAgg60
 z28 := Tryz.sizeOf60
 v28 := Tryz.zeroValue60 }
open Go.Lib in
theorem Tryz.slices_Contains_int (b off n c : Nat) (zs : List Int) (x : Int) (w : World) (hz : n ≤ zs.length) (hbig : n ≤ 9223372036854775807) (hc : ∀ j,j < zs.length → w.cell? ⟨b,off + j,none⟩ = some (.int .i64 (zs.getD j 0))) :
  Calls Tryz.prog 71 #[.slice (some ⟨b,off,none⟩) n c,.int .i64 x] w fun e w' => e = .returned (.bool ((zs.take n).contains x)) ∧ w' = w := Any.slices_Contains_int Tryz.lays107 b off n c zs x w hz hbig hc
def Tryz.laysNm220_ren : Go.Shelf.Ren := ⟨fun | 20 => 74 | n => n,fun | 22 => 60 | 3 => 3 | 4 => 4 | 0 => 0 | n => n,fun | n => n⟩
theorem Tryz.laysNm220 : Go.Proofs.Lays2.n20 Tryz.prog Tryz.laysNm220_ren := {
 mixed := by kernel_rfl
 f20 := Tryz.func74.trans (congrArg some (by kernel_rfl))
 t0 := Tryz.underlying0
 a0 := Tryz.isAgg0
 z0 := Tryz.sizeOf0
 v0 := Tryz.zeroValue0
 t3 := Tryz.underlying3
 a3 := Tryz.isAgg3
 z3 := Tryz.sizeOf3
 v3 := Tryz.zeroValue3
 t4 := Tryz.underlying4
 a4 := Tryz.isAgg4
 z4 := Tryz.sizeOf4
 v4 := Tryz.zeroValue4
 t22 := Tryz.underlying60
 a22 := Tryz.isAgg60
 z22 := Tryz.sizeOf60
 v22 := Tryz.zeroValue60
 i3 := by kernel_rfl }
open Go.RowKit Go.Lib Go.Sort in
theorem Tryz.slices_Compact_int (blk off cap : Nat) (zs : List Int) (w : World) (hH : Holds (Value.int .i64) w blk off zs.toArray) (hsz : zs.length ≤ 9223372036854775807) (hcap : zs.length ≤ cap) :
  Calls Tryz.prog 74 #[.slice (some ⟨blk,off,none⟩) zs.length cap] w fun e w' => e = .returned (.slice (some ⟨blk,off,none⟩) (Lib.compact zs).length cap) ∧ ∃ q,w' = putRow (Value.int .i64) (Sort.ahead w q) blk off (Lib.compact zs ++ List.replicate (zs.length - (Lib.compact zs).length) 0).toArray := Any.slices_Compact_int Tryz.laysNm220 blk off cap zs w hH hsz hcap
end Go.Proofs
/- What is known at a place holds on, one instruction farther: the machine does not go wrong there. No program in sight. -/
namespace Go.Proofs.YtfeipbgnjainlaaGreat.T

/-- what is known at a place holds of a machine, of a packet so long -/
structure PlH (p : Pl) (m : Mc) (len : Nat) : Prop where
 live : p.live = true
 rl : p.regs.length = 11
 bl : p.bytes.length = 512
 ml : m.regs.length = 11
 sl : m.set.length = 512
 tl : m.stk.length = 512
 regs : ∀ r,r < 11 → (p.regs.getD r Kn.none).holds (m.regs.getD r (0,0)).1 (m.regs.getD r (0,0)).2 len
 bytes : ∀ j,j < 512 → p.bytes.getD j false = true → m.set.getD j false = true
 l0 : 0 ≤ p.least
 ll : p.least ≤ len
theorem getD_set {α : Type _} (l : List α) (i j : Nat) (x d : α) : (l.set i x).getD j d = if i = j ∧ j < l.length then x else l.getD j d := by
 rw [List.getD_eq_getElem?_getD,List.getD_eq_getElem?_getD,List.getElem?_set]
 by_cases h : i = j
 ·subst h
  by_cases h2 : i < l.length
  ·simp [h2]
  ·rw [if_pos rfl,if_neg h2,if_neg (fun e => h2 e.2),List.getElem?_eq_none (by omega)]
 ·rw [if_neg h,if_neg (fun e => h e.1)]
section
variable {p : Pl} {m : Mc} {len : Nat}
theorem PlH.reg (h : PlH p m len) (r : Int) (h0 : 0 ≤ r) (h1 : r ≤ 10) : (p.reg r).holds (m.reg r).1 (m.reg r).2 len := h.regs r.toNat (by omega)
theorem PlH.put (h : PlH p m len) (r : Int) (h0 : 0 ≤ r) (h1 : r ≤ 10) {k : Kn} {v : Int × U} (hk : k.holds v.1 v.2 len) : PlH (p.put r k) (m.put r v) len := by
 refine ⟨h.live,by simp [Pl.put,h.rl],h.bl,by simp [Mc.put,h.ml],h.sl,h.tl,fun j hj => ?_,h.bytes,h.l0,h.ll⟩
 simp only [Pl.put,Mc.put,getD_set,h.rl,h.ml]
 by_cases e : r.toNat = j ∧ j < 11
 ·rw [if_pos e,if_pos e]; exact hk
 ·rw [if_neg e,if_neg e]; exact h.regs j hj
/-- as a number -/
theorem asN_ok (h : PlH p m len) (hl : len ≤ 65535) {k : Kn} {vk : Int} {n : U} (hk : k.holds vk n len) {s : Sp} (ha : asN p k = (0,s)) : vk = 1 ∧ s.has n = true ∧ k.k ≠ 0 := by
 obtain ⟨h1,h2⟩ := hk
 unfold asN at ha
 split at ha
 ·simp at ha
 ·rename_i k0
  split at ha
  ·rename_i k1
   simp only [Prod.mk.injEq,true_and] at ha
   subst ha
   rcases h2 with e | ⟨e,_⟩ | ⟨_,e1,e2⟩
   ·omega
   ·omega
   ·exact ⟨e1.trans k1,e2,k0⟩
  ·split at ha
   ·rename_i k4
    simp only [Prod.mk.injEq,true_and] at ha
    subst ha
    rcases h2 with e | ⟨_,e1,e2⟩ | ⟨e,_⟩
    ·omega
    ·refine ⟨e1,?_,k0⟩
     have hll := h.ll
     have hl0 := h.l0
     rw [Sp.has_iff]
     simp only
     rw [show (65535#64 : U).toNat = 65535 by rfl]
     unfold wide
     rw [BitVec.toNat_ofInt]
     omega
    ·omega
   ·simp at ha
theorem wide_imm_holds (n : Int) (len : Nat) : (⟨1,Sp.of (wide n)⟩ : Kn).holds 1 (wide n) len := by
 have h : (Sp.of (wide n)).has (wide n) = true := by rw [Sp.has_iff]; exact ⟨Nat.le_refl _,Nat.le_refl _⟩
 exact ⟨Sp.has_right h,.inr (.inr ⟨.inl rfl,rfl,h⟩)⟩
theorem second_holds (h : PlH p m len) (i : Ins) (h0 : 0 ≤ i.src) (h1 : i.src ≤ 10) : (second i p).holds (esecond i m).1 (esecond i m).2 len := by
 unfold second esecond
 split
 ·exact wide_imm_holds _ _
 ·exact h.reg i.src h0 h1
/-- a register that is known of is set -/
theorem holds_set {k : Kn} {vk : Int} {n : U} (h : k.holds vk n len) (h0 : k.k ≠ 0) : vk ≠ 0 := by
 obtain ⟨_,e | ⟨_,e,_⟩ | ⟨e,e2,_⟩⟩ := h
 ·exact absurd e h0
 ·omega
 ·omega
theorem secErr_ok (h : PlH p m len) (i : Ins) (h0 : 0 ≤ i.src) (h1 : i.src ≤ 10) (hs : (second i p).k ≠ 0) : secErr i m = 0 := by
 unfold secErr
 cases hu : i.useImm with
 | true => rfl
 | false =>
  have e : second i p = p.reg i.src := by unfold second; rw [hu]; rfl
  rw [e] at hs
  have h2 := holds_set (h.reg i.src h0 h1) hs
  simp [unset,h2]
theorem unset_ok (h : PlH p m len) (r : Int) (h0 : 0 ≤ r) (h1 : r ≤ 10) (hs : (p.reg r).k ≠ 0) : unset m r = false := by
 have h2 := holds_set (h.reg r h0 h1) hs
 simp [unset,h2]
theorem holds_kind {k : Kn} {vk : Int} {n : U} (h : k.holds vk n len) (h0 : k.k ≠ 0) (h4 : k.k ≠ 4) : vk = k.k ∧ k.s.has n = true := by
 obtain ⟨_,e | ⟨e,_⟩ | ⟨_,e1,e2⟩⟩ := h
 ·exact absurd e h0
 ·exact absurd e h4
 ·exact ⟨e1,e2⟩
theorem holds_frame {k : Kn} {vk : Int} {n : U} (h : k.holds vk n len) (h3 : k.k = 3) : vk = 3 ∧ n = k.s.lo := by
 obtain ⟨e1,e2⟩ := holds_kind h (by omega) (by omega)
 have hr := h.1
 rw [Kn.right_3 h3] at hr
 have hs : k.s = Sp.of k.s.lo := beq_iff_eq.1 hr
 rw [hs,Sp.has_iff] at e2
 exact ⟨e1.trans h3,BitVec.eq_of_toNat_eq (by simp only [Sp.of] at e2; omega)⟩
/-- bytes that are told are set -/
theorem allSet_ok (h : PlH p m len) {a n : Nat} (hn : a + n ≤ 512) (hs : allSet p.bytes a n = true) : allSet m.set a n = true := by
 unfold allSet at hs ⊢
 rw [List.all_eq_true] at hs ⊢
 intro j hj
 have hj2 := List.mem_range.1 hj
 exact h.bytes (a + j) (by omega) (hs j hj)
theorem setAll_length (b : List Bool) (a n : Nat) : (setAll b a n).length = b.length := by simp [setAll]
theorem setAll_getD (b : List Bool) (a n j : Nat) (hj : j < b.length) : (setAll b a n).getD j false = (b.getD j false || (decide (a ≤ j) && decide (j < a + n))) := by
 unfold setAll
 rw [List.getD_eq_getElem?_getD,List.getD_eq_getElem?_getD,List.getElem?_mapIdx,List.getElem?_eq_getElem hj]
 rfl
theorem puts_length (b : List B) (a n : Nat) (v : U) : (puts b a n v).length = b.length := by simp [puts]
/-- the stack's bytes are put -/
theorem PlH.wrote (h : PlH p m len) (a n : Nat) (v : U) : PlH { p with bytes := setAll p.bytes a n } { m with set := setAll m.set a n,stk := puts m.stk a n v } len := by
 refine ⟨h.live,h.rl,by rw [setAll_length]; exact h.bl,h.ml,by rw [setAll_length]; exact h.sl,by rw [puts_length]; exact h.tl,h.regs,fun j hj hb => ?_,h.l0,h.ll⟩
 rw [setAll_getD _ _ _ _ (by rw [h.bl]; exact hj)] at hb
 rw [setAll_getD _ _ _ _ (by rw [h.sl]; exact hj)]
 rw [Bool.or_eq_true] at hb ⊢
 exact hb.imp (h.bytes j hj) id
theorem PlH.at'' (h : PlH p m len) (k : Nat) : PlH p { m with at' := k } len := ⟨h.live,h.rl,h.bl,h.ml,h.sl,h.tl,h.regs,h.bytes,h.l0,h.ll⟩
/-- a number of so many bytes -/
theorem gets_lt (b : List B) (a n : Nat) (hn : n ≤ 8) : (gets b a n).toNat < 2 ^ (8 * n) := by
 unfold gets
 have key : ∀ (l : List Nat) (s : U),(∀ j ∈ l,j < n) → s.toNat < 2 ^ (8 * n) → (l.foldl (fun s j => s ||| ((b.getD (a + j) 0).setWidth 64 <<< (8 * (n - 1 - j)))) s).toNat < 2 ^ (8 * n) := by
  intro l
  induction l with
  | nil => intro s _ h; exact h
  | cons j l ih =>
   intro s hj h
   refine ih _ (fun k hk => hj k (List.mem_cons_of_mem _ hk)) ?_
   rw [BitVec.toNat_or]
   refine Nat.or_lt_two_pow h ?_
   have hjn := hj j (List.mem_cons_self ..)
   rw [BitVec.toNat_shiftLeft,BitVec.toNat_setWidth,Nat.shiftLeft_eq]
   have hb := (b.getD (a + j) 0).isLt
   have e1 : (b.getD (a + j) 0).toNat % 2 ^ 64 = (b.getD (a + j) 0).toNat := Nat.mod_eq_of_lt (by omega)
   rw [e1]
   refine Nat.lt_of_le_of_lt (Nat.mod_le _ _) ?_
   have e2 : 8 * n = 8 + (8 * (n - 1 - j) + 8 * j) := by omega
   rw [e2,Nat.pow_add,Nat.pow_add]
   have h3 : 0 < 2 ^ (8 * (n - 1 - j)) := Nat.two_pow_pos _
   have h4 : 0 < 2 ^ (8 * j) := Nat.two_pow_pos _
   calc (b.getD (a + j) 0).toNat * 2 ^ (8 * (n - 1 - j)) < 2 ^ 8 * 2 ^ (8 * (n - 1 - j)) := Nat.mul_lt_mul_of_pos_right hb h3
    _ ≤ 2 ^ 8 * (2 ^ (8 * (n - 1 - j)) * 2 ^ (8 * j)) := Nat.mul_le_mul_left _ (Nat.le_mul_of_pos_right _ h4)
 exact key _ 0 (fun j hj => List.mem_range.1 hj) (by simpa using Nat.two_pow_pos _)
theorem sized_cases {n : Int} (h : sized n = true) : n = 1 ∨ n = 2 ∨ n = 4 ∨ n = 8 := by simpa [sized] using h
theorem loaded_holds (b : List B) (a : Nat) {size : Int} (hs : sized size = true) : (⟨1,⟨0,ones >>> (64 - 8 * size).toNat⟩⟩ : Kn).holds 1 (gets b a size.toNat) len := by
 have h : (⟨0,ones >>> (64 - 8 * size).toNat⟩ : Sp).has (gets b a size.toNat) = true := by
  rw [Sp.has_iff]
  refine ⟨Nat.zero_le _,?_⟩
  have hg := gets_lt b a size.toNat (by rcases sized_cases hs with rfl | rfl | rfl | rfl <;> decide)
  rw [BitVec.toNat_ushiftRight,ones_nat]
  rw [Nat.shiftRight_eq_div_pow]
  rcases sized_cases hs with rfl | rfl | rfl | rfl
  ·have hg' : (gets b a (1 : Int).toNat).toNat < 256 := hg
   show _ ≤ 18446744073709551615 / 2 ^ 56
   omega
  ·have hg' : (gets b a (2 : Int).toNat).toNat < 65536 := hg
   show _ ≤ 18446744073709551615 / 2 ^ 48
   omega
  ·have hg' : (gets b a (4 : Int).toNat).toNat < 4294967296 := hg
   show _ ≤ 18446744073709551615 / 2 ^ 32
   omega
  ·have hg' : (gets b a (8 : Int).toNat).toNat < 18446744073709551616 := hg
   show _ ≤ 18446744073709551615 / 2 ^ 0
   omega
 exact ⟨Sp.has_right h,.inr (.inr ⟨.inl rfl,rfl,h⟩)⟩
theorem bmod_self {z : Int} (h0 : -9223372036854775808 ≤ z) (h1 : z < 9223372036854775808) : z.bmod (2 ^ 64) = z := by
 have e : ((2 ^ 64 : Nat) : Int) = 18446744073709551616 := by decide
 simp only [Int.bmod,e]
 split <;> omega
theorem wide_toInt {z : Int} (h0 : -9223372036854775808 ≤ z) (h1 : z < 9223372036854775808) : (wide z).toInt = z := by
 unfold wide
 rw [BitVec.toInt_ofInt,bmod_self h0 h1]
/-- where a packet's pointer points -/
theorem packet_at {s : Sp} {n : U} {off size : Int} (hn : s.has n = true) (h1 : ¬ 65535 < s.hi.toNat) (h2 : 0 ≤ s.lo.toInt + off) (h3 : s.hi.toInt + off + size ≤ len) (ho : -32768 ≤ off ∧ off ≤ 32767) (hs : sized size = true) : getErr len (n + wide off).toInt size = 0 := by
 rw [Sp.has_iff] at hn
 have e1 : s.lo.toInt = (s.lo.toNat : Int) := by rw [BitVec.toInt_eq_toNat_cond,if_pos (by omega)]
 have e2 : s.hi.toInt = (s.hi.toNat : Int) := by rw [BitVec.toInt_eq_toNat_cond,if_pos (by omega)]
 have e3 : (n + wide off).toInt = (n.toNat : Int) + off := by
  have e4 : n.toInt = (n.toNat : Int) := by rw [BitVec.toInt_eq_toNat_cond,if_pos (by omega)]
  rw [BitVec.toInt_add,wide_toInt (by omega) (by omega),e4,bmod_self (by omega) (by omega)]
 rw [e1] at h2
 rw [e2] at h3
 unfold getErr
 rw [if_neg (by rw [hs]; decide),e3,if_neg (by omega)]
theorem frame_ok {n : U} {i : Ins} (h : ¬ ((n + wide i.off).toInt < -512 ∨ -i.size < (n + wide i.off).toInt)) : frameErr n i = 0 := by
 unfold frameErr
 rw [if_neg (by omega)]
theorem with_holds {m : Mc} {r : Int} (h : PlH p m len) (hl : len ≤ 65535) (h0 : 0 ≤ r) (h1 : r ≤ 10) {s : Sp} (hk : (p.reg r).k = 1 ∨ (p.reg r).k = 4) (hs : s.has (m.reg r).2 = true) : PlH (p.with r s) m len := by
 unfold Pl.with
 split
 ·rename_i hk1
  have hm : m.put r ((m.reg r).1,(m.reg r).2) = m := by
   unfold Mc.put Mc.reg
   have e : m.regs.set r.toNat ((m.regs.getD r.toNat (0,0)).1,(m.regs.getD r.toNat (0,0)).2) = m.regs := by
    apply List.ext_getElem?
    intro j
    rw [List.getElem?_set]
    split
    ·rename_i e; subst e
     split
     ·rename_i hlt; rw [List.getD_eq_getElem?_getD,List.getElem?_eq_getElem hlt]; rfl
     ·rename_i hlt; rw [List.getElem?_eq_none (by omega)]
    ·rfl
   rw [e]
  have hv := holds_kind (h.reg r h0 h1) (by omega) (by omega)
  have h2 := h.put r h0 h1 (k := ⟨1,s⟩) (v := ((m.reg r).1,(m.reg r).2)) ⟨Sp.has_right hs,.inr (.inr ⟨.inl rfl,hv.1.trans hk1,hs⟩)⟩
  rw [hm] at h2
  exact h2
 ·rename_i hk1
  have hk4 : (p.reg r).k = 4 := by omega
  have hv : (m.reg r).2.toNat = len := by
   obtain ⟨_,e | ⟨_,_,e⟩ | ⟨e,_⟩⟩ := h.reg r h0 h1
   ·omega
   ·exact e
   ·omega
  rw [Sp.has_iff,hv] at hs
  have e1 : s.lo.toInt = (s.lo.toNat : Int) := by rw [BitVec.toInt_eq_toNat_cond,if_pos (by omega)]
  refine ⟨h.live,h.rl,h.bl,h.ml,h.sl,h.tl,h.regs,h.bytes,?_,?_⟩
  ·simp only
   have := h.l0
   omega
  ·simp only
   have := h.ll
   omega
theorem with_reg_other (p : Pl) (r q : Int) (s : Sp) (h : r.toNat ≠ q.toNat) : (p.with r s).reg q = p.reg q := by
 unfold Pl.with
 split
 ·simp only [Pl.put,Pl.reg,getD_set]
  rw [if_neg (fun e => h e.1)]
 ·rfl
/-- a conditional jump -/
theorem ended_holds {m : Mc} (h : PlH p m len) (hl : len ≤ 65535) (i : Ins) (hd : 0 ≤ i.dst ∧ i.dst ≤ 10) (hs : 0 ≤ i.src ∧ i.src ≤ 10) (ho : 17 ≤ i.op ∧ i.op ≤ 27) {M N : Sp} (ha : asN p (p.reg i.dst) = (0,M)) (hb : asN p (second i p) = (0,N)) (yes : Bool)
  (hy : ais i.op i.narrow (m.reg i.dst).2 (esecond i m).2 = yes) : ∃ q,ended i p yes M N = some q ∧ PlH q m len := by
 obtain ⟨a1,a2,a3⟩ := asN_ok h hl (h.reg i.dst hd.1 hd.2) ha
 obtain ⟨b1,b2,b3⟩ := asN_ok h hl (second_holds h i hs.1 hs.2) hb
 obtain ⟨s,t,he,hs1,ht1⟩ := sif_sound i.op i.narrow yes M N _ _ ho a2 b2 hy
 have hka : (p.reg i.dst).k = 1 ∨ (p.reg i.dst).k = 4 := by
  unfold asN at ha
  split at ha
  ·simp at ha
  ·split at ha
   ·left; assumption
   ·split at ha
    ·right; assumption
    ·simp at ha
 unfold ended
 rw [he]
 refine ⟨_,rfl,?_⟩
 simp only
 cases hu : i.useImm with
 | true => exact with_holds h hl hd.1 hd.2 hka hs1
 | false =>
  simp only [if_false,Bool.false_eq_true]
  by_cases hne : i.src ≠ i.dst
  ·rw [if_pos hne]
   have h2 := with_holds h hl hd.1 hd.2 hka hs1
   have e1 : second i p = p.reg i.src := by unfold second; rw [hu]; rfl
   have e2 : esecond i m = m.reg i.src := by unfold esecond; rw [hu]; rfl
   have hkb : (p.reg i.src).k = 1 ∨ (p.reg i.src).k = 4 := by
    rw [e1] at hb
    unfold asN at hb
    split at hb
    ·simp at hb
    ·split at hb
     ·left; assumption
     ·split at hb
      ·right; assumption
      ·simp at hb
   rw [e2] at ht1
   refine with_holds h2 hl hs.1 hs.2 ?_ ht1
   rw [with_reg_other p i.dst i.src s (by omega)]
   exact hkb
  ·rw [if_neg hne]
   exact h
end
end Go.Proofs.YtfeipbgnjainlaaGreat.T
/- An instruction that is taken at a place does not go wrong, and what is told of the next places holds. No program in sight. -/
namespace Go.Proofs.YtfeipbgnjainlaaGreat.T

theorem right_facts {i : Ins} (h : i.right = true) : (0 ≤ i.dst ∧ i.dst ≤ 10) ∧ (0 ≤ i.src ∧ i.src ≤ 10) ∧ (-32768 ≤ i.off ∧ i.off ≤ 32767) ∧ (-2147483648 ≤ i.imm ∧ i.imm ≤ 2147483647) ∧ (i.op = 14 ∨ i.op = 15 → sized i.size = true) ∧ (1 ≤ i.op ∧ i.op ≤ 28) ∧ (i.op ≤ 14 → i.dst ≤ 9) := by
 unfold Ins.right at h
 simp only [Bool.and_eq_true,decide_eq_true_eq,wi] at h
 obtain ⟨⟨⟨⟨⟨⟨h1,h2⟩,h3⟩,h4⟩,h5⟩,h6⟩,h7⟩ := h
 have hop : 1 ≤ i.op ∧ i.op ≤ 28 := by
  unfold fields at h1
  repeat' split at h1
  all_goals first | omega | exact absurd rfl h1
 refine ⟨⟨h3.1,?_⟩,h4,h5,h6,fun e => ?_,hop,fun e => ?_⟩
 ·have := h3.2
  split at this <;> omega
 ·have hf : fl i.op 5 = true := by rcases e with e | e <;> (rw [e]; decide)
  rw [hf] at h7
  simpa using h7
 ·have hf : fl i.op 0 = true := by
   unfold fl fields
   by_cases c : 1 ≤ i.op ∧ i.op ≤ 12
   ·rw [if_pos c]; decide
   ·rw [if_neg c]
    by_cases c2 : i.op = 13
    ·rw [if_pos c2]; decide
    ·rw [if_neg c2,if_pos (by omega)]; decide
  have := h3.2
  rw [if_pos hf] at this
  exact this
section
variable {p : Pl} {m : Mc} {len : Nat}
/-- behind an instruction -/
def After (i : Ins) (m m' : Mc) (ah af : Option Pl) (len : Nat) : Prop :=
 (i.op = 28 ∧ m'.verdict = some (m.reg 0).2 ∧ m'.at' = m.at') ∨
 (i.op ≠ 28 ∧ m'.verdict = m.verdict ∧ ((m'.at' = m.at' ∧ ∃ q,ah = some q ∧ PlH q m' len) ∨ (m'.at' = m.at' + i.off.toNat ∧ i.jumps = true ∧ ∃ q,af = some q ∧ PlH q m' len)))
theorem step_load (i : Ins) (hi : i.right = true) (ho : i.op = 14) (pk : List B) (hpk : pk.length = len) (hl : len ≤ 65535) (h : PlH p m len) {ah af : Option Pl} (hc : cstep i p = (0,ah,af)) : ∃ m',estep pk i m = (0,m') ∧ After i m m' ah af len := by
 obtain ⟨hd,hs,hof,him,hsz,_,_⟩ := right_facts hi
 have hsz := hsz (.inl ho)
 unfold cstep at hc
 rw [if_pos ho] at hc
 split at hc
 ·rename_i he
  exact absurd (congrArg Prod.fst hc) he
 rename_i he
 simp only [ne_eq,Decidable.not_not] at he
 obtain ⟨rfl,rfl⟩ : some (p.put i.dst (loaded i)) = ah ∧ (none : Option Pl) = af := by simpa using hc
 have hreg := h.reg i.src hs.1 hs.2
 unfold loadErr at he
 have fin : ∀ (b : List B) (a : Nat),After i m (m.put i.dst (1,gets b a i.size.toNat)) (some (p.put i.dst (loaded i))) none len := fun b a =>
  .inr ⟨by omega,rfl,.inl ⟨rfl,_,rfl,h.put i.dst hd.1 hd.2 (loaded_holds b a hsz)⟩⟩
 unfold estep
 rw [if_neg (by omega),if_neg (by omega),if_pos ho]
 by_cases k3 : (p.reg i.src).k = 3
 ·rw [if_pos k3] at he
  obtain ⟨v1,v2⟩ := holds_frame hreg k3
  have hu := unset_ok h i.src hs.1 hs.2 (by omega)
  unfold readErr at he
  split at he
  ·rename_i hp; exact absurd he hp
  ·rename_i hp
   split at he
   ·rename_i ha
    unfold partErr at hp
    rw [hsz] at hp
    simp only [Bool.true_eq_false,if_false] at hp
    have hp2 : ¬ (frameAt (p.reg i.src) i < -512 ∨ -i.size < frameAt (p.reg i.src) i) := fun e => hp (by rw [if_pos e]; decide)
    have hfa : frameAt (p.reg i.src) i = ((m.reg i.src).2 + wide i.off).toInt := by unfold frameAt; rw [v2]
    rw [hfa] at hp2 ha
    have hf := frame_ok hp2
    have hsc := sized_cases hsz
    have hset := allSet_ok h (by omega) ha
    simp only [hu,v1,hf]
    have e1 : (512 + ((m.reg i.src).2 + wide i.off).toInt).toNat = (((m.reg i.src).2 + wide i.off).toInt + 512).toNat := by omega
    rw [e1] at hset
    simp only [hset]
    exact ⟨_,rfl,fin _ _⟩
   ·omega
 ·rw [if_neg k3] at he
  by_cases k2 : (p.reg i.src).k = 2
  ·rw [if_pos k2] at he
   split at he
   ·omega
   rename_i hh
   split at he
   ·omega
   rename_i hb
   obtain ⟨v1,v2⟩ := holds_kind hreg (by omega) (by omega)
   have hu := unset_ok h i.src hs.1 hs.2 (by omega)
   have hll := h.ll
   have hg := packet_at (len := pk.length) v2 (by simpa [BitVec.ult] using hh) (by omega) (by omega) hof hsz
   simp only [hu,v1,k2,hg]
   exact ⟨_,rfl,fin _ _⟩
  ·rw [if_neg k2] at he
   split at he
   ·rename_i hx; exact absurd he hx
   ·omega
theorem step_put (i : Ins) (hi : i.right = true) (ho : i.op = 15) (pk : List B) (hl : len ≤ 65535) (h : PlH p m len) {ah af : Option Pl} (hc : cstep i p = (0,ah,af)) : ∃ m',estep pk i m = (0,m') ∧ After i m m' ah af len := by
 obtain ⟨hd,hs,hof,him,hsz,_,_⟩ := right_facts hi
 have hsz := hsz (.inr ho)
 unfold cstep at hc
 rw [if_neg (by omega),if_pos ho] at hc
 split at hc
 ·rename_i he
  exact absurd (congrArg Prod.fst hc) he
 rename_i he
 simp only [ne_eq,Decidable.not_not] at he
 unfold putErr at he
 split at he
 ·omega
 rename_i k0
 split at he
 ·omega
 rename_i k2
 split at he
 ·omega
 rename_i k3
 have k3' : (p.reg i.dst).k = 3 := by omega
 split at he
 ·rename_i hx; exact absurd he hx
 rename_i hn
 simp only [ne_eq,Decidable.not_not] at hn
 obtain ⟨rfl,rfl⟩ : some (p.wrote i) = ah ∧ (none : Option Pl) = af := by simpa using hc
 obtain ⟨v1,v2⟩ := holds_frame (h.reg i.dst hd.1 hd.2) k3'
 obtain ⟨b1,_,b3⟩ := asN_ok h hl (second_holds h i hs.1 hs.2) (show asN p (second i p) = (0,(asN p (second i p)).2) from Prod.ext hn rfl)
 have hu := unset_ok h i.dst hd.1 hd.2 (by omega)
 have hse := secErr_ok h i hs.1 hs.2 b3
 unfold partErr at he
 rw [hsz] at he
 simp only [Bool.true_eq_false,if_false] at he
 have hp2 : ¬ (frameAt (p.reg i.dst) i < -512 ∨ -i.size < frameAt (p.reg i.dst) i) := fun e => by rw [if_pos e] at he; omega
 have hfa : frameAt (p.reg i.dst) i = ((m.reg i.dst).2 + wide i.off).toInt := by unfold frameAt; rw [v2]
 rw [hfa] at hp2
 have hf := frame_ok hp2
 have e1 : (512 + ((m.reg i.dst).2 + wide i.off).toInt).toNat = (((m.reg i.dst).2 + wide i.off).toInt + 512).toNat := by omega
 unfold Pl.wrote
 rw [hfa,e1]
 unfold estep
 rw [if_neg (by omega),if_neg (by omega),if_neg (by omega),if_pos ho]
 simp only [hu,hse,v1,b1,hf]
 exact ⟨_,rfl,.inr ⟨by omega,rfl,.inl ⟨rfl,_,rfl,h.wrote _ _ _⟩⟩⟩
theorem step_alu (i : Ins) (hi : i.right = true) (ho : i.op ≤ 13) (pk : List B) (hl : len ≤ 65535) (h : PlH p m len) {ah af : Option Pl} (hc : cstep i p = (0,ah,af)) : ∃ m',estep pk i m = (0,m') ∧ After i m m' ah af len := by
 obtain ⟨hd,hs,hof,him,_,hop,_⟩ := right_facts hi
 unfold cstep at hc
 rw [if_neg (by omega),if_neg (by omega),if_neg (by omega),if_neg (by omega),if_pos ho] at hc
 split at hc
 ·rename_i he
  exact absurd (congrArg Prod.fst hc) he
 rename_i he
 simp only [ne_eq,Decidable.not_not] at he
 unfold kof at he hc
 obtain ⟨k,hk⟩ : ∃ k,k = (kdo i.op i.narrow (p.reg i.dst) (if i.op = 13 then Kn.none else second i p)).1 := ⟨_,rfl⟩
 have hkd : kdo i.op i.narrow (p.reg i.dst) (if i.op = 13 then Kn.none else second i p) = (k,0) := Prod.ext hk.symm he
 obtain ⟨rfl,rfl⟩ : some (p.put i.dst k) = ah ∧ (none : Option Pl) = af := by rw [hkd] at hc; simpa using hc
 have hra := h.reg i.dst hd.1 hd.2
 have hrb := second_holds h i hs.1 hs.2
 have fin : ∀ v : Int × U,k.holds v.1 v.2 len → After i m (m.put i.dst v) (some (p.put i.dst k)) none len := fun v hv =>
  .inr ⟨by omega,rfl,.inl ⟨rfl,_,rfl,h.put i.dst hd.1 hd.2 hv⟩⟩
 unfold estep
 by_cases h12 : i.op = 12
 ·rw [if_pos h12]
  rw [if_neg (by omega),h12] at hkd
  obtain ⟨m1,m2,m3⟩ := kdo_mov i.narrow _ _ k _ (m.reg i.dst).2 _ len hl hrb hkd
  have hse := secErr_ok h i hs.1 hs.2 m1
  cases hn : i.narrow with
  | false =>
   simp only [hse,ne_eq,not_true_eq_false,if_false,Bool.false_and,Bool.false_eq_true]
   refine ⟨_,rfl,fin _ ?_⟩
   rw [m2 hn]
   exact hrb
  | true =>
   obtain ⟨m4,m5⟩ := m3 hn
   simp only [hse,ne_eq,not_true_eq_false,if_false,m4,decide_false,Bool.and_false,Bool.false_eq_true,if_true]
   refine ⟨_,rfl,fin _ ?_⟩
   exact m5
 rw [if_neg h12]
 by_cases h13 : i.op = 13
 ·rw [if_pos h13]
  rw [if_pos h13,h13] at hkd
  obtain ⟨m1,m2,m3⟩ := kdo_neg i.narrow _ _ k _ _ len hl hra hkd
  have hu := unset_ok h i.dst hd.1 hd.2 m1
  simp only [hu,m2]
  refine ⟨_,rfl,fin _ ?_⟩
  exact m3
 rw [if_neg h13,if_neg (by omega),if_neg (by omega),if_neg (by omega),if_neg (by omega),if_pos (by omega)]
 rw [if_neg h13] at hkd
 obtain ⟨m1,m2,m3,m4,m5,m6⟩ := kdo_sound i.op i.narrow _ _ k _ _ _ _ len hl hra hrb ⟨h12,h13⟩ hkd
 have hu := unset_ok h i.dst hd.1 hd.2 m3
 have hse := secErr_ok h i hs.1 hs.2 m4
 have hno : ¬ ((esecond i m).1 ≠ 1 ∨ ((m.reg i.dst).1 ≠ 1 ∧ ¬ ((i.op = 1 ∨ i.op = 2) ∧ i.narrow = false))) := by
  rintro (e | ⟨e,e2⟩)
  ·exact e m1
  ·rcases m2 with e3 | e3
   ·exact e e3
   ·exact e2 e3
 simp only [hu,hse,m5,ne_eq,not_true_eq_false,decide_false,Bool.or_self,Bool.false_eq_true,if_false]
 rw [if_neg hno]
 exact ⟨_,rfl,fin _ m6⟩
theorem step_branch (i : Ins) (hi : i.right = true) (ho : 17 ≤ i.op ∧ i.op ≤ 27) (pk : List B) (hl : len ≤ 65535) (h : PlH p m len) {ah af : Option Pl} (hc : cstep i p = (0,ah,af)) : ∃ m',estep pk i m = (0,m') ∧ After i m m' ah af len := by
 obtain ⟨hd,hs,hof,him,_,hop,_⟩ := right_facts hi
 unfold cstep at hc
 rw [if_neg (by omega),if_neg (by omega),if_neg (by omega),if_neg (by omega),if_neg (by omega)] at hc
 split at hc
 ·simp at hc
 rename_i k0
 split at hc
 ·rename_i he; exact absurd (congrArg Prod.fst hc) he
 rename_i hea
 split at hc
 ·rename_i he; exact absurd (congrArg Prod.fst hc) he
 rename_i heb
 simp only [ne_eq,Decidable.not_not] at hea heb
 have ha : asN p (p.reg i.dst) = (0,(asN p (p.reg i.dst)).2) := Prod.ext hea rfl
 have hb : asN p (second i p) = (0,(asN p (second i p)).2) := Prod.ext heb rfl
 obtain ⟨rfl,rfl⟩ : ended i p false (asN p (p.reg i.dst)).2 (asN p (second i p)).2 = ah ∧ ended i p true (asN p (p.reg i.dst)).2 (asN p (second i p)).2 = af := by simpa using hc
 obtain ⟨a1,_,a3⟩ := asN_ok h hl (h.reg i.dst hd.1 hd.2) ha
 obtain ⟨b1,_,b3⟩ := asN_ok h hl (second_holds h i hs.1 hs.2) hb
 have hu := unset_ok h i.dst hd.1 hd.2 a3
 have hse := secErr_ok h i hs.1 hs.2 b3
 unfold estep
 rw [if_neg (by omega),if_neg (by omega),if_neg (by omega),if_neg (by omega),if_neg (by omega),if_neg (by omega),if_neg (by omega)]
 simp only [hu,hse,a1,b1,ne_eq,not_true_eq_false,decide_false,Bool.or_self,Bool.false_eq_true,if_false,or_self]
 cases hy : ais i.op i.narrow (m.reg i.dst).2 (esecond i m).2 with
 | false =>
  obtain ⟨q,e1,e2⟩ := ended_holds h hl i hd hs ho ha hb false hy
  exact ⟨_,rfl,.inr ⟨by omega,rfl,.inl ⟨rfl,q,e1,e2⟩⟩⟩
 | true =>
  obtain ⟨q,e1,e2⟩ := ended_holds h hl i hd hs ho ha hb true hy
  exact ⟨_,rfl,.inr ⟨by omega,rfl,.inr ⟨rfl,by unfold Ins.jumps; rw [decide_eq_true_eq]; omega,q,e1,e2.at'' _⟩⟩⟩
/-- any instruction -/
theorem step_sound (i : Ins) (hi : i.right = true) (pk : List B) (hpk : pk.length = len) (hl : len ≤ 65535) (h : PlH p m len) {ah af : Option Pl} (hc : cstep i p = (0,ah,af)) : ∃ m',estep pk i m = (0,m') ∧ After i m m' ah af len := by
 obtain ⟨hd,hs,hof,him,_,hop,_⟩ := right_facts hi
 by_cases h14 : i.op = 14
 ·exact step_load i hi h14 pk hpk hl h hc
 by_cases h15 : i.op = 15
 ·exact step_put i hi h15 pk hl h hc
 by_cases h16 : i.op = 16
 ·unfold cstep at hc
  rw [if_neg h14,if_neg h15,if_pos h16] at hc
  obtain ⟨rfl,rfl⟩ : (none : Option Pl) = ah ∧ some p = af := by simpa using hc
  unfold estep
  rw [if_neg (by omega),if_neg (by omega),if_neg h14,if_neg h15,if_pos h16]
  exact ⟨_,rfl,.inr ⟨by omega,rfl,.inr ⟨rfl,by unfold Ins.jumps; rw [decide_eq_true_eq]; omega,p,rfl,h.at'' _⟩⟩⟩
 by_cases h28 : i.op = 28
 ·unfold cstep at hc
  rw [if_neg h14,if_neg h15,if_neg h16,if_pos h28] at hc
  have he : (asN p (p.reg 0)).1 = 0 := congrArg Prod.fst hc
  obtain ⟨a1,_,a3⟩ := asN_ok h hl (h.reg 0 (by omega) (by omega)) (show asN p (p.reg 0) = (0,(asN p (p.reg 0)).2) from Prod.ext he rfl)
  have hu := unset_ok h 0 (by omega) (by omega) a3
  unfold estep
  rw [if_neg (by omega),if_neg (by omega),if_neg h14,if_neg h15,if_neg h16,if_pos h28]
  simp only [hu,a1]
  exact ⟨_,rfl,.inl ⟨h28,rfl,rfl⟩⟩
 by_cases h13 : i.op ≤ 13
 ·exact step_alu i hi h13 pk hl h hc
 ·exact step_branch i hi (by omega) pk hl h hc
end
end Go.Proofs.YtfeipbgnjainlaaGreat.T
