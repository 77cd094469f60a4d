/- What all servers look at: TExB, TExC, AppGrow, TExD, TCkF -/
import Derived.Test.YtfeipbgnjainlaaGreatTw20
import Derived.Test.YtfeipbgnjainlaaGreatTw28
import Derived.Test.YtfeipbgnjainlaaGreatTw13
import Derived.Test.YtfeipbgnjainlaaGreatTw6
import Derived.Test.YtfeipbgnjainlaaGreatTw2
import Derived.Deep.RegionHeld3
import Derived.Lib.QuietBelow
import Derived.WalkLawsBesides
import Derived.ArgAppend
import Derived.Laws.AppendOwn
import Derived.Test.YtfeipbgnjainlaaGreatTw29
import Derived.Test.YtfeipbgnjainlaaGreatTw19
set_option linter.unusedVariables false
set_option linter.unusedSimpArgs false
/- The contracts of exec.asks and exec.frame, the good way. -/
set_option maxRecDepth 100000
set_option maxHeartbeats 2000000
namespace Go.Proofs.YtfeipbgnjainlaaGreat.K
open Go Go.RowKit Go.Maps Go.Sort

theorem asks_ok (M : Nat) (m : T.Mc) (pk vd : Value) (A : Option Addr) (n c : Nat) (rs : List Nat) (w : World) (hok : Mok m) (hM : RdC w M (mcL m pk vd)) (hl : rs.length = n) (hn : n ≤ 100)
  (hA : ∀ (j r : Nat),rs[j]? = some r → ∃ b o,A = some ⟨b,o,none⟩ ∧ w.cell? ⟨b,o + j,none⟩ = some (.int .i64 (r : Int))) (hr : ∀ r ∈ rs,r < 11 ∧ (m.reg (r : Int)).1 ≠ 0) :
  Calls Tryz.prog 76 #[.pointer (some ⟨M,0,none⟩),.slice A n c] w fun e w' => e = .returned (.int .i64 0) ∧ w' = w := by
 have HM := Lib.hid hM
 have HL := Lib.hid hl
 have HA := Lib.hid hA
 have HR := Lib.hid hr
 clear hM hl hA hr
 go_enter Tryz.func76,Tryz.ntmps76
 go_wp2
 go_loopw [6,9] (fun v i wr => ∃ j : Nat,j ≤ n ∧ i = .int .i64 (j : Int) ∧ wr = w) (fun _ i _ => n - (intOf i).toNat)
 case atStart => exact ⟨0,Nat.zero_le _,rfl,rfl⟩
 case round =>
  obtain ⟨j,hj,rfl,rfl⟩ := hrel
  have j0 : (0 : Int) ≤ (j : Int) := by omega
  by_cases hlt : j < n
  ·have i1 : (j : Int) < (n : Int) := by omega
   obtain ⟨r,hr⟩ : ∃ r,rs[j]? = some r := ⟨_,List.getElem?_eq_getElem (by have := HL.out; omega)⟩
   obtain ⟨b,o,rfl,hc⟩ := HA.out j r hr
   obtain ⟨r1,r2⟩ := HR.out r (List.mem_of_getElem? hr)
   have m0 := HM.out _ _ (mcL_reg hok pk vd r r1).1
   have k0 : (0 : Int) ≤ (r : Int) := by omega
   have k1 : (r : Int) < (11 : Int) := by omega
   obtain ⟨q,hq⟩ : ∃ q,(m.reg (r : Int)).1 = q := ⟨_,rfl⟩
   rw [hq] at m0 r2
   have eq : (q == 0) = false := by simpa using r2
   clear hr hq r2
   go_wp2
   go_round
   case rel => exact ⟨j + 1,by omega,by go_num,by first | rfl | trivial⟩
   case measure => simp [intOf]; omega
  ·have i1 : ¬ (j : Int) < (n : Int) := by omega
   go_wp2
   go_ret
   exact ⟨rfl,by first | rfl | trivial⟩
theorem frameErr_in {z : T.U} {i : T.Ins} (h : T.frameErr z i = 0) : 0 ≤ (z + T.wide i.off).toInt + 512 ∧ (z + T.wide i.off).toInt + 512 ≤ 512 - i.size := by
 unfold T.frameErr at h
 split at h
 ·cases h
 ·omega
theorem exFrame_ok (z : T.U) (i : T.Ins) (w : World) (h : T.frameErr z i = 0) (hs : T.sized i.size = true) : Calls Tryz.prog 80 #[W64 z,insV i] w (Ret w (.tuple #[.int .i64 ((z + T.wide i.off).toInt + 512),.int .i64 0])) := by
 obtain ⟨h1,h2⟩ := frameErr_in h
 have h3 := T.sized_cases hs
 obtain ⟨K,hK⟩ : ∃ K,(z + T.wide i.off).toInt + 512 = K := ⟨_,rfl⟩
 have hadd : ∀ t,binOp .add t (S64 (z + T.wide i.off)) (.int .i64 512) = pure (.int .i64 K) := fun t => by
  have hw : IntKind.i64.wrap ((z + T.wide i.off).toInt + 512) = K := by rw [IntWalk.i64_in _ (by omega),hK]
  simp only [S64,binOp_add,Op.intArith,hw]
 rw [hK] at h1 h2 ⊢
 have kw : IntKind.i64.wrap (512 - i.size) = 512 - i.size := IntWalk.i64_in _ (by omega)
 have hgt : ¬ K > 512 - i.size := by omega
 have hlt : ¬ K < 0 := by omega
 have hcv := fun w (y : BitVec 64) => conv_W64_S64 (P := Tryz.prog) (src := 34) (dst := 2) (w := w) y Tryz.underlying34 Tryz.underlying2
 clear h hs h3 hK
 unfold insV insL
 have BK0 := Lib.hid ((Bank.nil (Below.refl w.heap.size w)).boxL [.int .u8 i.op,.bool i.narrow,.int .i64 i.dst,.int .i64 i.src,.bool i.useImm,.int .i64 i.off,.int .i64 i.imm,.int .i64 i.size] 31 (by simp))
 go_enter Tryz.func80,Tryz.ntmps80
 go_upto_region 1 with fail
 generalize w.heap.size = X at *
 refine wp_hid BK0 (fun w1 BK0 => ?_)
 have i5 := BK0.out.cell 0 rfl 5 rfl
 have i7 := BK0.out.cell 0 rfl 7 rfl
 go_wp2_with fail
 refine (aluWide_any w1 i.off).mono ?_
 rintro e w2 ⟨rfl,rfl⟩
 go_wp2
 go_ret2
 exact ⟨rfl,BK0.out.since⟩
end Go.Proofs.YtfeipbgnjainlaaGreat.K
/- (made by genexc.py) The contracts of exec's jump and exit, the good way. -/
set_option maxRecDepth 100000
set_option maxHeartbeats 2000000
namespace Go.Proofs.YtfeipbgnjainlaaGreat.K
open Go Go.RowKit Go.Maps Go.Sort

/-- an instruction has been done: the machine is that now -/
def ExP (w0 : World) (M : Nat) (m : T.Mc) (pk vd : Value) (L : List Acc) (e : Ending) (w' : World) : Prop := e = .returned (.int .i64 0) ∧ Bank w0 w' (boxAcc M 56 (mcL m pk vd) :: L)
theorem exJump_ok {M : Nat} {m : T.Mc} {pk vd : Value} {w0 w : World} {L : List Acc} (i : T.Ins) (hB : Bank w0 w (boxAcc M 56 (mcL m pk vd) :: L)) (hok : Mok m) (h0 : 0 ≤ i.off) (hb : (m.at' : Int) + i.off < 100000) : Calls Tryz.prog 37 #[.pointer (some ⟨M,0,none⟩),insV i] w (ExP w0 M { m with at' := m.at' + i.off.toNat } pk vd L) := by
 obtain ⟨t,ht⟩ : ∃ t : Nat,i.off = (t : Int) := ⟨i.off.toNat,by omega⟩
 have htn : i.off.toNat = t := by rw [ht]; rfl
 have kw : IntKind.i64.wrap ((m.at' : Int) + (t : Int)) = ((m.at' + t : Nat) : Int) := by rw [IntWalk.i64_in _ (by omega)]; omega
 rw [htn]; clear h0 hb htn
 unfold insV insL
 rw [ht]; clear ht
 have BK0 := Lib.hid (hB.boxL [.int .u8 i.op,.bool i.narrow,.int .i64 i.dst,.int .i64 i.src,.bool i.useImm,.int .i64 (t : Int),.int .i64 i.imm,.int .i64 i.size] 31 (by simp))
 clear hB
 go_enter Tryz.func37,Tryz.ntmps37
 go_upto_region 1 with fail
 generalize w.heap.size = X at *
 refine wp_hid BK0 (fun w1 BK0 => ?_)
 have m1 := BK0.out.cell 1 rfl 1047 (mcL_end hok pk vd 1)
 have f1 := BK0.out.free 1 rfl 1047
 have i5 := BK0.out.cell 0 rfl 5 rfl
 refine WL.begin 9 (fun w' => w'.cell? ⟨M,1047,none⟩ = some (.int .i64 (m.at' : Int)) ∧ w'.cell? ⟨X,5,none⟩ = some (.int .i64 (t : Int))) (fun _ => True) (by kernel_rfl) ⟨m1,i5⟩ trivial (fun hs => ?_)
 refine WL.tk [(0,[]),(1,[]),(2,[]),(3,[3]),(4,[]),(5,[5]),(6,[]),(7,[]),(8,[])] hs ?_; clear hs
 iterate 9
  (first | refine TKs.p (v := ?_) ?_ ?_ | refine TKs.l (v := ?_) ?_ ?_); rotate_left
  ·intro w hc; go_simp <;> rfl
  simp only [Act.put,sA,sZ,sS]
 refine TKs.mk ?_; intro hs
 refine WL.o1 (i := 9) (by kernel_rfl) rfl hs ?_; clear hs
 intro K hK
 go_simp
 refine hK.out _ _ (SApp.intro (fun h => (by cases h)) trivial) ?_
 clear hK K; intro hs; try simp only [Act.put]
 clear hs; refine WL.done (by kernel_rfl) ?_ _; try simp only [Exit.then]
 have BK1 := Lib.hid (BK0.out.boxSet 1 rfl 1047 (.int .i64 ((m.at' + t : Nat) : Int))).drew
 go_wp2
 go_ret
 refine ⟨rfl,?_⟩
 have h := BK1.out.drop
 rw [mcL_at hok] at h
 exact h
theorem exExit_ok {M : Nat} {m : T.Mc} {pk vd : Value} {w0 w : World} {L : List Acc} (i : T.Ins) (hB : Bank w0 w (boxAcc M 56 (mcL m pk vd) :: L)) (hok : Mok m) (h0 : (m.reg 0).1 = 1) : Calls Tryz.prog 38 #[.pointer (some ⟨M,0,none⟩),insV i] w (ExP w0 M m pk (.pointer (some ⟨M,1,none⟩)) L) := by
 unfold insV insL
 have BK0 := Lib.hid (hB.boxL [.int .u8 i.op,.bool i.narrow,.int .i64 i.dst,.int .i64 i.src,.bool i.useImm,.int .i64 i.off,.int .i64 i.imm,.int .i64 i.size] 31 (by simp))
 clear hB
 go_enter Tryz.func38,Tryz.ntmps38
 go_upto_region 1 with fail
 generalize w.heap.size = X at *
 refine wp_hid BK0 (fun w1 BK0 => ?_)
 have m0 := BK0.out.cell 1 rfl 0 (h0 ▸ (mcL_reg hok pk vd 0 (by decide)).1)
 have f0 := BK0.out.free 1 rfl 1048
 go_wp2_with fail
 have BK1 := Lib.hid (BK0.out.boxL [.int .i64 0] 3 (by simp))
 have n0 := (BK1.out.cell 0 rfl 0 rfl)
 have hM := fun j v (hj : (mcL m pk vd)[j]? = some v) => BK1.out.cell 2 rfl j hj
 generalize w1.heap.size = Y at *
 generalize w1.alloc (.cells #[.int .i64 0] 3) = w2 at *
 refine (asks_ok M m pk vd (some ⟨Y,0,none⟩) 1 1 [0] w2 hok (fun j v hj => hM j v hj) rfl (by decide) (fun j r hr => ⟨Y,0,rfl,by cases j with | zero => cases hr; exact n0 | succ j => cases hr⟩) (fun r hr => by cases hr with | head => exact ⟨by decide,by rw [show ((0 : Nat) : Int) = 0 from rfl,h0]; decide⟩ | tail _ h => cases h)).mono ?_
 rintro e w3 ⟨rfl,rfl⟩
 clear m0 f0
 have m0 := BK1.out.cell 2 rfl 0 (h0 ▸ (mcL_reg hok pk vd 0 (by decide)).1)
 have f0 := BK1.out.free 2 rfl 1048
 have m8 := BK1.out.cell 2 rfl 1048 (mcL_end hok pk vd 2)
 have BK2 := Lib.hid (BK1.out.boxSet 2 rfl 1048 (.pointer (some ⟨M,1,none⟩)))
 go_wp2
 go_ret
 refine ⟨rfl,?_⟩
 have h := BK2.out.drop.drop
 rw [mcL_vd hok] at h
 exact h
theorem aluDo_ret (w : World) (op : Int) (nr : Bool) (a b : BitVec 64) (h : 1 ≤ op ∧ op ≤ 13) (he : T.aerr op nr b = 0) : Calls Tryz.prog 77 #[.int .u8 op,.bool nr,W64 a,W64 b] w (Ret w (.tuple #[W64 (T.ado op nr a b),.int .i64 0])) := by
 have e : aluV op nr a b = T.ado op nr a b := by
  unfold aluV T.ado T.aluR
  unfold T.aerr at he
  cases nr <;> simp_all
 have H := aluDo_any w op nr a b h
 rw [he,e] at H
 exact H
theorem set_sameV {l : List Value} {j : Nat} {v : Value} (h : l[j]? = some v) : l.set j v = l := by
 obtain ⟨hi,rfl⟩ := List.getElem?_eq_some_iff.1 h
 exact List.set_getElem_self hi
theorem mcL_put1 {m : T.Mc} (hok : Mok m) (pk vd : Value) (r : Nat) (hr : r < 11) (v : Int × T.U) (hv : (m.reg (r : Int)).1 = v.1) : (mcL m pk vd).set (r * 2 + 1) (W64 v.2) = mcL (m.put (r : Int) v) pk vd := by
 rw [← mcL_put hok pk vd r hr v,set_sameV (j := r * 2) (v := .int .u8 v.1) (hv ▸ (mcL_reg hok pk vd r hr).1)]
theorem exTurn_ok {M : Nat} {m : T.Mc} {pk vd : Value} {w0 w : World} {L : List Acc} (i : T.Ins) (hB : Bank w0 w (boxAcc M 56 (mcL m pk vd) :: L)) (hok : Mok m) (hd : 0 ≤ i.dst ∧ i.dst ≤ 10) (ho : i.op = 13) (h0 : (m.reg i.dst).1 = 1) : Calls Tryz.prog 34 #[.pointer (some ⟨M,0,none⟩),insV i] w (ExP w0 M (m.put i.dst (1,T.ado 13 i.narrow (m.reg i.dst).2 0)) pk vd L) := by
 obtain ⟨op,nr,dst,src,u,off,imm,size⟩ := i
 obtain ⟨s,rfl⟩ := Int.eq_ofNat_of_zero_le hd.1
 have s1 : s < 11 := by have := hd.2; simp only at this; omega
 have j0 : (0 : Int) ≤ (s : Int) := by omega
 have j1 : (s : Int) < (11 : Int) := by omega
 clear hd
 simp only at h0 ho ⊢
 subst ho
 obtain ⟨z,hz⟩ : ∃ z,(m.reg (s : Int)).2 = z := ⟨_,rfl⟩
 rw [hz]
 unfold insV insL
 have BK0 := Lib.hid (hB.boxL [.int .u8 13,.bool nr,.int .i64 (s : Int),.int .i64 src,.bool u,.int .i64 off,.int .i64 imm,.int .i64 size] 31 (by simp))
 clear hB
 go_enter Tryz.func34,Tryz.ntmps34
 go_upto_region 1 with fail
 generalize w.heap.size = X at *
 refine wp_hid BK0 (fun w1 BK0 => ?_)
 have i2 := BK0.out.cell 0 rfl 2 rfl
 go_wp2_with fail
 have BK1 := Lib.hid (BK0.out.boxL [.int .i64 (s : Int)] 3 (by simp))
 have n0 := (BK1.out.cell 0 rfl 0 rfl)
 have hM := fun j v (hj : (mcL m pk vd)[j]? = some v) => BK1.out.cell 2 rfl j hj
 generalize w1.heap.size = Y at *
 generalize w1.alloc (.cells #[.int .i64 (s : Int)] 3) = w2 at *
 refine (asks_ok M m pk vd (some ⟨Y,0,none⟩) 1 1 [s] w2 hok (fun j v hj => hM j v hj) rfl (by decide) (fun j r hr => ⟨Y,0,rfl,by cases j with | zero => cases hr; exact n0 | succ j => cases hr⟩) (fun r hr => by cases hr with | head => exact ⟨s1,by rw [h0]; decide⟩ | tail _ h => cases h)).mono ?_
 rintro e w3 ⟨rfl,rfl⟩
 clear i2 n0 hM
 have m0 := BK1.out.cell 2 rfl (s * 2) (h0 ▸ (mcL_reg hok pk vd s s1).1)
 have m1 := BK1.out.cell 2 rfl (s * 2 + 1) (hz ▸ (mcL_reg hok pk vd s s1).2)
 have f1 := BK1.out.free 2 rfl (s * 2 + 1)
 obtain ⟨i0,i1,i2⟩ := BK1.out.q3 1 rfl
 go_wp2_with fail
 refine WL.begin 99 (fun _ => True) (fun w' => w'.cell? ⟨X,2,none⟩ = some (.int .i64 (s : Int))) (by kernel_rfl) trivial i2 (fun hs => ?_)
 refine WL.tk [(0,[]),(1,[]),(2,[]),(3,[]),(4,[]),(5,[]),(6,[])] hs ?_; clear hs
 iterate 7
  (first | refine TKs.p (v := ?_) ?_ ?_ | refine TKs.l (v := ?_) ?_ ?_); rotate_left
  ·intro w hc; go_simp <;> rfl
  simp only [Act.put,sA,sZ,sS]
 refine TKs.mk ?_; intro hs
 clear hs; refine WL.done (by kernel_rfl) ?_ _; try simp only [Exit.then]
 have BK1 := Lib.hid BK1.out.drew
 generalize w3.drew = w4 at *
 clear m0 m1 f1 i0 i1 i2
 have m0 := BK1.out.cell 2 rfl (s * 2) (h0 ▸ (mcL_reg hok pk vd s s1).1)
 have m1 := BK1.out.cell 2 rfl (s * 2 + 1) (hz ▸ (mcL_reg hok pk vd s s1).2)
 have f1 := BK1.out.free 2 rfl (s * 2 + 1)
 obtain ⟨i0,i1⟩ := BK1.out.q2 1 rfl
 go_wp2_with fail
 have BK1 := Lib.hid BK1.out.drew
 refine WL.begin 8 (fun w' => w'.cell? ⟨X,0,none⟩ = some (.int .u8 13) ∧ w'.cell? ⟨X,1,none⟩ = some (.bool nr) ∧ w'.cell? ⟨M,s * 2 + 1,none⟩ = some (W64 z)) (fun _ => True) (by kernel_rfl) ⟨i0,i1,m1⟩ trivial (fun hs => ?_)
 generalize w4.drew = w5 at *
 refine WL.tk [(0,[]),(1,[1]),(2,[]),(3,[3]),(4,[]),(5,[]),(6,[]),(7,[7])] hs ?_; clear hs
 iterate 8
  (first | refine TKs.p (v := ?_) ?_ ?_ | refine TKs.l (v := ?_) ?_ ?_); rotate_left
  ·intro w hc; go_simp <;> rfl
  simp only [Act.put,sA,sZ,sS]
 refine TKs.mk ?_; intro hs
 refine WL.o1 (i := 8) (by kernel_rfl) rfl hs ?_; clear hs
 intro K hK
 go_simp
 refine (aluDo_ret _ 13 nr z 0 (by decide) (by unfold T.aerr; cases nr <;> rfl)).mono ?_
 rintro e wk ⟨rfl,hs⟩
 have BK2 := Lib.hid (BK1.out.call hs)
 clear hs
 refine hK.out _ _ (SApp.intro (fun h => (by cases h)) trivial) ?_
 clear hK K; intro hs; try simp only [Act.put,sA,sZ,sS]
 refine WL.tk [(9,[]),(10,[]),(11,[]),(12,[]),(13,[])] hs ?_; clear hs
 iterate 5
  (first | refine TKs.p (v := ?_) ?_ ?_ | refine TKs.l (v := ?_) ?_ ?_); rotate_left
  ·intro w hc; go_simp <;> rfl
  simp only [Act.put,sA,sZ,sS]
 refine TKs.mk ?_; intro hs
 clear hs; refine WL.done (by kernel_rfl) ?_ _; try simp only [Exit.then]
 clear m0 m1 f1 i0 i1
 try generalize wk.drew = wz at *
 have m1 := BK2.out.cell 2 rfl (s * 2 + 1) (hz ▸ (mcL_reg hok pk vd s s1).2)
 have f1 := BK2.out.free 2 rfl (s * 2 + 1)
 have BK3 := Lib.hid (BK2.out.boxSet 2 rfl (s * 2 + 1) (W64 (T.ado 13 nr z 0)))
 go_wp2
 rw [run_storeCells_W64]; go_simp; go_wp2
 go_ret
 refine ⟨rfl,?_⟩
 have h := BK3.out.drop.drop
 rw [mcL_put1 hok pk vd s s1 (1,T.ado 13 nr z 0) h0] at h
 exact h
end Go.Proofs.YtfeipbgnjainlaaGreat.K
/- (by hand) An append to a full slice. -/
namespace Go.Proofs.YtfeipbgnjainlaaGreat.K
open Go Go.RowKit Go.Maps Go.Sort

theorem step_append_grows {P : Program} {ops : Array Oper} {o : Oper} {a : Act} {w : World} {K : Act → World → Prop} {Q : Exit → Act → World → Prop} {E : Prop} (hgd : o.guard = Option.none) (s y : Operand) (t : TypeId)
  (ho : o.op = .call { callee := .builtin .append,args := #[s,y],argTypes := #[t,t] })
  (e : TypeId) (z : Value) (size bytes : Nat) (hz : (P.info? e).map (fun i => (i.zero,i.size,i.bytes)) = some (some z,size,bytes)) (ht : P.underlying t = some (.slice e)) (hzs : z.cells.size = size) (hsz : 0 < size)
  (ao : Option Addr) (k : Nat) (olds : List Value) (hs : a.eval s = .slice ao k k) (hnone : ao = Option.none → k = 0) (hlo : olds.length = k * size) (holds : ∀ b,ao = some b → ∀ j u,olds[j]? = some u → w.cell? (b.add j) = some u)
  (ad : Addr) (m c : Nat) (news : List Value) (hx : a.eval y = .slice (some ad) m c) (hl : news.length = m * size) (hnews : ∀ j u,news[j]? = some u → w.cell? (ad.add j) = some u) (h1 : ∀ u ∈ news,u.oneCell' = true)
  (hm : 0 < m) (h63 : k + m ≤ maxLen) (hbytes : (k + m) * bytes ≤ 140737488355328)
  (hK : ∀ A' n' c' w',n' = k + m → w'.ownsRow w.heap.size e size (.slice A' n' c') n' (olds ++ news) → Below w.heap.size w w' → K (a.put o.dst (.slice A' n' c')) w') :
  if Region.wanted o (yielded ops a.tmps) = true then Oper.wp P o a w K Q else E := by
 have hw : Region.wanted o (yielded ops a.tmps) = true := by simp [Region.wanted,hgd]
 rw [if_pos hw]
 obtain ⟨i0,hi,hz0,hz1,hz2⟩ := info_parts hz
 have key : ∃ v' w',(Builtin.append_ #[t,t] o.type #[.slice ao k k,.slice (some ad) m c]).run P w = .ok v' w' ∧ w'.ownsRow w.heap.size e size v' (k + m) (olds ++ news) ∧ w.grownBy w' Option.none := by
  cases ao with
  | some b => exact run_append_arg_grows (P := P) w t o.type e i0 z size bytes ht hi hz0 hz1 hz2 hzs hsz b k k olds hlo (holds b rfl) ad m c news hl hnews (by omega) h63 hbytes
  | none =>
   obtain rfl := hnone rfl
   obtain rfl : olds = [] := List.eq_nil_of_length_eq_zero (by simpa using hlo)
   obtain ⟨v',w',hrun,r1,r2,_⟩ := run_append_own (P := P) w w.heap.size t o.type e i0 z size bytes ht hi hz0 hz1 hz2 hzs hsz (.slice Option.none 0 0) 0 [] (World.ownsRow_nil w _ e size) ad m c news hl hnews h1 h63 hbytes (Nat.le_refl _)
   exact ⟨v',w',hrun,r1,r2⟩
 obtain ⟨v',w',hrun,r1,r2⟩ := key
 obtain ⟨A',c',rfl⟩ := row_slice r1
 unfold Oper.wp execOp
 simp only [ho,resolve,invoke,builtin,Sem.run_bind,Sem.run_pure,Result.andThen_ok,List.map_toArray,List.map_cons,List.map_nil,hs,hx,hrun]
 exact hK A' _ c' w' rfl r1 ⟨r2.os,r2.tape,r2.output,r2.size,fun k hk => r2.block k hk (by simp)⟩
end Go.Proofs.YtfeipbgnjainlaaGreat.K
/- (made by genexd.py) The contract of exec's second. -/
set_option maxRecDepth 100000
set_option maxHeartbeats 4000000
namespace Go.Proofs.YtfeipbgnjainlaaGreat.K
open Go Go.RowKit Go.Maps Go.Sort

theorem exSecond_ok (M : Nat) (m : T.Mc) (pk vd : Value) (i : T.Ins) (A : Option Addr) (n : Nat) (rs : List Nat) (w : World) (hok : Mok m) (hM : RdC w M (mcL m pk vd)) (hl : rs.length = n) (hn : n ≤ 1) (hno : A = none → n = 0)
  (hA : ∀ (j r : Nat),rs[j]? = some r → ∃ b o,A = some ⟨b,o,none⟩ ∧ w.cell? ⟨b,o + j,none⟩ = some (.int .i64 (r : Int))) (hr : ∀ r ∈ rs,r < 11 ∧ (m.reg (r : Int)).1 ≠ 0) (hs : 0 ≤ i.src ∧ i.src ≤ 10) (hsec : T.secErr i m = 0) :
  Calls Tryz.prog 75 #[.pointer (some ⟨M,0,none⟩),insV i,.slice A n n] w (Ret w (.tuple #[.agg #[.int .u8 (T.esecond i m).1,W64 (T.esecond i m).2],.int .i64 0])) := by
 obtain ⟨op,nr,dst,src,u,off,imm,size⟩ := i
 obtain ⟨s,rfl⟩ := Int.eq_ofNat_of_zero_le hs.1
 have s1 : s < 11 := by have := hs.2; simp only at this; omega
 clear hs
 have j0 : (0 : Int) ≤ (s : Int) := by omega
 have j1 : (s : Int) < (11 : Int) := by omega
 obtain ⟨q,hq⟩ : ∃ q,m.reg (s : Int) = q := ⟨_,rfl⟩
 obtain ⟨e0,e1⟩ := mcL_reg hok pk vd s s1
 rw [hq] at e0 e1
 unfold insV insL
 have BK0 := bk2 w [.int .u8 op,.bool nr,.int .i64 dst,.int .i64 (s : Int),.bool u,.int .i64 off,.int .i64 imm,.int .i64 size] 31 [.int .u8 0,W64 0#64] 50
 go_enter Tryz.func75,Tryz.ntmps75
 go_upto_region 1 with fail
 generalize w.heap.size = X at *
 refine wp_hid BK0 (fun w1 BK0 => ?_)
 have i4 := BK0.out.cell 1 rfl 4 rfl
 cases u
 case true =>
  have i6 := BK0.out.cell 1 rfl 6 rfl
  go_wp2_with fail
  refine (aluWide_any w1 imm).mono ?_
  rintro e w2 ⟨rfl,rfl⟩
  go_wp2_with fail
  refine (asks_ok M m pk vd A n n rs w1 hok (fun j v hj => BK0.out.since.keep (hM j v hj)) hl (by omega) (fun j r hj => by obtain ⟨b,o,h1,h2⟩ := hA j r hj; exact ⟨b,o,h1,BK0.out.since.keep h2⟩) hr).mono ?_
  rintro e w2 ⟨rfl,rfl⟩
  obtain ⟨r0,r1,fr0,fr1⟩ := BK0.out.r2 0 rfl
  clear i4 i6
  have BK1 := Lib.hid ((BK0.out.boxSet 0 rfl 0 (.int .u8 1)).boxSet 0 rfl 1 (W64 (T.wide imm)))
  go_wp2
  clear r0 r1
  obtain ⟨r0,r1⟩ := BK1.out.q2 0 rfl
  refine bodyPost_ret (v := .tuple #[.agg #[.int .u8 1,W64 (T.wide imm)],.int .i64 0]) ?_ rfl ⟨rfl,BK1.out.since⟩
  simp [results,Tryz.results75,go_sem,r0,r1]
 case false =>
  have i3 := BK0.out.cell 1 rfl 3 rfl
  go_upto_region 3 with fail
  have BK1 := Lib.hid BK0.out.drew
  have m0 := BK0.out.since.keep (hM _ _ e0)
  have m1 := BK0.out.since.keep (hM _ _ e1)
  have hun : q.1 ≠ 0 := by
   unfold T.secErr T.unset at hsec
   simp only [hq] at hsec
   intro h
   rw [h] at hsec
   simp at hsec
  refine WL.begin 14 (fun w' => w'.cell? ⟨X,3,none⟩ = some (.int .i64 (s : Int)) ∧ w'.cell? ⟨M,s * 2,none⟩ = some (.int .u8 q.1) ∧ w'.cell? ⟨M,s * 2 + 1,none⟩ = some (W64 q.2)) (fun _ => True) (by kernel_rfl) ⟨i3,m0,m1⟩ trivial (fun hs => ?_)
  generalize w1.drew = w5 at *
  refine WL.tk [(0,[]),(1,[]),(2,[2]),(3,[]),(4,[]),(5,[]),(6,[6]),(7,[]),(8,[]),(9,[]),(10,[13,12,11,10])] hs ?_; clear hs
  iterate 11
   (first | refine TKs.p (v := ?_) ?_ ?_ | refine TKs.l (v := ?_) ?_ ?_); rotate_left
   ·intro w hc; go_simp <;> rfl
   simp only [Act.put,sA,sZ,sS]
  refine TKs.mk ?_; intro hs
  refine WL.o1 (i := 11) (by kernel_rfl) rfl hs ?_; clear hs
  intro K hK
  go_simp
  have HW := Lib.hid BK1.out.since
  have BK2 := Lib.hid (BK1.out.boxL [.int .i64 (s : Int)] 3 (by simp))
  refine hK.out _ _ (SApp.intro (fun _ => ⟨BK2.out.cell 2 rfl 3 rfl,(HW.out.alloc _).keep (hM _ _ e0),(HW.out.alloc _).keep (hM _ _ e1)⟩) trivial) ?_
  clear hK K; intro hs; try simp only [Act.put,sA,sZ,sS]
  refine WL.o1 (i := 12) (by kernel_rfl) rfl hs ?_; clear hs
  intro K hK
  refine step_append_grows rfl (.tmp 19) (.tmp 22) 60 rfl 3 (.int .i64 0) 1 8 (by kernel_rfl) Tryz.underlying60 rfl (by decide) A n (rs.map fun (r : Nat) => Value.int .i64 (r : Int)) rfl hno ?_ ?_ ⟨_,0,none⟩ 1 1 [.int .i64 (s : Int)] rfl rfl ?_ ?_ (by decide) ?_ ?_ ?_
  ·rw [List.length_map,hl,Nat.mul_one]
  ·intro b hb j u hu
   rw [List.getElem?_map] at hu
   cases hj : rs[j]? with
   | none => rw [hj] at hu; cases hu
   | some r =>
    rw [hj] at hu
    obtain ⟨b',o',h1,h2⟩ := hA j r hj
    rw [hb] at h1; cases h1
    simp only [Option.map_some,Option.some.injEq] at hu
    rw [← hu,Addr.add_mid]
    exact (HW.out.alloc _).keep h2
  ·intro j u hu
   cases j with
   | zero => cases hu; exact BK2.out.cell 0 rfl 0 rfl
   | succ j => cases hu
  ·intro u hu
   rw [List.mem_singleton] at hu
   subst hu; rfl
  ·unfold maxLen; omega
  ·omega
  intro A' n' c' w7 hn' ho hb
  have BK3 := Lib.hid (BK2.out.made hb ho)
  have HW7 := Lib.hid ((HW.out.alloc _).add hb)
  have HN := Lib.hid hn'
  have HO := Lib.hid ho
  clear hn' ho
  refine hK.out _ _ (SApp.intro (fun _ => ⟨BK3.out.cell 3 rfl 3 rfl,HW7.out.keep (hM _ _ e0),HW7.out.keep (hM _ _ e1)⟩) trivial) ?_
  clear hb
  clear hK K; intro hs; try simp only [Act.put,sA,sZ,sS]
  refine WL.o1 (i := 13) (by kernel_rfl) rfl hs ?_; clear hs
  intro K hK
  go_simp
  refine (asks_ok M m pk vd A' n' c' (rs ++ [s]) w7 hok (fun j v hj => HW7.out.keep (hM j v hj)) (by rw [List.length_append,hl,HN.out]; rfl) (by have := HN.out; omega) ?_ ?_).mono ?_
  ·intro j r hj
   obtain ⟨g,rfl⟩ := own_someB HO.out (by have := HN.out; omega)
   refine ⟨g,0,rfl,?_⟩
   have h1 := World.ownsRow.cells HO.out (g := g) rfl j (.int .i64 (r : Int)) (by rw [← List.map_singleton (f := fun (r : Nat) => Value.int .i64 (r : Int)),← List.map_append,List.getElem?_map,hj]; rfl)
   rw [Addr.add_mid] at h1
   exact h1
  ·intro r hr'
   rcases List.mem_append.1 hr' with h | h
   ·exact hr r h
   ·rw [List.mem_singleton] at h
    subst h
    exact ⟨s1,by rw [hq]; exact hun⟩
  rintro e w8 ⟨rfl,rfl⟩
  refine hK.out _ _ (SApp.intro (fun _ => ⟨BK3.out.cell 3 rfl 3 rfl,HW7.out.keep (hM _ _ e0),HW7.out.keep (hM _ _ e1)⟩) trivial) ?_
  clear hK K; intro hs; try simp only [Act.put,sA,sZ,sS]
  refine WL.o1 (i := 14) (by kernel_rfl) rfl hs ?_; clear hs
  intro K hK
  obtain ⟨r0,r1,fr0,fr1⟩ := BK3.out.r2 2 rfl
  go_simp
  have BK4 := Lib.hid ((BK3.out.boxSet 2 rfl 0 (.int .u8 q.1)).boxSet 2 rfl 1 (W64 q.2))
  clear r0 r1 fr0 fr1
  refine hK.out _ _ (SApp.intro (fun h => (by cases h)) trivial) ?_
  clear hK K; intro hs; try simp only [Act.put]
  refine WL.o1 (i := 15) (by kernel_rfl) rfl hs ?_; clear hs
  intro K hK
  go_simp
  refine hK.out _ _ (SApp.intro (fun h => (by cases h)) trivial) ?_
  clear hK K; intro hs; try simp only [Act.put,sA,sZ,sS]
  clear hs; refine WL.done (by kernel_rfl) ?_ _; try simp only [Exit.then]
  obtain ⟨r0,r1⟩ := BK4.out.q2 2 rfl
  go_wp2
  refine bodyPost_ret (v := .tuple #[.agg #[.int .u8 q.1,W64 q.2],.int .i64 0]) ?_ rfl ⟨?_,BK4.out.since⟩
  ·simp [results,Tryz.results75,go_sem,r0,r1]
  ·unfold T.esecond
   simp only [Bool.false_eq_true,if_false,hq]
end Go.Proofs.YtfeipbgnjainlaaGreat.K
/- (made by genckf.py) The contracts of check's jump, exit, with. -/
set_option maxRecDepth 100000
set_option maxHeartbeats 4000000
namespace Go.Proofs.YtfeipbgnjainlaaGreat.K
open Go Go.RowKit Go.Maps Go.Sort

/-- the walker's cells, whatever is known now -/
def wkN (lv : Value) (P n c k : Nat) (a b d e : Value) : List Value := [lv,.slice (some ⟨P,0,none⟩) n c,.int .i64 (k : Int),a,b,d,e]
/-- what a step leaves -/
def StepP (w0 : World) (lv : Value) (Wk P n c k : Nat) (ps : List T.Pl) (R : List Acc) (r : Int × Option T.Pl × Option T.Pl) (off : Int) (e : Ending) (w' : World) : Prop :=
 ∃ va vb vd ve,(r.1 = 0 ∧ e = .returned (.tuple #[]) ∧ ∃ xs',xs'.map PV.p = T.told (T.told ps (k + 1) r.2.1) (k + 1 + off.toNat) r.2.2 ∧ Bank w0 w' (boxAcc Wk 84 (wkN lv P n c k va vb vd ve) :: plsA P n c xs' :: (pvA xs' ++ R)))
 ∨ (r.1 ≠ 0 ∧ e = .panicked (eP r.1) ∧ Bank w0 w' (boxAcc Wk 84 (wkN lv P n c k va vb vd ve) :: R))
/-- where the walker stands: at place k, x known now, xs of the places -/
structure CkS (b o n cl : Nat) (l : List T.Ins) (Wk P c k : Nat) (x : PV) (xs : List PV) (i : T.Ins) (w0 w : World) (R : List Acc) : Prop where
 bank : Bank w0 w (boxAcc Wk 84 (wkL (.slice (some ⟨b,o,none⟩) n cl) P n c k x) :: plsA P n c xs :: (pvA xs ++ (x.regA :: x.byA :: R)))
 rd : InsRd w0 b o l
 hi : l[k]? = some i
 right : i.right = true
 xl : xs.length = n
 ll : l.length = n
 n4 : n ≤ 4096
 wfs : ∀ y ∈ xs,y.p.live = true → y.p.Wf
 wf : x.p.Wf
 fwd : i.jumps = true → 0 ≤ i.off ∧ (k : Int) + 1 + i.off < n
 next : i.op ≠ 28 ∧ i.op ≠ 16 → k + 1 < n
section
variable {b o n cl : Nat} {l : List T.Ins} {Wk P c k : Nat} {x : PV} {xs : List PV} {i : T.Ins} {w0 w : World} {R : List Acc}
theorem CkS.call (h : CkS b o n cl l Wk P c k x xs i w0 w R) {w' : World} (hs : Since w w') : CkS b o n cl l Wk P c k x xs i w0 w' R := { h with bank := h.bank.call hs }
theorem CkS.drew (h : CkS b o n cl l Wk P c k x xs i w0 w R) : CkS b o n cl l Wk P c k x xs i w0 w.drew R := { h with bank := h.bank.drew }
theorem CkS.box (h : CkS b o n cl l Wk P c k x xs i w0 w R) (vs : List Value) (t : TypeId) (hv : vs.length ≤ 1000000) : CkS b o n cl l Wk P c k x xs i w0 (w.alloc (.cells vs.toArray t)) (boxAcc w.heap.size t vs :: R) := by
 refine { h with bank := (h.bank.boxL vs t hv).permB ?_ }
 have := (List.perm_middle (a := boxAcc w.heap.size t vs) (l₁ := boxAcc Wk 84 (wkL (.slice (some ⟨b,o,none⟩) n cl) P n c k x) :: plsA P n c xs :: (pvA xs ++ [x.regA,x.byA])) (l₂ := R)).symm
 simpa using this
theorem CkS.at (h : CkS b o n cl l Wk P c k x xs i w0 w R) (j : Nat) {v : Value} (hv : (wkL (.slice (some ⟨b,o,none⟩) n cl) P n c k x)[j]? = some v) : w.cell? ⟨Wk,j,none⟩ = some v := h.bank.cell 0 rfl j hv
theorem CkS.free (h : CkS b o n cl l Wk P c k x xs i w0 w R) (j : Nat) : w.frozen? ⟨Wk,j,none⟩ = false := h.bank.free 0 rfl j
theorem CkS.memR (h : CkS b o n cl l Wk P c k x xs i w0 w R) : x.regA ∈ boxAcc Wk 84 (wkL (.slice (some ⟨b,o,none⟩) n cl) P n c k x) :: plsA P n c xs :: (pvA xs ++ (x.regA :: x.byA :: R)) := by simp
theorem CkS.memB (h : CkS b o n cl l Wk P c k x xs i w0 w R) : x.byA ∈ boxAcc Wk 84 (wkL (.slice (some ⟨b,o,none⟩) n cl) P n c k x) :: plsA P n c xs :: (pvA xs ++ (x.regA :: x.byA :: R)) := by simp
theorem CkS.regs (h : CkS b o n cl l Wk P c k x xs i w0 w R) : RdC w x.gr (knsL x.p.regs) := regA_rd h.bank h.memR
theorem CkS.bytes (h : CkS b o n cl l Wk P c k x xs i w0 w R) : RdC w x.gb (x.p.bytes.map Value.bool) := byA_rd h.bank h.memB
theorem CkS.bad (h : CkS b o n cl l Wk P c k x xs i w0 w R) {r : Int × Option T.Pl × Option T.Pl} {e : Ending} {m : Int} (he : e = .panicked (eP m)) (hr : r.1 = m) (hm : m ≠ 0) : StepP w0 (.slice (some ⟨b,o,none⟩) n cl) Wk P n c k (xs.map PV.p) R r i.off e w :=
 ⟨_,_,_,_,.inr ⟨by rw [hr]; exact hm,by rw [hr]; exact he,h.bank.sub (.cons_cons _ (.cons _ ((List.Sublist.append (List.nil_sublist (pvA xs)) (.cons _ (.cons _ (.refl R)))))))⟩⟩
theorem Bank.noR {w0 w : World} {a b : Acc} {A B R : List Acc} (h : Bank w0 w (a :: b :: (A ++ (B ++ R)))) : Bank w0 w (a :: b :: (A ++ R)) := h.sub (.cons_cons _ (.cons_cons _ (List.Sublist.append (.refl _) (List.sublist_append_right _ _))))
theorem CkS.noBox {Z : Acc} (h : CkS b o n cl l Wk P c k x xs i w0 w (Z :: R)) : CkS b o n cl l Wk P c k x xs i w0 w R := { h with bank := h.bank.sub (.cons_cons _ (.cons_cons _ (List.Sublist.append (.refl _) (.cons_cons _ (.cons_cons _ (.cons _ (.refl R))))))) }
/-- the next place is told -/
theorem CkS.ahead (h : CkS b o n cl l Wk P c k x xs i w0 w R) (hk : k + 1 < n) : Calls Tryz.prog 99 #[.pointer (some ⟨Wk,0,none⟩),PlV x] w (StepP w0 (.slice (some ⟨b,o,none⟩) n cl) Wk P n c k (xs.map PV.p) R (0,some x.p,none) i.off) := by
 refine (ahead_any Wk P n c k _ x xs h.bank rfl rfl (by simp) (by simp) h.xl h.n4 h.wfs h.wf hk).mono ?_
 rintro e w' ⟨he,xs',hx,hb⟩
 exact ⟨_,_,_,_,.inl ⟨rfl,he,xs',hx,Bank.noR (B := [x.regA,x.byA]) hb⟩⟩
theorem CkS.afar (h : CkS b o n cl l Wk P c k x xs i w0 w R) (h0 : 0 ≤ i.off) (hk : (k : Int) + 1 + i.off < n) : Calls Tryz.prog 102 #[.pointer (some ⟨Wk,0,none⟩),PlV x] w (StepP w0 (.slice (some ⟨b,o,none⟩) n cl) Wk P n c k (xs.map PV.p) R (0,none,some x.p) i.off) := by
 obtain ⟨t,ht⟩ := Int.eq_ofNat_of_zero_le h0
 refine (afar_any b o cl l i t Wk P n c k _ x xs h.bank rfl rfl (by simp) (by simp) h.xl h.n4 h.wfs h.wf rfl h.rd h.hi h.ll ht (by omega)).mono ?_
 rintro e w' ⟨he,xs',hx,hb⟩
 exact ⟨_,_,_,_,.inl ⟨rfl,he,xs',by rw [hx,ht,Int.toNat_natCast]; rfl,Bank.noR (B := [x.regA,x.byA]) hb⟩⟩
end
theorem jump_any {b o n cl : Nat} {l : List T.Ins} {Wk P c k : Nat} {x : PV} {xs : List PV} {i : T.Ins} {w0 w : World} {R : List Acc} (h : CkS b o n cl l Wk P c k x xs i w0 w R) (ho : i.op = 16) : Calls Tryz.prog 66 #[.pointer (some ⟨Wk,0,none⟩),insV i] w (StepP w0 (.slice (some ⟨b,o,none⟩) n cl) Wk P n c k (xs.map PV.p) R (T.cstep i x.p) i.off) := by
 have HV := Lib.hid (show T.cstep i x.p = (0,none,some x.p) by unfold T.cstep; simp [ho])
 have HF := Lib.hid (h.fwd (by unfold T.Ins.jumps; simp [ho]))
 have HS := Lib.hid (h.box [.int .u8 i.op,.bool i.narrow,.int .i64 i.dst,.int .i64 i.src,.bool i.useImm,.int .i64 i.off,.int .i64 i.imm,.int .i64 i.size] 31 (by simp))
 clear h ho
 unfold insV insL
 go_enter Tryz.func66,Tryz.ntmps66
 go_upto_region 1 with fail
 generalize w.heap.size = X at *
 change Code.wp _ _ _ _ (w.alloc (.cells #[.int .u8 i.op,.bool i.narrow,.int .i64 i.dst,.int .i64 i.src,.bool i.useImm,.int .i64 i.off,.int .i64 i.imm,.int .i64 i.size] 31))
 generalize (w.alloc (.cells #[.int .u8 i.op,.bool i.narrow,.int .i64 i.dst,.int .i64 i.src,.bool i.useImm,.int .i64 i.off,.int .i64 i.imm,.int .i64 i.size] 31)) = w1 at *
 have c3 := HS.out.at 3 rfl
 have c4 := HS.out.at 4 rfl
 have c5 := HS.out.at 5 rfl
 have c6 := HS.out.at 6 rfl
 go_wp2_with fail
 refine (HS.out.afar HF.out.1 HF.out.2).mono ?_
 rintro e w2 ⟨va,vb,vd,ve,⟨_,rfl,xs',hx,hb⟩ | ⟨hn,_⟩⟩
 case inr => exact absurd rfl hn
 have HX := Lib.hid hx
 have HB := Lib.hid hb
 clear hx hb c3 c4 c5 c6
 go_wp2
 go_end0
 exact ⟨va,vb,vd,ve,.inl ⟨by rw [HV.out],rfl,xs',by rw [HV.out]; exact HX.out,HB.out.noZ⟩⟩
theorem exit_any {b o n cl : Nat} {l : List T.Ins} {Wk P c k : Nat} {x : PV} {xs : List PV} {i : T.Ins} {w0 w : World} {R : List Acc} (h : CkS b o n cl l Wk P c k x xs i w0 w R) (ho : i.op = 28) : Calls Tryz.prog 67 #[.pointer (some ⟨Wk,0,none⟩),insV i] w (StepP w0 (.slice (some ⟨b,o,none⟩) n cl) Wk P n c k (xs.map PV.p) R (T.cstep i x.p) i.off) := by
 have HV := Lib.hid (show T.cstep i x.p = ((T.asN x.p (x.p.reg 0)).1,none,none) by unfold T.cstep; simp [ho])
 have HS := Lib.hid (h.box [.int .u8 i.op,.bool i.narrow,.int .i64 i.dst,.int .i64 i.src,.bool i.useImm,.int .i64 i.off,.int .i64 i.imm,.int .i64 i.size] 31 (by simp))
 have H0 := Lib.hid h
 have hl : x.p.regs.length = 11 := h.wf.rl
 clear h ho
 unfold insV insL
 go_enter Tryz.func67,Tryz.ntmps67
 go_upto_region 1 with fail
 generalize w.heap.size = X at *
 change Code.wp _ _ _ _ (w.alloc (.cells #[.int .u8 i.op,.bool i.narrow,.int .i64 i.dst,.int .i64 i.src,.bool i.useImm,.int .i64 i.off,.int .i64 i.imm,.int .i64 i.size] 31))
 generalize (w.alloc (.cells #[.int .u8 i.op,.bool i.narrow,.int .i64 i.dst,.int .i64 i.src,.bool i.useImm,.int .i64 i.off,.int .i64 i.imm,.int .i64 i.size] 31)) = w1 at *
 have c4 := HS.out.at 4 rfl
 obtain ⟨e0,e1,e2⟩ := knsL_reg HS.out.regs hl 0 (by decide)
 obtain ⟨kn,hk⟩ : ∃ kn,x.p.reg ((0 : Nat) : Int) = kn := ⟨_,rfl⟩
 rw [hk] at e0 e1 e2
 simp only [Nat.zero_mul,Nat.zero_add] at e0 e1 e2
 have HK := Lib.hid hk
 go_wp2_with fail
 refine (numberC_any Wk x.p.least kn w1 (HS.out.at 6 rfl) HS.out.wf.l0 HS.out.wf.ll).mono ?_
 clear c4 e0 e1 e2 hk
 have HN := Lib.hid (show (T.cstep i x.p).1 = (numR x.p.least kn).1 by rw [HV.out,← HK.out]; rfl)
 rintro e w2 (⟨hz,rfl,hs⟩ | ⟨hz,rfl,hs⟩)
 case inr => exact ⟨rfl,(HS.out.call hs).noBox.bad rfl HN.out hz⟩
 have HZ := Lib.hid hz
 have HS2 := Lib.hid (HS.out.call hs)
 clear hz hs
 go_wp2
 go_end0
 exact ⟨_,_,_,_,.inl ⟨by rw [HN.out]; exact HZ.out,rfl,xs,by rw [HV.out]; rfl,(Bank.noR (B := [x.regA,x.byA]) HS2.out.bank).noZ⟩⟩
theorem knsL_set2 (ks : List T.Kn) (k : Nat) (hk : k < ks.length) (x : T.Sp) (m : Int) (hm : ks[k].k = m) : ((knsL ks).set (k * 3 + 1) (W64 x.lo)).set (k * 3 + 2) (W64 x.hi) = knsL (ks.set k ⟨m,x⟩) := by
 have hl : ((ks.take k).flatMap knL).length = k * 3 := by rw [flat_len knL 3 knL_len,List.length_take]; congr 1; omega
 rw [knsL,flat_set knL 3 knL_len ks k 1 _ hk (by omega) (knL ks[k]) _ (fun u hu => by rw [List.getElem?_eq_getElem hk] at hu; cases hu; rfl) rfl]
 rw [set_mid _ hl (by simp [knL])]
 rw [show knsL (ks.set k ⟨m,x⟩) = _ from (flat_done knL ks k ⟨m,x⟩ hk).symm]
 simp [knL,hm]
def PlL (y : PV) : List Value := [.bool true,.slice (some ⟨y.gr,0,none⟩) 11 y.cr,.slice (some ⟨y.gb,0,none⟩) 512 y.cb,.int .i64 y.p.least]
def WithP (w0 : World) (L : List Acc) (iY ir Y : Nat) (y : PV) (q : T.Pl) (e : Ending) (w' : World) : Prop := e = .returned (.tuple #[]) ∧ ∃ y' : PV,y'.p = q ∧ y'.gr = y.gr ∧ y'.cr = y.cr ∧ y'.gb = y.gb ∧ y'.cb = y.cb ∧ y'.tb = y.tb ∧ Bank w0 w' ((L.set iY (boxAcc Y 82 (PlL y'))).set ir y'.regA)
theorem with_any (Y r : Nat) (s : T.Sp) (y : PV) {w0 w : World} {L : List Acc} (iY ir : Nat) (hB : Bank w0 w L) (hiY : L[iY]? = some (boxAcc Y 82 (PlL y))) (hir : L[ir]? = some y.regA) (hne : iY ≠ ir) (hr : r < 11) (hl : y.p.regs.length = 11) : Calls Tryz.prog 105 #[.pointer (some ⟨Y,0,none⟩),.int .i64 (r : Int),spv s] w (WithP w0 L iY ir Y y (y.p.with (r : Int) s)) := by
 obtain ⟨lo,hi⟩ := s
 have hrl : r < y.p.regs.length := by omega
 have B1 := Lib.hid (hB.boxL [W64 lo,W64 hi] 111 (by simp))
 have HIY := Lib.hid (show (boxAcc w.heap.size 111 [W64 lo,W64 hi] :: L)[iY + 1]? = some (boxAcc Y 82 (PlL y)) from hiY)
 have HIR := Lib.hid (show (boxAcc w.heap.size 111 [W64 lo,W64 hi] :: L)[ir + 1]? = some y.regA from hir)
 have HIR2 := Lib.hid (show L[ir]? = some y.regA from hir)
 have HLY := Lib.hid (show L.set iY (boxAcc Y 82 (PlL y)) = L from set_same' hiY)
 have HLR := Lib.hid (show ∀ z,(L.set iY z).set ir y.regA = L.set iY z from fun z => set_same' (by rw [List.getElem?_set_ne hne]; exact hir))
 have y1 := B1.out.cell (iY + 1) HIY.out 1 rfl
 have y3 := B1.out.cell (iY + 1) HIY.out 3 rfl
 have fy3 := B1.out.free (iY + 1) HIY.out 3
 obtain ⟨s0,s1⟩ := B1.out.q2 0 rfl
 obtain ⟨e0,e1,e2⟩ := knsL_reg (RdC.of B1.out (ir + 1) HIR.out) hl r hr
 have f1 := B1.out.rfree (ir + 1) HIR.out (r * 3 + 1)
 have f2 := B1.out.rfree (ir + 1) HIR.out (r * 3 + 2)
 have HRA := Lib.hid (reg_at y.p r hrl)
 have j0 : (0 : Int) ≤ (r : Int) := by omega
 have j1 : (r : Int) < (11 : Int) := by omega
 obtain ⟨kn,hk⟩ : ∃ kn,y.p.reg (r : Int) = kn := ⟨_,rfl⟩
 rw [hk] at e0 e1 e2 HRA
 have HW := Lib.hid (show y.p.with (r : Int) ⟨lo,hi⟩ = if kn.k = 1 then y.p.put (r : Int) ⟨1,⟨lo,hi⟩⟩ else { y.p with least := max y.p.least lo.toInt } by unfold T.Pl.with; rw [hk])
 clear hB hiY hir hk
 have hcv : ∀ w (z : BitVec 64),(convert 34 3 (W64 z)).run Tryz.prog w = .ok (.int .i64 z.toInt) w := fun w z => conv_W64_S64 (P := Tryz.prog) (src := 34) (dst := 3) (w := w) z Tryz.underlying34 Tryz.underlying3
 unfold spv
 go_enter Tryz.func105,Tryz.ntmps105
 go_upto_region 1 with fail
 generalize w.heap.size = X at *
 change Code.wp _ _ _ _ (w.alloc (.cells #[W64 lo,W64 hi] 111))
 generalize (w.alloc (.cells #[W64 lo,W64 hi] 111)) = w1 at *
 by_cases hk1 : kn.k = 1
 ·have HV := Lib.hid (HW.out.trans (if_pos hk1))
  have HK1 := Lib.hid hk1
  rw [hk1] at e0
  clear hk1
  go_wp2
  go_end0
  refine ⟨rfl,⟨y.p.put (r : Int) ⟨1,⟨lo,hi⟩⟩,y.gr,y.cr,y.gb,y.cb,y.tb⟩,HV.out.symm,rfl,rfl,rfl,rfl,rfl,?_⟩
  have h2 := (B1.out.rset (ir + 1) HIR.out (r * 3 + 1) (W64 lo)).rset (ir + 1) (List.getElem?_set_self (List.getElem?_eq_some_iff.1 HIR.out).1) (r * 3 + 1 + 1) (W64 hi)
  rw [List.set_set,show r * 3 + 1 + 1 = r * 3 + 2 from rfl,knsL_set2 y.p.regs r hrl ⟨lo,hi⟩ 1 (by rw [← HRA.out]; exact HK1.out)] at h2
  show Bank w0 _ ((L.set iY (boxAcc Y 82 (PlL y))).set ir _)
  rw [HLY.out]
  exact h2.drop
 ·have HV := Lib.hid (HW.out.trans (if_neg hk1))
  have ek : (kn.k == 1) = false := by simpa using hk1
  clear hk1 HW e1 e2 f1 f2
  have hmx : ∀ w,(Builtin.max_ #[3,3] 3 #[.int .i64 y.p.least,S64 lo]).run Tryz.prog w = .ok (.int .i64 (max y.p.least lo.toInt)) w := fun w => by unfold S64; go_simp
  go_upto_region 4 with fail
  refine WL.begin 11 (fun w' => w'.cell? ⟨Y,3,none⟩ = some (.int .i64 y.p.least) ∧ w'.cell? ⟨X,0,none⟩ = some (W64 lo)) (fun _ => True) (by kernel_rfl) ⟨y3,s0⟩ trivial (fun hs => ?_)
  refine WL.tk [(0,[]),(1,[]),(2,[]),(3,[]),(4,[4]),(5,[]),(6,[6]),(7,[]),(8,[]),(9,[]),(10,[])] hs ?_; clear hs
  iterate 11
   (first | refine TKs.p (v := ?_) ?_ ?_ | refine TKs.l (v := ?_) ?_ ?_); rotate_left
   ·intro w hc; go_simp <;> rfl
   simp only [Act.put,sA,sZ,sS]
  refine TKs.mk ?_; intro hs
  refine WL.o1 (i := 11) (by kernel_rfl) rfl hs ?_; clear hs
  intro K hK
  go_simp
  refine hK.out _ _ (SApp.intro (fun h => (by cases h)) trivial) ?_
  clear hK K; intro hs; try simp only [Act.put]
  clear hs; refine WL.done (by kernel_rfl) ?_ _; try simp only [Exit.then]
  go_wp2
  go_end0
  refine ⟨rfl,⟨{ y.p with least := max y.p.least lo.toInt },y.gr,y.cr,y.gb,y.cb,y.tb⟩,HV.out.symm,rfl,rfl,rfl,rfl,rfl,?_⟩
  show Bank w0 _ ((L.set iY _).set ir y.regA)
  rw [HLR.out]
  exact ((B1.out.boxSet (iY + 1) HIY.out 3 (.int .i64 (max y.p.least lo.toInt))).drew).drop
end Go.Proofs.YtfeipbgnjainlaaGreat.K
