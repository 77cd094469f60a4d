/- What all servers look at: TExR -/
import Derived.Test.YtfeipbgnjainlaaGreatTw46
import Derived.Test.YtfeipbgnjainlaaGreatTw20
import Derived.Great.Ranges
set_option linter.unusedVariables false
set_option linter.unusedSimpArgs false
/- (made by genexr.py) exec.Run over a filter that may be let in. -/
set_option maxRecDepth 100000
set_option maxHeartbeats 8000000
namespace Go.Proofs.YtfeipbgnjainlaaGreat.K
open Go Go.RowKit Go.Maps Go.Sort

def mcZero : T.Mc := ⟨List.replicate 11 (0,0),List.replicate 512 0,List.replicate 512 false,0,none⟩
def mcA (pk : Value) : Array Value := (mcL mcZero pk (.pointer none)).toArray
theorem built_mc (A : Option Addr) (n c : Nat) : Tryz.prog.built 56 [(3,.slice A n c)] = some (mcA (.slice A n c)) := by kernel_rfl
theorem run_build_mc (A : Option Addr) (n c : Nat) (w : World) : (Instr.build 56 #[(3,.slice A n c)]).run Tryz.prog w = .ok (.agg (mcA (.slice A n c))) w := run_build w _ _ _ (built_mc A n c)
theorem mc_begin (pk vd : Value) (n : Nat) : ((((mcL mcZero pk vd).set 2 (.int .u8 2)).set 20 (.int .u8 3)).set 4 (.int .u8 1)).set 5 (W64 (BitVec.ofNat 64 n)) = mcL (T.Mc.start n) pk vd := by kernel_rfl
theorem mc_begin_ok (n : Nat) : Mok (T.Mc.start n) := ⟨rfl,List.length_replicate,List.length_replicate⟩
theorem at_buildL {P : Program} {ops : Array Oper} {Q : Exit → Act → World → Prop} {rest : List Oper} {a : Act} {w : World} {d : Option Tmp} {t : TypeId} {pos : String} {af : Array Edge} {g : Option (Nat × Bool)} (ty : TypeId) {ps : Array (Nat × Operand)}
  (h : wpList P ops Q (⟨d,.build ty ps,t,pos,af,g⟩ :: rest) a w) : wpList P ops Q (⟨d,.build ty ps,t,pos,af,g⟩ :: rest) a w := h
theorem at_boxL {P : Program} {ops : Array Oper} {Q : Exit → Act → World → Prop} {rest : List Oper} {a : Act} {w : World} {d : Option Tmp} {t : TypeId} {pos : String} {af : Array Edge} {g : Option (Nat × Bool)} (ty : TypeId) {x : Operand}
  (h : wpList P ops Q (⟨d,.box ty x,t,pos,af,g⟩ :: rest) a w) : wpList P ops Q (⟨d,.box ty x,t,pos,af,g⟩ :: rest) a w := h
theorem wpList_build_run {P : Program} {ops : Array Oper} {Q : Exit → Act → World → Prop} {rest : List Oper} {a : Act} {w : World} {o : Oper} (hg : o.guard = none) (t : TypeId) (parts : Array (Nat × Operand)) (ho : o.op = .build t parts) (v : Value)
  (hr : (Instr.build t (parts.map fun (i,x) => (i,a.eval x))).run P w = .ok v w) (h : wpList P ops Q rest (a.put o.dst v) w) : wpList P ops Q (o :: rest) a w :=
 wpList_plain hg fun K hK => by
  unfold Oper.wp execOp
  simp only [ho,Sem.run_bind,hr,Result.andThen_ok]
  exact hK _ _ h
/-- how much is left of k, by a cell of a box -/
def leftBy (X j k : Nat) (w : World) : Nat := match w.cell? ⟨X,j,none⟩ with
 | some (.int _ z) => k - z.toNat
 | _ => 0
theorem leftBy_at {X j k q : Nat} {w : World} {t : IntKind} (h : w.cell? ⟨X,j,none⟩ = some (.int t (q : Int))) : leftBy X j k w = k - q := by unfold leftBy; rw [h]; rfl
theorem conv_len (n : Nat) (w : World) : (convert 3 34 (.int .i64 (n : Int))).run Tryz.prog w = .ok (W64 (BitVec.ofNat 64 n)) w := by
 have h := wide_wrap (n : Int)
 have e : T.wide (n : Int) = BitVec.ofNat 64 n := by unfold T.wide; exact BitVec.ofInt_natCast 64 n
 rw [e] at h
 unfold W64
 rw [← h]
 simp [convert,run_underlying Tryz.underlying3,run_underlying Tryz.underlying34,Conv.intToInt]
theorem ite_P {α : Type _} {c : Prop} [Decidable c] {P : α → Prop} {a b : α} (ha : P a) (hb : P b) : P (if c then a else b) := by split <;> assumption
theorem estep_vd' {pk : List T.B} {i : T.Ins} {m : T.Mc} (h28 : i.op ≠ 28) : (T.estep pk i m).2.verdict = m.verdict := by
 unfold T.estep
 rw [if_neg h28]
 dsimp only
 repeat' (refine ite_P (P := fun r : Int × T.Mc => r.2.verdict = m.verdict) ?_ ?_)
 all_goals first | rfl | (dsimp only; split <;> rfl)
theorem estep_vd {pk : List T.B} {i : T.Ins} {m m' : T.Mc} (he : T.estep pk i m = (0,m')) : (i.op = 28 ∧ m'.verdict = some (m.reg 0).2 ∧ m'.reg 0 = m.reg 0) ∨ (i.op ≠ 28 ∧ m'.verdict = m.verdict) := by
 by_cases h28 : i.op = 28
 ·left
  refine ⟨h28,?_⟩
  unfold T.estep at he
  rw [if_neg (by omega),if_neg (by omega),if_neg (by omega),if_neg (by omega),if_neg (by omega),if_pos h28] at he
  split at he
  ·cases he
  split at he
  ·cases he
  cases he
  exact ⟨rfl,rfl⟩
 ·right
  refine ⟨h28,?_⟩
  have h := estep_vd' (pk := pk) (m := m) h28
  rw [he] at h
  exact h
theorem estep_ok' {pk : List T.B} {i : T.Ins} {m : T.Mc} (hok : Mok m) : Mok (T.estep pk i m).2 := by
 unfold T.estep
 dsimp only
 repeat' (refine ite_P (P := fun r : Int × T.Mc => Mok r.2) ?_ ?_)
 all_goals first
  | exact hok
  | (dsimp only; split <;> first | exact hok | exact ⟨hok.rl,hok.tl,hok.sl⟩)
  | exact hok.put _ _
  | exact ⟨hok.rl,hok.tl,hok.sl⟩
  | exact ⟨hok.rl,by simp [T.puts,hok.tl],by simp [T.setAll,hok.sl]⟩
theorem estep_ok {pk : List T.B} {i : T.Ins} {m m' : T.Mc} (hok : Mok m) (he : T.estep pk i m = (0,m')) : Mok m' := by
 have h := estep_ok' (pk := pk) (i := i) hok
 rw [he] at h
 exact h
theorem exRun_ok (b o n c : Nat) (l : List T.Ins) (A : Option Addr) (pn pc : Nat) (pkl : List T.B) (w : World) (hr : InsRd w b o l) (hl : l.length = n) (hn : n ≤ 4096) (hrow : RowRd w ⟨A,pn,pc⟩ pkl) (hpn : pn ≤ 65535) (hsp : T.Shaped l) (hsf : (T.shapeF l).1 = 0) (k : Nat) (hk : k ≤ 4096) (v : T.U) (hruns : T.Runs l pkl k (T.Mc.start pn) v) :
  Calls Tryz.prog 8 #[.slice (some ⟨b,o,none⟩) n c,.slice A pn pc] w (Ret w (.agg #[.int .i64 0,.int .i64 0,W64 v,.int .i64 (k : Int)])) := by
 have HR := Lib.hid hr
 have HL := Lib.hid hl
 have HROW := Lib.hid hrow
 have HSP := Lib.hid hsp
 have HRUN := Lib.hid hruns
 clear hr hl hrow hsp hruns
 have BK0 := Lib.hid ((Bank.nil (Below.refl w.heap.size w)).boxL [.int .i64 0,.int .i64 0,W64 0#64,.int .i64 0] 36 (by simp))
 go_enter Tryz.func8,Tryz.ntmps8
 go_upto_region 1 with fail
 generalize w.heap.size = X at *
 refine wp_hid BK0 (fun w1 BK0 => ?_)
 go_wp2_with fail
 refine (shapeCheck_any b o c n l _ (HR.out.since BK0.out.since) HL.out hn).mono ?_
 rintro e w2 ⟨rfl,hs⟩
 have BK1 := Lib.hid (BK0.out.call hs)
 clear hs BK0
 unfold shapeV
 rw [hsf]
 obtain ⟨z2,hz2⟩ : ∃ z,((T.shapeF l).2 : Int) = z := ⟨_,rfl⟩
 rw [hz2]
 clear hz2 hsf
 have hpl : ¬ (65535 : Int) < (pn : Int) := by omega
 go_upto_region 6 with fail
 have BK2 := Lib.hid (BK1.out.boxL [.int .i64 0,.int .i64 z2] 27 (by simp))
 generalize w2.heap.size = F at *
 refine wp_hid BK2 (fun w3 BK2 => ?_)
 clear BK1
 obtain ⟨M,hM⟩ : ∃ M,w3.heap.size = M := ⟨_,rfl⟩
 go_wp2_with (first | (with_reducible refine at_buildL 56 ?_; refine wpList_build_run rfl _ _ rfl (.agg (mcA (.slice A pn pc))) (run_build_mc A pn pc _) ?_) | (with_reducible refine at_boxL 56 ?_; refine Great.wpList_boxTo rfl _ _ rfl (some 26) rfl M hM (mcA (.slice A pn pc)) rfl ?_))
 have BK3 := Lib.hid (hM ▸ BK2.out.box (mcA (.slice A pn pc)) 56 (by show (mcL mcZero (.slice A pn pc) (.pointer none)).length ≤ 1000000; rw [mcL_len ⟨List.length_replicate,List.length_replicate,List.length_replicate⟩]; decide))
 clear hM BK2
 generalize (w3.alloc (.cells (mcA (.slice A pn pc)) 56)) = w4 at *
 refine WL.begin 99 (fun _ => True) (fun _ => True) (by kernel_rfl) trivial trivial (fun hs => ?_)
 have BK4 := Lib.hid BK3.out.drew
 clear BK3
 generalize w4.drew = w5 at *
 refine WL.tk [(0,[]),(1,[]),(2,[]),(3,[]),(4,[]),(5,[]),(7,[]),(8,[])] hs ?_; clear hs
 iterate 8
  (first | refine TKs.p (v := ?_) ?_ ?_ | refine TKs.l (v := ?_) ?_ ?_); rotate_left
  ·intro w hc; go_simp <;> rfl
  simp only [Act.put,sA,sZ,sS]
 refine TKs.mk ?_; intro hs
 refine WL.o1 (i := 6) (by kernel_rfl) rfl hs ?_; clear hs
 intro K hK
 have c0 := BK4.out.cell 0 rfl 2 rfl
 have f0 := BK4.out.free 0 rfl 2
 go_simp
 have BK5 := Lib.hid (BK4.out.boxSet 0 rfl 2 (.int .u8 2))
 clear c0 f0
 refine hK.out _ _ (SApp.intro (fun _ => trivial) trivial) ?_
 clear hK K; intro hs; try simp only [Act.put]
 refine WL.tk [(9,[]),(10,[])] hs ?_; clear hs
 iterate 2
  (first | refine TKs.p (v := ?_) ?_ ?_ | refine TKs.l (v := ?_) ?_ ?_); rotate_left
  ·intro w hc; go_simp <;> rfl
  simp only [Act.put,sA,sZ,sS]
 refine TKs.mk ?_; intro hs
 refine WL.o1 (i := 11) (by kernel_rfl) rfl hs ?_; clear hs
 intro K hK
 have c0 := BK5.out.cell 0 rfl 20 rfl
 have f0 := BK5.out.free 0 rfl 20
 go_simp
 have BK6 := Lib.hid (BK5.out.boxSet 0 rfl 20 (.int .u8 3))
 clear c0 f0
 refine hK.out _ _ (SApp.intro (fun _ => trivial) trivial) ?_
 clear hK K; intro hs; try simp only [Act.put]
 clear hs; refine WL.done (by kernel_rfl) ?_ _; try simp only [Exit.then]
 have hcl := conv_len pn
 have c4 := BK6.out.cell 0 rfl 4 rfl
 have c5 := BK6.out.cell 0 rfl 5 rfl
 have f4 := BK6.out.free 0 rfl 4
 have f5 := BK6.out.free 0 rfl 5
 have BK7 := Lib.hid ((BK6.out.boxSet 0 rfl 4 (.int .u8 1)).boxSet 0 rfl 5 (W64 (BitVec.ofNat 64 pn)))
 go_wp2_with fail
 have BK8 := Lib.hid (mc_begin (.slice A pn pc) (.pointer none) pn ▸ BK7.out)
 clear c4 c5 f4 f5 hcl hpl BK6 BK7 BK4 BK5
 go_loopw [7,8,9] (fun (_ _ _ : Value) wr => ∃ (j : Nat) (m : T.Mc) (vd : Value),j ≤ k ∧ Mok m ∧ Bank w wr (boxAcc M 56 (mcL m (.slice A pn pc) vd) :: boxAcc F 27 [.int .i64 0,.int .i64 z2] :: boxAcc X 36 [.int .i64 0,.int .i64 0,W64 0#64,.int .i64 (j : Int)] :: []) ∧ ((m.verdict = none ∧ vd = .pointer none ∧ T.Runs l pkl (k - j) m v) ∨ (j = k ∧ vd = .pointer (some ⟨M,1,none⟩) ∧ (m.reg 0).2 = v))) (fun _ _ _ wr => leftBy X 3 k wr)
 case atStart => exact ⟨0,T.Mc.start pn,.pointer none,Nat.zero_le _,mc_begin_ok pn,BK8.out,.inl ⟨rfl,rfl,HRUN.out⟩⟩
 case round =>
  obtain ⟨j,m,vd,hj,hok,hB,hrel⟩ := hrel
  have BK9 := Lib.hid hB
  have HM := Lib.hid (leftBy_at (k := k) (hB.cell 2 rfl 3 rfl))
  have HJ := Lib.hid hj
  have m8 := hB.cell 0 rfl 1048 (mcL_end hok _ _ 2)
  clear hB BK8 hj
  rcases hrel with ⟨hv,rfl,hrn⟩ | ⟨rfl,rfl,hv⟩
  ·obtain ⟨q,hq⟩ : ∃ q,k - j = q + 1 := by
    cases hkj : k - j with
    | zero => rw [hkj] at hrn; exact absurd hrn (by simp [T.Runs])
    | succ q => exact ⟨q,rfl⟩
   rw [hq] at hrn
   obtain ⟨i,m',hi,he,hlast⟩ := hrn
   have hat : m.at' < n := by rw [← HL.out]; exact (List.getElem?_eq_some_iff.1 hi).1
   have hri := HSP.out.right i (List.mem_of_getElem? hi)
   obtain ⟨FD,hdoes,hcf,hstep⟩ := exDoes_step i hri
   have HSTEP := Lib.hid hstep
   have HDOES := Lib.hid hdoes
   have HE := Lib.hid he
   have HLAST := Lib.hid hlast
   have HQ := Lib.hid hq
   have HI := Lib.hid hi
   have HVN := Lib.hid hv
   clear hstep hdoes he hlast hq hri hi hv
   have m7 := BK9.out.cell 0 rfl 1047 (mcL_end hok _ _ 1)
   have t0 : (0 : Int) ≤ (m.at' : Int) := by omega
   have t1 : (m.at' : Int) < (n : Int) := by omega
   go_upto_region 10 with fail
   obtain ⟨i0,i1,i2,i3,i4,i5,i6,i7⟩ := (HR.out.since BK9.out.since).cells HI.out
   clear m8
   refine WL.begin 12 (fun w' => w'.cell? ⟨b,o + m.at' * 8,none⟩ = some (.int .u8 i.op) ∧ w'.cell? ⟨b,o + m.at' * 8 + 1,none⟩ = some (.bool i.narrow) ∧ w'.cell? ⟨b,o + m.at' * 8 + 2,none⟩ = some (.int .i64 i.dst) ∧ w'.cell? ⟨b,o + m.at' * 8 + 3,none⟩ = some (.int .i64 i.src) ∧ w'.cell? ⟨b,o + m.at' * 8 + 4,none⟩ = some (.bool i.useImm) ∧ w'.cell? ⟨b,o + m.at' * 8 + 5,none⟩ = some (.int .i64 i.off) ∧ w'.cell? ⟨b,o + m.at' * 8 + 6,none⟩ = some (.int .i64 i.imm) ∧ w'.cell? ⟨b,o + m.at' * 8 + 7,none⟩ = some (.int .i64 i.size)) (fun w' => w'.cell? ⟨M,1047,none⟩ = some (.int .i64 (m.at' : Int))) (by kernel_rfl) ⟨i0,i1,i2,i3,i4,i5,i6,i7⟩ m7 (fun hs => ?_)
   have BKa := Lib.hid BK9.out.drew
   have m7 := BKa.out.cell 0 rfl 1047 (mcL_end hok _ _ 1)
   generalize wr.drew = wa at *
   refine WL.tk [(0,[]),(1,[]),(2,[]),(3,[]),(4,[]),(5,[]),(6,[6]),(7,[]),(8,[]),(9,[]),(10,[])] hs ?_; clear hs
   iterate 11
    (first | refine TKs.p (v := ?_) ?_ ?_ | refine TKs.l (v := ?_) ?_ ?_); rotate_left
    ·intro w hc; go_simp <;> rfl
    simp only [Act.put,sA,sZ,sS]
   refine TKs.mk ?_; intro hs
   refine WL.o1 (i := 11) (by kernel_rfl) rfl hs ?_; clear hs
   intro K hK
   go_simp
   have BKb := Lib.hid (BKa.out.boxL [.int .u8 0,.bool false,.int .i64 0,.int .i64 0,.bool false,.int .i64 0,.int .i64 0,.int .i64 0] 31 (by simp))
   refine hK.out _ _ (SApp.intro (fun _ => (HR.out.since BKb.out.since).cells HI.out) (BKb.out.cell 1 rfl 1047 (mcL_end hok _ _ 1))) ?_
   generalize wa.heap.size = I at *
   generalize (wa.alloc (.cells #[.int .u8 0,.bool false,.int .i64 0,.int .i64 0,.bool false,.int .i64 0,.int .i64 0,.int .i64 0] 31)) = wb at *
   clear hK K; intro hs; try simp only [Act.put,sA,sZ,sS]
   refine WL.o1 (i := 12) (by kernel_rfl) rfl hs ?_; clear hs
   intro K hK
   obtain ⟨r0,fr0⟩ := BKb.out.r1 0 rfl
   have r1 := BKb.out.cell 0 rfl 1 rfl
   have fr1 := BKb.out.free 0 rfl 1
   have r2 := BKb.out.cell 0 rfl 2 rfl
   have fr2 := BKb.out.free 0 rfl 2
   have r3 := BKb.out.cell 0 rfl 3 rfl
   have fr3 := BKb.out.free 0 rfl 3
   have r4 := BKb.out.cell 0 rfl 4 rfl
   have fr4 := BKb.out.free 0 rfl 4
   have r5 := BKb.out.cell 0 rfl 5 rfl
   have fr5 := BKb.out.free 0 rfl 5
   have r6 := BKb.out.cell 0 rfl 6 rfl
   have fr6 := BKb.out.free 0 rfl 6
   have r7 := BKb.out.cell 0 rfl 7 rfl
   have fr7 := BKb.out.free 0 rfl 7
   go_simp
   have BKc := Lib.hid (((((((((BKb.out.boxSet 0 rfl 0 (.int .u8 i.op)).boxSet 0 rfl 1 (.bool i.narrow)).boxSet 0 rfl 2 (.int .i64 i.dst)).boxSet 0 rfl 3 (.int .i64 i.src)).boxSet 0 rfl 4 (.bool i.useImm)).boxSet 0 rfl 5 (.int .i64 i.off)).boxSet 0 rfl 6 (.int .i64 i.imm)).boxSet 0 rfl 7 (.int .i64 i.size)))
   clear r0 fr0 r1 fr1 r2 fr2 r3 fr3 r4 fr4 r5 fr5 r6 fr6 r7 fr7
   refine hK.out _ _ (SApp.intro (fun h => (by cases h)) (BKc.out.cell 1 rfl 1047 (mcL_end hok _ _ 1))) ?_
   clear hK K; intro hs; try simp only [Act.put]
   refine WL.o1 (i := 13) (by kernel_rfl) rfl hs ?_; clear hs
   intro K hK
   go_simp
   refine hK.out _ _ (SApp.intro (fun h => (by cases h)) (BKc.out.cell 1 rfl 1047 (mcL_end hok _ _ 1))) ?_
   clear hK K; intro hs; try simp only [Act.put,sA,sZ,sS]
   clear hs; refine WL.done (by kernel_rfl) ?_ _; try simp only [Exit.then]
   have kw : IntKind.i64.wrap ((m.at' : Int) + 1) = ((m.at' + 1 : Nat) : Int) := by rw [IntWalk.i64_in _ (by have := HL.out; omega)]; omega
   have kj : IntKind.i64.wrap ((j : Int) + 1) = ((j + 1 : Nat) : Int) := by rw [IntWalk.i64_in _ (by have := HJ.out; omega)]; omega
   clear i0 i1 i2 i3 i4 i5 i6 i7 m7
   have m7 := BKc.out.cell 1 rfl 1047 (mcL_end hok _ _ 1)
   have fm7 := BKc.out.free 1 rfl 1047
   have x3 := BKc.out.cell 3 rfl 3 rfl
   have fx3 := BKc.out.free 3 rfl 3
   have hne := BKc.out.ne (i := 1) (j := 3) rfl rfl (by decide)
   have hne' := Ne.symm hne
   go_upto_region 13 with fail
   have BKd := Lib.hid ((BKc.out.boxSet 1 rfl 1047 (.int .i64 ((m.at' + 1 : Nat) : Int))).boxSet 3 rfl 3 (.int .i64 ((j + 1 : Nat) : Int)))
   have hX : Bank w _ (boxAcc I 31 [.int .u8 i.op,.bool i.narrow,.int .i64 i.dst,.int .i64 i.src,.bool i.useImm,.int .i64 i.off,.int .i64 i.imm,.int .i64 i.size] :: boxAcc M 56 (mcL { m with at' := m.at' + 1 } (.slice A pn pc) (.pointer none)) :: boxAcc F 27 [.int .i64 0,.int .i64 z2] :: boxAcc X 36 [.int .i64 0,.int .i64 0,W64 0#64,.int .i64 ((j + 1 : Nat) : Int)] :: []) := mcL_at hok _ _ (m.at' + 1) ▸ BKd.out
   have hX := hX.permB (List.Perm.swap _ _ _)
   refine wp_bank _ hX (fun wd hz => ?_)
   clear hX BKd BKc m7 fm7 x3 fx3 hne hne' BK9 kw kj t0 t1
   have BKe := Lib.hid hz
   clear hz
   have BKf := Lib.hid BKe.out.drew
   refine WL.begin 5 (fun w' => w'.cell? ⟨I,0,none⟩ = some (.int .u8 i.op) ∧ w'.cell? ⟨I,1,none⟩ = some (.bool i.narrow) ∧ w'.cell? ⟨I,2,none⟩ = some (.int .i64 i.dst) ∧ w'.cell? ⟨I,3,none⟩ = some (.int .i64 i.src) ∧ w'.cell? ⟨I,4,none⟩ = some (.bool i.useImm) ∧ w'.cell? ⟨I,5,none⟩ = some (.int .i64 i.off) ∧ w'.cell? ⟨I,6,none⟩ = some (.int .i64 i.imm) ∧ w'.cell? ⟨I,7,none⟩ = some (.int .i64 i.size)) (fun _ => True) (by kernel_rfl) ⟨BKf.out.cell 1 rfl 0 rfl,BKf.out.cell 1 rfl 1 rfl,BKf.out.cell 1 rfl 2 rfl,BKf.out.cell 1 rfl 3 rfl,BKf.out.cell 1 rfl 4 rfl,BKf.out.cell 1 rfl 5 rfl,BKf.out.cell 1 rfl 6 rfl,BKf.out.cell 1 rfl 7 rfl⟩ trivial (fun hs => ?_)
   generalize wd.drew = wf at *
   refine WL.tk [(0,[]),(1,[2,1]),(3,[]),(4,[4])] hs ?_; clear hs
   iterate 4
    (first | refine TKs.p (v := ?_) ?_ ?_ | refine TKs.l (v := ?_) ?_ ?_); rotate_left
    ·intro w hc; go_simp <;> rfl
    simp only [Act.put,sA,sZ,sS]
   refine TKs.mk ?_; intro hs
   refine WL.o1 (i := 2) (by kernel_rfl) rfl hs ?_; clear hs
   intro K hK
   go_simp
   refine (HDOES.out _).mono ?_
   rintro e w7 ⟨rfl,hs⟩
   have BKg := Lib.hid (BKf.out.call hs)
   clear hs
   refine hK.out _ _ (SApp.intro (fun _ => ⟨BKg.out.cell 1 rfl 0 rfl,BKg.out.cell 1 rfl 1 rfl,BKg.out.cell 1 rfl 2 rfl,BKg.out.cell 1 rfl 3 rfl,BKg.out.cell 1 rfl 4 rfl,BKg.out.cell 1 rfl 5 rfl,BKg.out.cell 1 rfl 6 rfl,BKg.out.cell 1 rfl 7 rfl⟩) trivial) ?_
   clear hK K; intro hs; try simp only [Act.put,sA,sZ,sS]
   refine WL.o1 (i := 5) (by kernel_rfl) rfl hs ?_; clear hs
   intro K hK
   go_simp
   refine (HSTEP.out M _ m' A pn pc pkl _ w _ _ BKg.out (hok.ats _) HROW.out (by omega) (fun hj => by have h1 := HSP.out.fwd _ i HI.out hj; have := HL.out; simp only; omega) HE.out).mono ?_
   rintro e w8 ⟨rfl,hb⟩
   have BKh := Lib.hid hb
   clear hb
   refine hK.out _ _ (SApp.intro (fun h => (by cases h)) trivial) ?_
   clear hK K; intro hs; try simp only [Act.put,sA,sZ,sS]
   refine WL.o1 (i := 6) (by kernel_rfl) rfl hs ?_; clear hs
   intro K hK
   go_simp
   refine hK.out _ _ (SApp.intro (fun h => (by cases h)) trivial) ?_
   clear hK K; intro hs; try simp only [Act.put,sA,sZ,sS]
   clear hs; refine WL.done (by kernel_rfl) ?_ _; try simp only [Exit.then]
   go_wp2
   go_round
   case rel =>
    have hq := HQ.out
    have hj := HJ.out
    have hB := BKh.out.sub (.cons_cons _ (.cons _ (.refl _)))
    refine ⟨j + 1,m',_,by omega,estep_ok (hok.ats _) HE.out,hB,?_⟩
    rcases estep_vd HE.out with ⟨h28,hv1,hv2⟩ | ⟨h28,hv1⟩
    ·rcases HLAST.out with ⟨rfl,hv3⟩ | ⟨hv3,_⟩
     ·right
      rw [hv1] at hv3
      refine ⟨by omega,if_pos h28,?_⟩
      rw [hv2]
      exact Option.some.inj hv3
     ·rw [hv1] at hv3; cases hv3
    ·rcases HLAST.out with ⟨rfl,hv3⟩ | ⟨hv3,hrn⟩
     ·rw [hv1] at hv3
      exact absurd (HVN.out.symm.trans hv3) (by simp)
     ·left
      refine ⟨hv3,if_neg h28,?_⟩
      rw [show k - (j + 1) = q by omega]
      exact hrn
   case measure =>
    have hq := HQ.out
    rw [HM.out]
    exact Nat.lt_of_le_of_lt (Nat.le_of_eq (leftBy_at (k := k) (BKh.out.cell 3 rfl 3 rfl))) (by omega)
  ·have m1 := BK9.out.cell 0 rfl 1 (hv ▸ (mcL_reg hok (.slice A pn pc) (.pointer (some ⟨M,1,none⟩)) 0 (by decide)).2)
   obtain ⟨x0,x1,x2,x3,fx0,fx1,fx2,fx3⟩ := BK9.out.r4 2 rfl
   go_wp2
   rw [run_storeCells_W64]; go_simp; go_wp2
   clear x0 x1 x2 x3
   have BKa := Lib.hid (((((BK9.out.boxSet 2 rfl 2 (W64 v)).boxSet 2 rfl 0 (.int .i64 0)).boxSet 2 rfl 1 (.int .i64 0)).boxSet 2 rfl 2 (W64 v)).boxSet 2 rfl 3 (.int .i64 (j : Int)))
   obtain ⟨x0,x1,x2,x3⟩ := BKa.out.q4 2 rfl
   refine bodyPost_ret (v := .agg #[.int .i64 0,.int .i64 0,W64 v,.int .i64 (j : Int)]) ?_ rfl ⟨rfl,BKa.out.since⟩
   simp [results,Tryz.results8,go_sem,x0,x1,x2,x3]
end Go.Proofs.YtfeipbgnjainlaaGreat.K
