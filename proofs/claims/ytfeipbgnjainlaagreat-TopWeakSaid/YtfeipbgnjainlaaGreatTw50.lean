/- What all servers look at: TRnD -/
import Derived.Test.YtfeipbgnjainlaaGreatTw46
import Derived.Test.YtfeipbgnjainlaaGreatTw47
set_option linter.unusedVariables false
set_option linter.unusedSimpArgs false
/- (made by genrnd.py) run.Do of a code that is right. -/
set_option maxRecDepth 100000
set_option maxHeartbeats 8000000
namespace Go.Proofs.YtfeipbgnjainlaaGreat.K
open Go Go.RowKit Go.Maps Go.Sort

def fmZero : T.Fm := ⟨List.replicate 16 0,List.replicate 512 0,0⟩
def fmA (pk : Value) : Array Value := (fmL fmZero pk (.int .i64 0) (.bool false)).toArray
theorem fmZero_ok : Fok fmZero := ⟨List.length_replicate,List.length_replicate⟩
theorem built_fm (A : Option Addr) (n c : Nat) : Tryz.prog.built 73 [(2,.slice A n c)] = some (fmA (.slice A n c)) := by kernel_rfl
theorem run_build_fm (A : Option Addr) (n c : Nat) (w : World) : (Instr.build 73 #[(2,.slice A n c)]).run Tryz.prog w = .ok (.agg (fmA (.slice A n c))) w := run_build w _ _ _ (built_fm A n c)
theorem fm_start_ok (n : Nat) : Fok (T.Fm.start n) := ⟨by unfold T.Fm.start; rw [List.length_set,List.length_replicate],List.length_replicate⟩
theorem Bank.keepNew {w0 w : World} {L : List Acc} (h : Bank w0 w L) (o : Obj) : BankK [(w.heap.size,o)] w0 (w.alloc o) L :=
 ⟨h.alloc o,fun k hk => by
  rw [List.mem_singleton] at hk
  subst hk
  exact heap_alloc_new w o,fun k hk p hp e => by
  rw [List.mem_singleton] at hk
  subst hk
  exact Nat.lt_irrefl _ (h.lt hp e).2⟩
theorem okP_9 {P : Nat → Prop} {f : T.Fl} (h : f.okP P) (h9 : f.do' = 9) : T.reg16 f.a := by
 rcases h with ⟨d,n,rfl,h1⟩ | ⟨d,a,rfl,h1,h2⟩ | ⟨wh,nr,d,a,b,rfl,w1,w2,h1,h2,h3,_⟩ | ⟨k,d,a,n,s,hk,rfl,h1,h2,hs⟩ | ⟨a,b,n,s,rfl,h1,h2,hs⟩ | ⟨t,rfl,ht⟩ | ⟨wh,nr,a,b,t,rfl,w1,w2,h1,h2,ht⟩ | rfl
 all_goals first
  | exact ⟨by decide,by decide⟩
  | (exfalso; simp only at h9; omega)
theorem fstep_fwd {pk : List T.B} {f : T.Fl} {m m' : T.Fm} {x : Nat} {P : Nat → Prop} (hP : ∀ y,P y → x ≤ y) (hf : f.okP P) (hx : x ≤ m.at') (h : T.fstep pk f m = some m') : x ≤ m'.at' := by
 rcases hf with ⟨d,n,rfl,h1⟩ | ⟨d,a,rfl,h1,h2⟩ | ⟨wh,nr,d,a,b,rfl,w1,w2,h1,h2,h3,_⟩ | ⟨k,d,a,n,s,hk,rfl,h1,h2,hs⟩ | ⟨a,b,n,s,rfl,h1,h2,hs⟩ | ⟨t,rfl,ht⟩ | ⟨wh,nr,a,b,t,rfl,w1,w2,h1,h2,ht⟩ | rfl
 ·rw [fstep_1 rfl h]; exact hx
 ·rw [fstep_2 rfl h]; exact hx
 ·rw [(fstep_3 rfl h).2]; exact hx
 ·rcases hk with rfl | rfl
  ·rw [(fstep_4 rfl h).2]; exact hx
  ·rw [(fstep_5 rfl h).2]; exact hx
 ·rw [(fstep_6 rfl h).2]; exact hx
 ·rw [fstep_7 rfl h]; exact hP _ ht
 ·rw [fstep_8 rfl h]
  split
  ·exact hP _ ht
  ·exact hx
 ·exact absurd h (by unfold T.fstep; simp)
theorem fstep_ok {pk : List T.B} {f : T.Fl} {m m' : T.Fm} {P : Nat → Prop} (hf : f.okP P) (hok : Fok m) (h : T.fstep pk f m = some m') : Fok m' := by
 rcases hf with ⟨d,n,rfl,h1⟩ | ⟨d,a,rfl,h1,h2⟩ | ⟨wh,nr,d,a,b,rfl,w1,w2,h1,h2,h3,_⟩ | ⟨k,d,a,n,s,hk,rfl,h1,h2,hs⟩ | ⟨a,b,n,s,rfl,h1,h2,hs⟩ | ⟨t,rfl,ht⟩ | ⟨wh,nr,a,b,t,rfl,w1,w2,h1,h2,ht⟩ | rfl
 ·rw [fstep_1 rfl h]; exact hok.put _ _
 ·rw [fstep_2 rfl h]; exact hok.put _ _
 ·rw [(fstep_3 rfl h).2]; exact hok.put _ _
 ·rcases hk with rfl | rfl
  ·rw [(fstep_4 rfl h).2]; exact hok.put _ _
  ·rw [(fstep_5 rfl h).2]; exact hok.put _ _
 ·rw [(fstep_6 rfl h).2]; exact hok.stk' (by simp [T.puts,hok.tl])
 ·rw [fstep_7 rfl h]; exact hok.ats _
 ·rw [fstep_8 rfl h]
  split
  ·exact hok.ats _
  ·exact hok
 ·exact absurd h (by unfold T.fstep; simp)
theorem fruns_len {c : List T.Fl} {pk : List T.B} (hc : T.FRight c) : ∀ (k : Nat) (m : T.Fm) (v : T.U),T.FRuns c pk k m v → m.at' + k ≤ c.length
 | 0,_,_,h => h.elim
 | k + 1,m,v,⟨f,hf,h⟩ => by
   have h1 := (List.getElem?_eq_some_iff.1 hf).1
   rcases h with ⟨rfl,_,_⟩ | ⟨m',hs,hr⟩
   ·omega
   ·have h2 := fruns_len hc k m' v hr
    have h3 := fstep_fwd (x := m.at' + 1) (fun y hy => hy.1) (hc.all _ f hf) (Nat.le_refl _) hs
    omega
theorem doFacts {w : World} {b o N Y R at_ : Nat} {l : List T.Fl} {f : T.Fl} (hr : FlRd w b o l) (hf : l[at_]? = some f) (h1 : w.cell? ⟨N,0,none⟩ = some (.int .i64 (at_ : Int))) (h2 : w.cell? ⟨Y,0,none⟩ = some (.pointer (some ⟨R,0,none⟩))) : (w.cell? ⟨N,0,none⟩ = some (.int .i64 (at_ : Int)) ∧ w.cell? ⟨Y,0,none⟩ = some (.pointer (some ⟨R,0,none⟩)) ∧ w.cell? ⟨b,o + at_ * 9,none⟩ = some (.int .u8 f.do') ∧ w.cell? ⟨b,o + at_ * 9 + 1,none⟩ = some (.int .u8 f.what) ∧ w.cell? ⟨b,o + at_ * 9 + 2,none⟩ = some (.bool f.narrow) ∧ w.cell? ⟨b,o + at_ * 9 + 3,none⟩ = some (.int .i64 f.d) ∧ w.cell? ⟨b,o + at_ * 9 + 4,none⟩ = some (.int .i64 f.a) ∧ w.cell? ⟨b,o + at_ * 9 + 5,none⟩ = some (.int .i64 f.b) ∧ w.cell? ⟨b,o + at_ * 9 + 6,none⟩ = some (W64 f.n) ∧ w.cell? ⟨b,o + at_ * 9 + 7,none⟩ = some (.int .i64 f.size) ∧ w.cell? ⟨b,o + at_ * 9 + 8,none⟩ = some (.int .i64 f.to)) := ⟨h1,h2,hr.cells hf⟩
theorem runDo_ok (b o n c : Nat) (l : List T.Fl) (A : Option Addr) (pn pc : Nat) (pkl : List T.B) (w : World) (hr : FlRd w b o l) (hl : l.length = n) (hf : T.FRight l) (hrow : RowRd w ⟨A,pn,pc⟩ pkl) (hpn : pn ≤ 65535) (k : Nat) (v : T.U) (hruns : T.FRuns l pkl k (T.Fm.start pn) v) :
  Calls Tryz.prog 11 #[.slice (some ⟨b,o,none⟩) n c,.slice A pn pc] w (Ret w (.agg #[.int .i64 0,.int .i64 0,W64 v,.int .i64 (k : Int)])) := by
 have hmf : ∀ (fn : Fn) (first cap : Array Value) (w : World),(Instr.makeFunc fn first cap).run Tryz.prog w = .ok (.func fn first cap) w := fun _ _ _ _ => rfl
 have hk : k ≤ 16384 := by
  have h1 := fruns_len hf k _ v hruns
  have h2 := hf.len
  omega
 have hn : n ≤ 16384 := by rw [← hl]; exact hf.len
 have HR := Lib.hid hr
 have HL := Lib.hid hl
 have HF := Lib.hid hf
 have HROW := Lib.hid hrow
 have HRUN := Lib.hid hruns
 clear hr hl hf hrow hruns
 have BK0 := Lib.hid ((Bank.nil (Below.refl w.heap.size w)).boxL [.int .i64 0,.int .i64 0,W64 0#64,.int .i64 0] 36 (by simp))
 go_enter_defers Tryz.func11,Tryz.ntmps11
 go_upto_region 1 with fail
 generalize w.heap.size = X at *
 change Code.wp _ _ _ _ (w.alloc (.cells #[.int .i64 0,.int .i64 0,W64 0#64,.int .i64 0] 36))
 generalize (w.alloc (.cells #[.int .i64 0,.int .i64 0,W64 0#64,.int .i64 0] 36)) = w1 at *
 go_wp2_with fail
 refine (irRight_ok b o n c l _ (HR.out.since BK0.out.since) HL.out HF.out).mono ?_
 rintro e w2 ⟨rfl,hs⟩
 have BK1 := Lib.hid (BK0.out.call hs)
 clear hs BK0
 have hpl : ¬ (65535 : Int) < (pn : Int) := by omega
 obtain ⟨R,hR⟩ : ∃ R,w2.heap.size = R := ⟨_,rfl⟩
 go_upto_region 6 with (first | (with_reducible refine at_buildL 73 ?_; refine wpList_build_run rfl _ _ rfl (.agg (fmA (.slice A pn pc))) (run_build_fm A pn pc _) ?_) | (with_reducible refine at_boxL 73 ?_; refine Great.wpList_boxTo rfl _ _ rfl (some 20) rfl R hR (fmA (.slice A pn pc)) rfl ?_))
 have BK2 := Lib.hid (hR ▸ BK1.out.boxL (fmL fmZero (.slice A pn pc) (.int .i64 0) (.bool false)) 73 (by rw [fmL_len fmZero_ok]; decide))
 have BK2 := Lib.hid (show Bank w (w2.alloc (.cells (fmA (.slice A pn pc)) 73)) _ from BK2.out)
 have hY : (w2.alloc (.cells (fmA (.slice A pn pc)) 73)).heap.size = R + 1 := by rw [World.size_alloc,hR]
 clear hR BK1
 generalize (w2.alloc (.cells (fmA (.slice A pn pc)) 73)) = w3 at *
 have BK3 := Lib.hid (hY ▸ BK2.out.boxL [.pointer (some ⟨R,0,none⟩)] 69 (by simp))
 clear hY
 generalize R + 1 = Y at *
 change Code.wp _ _ _ _ (w3.alloc (.cells #[.pointer (some ⟨R,0,none⟩)] 69))
 generalize (w3.alloc (.cells #[.pointer (some ⟨R,0,none⟩)] 69)) = w4 at *
 clear BK2
 have y0 := BK3.out.cell 0 rfl 0 rfl
 have c2 := BK3.out.cell 1 rfl 2 (fmL_reg fmZero_ok _ _ _ 2 (by decide))
 have f2 := BK3.out.free 1 rfl 2
 have hcl := conv_len pn
 go_wp2_with fail
 rw [run_storeCells_W64]; go_simp
 have BK4 := Lib.hid ((BK3.out.boxSet 1 rfl 2 (W64 (BitVec.ofNat 64 pn))).boxL [.int .i64 0] 3 (by simp))
 have hN : (w4.setCell ⟨R,2,none⟩ (W64 (BitVec.ofNat 64 pn))).heap.size = w4.heap.size := by simp
 rw [hN] at BK4
 clear y0 c2 f2 hcl hpl BK3 BK2 hN
 go_wp2_with fail
 generalize w4.heap.size = N at *
 generalize ((w4.setCell ⟨R,2,none⟩ (W64 (BitVec.ofNat 64 pn))).alloc (.cells #[.int .i64 0] 3)) = wA at *
 refine (rnDoes_any _).mono ?_
 rintro e w5 ⟨rfl,rfl⟩
 have BKm := Lib.hid (BK4.out.keepNew (.map (mes rnEnt) 9))
 clear BK4
 generalize wA.heap.size = g at *
 generalize wA.alloc (.map (mes rnEnt) 9) = wB at *
 have h0 : (fmL fmZero (.slice A pn pc) (.int .i64 0) (.bool false)).set 2 (W64 (BitVec.ofNat 64 pn)) = fmL (T.Fm.start pn) (.slice A pn pc) (.int .i64 ((0 : Nat) : Int)) (.bool false) := fmL_put fmZero_ok _ _ _ 2 (by decide) _
 have BK5 := Lib.hid (show BankK [(g,.map (mes rnEnt) 9)] w wB (boxAcc R 73 (fmL (T.Fm.start pn) (.slice A pn pc) (.int .i64 ((0 : Nat) : Int)) (.bool false)) :: boxAcc N 3 [.int .i64 ((0 : Nat) : Int)] :: boxAcc Y 69 [.pointer (some ⟨R,0,none⟩)] :: boxAcc X 36 [.int .i64 0,.int .i64 0,W64 0#64,.int .i64 0] :: []) from h0 ▸ BKm.out.permB (List.perm_middle (l₁ := [boxAcc N 3 [.int .i64 0],boxAcc Y 69 [.pointer (some ⟨R,0,none⟩)]]) (l₂ := [boxAcc X 36 [.int .i64 0,.int .i64 0,W64 0#64,.int .i64 0]])))
 clear BKm h0
 go_wp2_with fail
 go_loopw [] (fun wr => ∃ (j now : Nat) (m : T.Fm) (dn : Bool),Fok m ∧ j ≤ k ∧ BankK [(g,.map (mes rnEnt) 9)] w wr (boxAcc R 73 (fmL m (.slice A pn pc) (.int .i64 (j : Int)) (.bool dn)) :: boxAcc N 3 [.int .i64 (now : Int)] :: boxAcc Y 69 [.pointer (some ⟨R,0,none⟩)] :: boxAcc X 36 [.int .i64 0,.int .i64 0,W64 0#64,.int .i64 0] :: []) ∧ ((dn = false ∧ T.FRuns l pkl (k - j) m v) ∨ (dn = true ∧ j = k ∧ ∃ f,l[now]? = some f ∧ T.reg16 f.a ∧ m.reg f.a = v))) (fun wr => leftBy R 530 k wr)
 case atStart => exact ⟨0,0,_,false,fm_start_ok pn,Nat.zero_le _,BK5.out,.inl ⟨rfl,HRUN.out⟩⟩
 case round =>
  obtain ⟨j,now,m,dn,hok,hj,hB,hrel⟩ := hrel
  have BK6 := Lib.hid hB
  have HJ := Lib.hid hj
  have HM := Lib.hid (leftBy_at (k := k) (hB.cell 0 rfl 530 (fmL_end hok _ _ _ 2)))
  have y0 := hB.cell 2 rfl 0 rfl
  have r3 := hB.cell 0 rfl 531 (fmL_end hok _ _ _ 3)
  clear hB BK5 hj
  rcases hrel with ⟨rfl,hrn⟩ | ⟨rfl,rfl,f,hf,hfa,hfv⟩
  ·obtain ⟨q,hq⟩ : ∃ q,k - j = q + 1 := by
    cases hkj : k - j with
    | zero => rw [hkj] at hrn; exact absurd hrn (by simp [T.FRuns])
    | succ q => exact ⟨q,rfl⟩
   rw [hq] at hrn
   obtain ⟨f,hf,hnx⟩ := hrn
   have hat : m.at' < n := by rw [← HL.out]; exact (List.getElem?_eq_some_iff.1 hf).1
   have hokp := HF.out.all _ f hf
   obtain ⟨FD,m2,dn2,hmem,hcf,hstep,hok2,hrest⟩ : ∃ (FD : FuncId) (m2 : T.Fm) (dn2 : Bool),(f.do',Value.func (.func FD) #[] #[]) ∈ rnEnt ∧ (∀ (a b : Value) (w : World),(callFunc FD #[a,b]).run Tryz.prog w = .ok (.enter FD #[a,b]) w) ∧
     (∀ (w' : World) (st : Value) (L' : List Acc),BankK [(g,.map (mes rnEnt) 9)] w w' (boxAcc R 73 (fmL { m with at' := m.at' + 1 } (.slice A pn pc) st (.bool false)) :: L') → Calls Tryz.prog FD #[.pointer (some ⟨R,0,none⟩),flV f] w' (RnP [(g,.map (mes rnEnt) 9)] w R m2 (.slice A pn pc) st (.bool dn2) L')) ∧ Fok m2 ∧
     ((dn2 = false ∧ T.FRuns l pkl q m2 v) ∨ (dn2 = true ∧ q = 0 ∧ T.reg16 f.a ∧ m2.reg f.a = v)) := by
    rcases hnx with ⟨rfl,h9,hv⟩ | ⟨m',hs,hr⟩
    ·refine ⟨_,{ m with at' := m.at' + 1 },true,h9 ▸ rnEnd_mem,fun a b w => by kernel_rfl,fun w' st L' hb => rnEnd_ok f hb (hok.ats _),hok.ats _,.inr ⟨rfl,rfl,?_,hv.symm⟩⟩
     exact okP_9 hokp h9
    ·have hne : f.do' ≠ 9 := fun h9 => by unfold T.fstep at hs; rw [h9] at hs; simp at hs
     obtain ⟨FD,h1,h2,h3⟩ := rnDoes_step f hokp hne
     exact ⟨FD,m',false,h1,h2,fun w' st L' hb => h3 _ _ _ _ _ _ _ _ _ _ _ _ _ hb (hok.ats _) HROW.out (by omega) hs,fstep_ok hokp (hok.ats _) hs,.inl ⟨rfl,hr⟩⟩
   have HMEM := Lib.hid hmem
   have HSTEP := Lib.hid hstep
   have HREST := Lib.hid hrest
   have HQ := Lib.hid hq
   have HFI := Lib.hid hf
   clear hmem hstep hrest hq hf hnx hokp
   have r1 := BK6.out.cell 0 rfl 529 (fmL_end hok _ _ _ 1)
   have r2 := BK6.out.cell 0 rfl 530 (fmL_end hok _ _ _ 2)
   have fr1 := BK6.out.free 0 rfl 529
   have fr2 := BK6.out.free 0 rfl 530
   have n0 := BK6.out.cell 1 rfl 0 rfl
   have fn0 := BK6.out.free 1 rfl 0
   have hne1 := BK6.out.bank.ne (i := 0) (j := 1) rfl rfl (by decide)
   have hne2 := hne1.symm
   have hne3 := BK6.out.bank.ne (i := 0) (j := 2) rfl rfl (by decide)
   have hne4 := hne3.symm
   have hne5 := BK6.out.bank.ne (i := 1) (j := 2) rfl rfl (by decide)
   have hne6 := hne5.symm
   have kw : IntKind.i64.wrap ((m.at' : Int) + 1) = ((m.at' + 1 : Nat) : Int) := by rw [IntWalk.i64_in _ (by omega)]; omega
   have kj : IntKind.i64.wrap ((j : Int) + 1) = ((j + 1 : Nat) : Int) := by rw [IntWalk.i64_in _ (by have := HJ.out; omega)]; omega
   go_upto_region 14 with fail
   have BK7 := Lib.hid (((BK6.out.boxSet 1 rfl 0 (.int .i64 (m.at' : Int))).boxSet 0 rfl 529 (.int .i64 ((m.at' + 1 : Nat) : Int))).boxSet 0 rfl 530 (.int .i64 ((j + 1 : Nat) : Int)))
   have hX : BankK [(g,.map (mes rnEnt) 9)] w (((wr.setCell ⟨N,0,none⟩ (.int .i64 (m.at' : Int))).setCell ⟨R,529,none⟩ (.int .i64 ((m.at' + 1 : Nat) : Int))).setCell ⟨R,530,none⟩ (.int .i64 ((j + 1 : Nat) : Int))) (boxAcc R 73 (fmL { m with at' := m.at' + 1 } (.slice A pn pc) (.int .i64 ((j + 1 : Nat) : Int)) (.bool false)) :: boxAcc N 3 [.int .i64 (m.at' : Int)] :: boxAcc Y 69 [.pointer (some ⟨R,0,none⟩)] :: boxAcc X 36 [.int .i64 0,.int .i64 0,W64 0#64,.int .i64 0] :: []) := by
    have h := BK7.out
    rw [show ((fmL m (.slice A pn pc) (.int .i64 (j : Int)) (.bool false)).set 529 (.int .i64 ((m.at' + 1 : Nat) : Int))) = fmL { m with at' := m.at' + 1 } (.slice A pn pc) (.int .i64 (j : Int)) (.bool false) from fmL_at hok _ _ _ _] at h
    rw [show ((fmL { m with at' := m.at' + 1 } (.slice A pn pc) (.int .i64 (j : Int)) (.bool false)).set 530 (.int .i64 ((j + 1 : Nat) : Int))) = fmL { m with at' := m.at' + 1 } (.slice A pn pc) (.int .i64 ((j + 1 : Nat) : Int)) (.bool false) from fmL_st (hok.ats _) _ _ _ _] at h
    exact h
   refine wp_bankK _ hX (fun wd hz => ?_)
   clear hX BK7 BK6 y0 r3 r1 r2 fr1 fr2 n0 fn0 hne1 hne2 hne3 hne4 hne5 hne6 kw kj
   have BK8 := Lib.hid hz
   clear hz
   have t0 : (0 : Int) ≤ (m.at' : Int) := by omega
   have t1 : (m.at' : Int) < (n : Int) := by omega
   refine wp_region_noPanic ?_
   have BK9 := Lib.hid BK8.out.drew
   refine WL.begin 12 (fun w' => w'.cell? ⟨N,0,none⟩ = some (.int .i64 (m.at' : Int)) ∧ w'.cell? ⟨Y,0,none⟩ = some (.pointer (some ⟨R,0,none⟩)) ∧ w'.cell? ⟨b,o + m.at' * 9,none⟩ = some (.int .u8 f.do') ∧ w'.cell? ⟨b,o + m.at' * 9 + 1,none⟩ = some (.int .u8 f.what) ∧ w'.cell? ⟨b,o + m.at' * 9 + 2,none⟩ = some (.bool f.narrow) ∧ w'.cell? ⟨b,o + m.at' * 9 + 3,none⟩ = some (.int .i64 f.d) ∧ w'.cell? ⟨b,o + m.at' * 9 + 4,none⟩ = some (.int .i64 f.a) ∧ w'.cell? ⟨b,o + m.at' * 9 + 5,none⟩ = some (.int .i64 f.b) ∧ w'.cell? ⟨b,o + m.at' * 9 + 6,none⟩ = some (W64 f.n) ∧ w'.cell? ⟨b,o + m.at' * 9 + 7,none⟩ = some (.int .i64 f.size) ∧ w'.cell? ⟨b,o + m.at' * 9 + 8,none⟩ = some (.int .i64 f.to)) (fun _ => True) (by kernel_rfl) (doFacts (HR.out.since BK9.out.since) HFI.out (BK9.out.cell 1 rfl 0 rfl) (BK9.out.cell 2 rfl 0 rfl)) trivial (fun hs => ?_)
   generalize wd.drew = w9 at *
   refine WL.tk [(0,[]),(1,[]),(2,[6,5,4,3,2]),(3,[]),(4,[]),(5,[6,5]),(7,[7]),(8,[]),(9,[11,10,9]),(10,[]),(11,[11])] hs ?_; clear hs
   iterate 11
    (first | refine TKs.p (v := ?_) ?_ ?_ | refine TKs.l (v := ?_) ?_ ?_); rotate_left
    ·intro w hc; go_simp <;> rfl
    simp only [Act.put,sA,sZ,sS]
   refine TKs.mk ?_; intro hs
   refine WL.o1 (i := 6) (by kernel_rfl) rfl hs ?_; clear hs
   intro K hK
   have hlk := rnLook (BK9.out.kept _ (.head _)) HMEM.out
   go_simp
   refine hK.out _ _ (SApp.intro (fun _ => (doFacts (HR.out.since BK9.out.since) HFI.out (BK9.out.cell 1 rfl 0 rfl) (BK9.out.cell 2 rfl 0 rfl))) trivial) ?_
   clear hlk
   clear hK K; intro hs; try simp only [Act.put,sA,sZ,sS]
   refine WL.o1 (i := 12) (by kernel_rfl) rfl hs ?_; clear hs
   intro K hK
   go_simp
   refine (HSTEP.out _ _ _ BK9.out).mono ?_
   rintro e w8 ⟨rfl,hb⟩
   have BKa := Lib.hid hb
   clear hb
   refine hK.out _ _ (SApp.intro (fun h => (by cases h)) trivial) ?_
   clear hK K; intro hs; try simp only [Act.put,sA,sZ,sS]
   clear hs; refine WL.done (by kernel_rfl) ?_ _; try simp only [Exit.then]
   refine NoPanic.normal ?_
   go_wp2
   go_round
   case rel =>
    have hq := HQ.out
    have hj := HJ.out
    refine ⟨j + 1,m.at',m2,dn2,hok2,by omega,BKa.out,?_⟩
    rcases HREST.out with ⟨rfl,hr⟩ | ⟨rfl,rfl,ha,hv⟩
    ·exact .inl ⟨rfl,by rw [show k - (j + 1) = q by omega]; exact hr⟩
    ·exact .inr ⟨rfl,by omega,f,HFI.out,ha,hv⟩
   case measure =>
    have hq := HQ.out
    rw [HM.out]
    exact Nat.lt_of_le_of_lt (Nat.le_of_eq (leftBy_at (k := k) (BKa.out.cell 0 rfl 530 (fmL_end hok2 _ _ _ 2)))) (by omega)
  ·have hnow : now < n := by rw [← HL.out]; exact (List.getElem?_eq_some_iff.1 hf).1
   have t0 : (0 : Int) ≤ (now : Int) := by omega
   have t1 : (now : Int) < (n : Int) := by omega
   have c4 : ∀ (w' : World),Since w w' → w'.cell? ⟨b,o + now * 9 + 4,none⟩ = some (.int .i64 f.a) := fun w' hs => (HR.out.since hs) now f hf 4 _ rfl
   obtain ⟨a,ha⟩ := Int.eq_ofNat_of_zero_le hfa.1
   rw [ha] at c4 hfv
   have HC4 := Lib.hid c4
   have a1 : a < 16 := by have := hfa.2; omega
   have u0 : (0 : Int) ≤ (a : Int) := by omega
   have u1 : (a : Int) < (16 : Int) := by omega
   have hra : (fmL m (.slice A pn pc) (.int .i64 (j : Int)) (.bool true))[a]? = some (W64 v) := hfv ▸ fmL_reg hok _ _ _ a a1
   have HRA := Lib.hid hra
   clear c4 ha hfa hf hfv hra
   go_upto_region 15 with fail
   refine wp_region_noPanic ?_
   have BK9 := Lib.hid BK6.out.drew
   refine WL.begin 15 (fun w' => w'.cell? ⟨Y,0,none⟩ = some (.pointer (some ⟨R,0,none⟩)) ∧ w'.cell? ⟨N,0,none⟩ = some (.int .i64 (now : Int)) ∧ w'.cell? ⟨b,o + now * 9 + 4,none⟩ = some (.int .i64 (a : Int)) ∧ w'.cell? ⟨R,a,none⟩ = some (W64 v) ∧ w'.cell? ⟨R,530,none⟩ = some (.int .i64 (j : Int))) (fun _ => True) (by kernel_rfl) ⟨BK9.out.cell 2 rfl 0 rfl,BK9.out.cell 1 rfl 0 rfl,HC4.out _ BK9.out.since,BK9.out.cell 0 rfl a HRA.out,BK9.out.cell 0 rfl 530 (fmL_end hok _ _ _ 2)⟩ trivial (fun hs => ?_)
   generalize wr.drew = w9 at *
   refine WL.tk [(0,[0]),(1,[]),(2,[2]),(3,[]),(4,[]),(5,[5]),(6,[]),(7,[]),(8,[]),(9,[9]),(10,[10]),(11,[]),(12,[]),(13,[13]),(14,[])] hs ?_; clear hs
   iterate 15
    (first | refine TKs.p (v := ?_) ?_ ?_ | refine TKs.l (v := ?_) ?_ ?_); rotate_left
    ·intro w hc; go_simp <;> rfl
    simp only [Act.put,sA,sZ,sS]
   refine TKs.mk ?_; intro hs
   refine WL.o1 (i := 15) (by kernel_rfl) rfl hs ?_; clear hs
   intro K hK
   have x0 := BK9.out.cell 3 rfl 0 rfl
   have fx0 := BK9.out.free 3 rfl 0
   have x1 := BK9.out.cell 3 rfl 1 rfl
   have fx1 := BK9.out.free 3 rfl 1
   have x2 := BK9.out.cell 3 rfl 2 rfl
   have fx2 := BK9.out.free 3 rfl 2
   have x3 := BK9.out.cell 3 rfl 3 rfl
   have fx3 := BK9.out.free 3 rfl 3
   go_simp
   have BKz := Lib.hid ((((BK9.out.boxSet 3 rfl 0 (.int .i64 0)).boxSet 3 rfl 1 (.int .i64 0)).boxSet 3 rfl 2 (W64 v)).boxSet 3 rfl 3 (.int .i64 (j : Int)))
   clear x0 x1 x2 x3 fx0 fx1 fx2 fx3
   refine hK.out _ _ (SApp.intro (fun h => (by cases h)) trivial) ?_
   clear hK K; intro hs; try simp only [Act.put]
   clear hs; refine WL.done (by kernel_rfl) ?_ _; try simp only [Exit.then]
   refine NoPanic.normal ?_
   go_wp2
   refine leaves_cons (f := 18) (args := #[.pointer (some ⟨N,0,none⟩),.pointer (some ⟨Y,0,none⟩),.pointer (some ⟨X,0,none⟩)]) (by simp) (by simp [go_sem]) ?_
   refine (catchDo_idle _ _ _ _).mono ?_
   rintro e u' w'' ⟨rfl,rfl,rfl⟩
   have x0 := BKz.out.cell 3 rfl 0 rfl
   have x1 := BKz.out.cell 3 rfl 1 rfl
   have x2 := BKz.out.cell 3 rfl 2 rfl
   have x3 := BKz.out.cell 3 rfl 3 rfl
   exact ⟨.agg #[.int .i64 0,.int .i64 0,W64 v,.int .i64 (j : Int)],by simp [results,Tryz.results11,go_sem,x0,x1,x2,x3],rfl,BKz.out.since⟩
end Go.Proofs.YtfeipbgnjainlaaGreat.K
