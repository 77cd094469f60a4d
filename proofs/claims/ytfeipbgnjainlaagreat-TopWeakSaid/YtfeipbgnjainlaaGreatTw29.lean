/- What all servers look at: TCkE -/
import Derived.Test.YtfeipbgnjainlaaGreatTw28
import Derived.Test.YtfeipbgnjainlaaGreatTw13
import Derived.Test.YtfeipbgnjainlaaGreatTw19
set_option linter.unusedVariables false
set_option linter.unusedSimpArgs false
/- (made by gencke.py) The contracts of check's second, ahead, afar, exit, jump. -/
set_option maxRecDepth 100000
set_option maxHeartbeats 4000000
namespace Go.Proofs.YtfeipbgnjainlaaGreat.K
open Go Go.RowKit Go.Maps Go.Sort

theorem reg_at (p : T.Pl) (s : Nat) (h : s < p.regs.length) : p.reg (s : Int) = p.regs[s] := by
 unfold T.Pl.reg
 rw [Int.toNat_natCast,List.getD_eq_getElem?_getD,List.getElem?_eq_getElem h]
 rfl
theorem knsL_reg {w : World} {g : Nat} {p : T.Pl} (h : RdC w g (knsL p.regs)) (hl : p.regs.length = 11) (s : Nat) (hs : s < 11) : w.cell? ⟨g,s * 3,none⟩ = some (.int .u8 (p.reg (s : Int)).k) ∧ w.cell? ⟨g,s * 3 + 1,none⟩ = some (W64 (p.reg (s : Int)).s.lo) ∧ w.cell? ⟨g,s * 3 + 2,none⟩ = some (W64 (p.reg (s : Int)).s.hi) := by
 rw [reg_at p s (by omega)]
 exact knsL_at h s (by omega)
/-- the walker's cells -/
def wkL (lv : Value) (P n c k : Nat) (x : PV) : List Value := [lv,.slice (some ⟨P,0,none⟩) n c,.int .i64 (k : Int),.bool true,.slice (some ⟨x.gr,0,none⟩) 11 x.cr,.slice (some ⟨x.gb,0,none⟩) 512 x.cb,.int .i64 x.p.least]
theorem second_any (Wk gr cr : Nat) (p : T.Pl) (i : T.Ins) (w : World) (h4 : w.cell? ⟨Wk,4,none⟩ = some (.slice (some ⟨gr,0,none⟩) 11 cr)) (hr : RdC w gr (knsL p.regs)) (hl : p.regs.length = 11) (hs : 0 ≤ i.src ∧ i.src ≤ 10) : Calls Tryz.prog 100 #[.pointer (some ⟨Wk,0,none⟩),insV i] w (Ret w (knv (T.second i p))) := by
 obtain ⟨op,nr,dst,src,u,off,imm,size⟩ := i
 obtain ⟨s,rfl⟩ := Int.eq_ofNat_of_zero_le hs.1
 have s1 : s < 11 := by have := hs.2; simp only at this; omega
 obtain ⟨e0,e1,e2⟩ := knsL_reg hr hl s s1
 obtain ⟨kn,hk⟩ : ∃ kn,p.reg (s : Int) = kn := ⟨_,rfl⟩
 rw [hk] at e0 e1 e2
 have HV := Lib.hid (show ∀ op nr dst u off imm size,T.second ⟨op,nr,dst,(s : Int),u,off,imm,size⟩ p = if u then ⟨1,T.Sp.of (T.wide imm)⟩ else kn from fun _ _ _ _ _ _ _ => by unfold T.second; simp only [hk])
 have hw : Value.int .u64 (IntKind.u64.wrap imm) = W64 (T.wide imm) := wrap_wide imm
 have j0 : (0 : Int) ≤ (s : Int) := by omega
 have j1 : (s : Int) < (11 : Int) := by omega
 have HC := Lib.hid (fun w' (S : Since w w') => (show w'.cell? ⟨Wk,4,none⟩ = some (.slice (some ⟨gr,0,none⟩) 11 cr) ∧ w'.cell? ⟨gr,s * 3,none⟩ = some (.int .u8 kn.k) ∧ w'.cell? ⟨gr,s * 3 + 1,none⟩ = some (W64 kn.s.lo) ∧ w'.cell? ⟨gr,s * 3 + 2,none⟩ = some (W64 kn.s.hi) from ⟨S.keep h4,S.keep e0,S.keep e1,S.keep e2⟩))
 clear hr h4 e0 e1 e2 hk hs
 unfold insV insL
 have BK0 := bk2 w [.int .u8 op,.bool nr,.int .i64 dst,.int .i64 (s : Int),.bool u,.int .i64 off,.int .i64 imm,.int .i64 size] 31 [.int .u8 0,W64 0#64,W64 0#64] 113
 go_enter Tryz.func100,Tryz.ntmps100
 go_upto_region 1 with fail
 generalize w.heap.size = X at *
 change Code.wp _ _ _ _ ((w.alloc (.cells #[.int .u8 op,.bool nr,.int .i64 dst,.int .i64 (s : Int),.bool u,.int .i64 off,.int .i64 imm,.int .i64 size] 31)).alloc (.cells #[.int .u8 0,W64 0#64,W64 0#64] 113))
 generalize ((w.alloc (.cells #[.int .u8 op,.bool nr,.int .i64 dst,.int .i64 (s : Int),.bool u,.int .i64 off,.int .i64 imm,.int .i64 size] 31)).alloc (.cells #[.int .u8 0,W64 0#64,W64 0#64] 113)) = w1 at *
 obtain ⟨i0,i1,i2,i3,i4,i5,i6,i7⟩ := BK0.out.q8 1 rfl
 obtain ⟨r0,r1,r2,fr0,fr1,fr2⟩ := BK0.out.r3 0 rfl
 cases u
 case false =>
  have hc := HC.out _ BK0.out.since.drew
  go_upto_region 3 with fail
  refine WL.begin 9 (fun w' => w'.cell? ⟨Wk,4,none⟩ = some (.slice (some ⟨gr,0,none⟩) 11 cr) ∧ w'.cell? ⟨gr,s * 3,none⟩ = some (.int .u8 kn.k) ∧ w'.cell? ⟨gr,s * 3 + 1,none⟩ = some (W64 kn.s.lo) ∧ w'.cell? ⟨gr,s * 3 + 2,none⟩ = some (W64 kn.s.hi) ∧ w'.cell? ⟨X,3,none⟩ = some (.int .i64 (s : Int))) (fun _ => True) (by kernel_rfl) ⟨hc.1,hc.2.1,hc.2.2.1,hc.2.2.2,i3⟩ trivial (fun hs => ?_)
  refine WL.tk [(0,[]),(1,[]),(2,[]),(3,[]),(4,[4]),(5,[]),(6,[6]),(7,[]),(8,[8])] hs ?_; clear hs
  iterate 9
   (first | refine TKs.p (v := ?_) ?_ ?_ | refine TKs.l (v := ?_) ?_ ?_); rotate_left
   ·intro w hc; go_simp <;> rfl
   simp only [Act.put,sA,sZ,sS]
  refine TKs.mk ?_; intro hs
  refine WL.o1 (i := 9) (by kernel_rfl) rfl hs ?_; clear hs
  intro K hK
  go_simp
  refine hK.out _ _ (SApp.intro (fun h => (by cases h)) trivial) ?_
  clear hK K; intro hs; try simp only [Act.put]
  clear hs; refine WL.done (by kernel_rfl) ?_ _; try simp only [Exit.then]
  have BK1 := Lib.hid (((BK0.out.boxSet 0 rfl 0 (.int .u8 kn.k)).boxSet 0 rfl 1 (W64 kn.s.lo)).boxSet 0 rfl 2 (W64 kn.s.hi)).drew
  clear r0 r1 r2
  obtain ⟨r0,r1,r2⟩ := BK1.out.q3 0 rfl
  go_wp2
  refine bodyPost_ret (v := .agg #[.int .u8 kn.k,W64 kn.s.lo,W64 kn.s.hi]) ?_ rfl ⟨by rw [HV.out]; rfl,BK1.out.since⟩
  simp [results,Tryz.results100,go_sem,r0,r1,r2]
 case true =>
  go_wp2_with fail
  refine (spOf_agg (T.wide imm) _).mono ?_
  rintro e w2 ⟨rfl,hs⟩
  have BK1 := Lib.hid (BK0.out.call hs)
  clear i0 i1 i2 i3 i4 i5 i6 i7 r0 r1 r2 fr0 fr1 fr2
  clear hs BK0
  obtain ⟨i0,i1,i2,i3,i4,i5,i6,i7⟩ := BK1.out.q8 1 rfl
  obtain ⟨r0,r1,r2,fr0,fr1,fr2⟩ := BK1.out.r3 0 rfl
  go_wp2
  refine bodyPost_ret (v := .agg #[.int .u8 1,W64 (T.wide imm),W64 (T.wide imm)]) ?_ rfl ⟨by rw [HV.out]; rfl,(((BK1.out.boxSet 0 rfl 0 (.int .u8 1)).boxSet 0 rfl 1 (W64 (T.wide imm))).boxSet 0 rfl 2 (W64 (T.wide imm))).since⟩
  simp [results,Tryz.results100,go_sem,i0,i1,i2,i3,i4,i5,i6,i7,r0,r1,r2]
theorem perm_in (Z : Acc) (a b : Acc) (A R : List Acc) : (Z :: (a :: b :: (A ++ R))).Perm (a :: b :: (A ++ (Z :: R))) := (List.perm_middle (a := Z) (l₁ := a :: b :: A) (l₂ := R)).symm
theorem Bank.noZ {w0 w : World} {Z a b : Acc} {A R : List Acc} (h : Bank w0 w (a :: b :: (A ++ (Z :: R)))) : Bank w0 w (a :: b :: (A ++ R)) := h.sub (.cons_cons _ (.cons_cons _ (List.Sublist.append (.refl _) (List.sublist_cons_self _ _))))
theorem ahead_any (Wk P n c k : Nat) (vs : List Value) (y : PV) (xs : List PV) {w0 w : World} {R : List Acc} (hB : Bank w0 w (boxAcc Wk 84 vs :: plsA P n c xs :: (pvA xs ++ R))) (hv1 : vs[1]? = some (.slice (some ⟨P,0,none⟩) n c)) (hv2 : vs[2]? = some (.int .i64 (k : Int))) (hyr : y.regA ∈ R) (hyb : y.byA ∈ R) (hxl : xs.length = n) (hn : n ≤ 4096) (hw : ∀ x ∈ xs,x.p.live = true → x.p.Wf) (hy : y.p.Wf) (hk : k + 1 < n) : Calls Tryz.prog 99 #[.pointer (some ⟨Wk,0,none⟩),PlV y] w (fun e w' => e = .returned (.tuple #[]) ∧ ∃ xs',xs'.map PV.p = T.told (xs.map PV.p) (k + 1) (some y.p) ∧ Bank w0 w' (boxAcc Wk 84 vs :: plsA P n c xs' :: (pvA xs' ++ R))) := by
 have HM := Lib.hid (show ∀ z : Acc,(y.regA ∈ (z :: R)) ∧ (y.byA ∈ (z :: R)) from fun z => ⟨List.mem_cons_of_mem _ hyr,List.mem_cons_of_mem _ hyb⟩)
 have HW := Lib.hid hw
 have HY := Lib.hid hy
 have HV1 := Lib.hid hv1
 have HV2 := Lib.hid hv2
 have HXL := Lib.hid hxl
 have BK0 := Lib.hid (hB.boxL [.bool true,.slice (some ⟨y.gr,0,none⟩) 11 y.cr,.slice (some ⟨y.gb,0,none⟩) 512 y.cb,.int .i64 y.p.least] 82 (by simp))
 have h2 := BK0.out.cell 1 rfl 2 hv2
 have kw : IntKind.i64.wrap ((k : Int) + 1) = ((k + 1 : Nat) : Int) := IntWalk.i64_in _ (by omega)
 obtain ⟨p0,p1,p2,p3⟩ := BK0.out.q4 0 rfl
 clear hB hw hy hv1 hv2 hyr hyb hxl
 unfold PlV
 go_enter Tryz.func99,Tryz.ntmps99
 go_upto_region 1 with fail
 generalize hX : w.heap.size = X at *
 change Code.wp _ _ _ _ (w.alloc (.cells #[.bool true,.slice (some ⟨y.gr,0,none⟩) 11 y.cr,.slice (some ⟨y.gb,0,none⟩) 512 y.cb,.int .i64 y.p.least] 82))
 generalize (w.alloc (.cells #[.bool true,.slice (some ⟨y.gr,0,none⟩) 11 y.cr,.slice (some ⟨y.gb,0,none⟩) 512 y.cb,.int .i64 y.p.least] 82)) = w1 at *
 clear hX
 refine WL.begin 7 (fun w' => w'.cell? ⟨Wk,2,none⟩ = some (.int .i64 (k : Int)) ∧ w'.cell? ⟨X,0,none⟩ = some (.bool true) ∧ w'.cell? ⟨X,1,none⟩ = some (.slice (some ⟨y.gr,0,none⟩) 11 y.cr) ∧ w'.cell? ⟨X,2,none⟩ = some (.slice (some ⟨y.gb,0,none⟩) 512 y.cb) ∧ w'.cell? ⟨X,3,none⟩ = some (.int .i64 y.p.least)) (fun _ => True) (by kernel_rfl) ⟨h2,p0,p1,p2,p3⟩ trivial (fun hs => ?_)
 refine WL.tk [(0,[]),(1,[]),(2,[]),(3,[]),(4,[5,4]),(5,[]),(6,[6])] hs ?_; clear hs
 iterate 7
  (first | refine TKs.p (v := ?_) ?_ ?_ | refine TKs.l (v := ?_) ?_ ?_); rotate_left
  ·intro w hc; go_simp <;> rfl
  simp only [Act.put,sA,sZ,sS]
 refine TKs.mk ?_; intro hs
 refine WL.o1 (i := 7) (by kernel_rfl) rfl hs ?_; clear hs
 intro K hK
 go_simp
 refine (tell_any Wk P n c vs (k + 1) y xs (BK0.out.drew.permB (perm_in _ _ _ _ _)) HV1.out (HM.out _).1 (HM.out _).2 HXL.out hk HW.out HY.out).mono ?_
 rintro e w2 ⟨rfl,xs',hxs,hb⟩
 have B2 := Lib.hid hb.noZ
 have HX := Lib.hid hxs
 clear hb hxs
 refine hK.out _ _ (SApp.intro (fun h => (by cases h)) trivial) ?_
 clear hK K; intro hs; try simp only [Act.put,sA,sZ,sS]
 clear hs; refine WL.done (by kernel_rfl) ?_ _; try simp only [Exit.then]
 go_wp2
 go_end0
 exact ⟨rfl,xs',HX.out,B2.out⟩
theorem afar_any (b o cl : Nat) (l : List T.Ins) (i : T.Ins) (t : Nat) (Wk P n c k : Nat) (vs : List Value) (y : PV) (xs : List PV) {w0 w : World} {R : List Acc} (hB : Bank w0 w (boxAcc Wk 84 vs :: plsA P n c xs :: (pvA xs ++ R))) (hv1 : vs[1]? = some (.slice (some ⟨P,0,none⟩) n c)) (hv2 : vs[2]? = some (.int .i64 (k : Int))) (hyr : y.regA ∈ R) (hyb : y.byA ∈ R) (hxl : xs.length = n) (hn : n ≤ 4096) (hw : ∀ x ∈ xs,x.p.live = true → x.p.Wf) (hy : y.p.Wf) (hv0 : vs[0]? = some (.slice (some ⟨b,o,none⟩) n cl)) (hr : InsRd w0 b o l) (hi : l[k]? = some i) (hll : l.length = n) (hoff : i.off = (t : Int)) (hk : k + 1 + t < n) : Calls Tryz.prog 102 #[.pointer (some ⟨Wk,0,none⟩),PlV y] w (fun e w' => e = .returned (.tuple #[]) ∧ ∃ xs',xs'.map PV.p = T.told (xs.map PV.p) (k + 1 + t) (some y.p) ∧ Bank w0 w' (boxAcc Wk 84 vs :: plsA P n c xs' :: (pvA xs' ++ R))) := by
 have HM := Lib.hid (show ∀ z : Acc,(y.regA ∈ (z :: R)) ∧ (y.byA ∈ (z :: R)) from fun z => ⟨List.mem_cons_of_mem _ hyr,List.mem_cons_of_mem _ hyb⟩)
 have HW := Lib.hid hw
 have HY := Lib.hid hy
 have HV1 := Lib.hid hv1
 have HV2 := Lib.hid hv2
 have HXL := Lib.hid hxl
 have BK0 := Lib.hid (hB.boxL [.bool true,.slice (some ⟨y.gr,0,none⟩) 11 y.cr,.slice (some ⟨y.gb,0,none⟩) 512 y.cb,.int .i64 y.p.least] 82 (by simp))
 have h2 := BK0.out.cell 1 rfl 2 hv2
 have h0 := BK0.out.cell 1 rfl 0 hv0
 obtain ⟨_,_,_,_,_,c5,_,_⟩ := (hr.since BK0.out.since).cells hi
 rw [hoff] at c5
 have k0 : (0 : Int) ≤ (k : Int) := by omega
 have k1 : (k : Int) < (n : Int) := by omega
 have kw : IntKind.i64.wrap ((k : Int) + 1) = (k : Int) + 1 := IntWalk.i64_in _ (by omega)
 have kw2 : IntKind.i64.wrap ((k : Int) + 1 + (t : Int)) = ((k + 1 + t : Nat) : Int) := IntWalk.i64_in _ (by omega)
 obtain ⟨p0,p1,p2,p3⟩ := BK0.out.q4 0 rfl
 clear hB hw hy hv0 hv1 hv2 hyr hyb hxl hr hi hll hoff
 unfold PlV
 go_enter Tryz.func102,Tryz.ntmps102
 go_upto_region 1 with fail
 generalize hX : w.heap.size = X at *
 change Code.wp _ _ _ _ (w.alloc (.cells #[.bool true,.slice (some ⟨y.gr,0,none⟩) 11 y.cr,.slice (some ⟨y.gb,0,none⟩) 512 y.cb,.int .i64 y.p.least] 82))
 generalize (w.alloc (.cells #[.bool true,.slice (some ⟨y.gr,0,none⟩) 11 y.cr,.slice (some ⟨y.gb,0,none⟩) 512 y.cb,.int .i64 y.p.least] 82)) = w1 at *
 clear hX
 refine WL.begin 19 (fun w' => w'.cell? ⟨Wk,2,none⟩ = some (.int .i64 (k : Int)) ∧ w'.cell? ⟨Wk,0,none⟩ = some (.slice (some ⟨b,o,none⟩) n cl) ∧ w'.cell? ⟨b,o + k * 8 + 5,none⟩ = some (.int .i64 (t : Int)) ∧ w'.cell? ⟨X,0,none⟩ = some (.bool true) ∧ w'.cell? ⟨X,1,none⟩ = some (.slice (some ⟨y.gr,0,none⟩) 11 y.cr) ∧ w'.cell? ⟨X,2,none⟩ = some (.slice (some ⟨y.gb,0,none⟩) 512 y.cb) ∧ w'.cell? ⟨X,3,none⟩ = some (.int .i64 y.p.least)) (fun _ => True) (by kernel_rfl) ⟨h2,h0,c5,p0,p1,p2,p3⟩ trivial (fun hs => ?_)
 refine WL.tk [(0,[]),(1,[]),(2,[]),(3,[]),(4,[17,5,4]),(5,[]),(6,[]),(7,[]),(8,[]),(9,[17,16,15,14,9]),(10,[]),(11,[]),(12,[]),(13,[17,16,15,14,13]),(14,[]),(15,[]),(16,[17,16]),(17,[]),(18,[18])] hs ?_; clear hs
 iterate 19
  (first | refine TKs.p (v := ?_) ?_ ?_ | refine TKs.l (v := ?_) ?_ ?_); rotate_left
  ·intro w hc; go_simp <;> rfl
  simp only [Act.put,sA,sZ,sS]
 refine TKs.mk ?_; intro hs
 refine WL.o1 (i := 19) (by kernel_rfl) rfl hs ?_; clear hs
 intro K hK
 go_simp
 refine (tell_any Wk P n c vs (k + 1 + t) y xs (BK0.out.drew.permB (perm_in _ _ _ _ _)) HV1.out (HM.out _).1 (HM.out _).2 HXL.out hk HW.out HY.out).mono ?_
 rintro e w2 ⟨rfl,xs',hxs,hb⟩
 have B2 := Lib.hid hb.noZ
 have HX := Lib.hid hxs
 clear hb hxs
 refine hK.out _ _ (SApp.intro (fun h => (by cases h)) trivial) ?_
 clear hK K; intro hs; try simp only [Act.put,sA,sZ,sS]
 clear hs; refine WL.done (by kernel_rfl) ?_ _; try simp only [Exit.then]
 go_wp2
 go_end0
 exact ⟨rfl,xs',HX.out,B2.out⟩
end Go.Proofs.YtfeipbgnjainlaaGreat.K
