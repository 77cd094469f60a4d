/- What all servers look at: TLwA -/
import Derived.Test.YtfeipbgnjainlaaGreatTw40
import Derived.Test.YtfeipbgnjainlaaGreatTw47
import Derived.Test.YtfeipbgnjainlaaGreatTw44
set_option linter.unusedVariables false
set_option linter.unusedSimpArgs false
/- (made by genlwa.py) lower's maker; put, second, goes, live. -/
set_option maxRecDepth 100000
set_option maxHeartbeats 4000000
namespace Go.Proofs.YtfeipbgnjainlaaGreat.K
open Go Go.RowKit Go.Maps Go.Sort

theorem infoFl : (Tryz.prog.info? 67).map (fun i => (i.zero,i.size,i.bytes)) = some (some (.agg #[.int .u8 0,.int .u8 0,.bool false,.int .i64 0,.int .i64 0,.int .i64 0,.int .u64 0,.int .i64 0,.int .i64 0]),9,56) := by kernel_rfl
theorem flL_len (f : T.Fl) : (flL f).length = 9 := rfl
theorem flL_one (f : T.Fl) : ∀ u ∈ flL f,u.oneCell' = true := by
 intro u hu
 simp only [flL,List.mem_cons,List.mem_nil_iff,or_false] at hu
 rcases hu with rfl | rfl | rfl | rfl | rfl | rfl | rfl | rfl | rfl <;> rfl
theorem conv_wide (n : Int) (w : World) : (convert 3 34 (.int .i64 n)).run Tryz.prog w = .ok (W64 (T.wide n)) w := by
 have h := wide_wrap n
 unfold W64
 rw [← h]
 simp [convert,run_underlying Tryz.underlying3,run_underlying Tryz.underlying34,Conv.intToInt]
def natL (l : List Nat) : List Value := l.map fun (q : Nat) => Value.int .i64 (q : Int)
/-- the maker, with what it has made so far -/
def LwB (w0 w : World) (Mk : Nat) (lv pv : Value) (k : Nat) (out : List T.Fl) (bg : List Nat) (L : List Acc) : Prop :=
 ∃ (OA : Option Addr) (oc : Nat) (BA : Option Addr) (bc : Nat),Bank w0 w (boxAcc Mk 62 [lv,pv,.int .i64 (k : Int),.slice OA out.length oc,.slice BA bg.length bc] :: ⟨.slice OA out.length oc,out.length,67,9,out.flatMap flL⟩ :: ⟨.slice BA bg.length bc,bg.length,3,1,natL bg⟩ :: L)
def LwP (w0 : World) (Mk : Nat) (lv pv : Value) (k : Nat) (out : List T.Fl) (bg : List Nat) (L : List Acc) (e : Ending) (w' : World) : Prop := e = .returned (.tuple #[]) ∧ LwB w0 w' Mk lv pv k out bg L
section
variable {w0 w : World} {Mk : Nat} {lv pv : Value} {k : Nat} {out : List T.Fl} {bg : List Nat} {L : List Acc}
theorem LwB.since (h : LwB w0 w Mk lv pv k out bg L) : Since w0 w := by obtain ⟨_,_,_,_,h⟩ := h; exact h.since
theorem LwB.call (h : LwB w0 w Mk lv pv k out bg L) {w' : World} (hb : Below w.heap.size w w') : LwB w0 w' Mk lv pv k out bg L := by obtain ⟨a,b,c,d,h⟩ := h; exact ⟨a,b,c,d,h.call hb⟩
theorem LwB.alloc (h : LwB w0 w Mk lv pv k out bg L) (o : Obj) : LwB w0 (w.alloc o) Mk lv pv k out bg L := h.call ((Below.refl _ _).alloc (Nat.le_refl _) o)
theorem LwB.drew (h : LwB w0 w Mk lv pv k out bg L) : LwB w0 w.drew Mk lv pv k out bg L := by obtain ⟨a,b,c,d,h⟩ := h; exact ⟨a,b,c,d,h.drew⟩
theorem LwB.drop {p : Acc} (h : LwB w0 w Mk lv pv k out bg (p :: L)) : LwB w0 w Mk lv pv k out bg L := by obtain ⟨a,b,c,d,h⟩ := h; exact ⟨a,b,c,d,h.sub (.cons_cons _ (.cons_cons _ (.cons_cons _ (.cons _ (.refl _)))))⟩
theorem LwB.box (h : LwB w0 w Mk lv pv k out bg L) (vs : List Value) (t : TypeId) (hv : vs.length ≤ 1000000) : LwB w0 (w.alloc (.cells vs.toArray t)) Mk lv pv k out bg (boxAcc w.heap.size t vs :: L) := by
 obtain ⟨a,b,c,d,h⟩ := h
 exact ⟨a,b,c,d,(h.boxL vs t hv).permB ((List.perm_middle (a := boxAcc w.heap.size t vs) (l₁ := [_,_,_]) (l₂ := L)).symm)⟩
theorem LwB.cellL (h : LwB w0 w Mk lv pv k out bg L) (i : Nat) {g : Nat} {t : TypeId} {vs : List Value} (hi : L[i]? = some (boxAcc g t vs)) (j : Nat) {v : Value} (hv : vs[j]? = some v) : w.cell? ⟨g,j,none⟩ = some v := by
 obtain ⟨_,_,_,_,h⟩ := h
 exact h.cell (i + 3) hi j hv
theorem wp_hidL {P : Program} {cd : Code} {Q : Exit → Act → World → Prop} {a : Act} (hB : RowKit.Hid (LwB w0 w Mk lv pv k out bg L)) (h : ∀ w',RowKit.Hid (LwB w0 w' Mk lv pv k out bg L) → cd.wp P Q a w') : cd.wp P Q a w := h w hB
theorem LwB.cells8 (h : LwB w0 w Mk lv pv k out bg L) (n : Nat) {g : Nat} {t : TypeId} {v0 v1 v2 v3 v4 v5 v6 v7 : Value} {vs : List Value} (hi : L[n]? = some (boxAcc g t (v0 :: v1 :: v2 :: v3 :: v4 :: v5 :: v6 :: v7 :: vs))) :
  w.cell? ⟨g,0,none⟩ = some v0 ∧ w.cell? ⟨g,1,none⟩ = some v1 ∧ w.cell? ⟨g,2,none⟩ = some v2 ∧ w.cell? ⟨g,3,none⟩ = some v3 ∧ w.cell? ⟨g,4,none⟩ = some v4 ∧ w.cell? ⟨g,5,none⟩ = some v5 ∧ w.cell? ⟨g,6,none⟩ = some v6 ∧ w.cell? ⟨g,7,none⟩ = some v7 :=
 ⟨h.cellL n hi 0 rfl,h.cellL n hi 1 rfl,h.cellL n hi 2 rfl,h.cellL n hi 3 rfl,h.cellL n hi 4 rfl,h.cellL n hi 5 rfl,h.cellL n hi 6 rfl,h.cellL n hi 7 rfl⟩
theorem LwB.m0 (h : LwB w0 w Mk lv pv k out bg L) : w.cell? ⟨Mk,0,none⟩ = some lv := by obtain ⟨_,_,_,_,h⟩ := h; exact h.cell 0 rfl 0 rfl
theorem LwB.m1 (h : LwB w0 w Mk lv pv k out bg L) : w.cell? ⟨Mk,1,none⟩ = some pv := by obtain ⟨_,_,_,_,h⟩ := h; exact h.cell 0 rfl 1 rfl
theorem LwB.m2 (h : LwB w0 w Mk lv pv k out bg L) : w.cell? ⟨Mk,2,none⟩ = some (.int .i64 (k : Int)) := by obtain ⟨_,_,_,_,h⟩ := h; exact h.cell 0 rfl 2 rfl
end
theorem lwPut_ok {w0 w : World} {Mk : Nat} {lv pv : Value} {k : Nat} {out : List T.Fl} {bg : List Nat} {L : List Acc} (Z : Nat) (f : T.Fl) (hB : LwB w0 w Mk lv pv k out bg L) (hZ : RdC w Z (flL f)) (hn : out.length ≤ 100000) : Calls Tryz.prog 45 #[.pointer (some ⟨Mk,0,none⟩),.slice (some ⟨Z,0,none⟩) 1 1] w (LwP w0 Mk lv pv k (out ++ [f]) bg L) := by
 obtain ⟨OA,oc,BA,bc,hB⟩ := hB
 have BK0 := Lib.hid hB
 have HZ := Lib.hid hZ
 clear hB hZ
 have m3 := BK0.out.cell 0 rfl 3 rfl
 go_enter Tryz.func45,Tryz.ntmps45
 go_wp2_with (at_builtin; go_loud (refine wpList_append_bankG BK0.out rfl (.tmp 8) (.tmp 9) 40 rfl 67 (.agg #[.int .u8 0,.int .u8 0,.bool false,.int .i64 0,.int .i64 0,.int .i64 0,.int .u64 0,.int .i64 0,.int .i64 0]) 9 56 infoFl Tryz.underlying40 rfl (by decide) 1 OA out.length oc (out.flatMap flL) rfl rfl ⟨Z,0,none⟩ 1 1 (flL f) rfl rfl (fun j u hj => by rw [Addr.add_mid,Nat.zero_add]; exact HZ.out j u hj) (flL_one f) (by unfold maxLen; omega) (by omega) ?_); intro A' n' c' w5 hn' hB5 _ _; have HN := Lib.hid hn'; have BK5 := Lib.hid hB5; clear hn' hB5 m3; have m3 := BK5.out.cell 0 rfl 3 rfl; have fm3 := BK5.out.free 0 rfl 3)
 go_end0
 have h := BK5.out.boxSet 0 rfl 3 (.slice A' n' c')
 have e1 : out.flatMap flL ++ flL f = (out ++ [f]).flatMap flL := by rw [List.flatMap_append]; simp
 have e2 : n' = (out ++ [f]).length := by rw [HN.out,List.length_append]; rfl
 subst e2
 refine ⟨rfl,A',c',BA,bc,?_⟩
 rw [← e1]
 exact h
theorem lwPut_new {w0 w : World} {Mk : Nat} {lv pv : Value} {k : Nat} {out : List T.Fl} {bg : List Nat} {L : List Acc} (f : T.Fl) (hB : LwB w0 w Mk lv pv k out bg L) (hn : out.length ≤ 100000) : Calls Tryz.prog 45 #[.pointer (some ⟨Mk,0,none⟩),.slice (some ⟨w.heap.size,0,none⟩) 1 1] (w.alloc (.cells (flL f).toArray 67)) (LwP w0 Mk lv pv k (out ++ [f]) bg L) :=
 lwPut_ok w.heap.size f (hB.alloc _) (fun j u hj => by rw [World.cell?_alloc_new]; simpa using hj) hn
theorem lwSecond_ok {w0 w : World} {Mk : Nat} {lv pv : Value} {k : Nat} {out : List T.Fl} {bg : List Nat} {L : List Acc} (i : T.Ins) (hB : LwB w0 w Mk lv pv k out bg L) (hn : out.length ≤ 100000) : Calls Tryz.prog 44 #[.pointer (some ⟨Mk,0,none⟩),insV i] w (fun e w' => e = .returned (.int .i64 (T.lreg i)) ∧ LwB w0 w' Mk lv pv k (out ++ T.lsec i) bg L) := by
 obtain ⟨op,nr,dst,src,u,off,imm,size⟩ := i
 have hcv := conv_wide imm
 cases u
 case false =>
  have e1 : T.lreg ⟨op,nr,dst,src,false,off,imm,size⟩ = src := rfl
  have e2 : T.lsec ⟨op,nr,dst,src,false,off,imm,size⟩ = [] := rfl
  rw [e1,e2,List.append_nil]
  unfold insV insL
  have HB := Lib.hid (hB.box [.int .u8 op,.bool nr,.int .i64 dst,.int .i64 src,.bool false,.int .i64 off,.int .i64 imm,.int .i64 size] 31 (by simp))
  clear hB
  go_enter Tryz.func44,Tryz.ntmps44
  go_upto_region 1 with fail
  generalize w.heap.size = X at *
  refine wp_hidL HB (fun w1 HB => ?_)
  obtain ⟨x0,x1,x2,x3,x4,x5,x6,x7⟩ := HB.out.cells8 0 rfl
  go_wp2
  go_ret
  exact ⟨rfl,HB.out.drop⟩
 case true =>
  have e1 : T.lreg ⟨op,nr,dst,src,true,off,imm,size⟩ = 15 := rfl
  have e2 : T.lsec ⟨op,nr,dst,src,true,off,imm,size⟩ = [⟨1,0,false,15,0,0,T.wide imm,0,0⟩] := rfl
  rw [e1,e2]
  unfold insV insL
  have HB := Lib.hid (hB.box [.int .u8 op,.bool nr,.int .i64 dst,.int .i64 src,.bool true,.int .i64 off,.int .i64 imm,.int .i64 size] 31 (by simp))
  clear hB
  go_enter Tryz.func44,Tryz.ntmps44
  go_upto_region 1 with fail
  generalize w.heap.size = X at *
  refine wp_hidL HB (fun w1 HB => ?_)
  obtain ⟨x0,x1,x2,x3,x4,x5,x6,x7⟩ := HB.out.cells8 0 rfl
  go_wp2_with fail
  refine (lwPut_new ⟨1,0,false,15,0,0,T.wide imm,0,0⟩ HB.out hn).mono ?_
  rintro e w2 ⟨rfl,hb⟩
  have HB2 := Lib.hid hb
  clear hb
  go_wp2
  go_ret
  exact ⟨rfl,HB2.out.drop⟩
theorem lwGoes_ok {w0 w : World} {Mk : Nat} {lv pv : Value} {k : Nat} {out : List T.Fl} {bg : List Nat} {L : List Acc} (to_ : Int) (hB : LwB w0 w Mk lv pv k out bg L) (hn : out.length ≤ 100000) (hk : k ≤ 100000) : Calls Tryz.prog 47 #[.pointer (some ⟨Mk,0,none⟩),.int .i64 to_] w (LwP w0 Mk lv pv k (out ++ T.lgoes k to_) bg L) := by
 have HB := Lib.hid hB
 clear hB
 have m2 := HB.out.m2
 have kw : IntKind.i64.wrap ((k : Int) + 1) = (k : Int) + 1 := IntWalk.i64_in _ (by omega)
 unfold T.lgoes
 by_cases h : (k : Int) + 1 < to_
 ·rw [if_pos h]
  go_enter Tryz.func47,Tryz.ntmps47
  go_wp2_with fail
  refine (lwPut_new ⟨7,0,false,0,0,0,0#64,0,to_⟩ HB.out hn).mono ?_
  rintro e w2 ⟨rfl,hb⟩
  have HB2 := Lib.hid hb
  clear hb
  go_wp2
  go_end0
  exact ⟨rfl,HB2.out⟩
 ·rw [if_neg h,List.append_nil]
  go_enter Tryz.func47,Tryz.ntmps47
  go_wp2
  go_end0
  exact ⟨rfl,HB.out⟩
/-- what is known of places lies there -/
def PlcRd (w : World) (P : Nat) (ps : List T.Pl) : Prop := ∀ (j : Nat) (p : T.Pl),ps[j]? = some p → w.cell? ⟨P,j * 4,none⟩ = some (.bool p.live) ∧ (p.live = true → ∃ gr cr,w.cell? ⟨P,j * 4 + 1,none⟩ = some (.slice (some ⟨gr,0,none⟩) 11 cr) ∧ ∀ s : Nat,s < 11 → w.cell? ⟨gr,s * 3,none⟩ = some (.int .u8 (p.reg (s : Int)).k))
theorem lwLive_ok {w0 w : World} {Mk : Nat} {lv : Value} {k : Nat} {out : List T.Fl} {bg : List Nat} {L : List Acc} (P np pc : Nat) (ps : List T.Pl) (j : Nat) (hB : LwB w0 w Mk lv (.slice (some ⟨P,0,none⟩) np pc) k out bg L) (hP : PlcRd w0 P ps) (hj : j < np) (hl : ps.length = np) : Calls Tryz.prog 15 #[.pointer (some ⟨Mk,0,none⟩),.int .i64 (j : Int)] w fun e w' => e = .returned (.bool (T.plAt ps j).live) ∧ w' = w := by
 have m1 := hB.m1
 have c0 := hB.since.keep (hP j _ (List.getElem?_eq_getElem (by omega))).1
 have e : T.plAt ps j = ps[j]'(by omega) := by unfold T.plAt; rw [List.getD_eq_getElem?_getD,List.getElem?_eq_getElem (by omega)]; rfl
 rw [← e] at c0
 have j0 : (0 : Int) ≤ (j : Int) := by omega
 have j1 : (j : Int) < (np : Int) := by omega
 clear hB e
 go_enter Tryz.func15,Tryz.ntmps15
 go_wp2
 go_ret
 exact ⟨rfl,by first | rfl | trivial⟩
end Go.Proofs.YtfeipbgnjainlaaGreat.K
