/- What all servers look at: TTop, TTop2, TEmp, TTopWF -/
import Derived.Test.YtfeipbgnjainlaaGreatTw52
import Derived.Test.YtfeipbgnjainlaaGreatTw50
import Derived.Test.YtfeipbgnjainlaaGreatTw19
import Derived.Test.YtfeipbgnjainlaaGreatTw51
set_option linter.unusedVariables false
set_option linter.unusedSimpArgs false
/- (made by gentop.py) barbicantop's sure and tells. -/
set_option maxRecDepth 100000
set_option maxHeartbeats 4000000
namespace Go.Proofs.YtfeipbgnjainlaaGreat.K
open Go Go.RowKit Go.Maps Go.Sort

/-- a code in a row of its own can be read -/
theorem flRd_of {w : World} {base : Nat} {g n c : Nat} {l : List T.Fl} (h : w.ownsRow base 67 9 (.slice (some ⟨g,0,none⟩) n c) n (l.flatMap flL)) : FlRd w g 0 l := by
 intro j f hf k v hv
 have hk : k < 9 := (List.getElem?_eq_some_iff.1 hv).1
 obtain ⟨hj,rfl⟩ := List.getElem?_eq_some_iff.1 hf
 have h1 := World.ownsRow.cells h (g := g) rfl (j * 9 + k) v (by rw [flat_get flL 9 flL_len l j hj k hk]; exact hv)
 rw [Addr.add_mid,Nat.zero_add] at h1
 rw [Nat.zero_add]
 exact h1
theorem sure_ok (b o n c : Nat) (l : List T.Ins) (A : Option Addr) (pn pc : Nat) (pkl : List T.B) (w : World) (hr : InsRd w b o l) (hl : l.length = n) (hn : n ≤ 4096) (hpf : (T.placesF l).1.1 = 0) (hrow : RowRd w ⟨A,pn,pc⟩ pkl) (hpn : pn ≤ 65535) :
  Calls Tryz.prog 7 #[.slice (some ⟨b,o,none⟩) n c,.slice A pn pc] w (Ret w (.bool true)) := by
 obtain ⟨h1,h2,h3⟩ := T.placesF_ok hpf
 have hsp := T.shaped_of h1
 have hty := T.typed_of hsp h2
 obtain ⟨ps,hps⟩ : ∃ q,(T.placesF l).2 = q := ⟨_,rfl⟩
 have hps2 : (T.placesOf l).2 = ps := by rw [← hps,h3]
 rw [hps2] at hty
 have hpl : pkl.length = pn := hrow.len
 obtain ⟨k,v,hk,hruns⟩ := T.runs_of hsp hty pkl (by rw [hpl]; exact hpn)
 obtain ⟨m,hfr⟩ := T.sim_of hsp hty pkl (by rw [hpl]; exact hpn) hruns
 have hright := T.lmake_right hsp hty (by rw [hl]; exact hn)
 rw [hpl] at hruns hfr
 have HR := Lib.hid hr
 have HMK := Lib.hid (fun w (hr : InsRd w b o l) => lwMake_any b o n c l w hr hl hn)
 have HEX := Lib.hid (fun w (hr : InsRd w b o l) (hrow : RowRd w ⟨A,pn,pc⟩ pkl) => exRun_ok b o n c l A pn pc pkl w hr hl hn hrow hpn hsp h1 k (by omega) v hruns)
 have HDO := Lib.hid (fun w g q qc (hr : FlRd w g 0 (T.lmake l ps)) (hq : (T.lmake l ps).length = q) (hrow : RowRd w ⟨A,pn,pc⟩ pkl) => runDo_ok g 0 q qc (T.lmake l ps) A pn pc pkl w hr hq hright hrow hpn m v hfr)
 have HROW := Lib.hid hrow
 have HPS := Lib.hid hps
 have HPF := Lib.hid hpf
 have HNE := Lib.hid (List.length_pos_iff.2 hright.ne)
 have hkn : (k : Int) ≤ (n : Int) := by omega
 clear h1 h2 h3 hsp hty hps hps2 hpl hk hruns hfr hright hr hl hn hpf hrow hpn
 go_enter Tryz.func7,Tryz.ntmps7
 go_wp2_with fail
 refine (HMK.out _ HR.out).mono ?_
 rintro e w1 (⟨_,hs,OA,oc,rfl,how⟩ | ⟨hpf,_⟩)
 case inr => exact absurd HPF.out hpf
 rw [HPS.out] at how ⊢
 obtain ⟨q,hq⟩ : ∃ q,(T.lmake l ps).length = q := ⟨_,rfl⟩
 have hq0 := HNE.out
 rw [hq] at how hq0 ⊢
 obtain ⟨g,rfl⟩ := own_someG how hq0
 have HFL := Lib.hid (flRd_of how)
 have HQ := Lib.hid hq
 have HS := Lib.hid hs
 clear hs how hq hq0
 go_upto_region 2 with fail
 have BK1 := Lib.hid ((Bank.nil (Below.refl w1.heap.size w1)).boxL [.int .i64 0,.int .i64 0] 27 (by simp))
 generalize w1.heap.size = F at *
 refine wp_hid BK1 (fun w2 BK1 => ?_)
 go_wp2_with fail
 refine (HEX.out _ (HR.out.since (HS.out.add BK1.out.since)) ((HS.out.add BK1.out.since).row HROW.out)).mono ?_
 rintro e w3 ⟨rfl,hs⟩
 have BK2 := Lib.hid (BK1.out.call hs)
 clear hs BK1
 go_wp2_with fail
 refine (HDO.out _ g q oc (HFL.out.since BK2.out.since) HQ.out ((HS.out.add BK2.out.since).row HROW.out)).mono ?_
 rintro e w4 ⟨rfl,hs⟩
 have BK3 := Lib.hid (BK2.out.call hs)
 clear hs BK2
 go_upto_region 3 with fail
 have BK4 := Lib.hid ((BK3.out.boxL [.int .i64 0,.int .i64 0,W64 v,.int .i64 (k : Int)] 36 (by simp)).boxL [.int .i64 0,.int .i64 0,W64 v,.int .i64 (m : Int)] 36 (by simp))
 rw [World.size_alloc] at BK4
 generalize w4.heap.size = X at *
 generalize X + 1 = Y at *
 refine wp_hid BK4 (fun w5 BK4 => ?_)
 have f0 := BK4.out.cell 2 rfl 0 rfl
 have a0 := BK4.out.cell 1 rfl 0 rfl
 have a2 := BK4.out.cell 1 rfl 2 rfl
 have a3 := BK4.out.cell 1 rfl 3 rfl
 have b0 := BK4.out.cell 0 rfl 0 rfl
 have b2 := BK4.out.cell 0 rfl 2 rfl
 go_wp2
 go_ret
 exact ⟨rfl,HS.out.add BK4.out.since⟩
end Go.Proofs.YtfeipbgnjainlaaGreat.K
/- (made by gentop2.py) barbicantop's filter and tells. -/
set_option maxRecDepth 100000
set_option maxHeartbeats 4000000
namespace Go.Proofs.YtfeipbgnjainlaaGreat.K
open Go Go.RowKit Go.Maps Go.Sort

def filterL : List T.Ins := [⟨12,false,0,0,true,0,5,0⟩,⟨20,false,2,0,true,1,1,0⟩,⟨28,false,0,0,false,0,0,0⟩,⟨14,false,0,1,false,0,0,1⟩,⟨28,false,0,0,false,0,0,0⟩]
def runsB (l : List T.Ins) (pk : List T.B) : Nat → T.Mc → T.U → Bool
 | 0,_,_ => false
 | k + 1,m,v => match l[m.at']? with
   | none => false
   | some i => decide ((T.estep pk i { m with at' := m.at' + 1 }).1 = 0) && (match (T.estep pk i { m with at' := m.at' + 1 }).2.verdict with
     | some u => decide (k = 0) && decide (u = v)
     | none => runsB l pk k (T.estep pk i { m with at' := m.at' + 1 }).2 v)
theorem runs_ofB {l : List T.Ins} {pk : List T.B} : ∀ {k : Nat} {m : T.Mc} {v : T.U},runsB l pk k m v = true → T.Runs l pk k m v
 | 0,_,_,h => by cases h
 | k + 1,m,v,h => by
   unfold runsB at h
   split at h
   ·cases h
   ·rename_i i hi
    rw [Bool.and_eq_true,decide_eq_true_eq] at h
    obtain ⟨h1,h2⟩ := h
    refine ⟨i,_,hi,Prod.ext h1 rfl,?_⟩
    split at h2
    ·rename_i u hu
     rw [Bool.and_eq_true,decide_eq_true_eq,decide_eq_true_eq] at h2
     exact .inl ⟨h2.1,by rw [hu,h2.2]⟩
    ·rename_i hu
     exact .inr ⟨hu,runs_ofB h2⟩
theorem filter_places : (T.placesF filterL).1.1 = 0 := by decide +kernel
theorem filter_9 : T.Runs filterL [9#8] 4 (T.Mc.start 1) 9#64 := runs_ofB (by decide +kernel)
theorem filter_0 : T.Runs filterL [] 3 (T.Mc.start 0) 5#64 := runs_ofB (by decide +kernel)
theorem filterT_any (w : World) : Calls Tryz.prog 9 #[] w fun e w' => e = .returned (.slice (some ⟨w.heap.size,0,none⟩) 5 5) ∧ w' = w.alloc (.cells (filterL.flatMap insL).toArray 31) := by
 go_enter Tryz.func9,Tryz.ntmps9
 go_wp2
 go_ret
 exact ⟨rfl,rfl⟩
theorem filter_rd (w : World) : InsRd (w.alloc (.cells (filterL.flatMap insL).toArray 31)) w.heap.size 0 filterL := by
 intro j i hi k v hv
 have hk : k < 8 := (List.getElem?_eq_some_iff.1 hv).1
 obtain ⟨hj,rfl⟩ := List.getElem?_eq_some_iff.1 hi
 rw [Nat.zero_add,World.cell?_alloc_new]
 have h := flat_get insL 8 (fun _ => rfl) filterL j hj k hk
 rw [hv] at h
 simpa using h
theorem tells_ok (w : World) : Calls Tryz.prog 4 #[] w (Ret w (.bool true)) := by
 obtain ⟨h1,h2,h3⟩ := T.placesF_ok filter_places
 have hsp := T.shaped_of h1
 have hty := T.typed_of hsp h2
 obtain ⟨ps,hps⟩ : ∃ q,(T.placesF filterL).2 = q := ⟨_,rfl⟩
 have hps2 : (T.placesOf filterL).2 = ps := by rw [← hps,h3]
 rw [hps2] at hty
 obtain ⟨m,hfr⟩ := T.sim_of hsp hty [] (by decide) filter_0
 have hright := T.lmake_right hsp hty (by decide)
 have HMK := Lib.hid (fun w b (hr : InsRd w b 0 filterL) => lwMake_any b 0 5 5 filterL w hr rfl (by decide))
 have HEX := Lib.hid (fun w b (hr : InsRd w b 0 filterL) g (hrow : RowRd w ⟨some ⟨g,0,none⟩,1,1⟩ [9#8]) => exRun_ok b 0 5 5 filterL (some ⟨g,0,none⟩) 1 1 [9#8] w hr rfl (by decide) hrow (by decide) hsp h1 4 (by decide) 9#64 filter_9)
 have HDO := Lib.hid (fun w g q qc (hr : FlRd w g 0 (T.lmake filterL ps)) (hq : (T.lmake filterL ps).length = q) => runDo_ok g 0 q qc (T.lmake filterL ps) none 0 0 [] w hr hq hright ⟨Rd.of_nil _ _,rfl,fun _ => rfl⟩ (by decide) m 5#64 hfr)
 have HPS := Lib.hid hps
 have HNE := Lib.hid (List.length_pos_iff.2 hright.ne)
 clear h1 h2 h3 hsp hty hps hps2 hfr hright
 go_enter Tryz.func4,Tryz.ntmps4
 go_wp2_with fail
 refine (filterT_any _).mono ?_
 rintro e wa ⟨rfl,rfl⟩
 have HR := Lib.hid (filter_rd w)
 have HS0 := Lib.hid (show Since w (w.alloc (.cells (filterL.flatMap insL).toArray 31)) from (Below.refl _ _).alloc (Nat.le_refl _) _)
 generalize w.heap.size = b at HR ⊢
 generalize w.alloc (.cells (filterL.flatMap insL).toArray 31) = wb at *
 go_wp2_with fail
 refine (HMK.out _ b HR.out).mono ?_
 rintro e w1 (⟨_,hs,OA,oc,rfl,how⟩ | ⟨hpf,_⟩)
 case inr => exact absurd filter_places hpf
 rw [HPS.out] at how ⊢
 obtain ⟨q,hq⟩ : ∃ q,(T.lmake filterL ps).length = q := ⟨_,rfl⟩
 have hq0 := HNE.out
 rw [hq] at how hq0 ⊢
 obtain ⟨g,rfl⟩ := own_someG how hq0
 have HFL := Lib.hid (flRd_of how)
 have HQ := Lib.hid hq
 have HS := Lib.hid hs
 clear hs how hq hq0
 go_upto_region 3 with fail
 have BK1 := Lib.hid ((Bank.nil (Below.refl w1.heap.size w1)).boxL [.int .i64 0,.int .i64 0] 27 (by simp))
 generalize w1.heap.size = F at *
 refine wp_hid BK1 (fun w2 BK1 => ?_)
 go_wp2_with fail
 have BKp := Lib.hid (BK1.out.litV #[.int .u8 9] 5 (by decide))
 clear BK1
 generalize w2.heap.size = Z at *
 generalize w2.alloc (.cells #[.int .u8 9] 5) = w2b at *
 refine (HEX.out _ b (HR.out.since (HS.out.add BKp.out.since)) Z (RowRd.of_row (bs := [9#8]) (BKp.out.at 0 rfl))).mono ?_
 rintro e w3 ⟨rfl,hs⟩
 have BK2 := Lib.hid (BKp.out.call hs)
 clear hs BKp
 go_wp2_with fail
 refine (HDO.out _ g q oc (HFL.out.since BK2.out.since) HQ.out).mono ?_
 rintro e w4 ⟨rfl,hs⟩
 have BK3 := Lib.hid (BK2.out.call hs)
 clear hs BK2
 go_upto_region 4 with fail
 have BK4 := Lib.hid ((BK3.out.boxL [.int .i64 0,.int .i64 0,.int .u64 9,.int .i64 4] 36 (by simp)).boxL [.int .i64 0,.int .i64 0,.int .u64 5,.int .i64 (m : Int)] 36 (by simp))
 rw [World.size_alloc] at BK4
 generalize w4.heap.size = X at *
 generalize X + 1 = Y at *
 refine wp_hid BK4 (fun w5 BK4 => ?_)
 have f0 := BK4.out.cell 3 rfl 0 rfl
 have a0 := BK4.out.cell 1 rfl 0 rfl
 have a2 := BK4.out.cell 1 rfl 2 rfl
 have b0 := BK4.out.cell 0 rfl 0 rfl
 have b2 := BK4.out.cell 0 rfl 2 rfl
 go_wp2
 go_ret
 exact ⟨rfl,(HS0.out.add HS.out).add BK4.out.since⟩
end Go.Proofs.YtfeipbgnjainlaaGreat.K
/- (made by gentop3.py) shape.Check, check.Places and check.Filter of no instructions, at whatever address. -/
set_option maxRecDepth 100000
set_option maxHeartbeats 8000000
namespace Go.Proofs.YtfeipbgnjainlaaGreat.K
open Go Go.RowKit Go.Maps Go.Sort

theorem shapeCheck_0 (A : Option Addr) (c : Nat) (w : World) : Calls Tryz.prog 13 #[.slice A 0 c] w (Ret w (.agg #[.int .i64 6,.int .i64 0])) := by
 have BK0 := bk2 w [.slice A 0 c] 22 [.int .i64 0,.int .i64 0] 27
 go_enter Tryz.func13,Tryz.ntmps13
 go_upto_region 1 with fail
 generalize w.heap.size = X at *
 refine wp_hid BK0 (fun w1 BK0 => ?_)
 have a0 := BK0.out.cell 1 rfl 0 rfl
 obtain ⟨r0,r1,fr0,fr1⟩ := BK0.out.r2 0 rfl
 go_wp2
 refine bodyPost_ret (v := .agg #[.int .i64 6,.int .i64 0]) ?_ rfl ⟨rfl,((BK0.out.boxSet 0 rfl 0 (.int .i64 6)).boxSet 0 rfl 1 (.int .i64 0)).since⟩
 simp [results,Tryz.results13,go_sem,a0,r0,r1]
theorem places_0 (A : Option Addr) (c : Nat) (w : World) : Calls Tryz.prog 12 #[.slice A 0 c] w fun e w' => e = .returned (.tuple #[.slice none 0 0,.agg #[.int .i64 6,.int .i64 0]]) ∧ Since w w' := by
 have hmf : ∀ (fn : Fn) (first cap : Array Value) (w : World),(Instr.makeFunc fn first cap).run Tryz.prog w = .ok (.func fn first cap) w := fun _ _ _ _ => rfl
 have BK0 := bk2 w [.slice none 0 0] 44 [.int .i64 0,.int .i64 0] 27
 go_enter_defers Tryz.func12,Tryz.ntmps12
 go_upto_region 1 with fail
 generalize w.heap.size = X at *
 refine wp_hid BK0 (fun w1 BK0 => ?_)
 obtain ⟨p0,fp0⟩ := BK0.out.r1 1 rfl
 obtain ⟨f0,f1,ff0,ff1⟩ := BK0.out.r2 0 rfl
 go_wp2_with fail
 refine (shapeCheck_0 A c _).mono ?_
 rintro e w2 ⟨rfl,hs⟩
 have BK1 := Lib.hid (BK0.out.call hs)
 clear hs BK0 p0 fp0 f0 f1 ff0 ff1
 go_upto_region 3 with fail
 refine wp_bank [boxAcc w2.heap.size 27 [.int .i64 6,.int .i64 0],boxAcc (X + 1) 27 [.int .i64 0,.int .i64 0],boxAcc X 44 [.slice none 0 0]] (BK1.out.boxL [.int .i64 6,.int .i64 0] 27 (by simp)) (fun w3 h3 => ?_)
 generalize w2.heap.size = F4 at *
 have BK := Lib.hid h3.drew
 obtain ⟨q0,q1⟩ := h3.q2 0 rfl
 clear h3
 refine wp_region_noPanic ?_
 refine WL.begin 2 (fun w' => w'.cell? ⟨F4,0,none⟩ = some (.int .i64 6) ∧ w'.cell? ⟨F4,1,none⟩ = some (.int .i64 0)) (fun _ => True) (by kernel_rfl) ⟨q0,q1⟩ trivial (fun hs => ?_)
 generalize w3.drew = wz at *
 refine WL.tk [(0,[0])] hs ?_; clear hs
 iterate 1
  (first | refine TKs.p (v := ?_) ?_ ?_ | refine TKs.l (v := ?_) ?_ ?_); rotate_left
  ·intro w hc; go_simp <;> rfl
  simp only [Act.put,sA,sZ,sS]
 refine TKs.mk ?_; intro hs
 refine WL.o1 (i := 1) (by kernel_rfl) rfl hs ?_; clear hs
 intro K hK
 obtain ⟨e0,g0⟩ := BK.out.r1 2 rfl
 go_simp
 have BK := Lib.hid (BK.out.boxSet 2 rfl 0 (.slice none 0 0))
 clear e0 g0
 refine hK.out _ _ (SApp.intro (fun _ => ⟨BK.out.cell 0 rfl 0 rfl,BK.out.cell 0 rfl 1 rfl⟩) trivial) ?_
 generalize (wz.setCell ⟨X,0,none⟩ (.slice none 0 0)) = wz at *
 clear hK K; intro hs; try simp only [Act.put]
 refine WL.o1 (i := 2) (by kernel_rfl) rfl hs ?_; clear hs
 intro K hK
 obtain ⟨e0,e1,g0,g1⟩ := BK.out.r2 1 rfl
 go_simp
 have BK := Lib.hid ((BK.out.boxSet 1 rfl 0 (.int .i64 6)).boxSet 1 rfl 1 (.int .i64 0))
 clear e0 e1 g0 g1
 refine hK.out _ _ (SApp.intro (fun h => (by cases h)) trivial) ?_
 generalize ((wz.setCell ⟨X + 1,0,none⟩ (.int .i64 6)).setCell ⟨X + 1,1,none⟩ (.int .i64 0)) = wz at *
 clear hK K; intro hs; try simp only [Act.put]
 clear hs; refine WL.done (by kernel_rfl) ?_ _; try simp only [Exit.then]
 refine NoPanic.normal ?_
 clear q0 q1
 have r0 := BK.out.cell 2 rfl 0 rfl
 obtain ⟨r1,r2⟩ := BK.out.q2 1 rfl
 go_wp2
 exact ⟨.tuple #[.slice none 0 0,.agg #[.int .i64 6,.int .i64 0]],by simp [results,Tryz.results12,go_sem,r0,r1,r2],⟨rfl,BK.out.since⟩⟩
theorem filter_0s (A : Option Addr) (c : Nat) (w : World) : Calls Tryz.prog 5 #[.slice A 0 c] w (Ret w (.agg #[.int .i64 6,.int .i64 0])) := by
 have BK0 := bk1 w [.int .i64 0,.int .i64 0] 27
 go_enter Tryz.func5,Tryz.ntmps5
 go_upto_region 1 with fail
 generalize w.heap.size = X at *
 refine wp_hid BK0 (fun w1 BK0 => ?_)
 obtain ⟨r0,r1,fr0,fr1⟩ := BK0.out.r2 0 rfl
 go_wp2_with fail
 refine (places_0 A c _).mono ?_
 clear r0 r1 fr0 fr1
 rintro e w2 ⟨rfl,hs⟩
 have BK := Lib.hid (BK0.out.call hs)
 clear hs BK0
 go_upto_region 2 with fail
 refine wp_bank [boxAcc w2.heap.size 27 [.int .i64 6,.int .i64 0],boxAcc X 27 [.int .i64 0,.int .i64 0]] (BK.out.boxL [.int .i64 6,.int .i64 0] 27 (by simp)) (fun w3 h3 => ?_)
 generalize w2.heap.size = Y at *
 have BK := Lib.hid h3
 obtain ⟨q0,q1⟩ := h3.q2 0 rfl
 obtain ⟨r0,r1,fr0,fr1⟩ := h3.r2 1 rfl
 clear h3
 go_wp2
 refine bodyPost_ret (v := .agg #[.int .i64 6,.int .i64 0]) ?_ rfl ⟨rfl,((BK.out.boxSet 1 rfl 0 (.int .i64 6)).boxSet 1 rfl 1 (.int .i64 0)).since⟩
 simp [results,Tryz.results5,go_sem,r0,r1]
end Go.Proofs.YtfeipbgnjainlaaGreat.K
/- (made by gentop4.py) barbicantop.TopWeak. -/
set_option maxRecDepth 100000
set_option maxHeartbeats 8000000
namespace Go.Proofs.YtfeipbgnjainlaaGreat.K
open Go Go.RowKit Go.Maps Go.Sort

theorem infoInsT : (Tryz.prog.info? 31).map (fun i => (i.zero,i.size,i.bytes)) = some (some (.agg #[.int .u8 0,.bool false,.int .i64 0,.int .i64 0,.bool false,.int .i64 0,.int .i64 0,.int .i64 0]),8,56) := by kernel_rfl
theorem insL_one (i : T.Ins) : ∀ u ∈ insL i,u.oneCell' = true := by
 intro u hu
 simp only [insL,List.mem_cons,List.mem_nil_iff,or_false] at hu
 rcases hu with rfl | rfl | rfl | rfl | rfl | rfl | rfl | rfl <;> rfl
theorem insL_len (i : T.Ins) : (insL i).length = 8 := rfl
theorem insRd_of {w : World} {base : Nat} {g n c : Nat} {l : List T.Ins} (h : w.ownsRow base 31 8 (.slice (some ⟨g,0,none⟩) n c) n (l.flatMap insL)) : InsRd w g 0 l := by
 intro j f hf k v hv
 have hk : k < 8 := (List.getElem?_eq_some_iff.1 hv).1
 obtain ⟨hj,rfl⟩ := List.getElem?_eq_some_iff.1 hf
 have h1 := World.ownsRow.cells h (g := g) rfl (j * 8 + k) v (by rw [flat_get insL 8 insL_len l j hj k hk]; exact hv)
 rw [Addr.add_mid,Nat.zero_add] at h1
 rw [Nat.zero_add]
 exact h1
theorem insRd_flat {w : World} {b o : Nat} {l : List T.Ins} (h : InsRd w b o l) : ∀ j u,(l.flatMap insL)[j]? = some u → w.cell? ⟨b,o + j,none⟩ = some u := by
 intro j u hj
 have hlt := (List.getElem?_eq_some_iff.1 hj).1
 rw [flat_len insL 8 insL_len] at hlt
 have e : j = j / 8 * 8 + j % 8 := by omega
 have hk : j / 8 < l.length := by omega
 rw [e,flat_get insL 8 insL_len l (j / 8) hk (j % 8) (by omega)] at hj
 have h1 := h (j / 8) _ (List.getElem?_eq_getElem hk) (j % 8) u hj
 rw [show o + j = o + j / 8 * 8 + j % 8 by omega]
 exact h1
theorem field_err (x y : Int) (w : World) : (Instr.field 27 (.agg #[.int .i64 x,.int .i64 y]) 0).run Tryz.prog w = .ok (.int .i64 x) w := by kernel_rfl
theorem field_verdict (x y s : Int) (v : T.U) (w : World) : (Instr.field 36 (.agg #[.int .i64 x,.int .i64 y,W64 v,.int .i64 s]) 2).run Tryz.prog w = .ok (W64 v) w := by kernel_rfl
theorem TopWeak_any (A : Option Addr) (n c : Nat) (l : List T.Ins) (x : Int) (B : Option Addr) (m d : Nat) (pk : List T.B) (w : World) (hl : l.length = n) (hA : l = [] ∨ ∃ b o,A = some ⟨b,o,none⟩ ∧ InsRd w b o l) (hrow : RowRd w ⟨B,m,d⟩ pk) :
  Calls Tryz.prog 3 #[.slice A n c,.int .i64 x,.slice B m d] w (Ret w (.bool true)) := by
 have hfe := field_err
 have hfv := field_verdict
 have HROW := Lib.hid hrow
 have HA := Lib.hid hA
 have HL := Lib.hid hl
 clear hrow hA hl
 go_enter Tryz.func3,Tryz.ntmps3
 go_wp2_with fail
 refine (tells_ok _).mono ?_
 rintro e w1 ⟨rfl,hs⟩
 have HS := Lib.hid hs
 clear hs
 by_cases h150 : (150 : Int) < (n : Int)
 ·go_wp2
  go_ret
  exact ⟨rfl,HS.out⟩
 by_cases h3000 : (3000 : Int) < (m : Int)
 ·go_wp2
  go_ret
  exact ⟨rfl,HS.out⟩
 have hpn : m ≤ 65535 := by omega
 have hn : n ≤ 150 := by omega
 rcases HA.out with h0 | ⟨b,o,rfl,hr⟩
 ·have hn0 : n = 0 := by rw [← HL.out,h0]; rfl
  subst hn0
  clear h0 hn
  go_wp2_with fail
  refine (filter_0s A c _).mono ?_
  rintro e w2 ⟨rfl,hs⟩
  have HS2 := Lib.hid (HS.out.add hs)
  clear hs
  go_wp2
  go_ret
  exact ⟨rfl,HS2.out⟩
 have HR := Lib.hid hr
 clear hr
 go_wp2_with fail
 refine (filter_any b o n c l _ (HR.out.since HS.out) HL.out (by omega)).mono ?_
 rintro e w2 ⟨rfl,hs⟩
 have HS2 := Lib.hid (HS.out.add hs)
 clear hs
 obtain ⟨er,her⟩ : ∃ q,(T.placesF l).1.1 = q := ⟨_,rfl⟩
 obtain ⟨ea,hea⟩ : ∃ q,((T.placesF l).1.2 : Int) = q := ⟨_,rfl⟩
 rw [her,hea]
 clear hea
 by_cases he : er = 0
 case neg =>
  have e0 : (er != 0) = true := by simpa using he
  clear he her
  go_wp2
  go_ret
  exact ⟨rfl,HS2.out⟩
 subst he
 have HPF := Lib.hid her
 clear her
 go_wp2_with fail
 go_loopw [7] (fun i wr => ∃ j : Nat,j ≤ n ∧ i = .int .i64 (j : Int) ∧ wr = w2 ∧ ∀ t (i : T.Ins),t < j → l[t]? = some i → i.dst ≠ 8 ∧ i.src ≠ 8) (fun i _ => n - (intOf i).toNat)
 case atStart => exact ⟨0,Nat.zero_le _,rfl,rfl,fun t i h => absurd h (Nat.not_lt_zero _)⟩
 case round =>
  obtain ⟨j,hj,rfl,rfl,hall⟩ := hrel
  have HALL := Lib.hid hall
  clear hall
  have j0 : (0 : Int) ≤ (j : Int) := by omega
  by_cases hlt : j < n
  ·have j1 : (j : Int) < (n : Int) := by omega
   obtain ⟨i,hi⟩ : ∃ i,l[j]? = some i := ⟨_,List.getElem?_eq_getElem (by have := HL.out; omega)⟩
   obtain ⟨_,_,x2,x3,_,_,_,_⟩ := (HR.out.since HS2.out).cells hi
   have HI := Lib.hid hi
   clear hi
   have kw : IntKind.i64.wrap ((j : Int) + 1) = ((j + 1 : Nat) : Int) := by rw [IntWalk.i64_in _ (by omega)]; omega
   by_cases h8 : i.dst = 8 ∨ i.src = 8
   ·have key : (i.dst == 8) = true ∨ ((i.dst == 8) = false ∧ (i.src == 8) = true) := by
     by_cases h : i.dst = 8
     ·left; simpa using h
     ·right; exact ⟨by simpa using h,by simpa using h8.resolve_left h⟩
    clear h8
    rcases key with k1 | ⟨k1,k2⟩
    all_goals
     go_wp2
     go_ret
     exact ⟨rfl,HS2.out⟩
   ·have k1 : (i.dst == 8) = false := by simpa using (not_or.1 h8).1
    have k2 : (i.src == 8) = false := by simpa using (not_or.1 h8).2
    have H8 := Lib.hid (not_or.1 h8)
    clear h8
    go_wp2
    go_round
    case rel =>
     refine ⟨j + 1,by omega,by go_num,by first | rfl | trivial,fun t i' ht hi' => ?_⟩
     by_cases e : t = j
     ·subst e
      have := HI.out.symm.trans hi'
      cases this
      exact H8.out
     ·exact HALL.out t i' (by omega) hi'
    case measure => simp [intOf]; omega
  ·have i1 : ¬ (j : Int) < (n : Int) := by omega
   obtain rfl : j = n := by omega
   obtain ⟨h1,h2,h3⟩ := T.placesF_ok HPF.out
   have hsp := T.shaped_of h1
   have hty := T.typed_of hsp h2
   have hnev : T.Never l := fun i hi => by
    obtain ⟨t,ht,rfl⟩ := List.getElem_of_mem hi
    obtain ⟨a1,a2⟩ := HALL.out t l[t] (by have := HL.out; omega) (List.getElem?_eq_getElem ht)
    obtain ⟨hd,hs,_⟩ := T.right_facts (hsp.right _ hi)
    exact ⟨⟨hd.1,a1⟩,⟨hs.1,a2⟩⟩
   have hpl : pk.length = m := HROW.out.len
   obtain ⟨k,v,hk,hruns⟩ := T.runs_of hsp hty pk (by rw [hpl]; exact hpn)
   have hk0 : 0 < k := by
    cases k with
    | zero => exact hruns.elim
    | succ k => omega
   obtain ⟨pv,hpv⟩ : ∃ q,pick x 1048576 = q := ⟨_,rfl⟩
   have p0 := pick_lo x 1048576 (by decide)
   have p1 := pick_hi x 1048576 (by decide)
   have hPK := fun w => Pick_any x 1048576 w (by decide) (by decide)
   rw [hpv] at p0 p1 hPK
   have hup := T.placesF_up hnev pv ⟨by omega,by omega⟩ (by have := HL.out; omega) HPF.out
   obtain ⟨u1,u2,u3⟩ := T.placesF_ok hup
   have husp := T.shaped_of u1
   have huruns := T.runs_weak hnev pv hk0 hruns
   rw [hpl] at hruns huruns
   have hlj := HL.out
   have HPK := Lib.hid hPK
   have HSU := Lib.hid (fun w g c' (hr : InsRd w g 0 (T.movI pv :: l)) (hrow : RowRd w ⟨B,m,d⟩ pk) => sure_ok g 0 (j + 1) c' (T.movI pv :: l) B m d pk w hr (by rw [List.length_cons,hlj]) (by omega) hup hrow hpn)
   have HR1 := Lib.hid (fun w g c' (hr : InsRd w g 0 (T.movI pv :: l)) (hrow : RowRd w ⟨B,m,d⟩ pk) => exRun_ok g 0 (j + 1) c' (T.movI pv :: l) B m d pk w hr (by rw [List.length_cons,hlj]) (by omega) hrow hpn husp u1 (k + 1) (by omega) v huruns)
   have HR2 := Lib.hid (fun w (hr : InsRd w b o l) (hrow : RowRd w ⟨B,m,d⟩ pk) => exRun_ok b o j c l B m d pk w hr hlj (by omega) hrow hpn hsp h1 k (by omega) v hruns)
   clear h1 h2 h3 hsp hty hnev hpl hk hruns hk0 p0 p1 hPK hup u1 u2 u3 husp huruns hpv hpn h3000 h150
   go_wp2_with fail
   refine (HPK.out _).mono ?_
   rintro e w4 ⟨rfl,rfl⟩
   have BK0 := Lib.hid (show Bank wr (wr.alloc (.cells #[.int .u8 12,.bool false,.int .i64 8,.int .i64 0,.bool true,.int .i64 0,.int .i64 pv,.int .i64 0] 31)) [⟨.slice (some ⟨wr.heap.size,0,none⟩) 1 1,1,31,8,insL (T.movI pv)⟩] from (Bank.nil (Below.refl _ _)).made ((Below.refl _ _).alloc (Nat.le_refl _) _) (World.ownsRow_lit wr #[.int .u8 12,.bool false,.int .i64 8,.int .i64 0,.bool true,.int .i64 0,.int .i64 pv,.int .i64 0] 1 (Nat.le_refl _) (by unfold maxLen; omega) rfl))
   have HN := Lib.hid hn
   clear hn hlj
   go_wp2_with (at_builtin; (refine wpList_append_bankG BK0.out rfl (.tmp 48) (.tmp 49) 22 rfl 31 (.agg #[.int .u8 0,.bool false,.int .i64 0,.int .i64 0,.bool false,.int .i64 0,.int .i64 0,.int .i64 0]) 8 56 infoInsT Tryz.underlying22 rfl (by decide) 0 (some ⟨wr.heap.size,0,none⟩) 1 1 (insL (T.movI pv)) rfl rfl ⟨b,o,none⟩ j c (l.flatMap insL) rfl (by rw [flat_len insL 8 insL_len,HL.out]) (fun t u ht => by rw [Addr.add_mid]; exact insRd_flat (HR.out.since (HS2.out.add BK0.out.since)) t u ht) (fun u hu => by obtain ⟨i,_,hi⟩ := List.mem_flatMap.1 hu; exact insL_one i u hi) (by have := HN.out; unfold maxLen; omega) (by have := HN.out; omega) ?_); intro A' n' c' w5 hn' hB5 _ _; have HNN := Lib.hid hn'; have BK5 := Lib.hid hB5; clear hn' hB5)
   obtain rfl : n' = j + 1 := by have := HNN.out; omega
   have hown := BK5.out.at 0 rfl
   obtain ⟨g,rfl⟩ := own_someG hown (by omega)
   have hrd : InsRd w5 g 0 (T.movI pv :: l) := insRd_of (l := T.movI pv :: l) (by rw [List.flatMap_cons]; exact hown)
   have HRD := Lib.hid hrd
   have HS5 := Lib.hid (HS2.out.add BK5.out.since)
   clear hown hrd BK5 BK0 HNN
   refine (HSU.out w5 g c' HRD.out (HS5.out.row HROW.out)).mono ?_
   rintro e w6 ⟨rfl,hs⟩
   have HS6 := Lib.hid (HS5.out.add hs)
   have HRD6 := Lib.hid (HRD.out.since hs)
   clear hs
   go_wp2_with fail
   refine (HR1.out _ g c' HRD6.out (HS6.out.row HROW.out)).mono ?_
   rintro e w7 ⟨rfl,hs⟩
   have HS7 := Lib.hid (HS6.out.add hs)
   clear hs
   go_wp2_with fail
   refine (HR2.out _ (HR.out.since HS7.out) (HS7.out.row HROW.out)).mono ?_
   rintro e w8 ⟨rfl,hs⟩
   have HS8 := Lib.hid (HS7.out.add hs)
   clear hs
   go_wp2
   go_ret
   exact ⟨rfl,HS8.out⟩
end Go.Proofs.YtfeipbgnjainlaaGreat.K
