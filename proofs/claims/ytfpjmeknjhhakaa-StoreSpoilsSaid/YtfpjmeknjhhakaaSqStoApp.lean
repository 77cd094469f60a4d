/- The contract of store's Append. -/
import Derived.Test.YtfpjmeknjhhakaaSqStoKeep
import Derived.Test.YtfpjmeknjhhakaaSqStoSame
import Derived.Test.YtfpjmeknjhhakaaSq8
namespace Go.Proofs.Ytfpjmeknjhhakaa.K
open Go Go.RowKit Go.Maps

theorem entry_madeS {e : M.Ent} {A : Option Addr} {n c : Nat} {w : World} (hr : RowRd w ⟨A, n, c⟩ e.data) (hn : n ≤ 1000000000000) : Calls Try.prog 71 #[.agg #[.int .i64 e.term, B8 e.kind, .int .i64 e.version, .int .i64 e.server, .bool e.good, .slice A n c]] w (Made w (M.ent e)) :=
  (wentry_any e.term _ e.version e.server _ e.kind e.good A n c e.data w hr hn rfl rfl).mono fun _ _ ⟨g, N, c', he, hN, ho, hb⟩ => ⟨g, N, c', he, hN, ho, hb⟩
theorem frAcc_snoc (Fa : Option Addr) (cF : Nat) (ps : List FR) (p : FR) : frAcc Fa cF (ps ++ [p]) = ⟨.slice Fa (ps.length + 1) cF, ps.length + 1, 36, 2, ps.flatMap FR.cells ++ [.int .i64 p.k, p.x.v]⟩ := by
  rw [frAcc, List.length_append, List.flatMap_append]; simp [FR.cells]
theorem frRows_snoc (ps : List FR) (p : FR) : (ps ++ [p]).reverse.map FR.acc = p.acc :: ps.reverse.map FR.acc := by simp
theorem puts_take (i : Int) (es : List M.Ent) (k : Nat) (hk : k < es.length) : S.puts i (es.take (k + 1)) = S.puts i (es.take k) ++ [S.put (i + k) es[k]] := by
  rw [List.take_succ_eq_append_getElem hk, S.puts_append, List.length_take]
  simp [S.puts, Nat.min_eq_left (Nat.le_of_lt hk)]
theorem cells_litF (w : World) (a b : Value) (t : TypeId) : ∀ j u, [a, b][j]? = some u → (w.alloc (.cells #[a, b] t)).cell? ((⟨w.heap.size, 0, none⟩ : Addr).add j) = some u := cells_lit1 w [a, b] t
theorem puts_kind (es : List M.Ent) : ∀ (i : Int), ∀ f ∈ S.puts i es, f.kind = 2 := by
  induction es with
  | nil => intro i f hf; cases hf
  | cons e es ih =>
    intro i f hf
    rcases List.mem_cons.1 hf with rfl | hf
    · rfl
    · exact ih (i + 1) f hf
theorem rdEntry_ent0 {e : M.Ent} (h : e.Ok) : M.rdEntry (some (M.ent e)) = (e, some []) := by
  have h1 := M.rdEntry_ent e [] h
  rwa [List.append_nil] at h1
/-- entries were put, or not -/
def AppS (w0 : World) (D R : Nat) (room : Int) (o : Option Fil) (Z : Nat) (c : S.Cl) (A : Option Addr) (cE : Nat) (xs : List EV) (L : List Acc) (i : Int) (es : List M.Ent) (e : Ending) (w' : World) : Prop :=
  ((i < 1 ∨ (xs.length : Int) + 1 < i) ∧ e = .returned (.int .i64 2) ∧ SK w0 w' D R room o Z c A cE xs L) ∨
  ((1 ≤ i ∧ i ≤ (xs.length : Int) + 1) ∧ es = [] ∧ e = .returned (.int .i64 0) ∧ SK w0 w' D R room o Z c A cE xs L) ∨
  ((1 ≤ i ∧ i ≤ (xs.length : Int) + 1) ∧ es ≠ [] ∧ PutS w0 D R room o Z c A cE xs L (S.puts i es) ⟨c, (xs.map EV.e).take (i - 1).toNat ++ es⟩ e w')
set_option maxHeartbeats 8000000 in
set_option maxRecDepth 100000 in
theorem sApp_any (w0 w : World) (D R : Nat) (room : Int) (o : Option Fil) (Z : Nat) (c : S.Cl) (A : Option Addr) (cE : Nat) (xs : List EV) (L : List Acc) (i : Int) (E : Option Addr) (n cn : Nat) (es : List M.Ent)
    (h : SK w0 w D R room o Z c A cE xs L) (hl : es.length = n) (hE : EntsRd w E es) (hok : ∀ e ∈ es, e.Ok) (hd : ∀ e ∈ es, e.data.length ≤ 200000) (hT : (F.pbytes (S.puts i es)).length ≤ 100000000) (ho : olen o ≤ 100000000) (hx : xs.length + n ≤ 800000) :
    Calls Try.prog 36 #[.pointer (some ⟨Z, 0, none⟩), .int .i64 i, .slice E n cn] w (AppS w0 D R room o Z c A cE xs L i es) := by
  have c0 := h.box.c0
  have c5 := h.box.c5
  have HTH := Lib.hid (there_any Z D w c0)
  have H0 := Lib.hid h; have HL := Lib.hid hl; have HE := Lib.hid hE; have HOK := Lib.hid hok; have HD := Lib.hid hd; have HT := Lib.hid hT
  have hwr : IntKind.i64.wrap ((xs.length : Int) + 1) = (xs.length : Int) + 1 := IntWalk.i64_in _ (by omega)
  clear h hl hE hok hd hT c0
  obtain ⟨m, hm⟩ : ∃ m, m = xs.length := ⟨_, rfl⟩
  rw [← hm] at c5 hwr
  have HM := Lib.hid hm
  have hmn : m + n ≤ 800000 := by omega
  clear hm hx
  by_cases h1 : i < 1
  · have HFIN := Lib.hid (show AppS w0 D R room o Z c A cE xs L i es (.returned (.int .i64 2)) w from .inl ⟨.inl h1, rfl, H0.out⟩)
    go_enter Try.func36, Try.ntmps36
    go_wp2_with (go_at_call 66; refine HTH.out.mono ?_; rintro e w' ⟨rfl, rfl⟩)
    go_ret
    exact HFIN.out
  by_cases h2 : (m : Int) + 1 < i
  · have HFIN := Lib.hid (show AppS w0 D R room o Z c A cE xs L i es (.returned (.int .i64 2)) w from .inl ⟨.inr (by rw [← HM.out]; exact h2), rfl, H0.out⟩)
    go_enter Try.func36, Try.ntmps36
    go_wp2_with (go_at_call 66; refine HTH.out.mono ?_; rintro e w' ⟨rfl, rfl⟩)
    go_ret
    exact HFIN.out
  have BK0 := Lib.hid ((Bank.nil (Below.refl w.heap.size w)).none 36 2)
  have HRG := Lib.hid (show 1 ≤ i ∧ i ≤ (m : Int) + 1 by omega)
  go_enter Try.func36, Try.ntmps36
  go_wp2_with (go_at_call 66; refine HTH.out.mono ?_; rintro e w' ⟨rfl, rfl⟩)
  clear HTH hwr c5 h1 h2
  go_loopw [7, 32] (fun v j wr => ∃ (k : Nat) (ps : List FR) (Fa : Option Addr) (cF : Nat), k ≤ n ∧ j = .int .i64 (k : Int) ∧ v = .slice Fa k cF ∧ ps.length = k ∧ ps.map FR.fr = S.puts i (es.take k) ∧ (∀ p ∈ ps, p.x.n ≤ 100000000) ∧ Bank w wr (⟨.slice Fa k cF, k, 36, 2, ps.flatMap FR.cells⟩ :: ps.reverse.map FR.acc)) (fun _ j _ => n - (intOf j).toNat)
  case atStart => exact ⟨0, [], none, 0, by omega, rfl, rfl, rfl, by simp [S.puts], by simp, BK0.out⟩
  case round =>
    clear BK0
    obtain ⟨k, ps, Fa, cF, hk, rfl, rfl, hpl, hps, hpn, hB⟩ := hrel
    have k0 : (0 : Int) ≤ (k : Int) := by omega
    have HPL := Lib.hid hpl; have HPS := Lib.hid hps; have HPN := Lib.hid hpn
    have H2 := Lib.hid hB
    rcases Nat.lt_or_ge k n with h1 | h1
    · have i1 : (k : Int) < (n : Int) := by omega
      have hke : k < es.length := by rw [HL.out]; exact h1
      obtain ⟨b, q, rfl, De, me, ce, hcells, hrd⟩ := (HE.out.since hB.since) k hke
      obtain ⟨x0, x1, x2, x3, x4, x5⟩ := hcells
      obtain ⟨en, hen⟩ : ∃ en, en = es[k] := ⟨_, rfl⟩
      rw [← hen] at x0 x1 x2 x3 x4 hrd
      have hem : en ∈ es := by rw [hen]; exact List.getElem_mem hke
      have HEN := Lib.hid hen; have HRD := Lib.hid hrd; have HOKE := Lib.hid (HOK.out en hem); have HDE := Lib.hid (HD.out en hem)
      have hme : en.data.length = me := hrd.len
      have BK1 := Lib.hid (hB.box #[.int .i64 en.term, B8 en.kind, .int .i64 en.version, .int .i64 en.server, .bool en.good, .slice De me ce] 81 (by simp))
      have hmeb : me ≤ 200000 := by have := HDE.out; omega
      clear hB hpl hps hpn hen hrd hem hme H2
      go_wp2_with fail
      refine (entry_madeS (Since.row (Since.alloc (Below.refl wr.heap.size wr) _) HRD.out) (by omega)).mono ?_
      rintro e w3 ⟨gb, Nb, cb, rfl, hNb, hob, hbb⟩
      have BK3 := Lib.hid (BK1.out.madeB hbb hob)
      have HNb := Lib.hid hNb
      have SW3 := Lib.hid (Since.add (Since.alloc (Below.refl wr.heap.size wr) _) hbb)
      clear hNb hob hbb BK1 x0 x1 x2 x3 x4 x5
      go_wp2_with fail
      refine (pNew_any (some ⟨gb, 0, none⟩) Nb cb (M.ent en) w3 (BK3.out.row 0 rfl) (by have h := HNb.out; rw [M.ent_length] at h; have := HDE.out; omega)).mono ?_
      rintro e w4 ⟨P, A0, rfl, hP, hq, hA, hb4⟩
      have HH := Lib.hid (held_new hP hq hA hb4)
      clear hP hq hA hb4
      go_wp2_with fail
      refine (entry_held HH.out (rdEntry_ent0 HOKE.out)).mono ?_
      rintro e w5 ⟨Bd, md, cd, rfl, hH5⟩
      obtain rfl : md = me := by
        have h1 : en.data.length = md := (hH5.bank.row 0 rfl).len
        have h2 : en.data.length = me := HRD.out.len
        omega
      have HH5 := Lib.hid (hH5.box #[.int .i64 en.term, B8 en.kind, .int .i64 en.version, .int .i64 en.server, .bool en.good, .slice Bd md cd] 81 (by simp))
      clear hH5 HH
      go_wp2_with fail
      generalize w5.alloc (.cells #[.int .i64 en.term, B8 en.kind, .int .i64 en.version, .int .i64 en.server, .bool en.good, .slice Bd md cd] 81) = v5 at *
      generalize w5.heap.size = Y at *
      refine (pDoneN P (some []) A0 v5 HH5.out.q).mono ?_
      rintro e v6 ⟨rfl, rfl⟩
      rw [show decide ((some [] : M.Rdr) = some []) = true from by simp]
      have S5 := Lib.hid HH5.out.bank.since
      have BK5 := Lib.hid (BK3.out.call S5.out)
      obtain ⟨X, hX⟩ : ∃ X, X = wr.heap.size := ⟨_, rfl⟩
      rw [← hX] at BK5
      rw [← hX]
      clear hX BK3
      have y0 := HH5.out.bank.cell 0 rfl 0 rfl
      have y1 := HH5.out.bank.cell 0 rfl 1 rfl
      have y2 := HH5.out.bank.cell 0 rfl 2 rfl
      have y3 := HH5.out.bank.cell 0 rfl 3 rfl
      have y4 := HH5.out.bank.cell 0 rfl 4 rfl
      have y5 := HH5.out.bank.cell 0 rfl 5 rfl
      have z0 := BK5.out.cell 1 rfl 0 rfl
      have z1 := BK5.out.cell 1 rfl 1 rfl
      have z2 := BK5.out.cell 1 rfl 2 rfl
      have z3 := BK5.out.cell 1 rfl 3 rfl
      have z4 := BK5.out.cell 1 rfl 4 rfl
      have z5 := BK5.out.cell 1 rfl 5 rfl
      go_wp2_with fail
      refine (same_any en Bd De md cd ce v5 (HH5.out.bank.row 1 rfl) (Since.row (SW3.out.add S5.out) HRD.out) (by omega)).mono ?_
      rintro e w7 ⟨rfl, hs7⟩
      have BK7 := Lib.hid (BK5.out.call hs7)
      clear y0 y1 y2 y3 y4 y5 z0 z1 z2 z3 z4 z5 hs7 HH5 S5 BK5
      have hwk : IntKind.i64.wrap (i + (k : Int)) = i + (k : Int) := IntWalk.i64_in _ (by have := HRG.out; omega)
      go_wp2_with fail
      refine (num_madeS (i + (k : Int)) w7).mono ?_
      rintro e w8 ⟨g8, N8, c8, rfl, hN8, ho8, hb8⟩
      have BK8 := Lib.hid (BK7.out.madeB hb8 ho8)
      clear hN8 ho8 hb8 BK7
      have hrows : ∀ p ∈ ([(⟨some ⟨g8, 0, none⟩, N8, c8⟩, M.num (i + (k : Int))), (⟨some ⟨gb, 0, none⟩, Nb, cb⟩, M.ent en)] : List RB), RowRd w8 p.1 p.2 := by
        intro p hp
        simp only [List.mem_cons, List.not_mem_nil, or_false] at hp
        rcases hp with rfl | rfl
        · exact BK8.out.row 0 rfl
        · exact BK8.out.row 1 rfl
      have hfl : flat ([(⟨some ⟨g8, 0, none⟩, N8, c8⟩, M.num (i + (k : Int))), (⟨some ⟨gb, 0, none⟩, Nb, cb⟩, M.ent en)] : List RB) = S.edata (i + (k : Int)) en := by simp [flat, S.edata]
      have HJN := Lib.hid (join_litS ([(⟨some ⟨g8, 0, none⟩, N8, c8⟩, M.num (i + (k : Int))), (⟨some ⟨gb, 0, none⟩, Nb, cb⟩, M.ent en)] : List RB) w8 _ 2 2 rfl rfl hrows (by simp) (by rw [hfl, S.edata_length]; have := HDE.out; omega))
      rw [hfl] at HJN
      clear hrows hfl
      go_wp2_with fail
      refine HJN.out.mono ?_
      rintro e w9 ⟨Aj, Nj, cj, rfl, hNj, hoj, hbj⟩
      have BK9 := Lib.hid (((BK8.out.alloc _).madeB hbj hoj).sub (L' := rowAcc Aj Nj cj (S.edata (i + (k : Int)) en) :: ⟨.slice Fa k cF, k, 36, 2, ps.flatMap FR.cells⟩ :: ps.reverse.map FR.acc) (.cons_cons _ (.cons _ (.cons _ (.cons _ (.cons_cons _ (List.Sublist.refl _)))))))
      have HNJ := Lib.hid hNj
      clear hNj hoj hbj BK8 HJN hwk
      go_wp2_with (at_builtin; go_loud (refine wpList_append_bankG (BK9.out.alloc _) rfl _ _ 25 rfl 36 _ 2 32 infoFrame Try.underlying25 rfl (by decide) 1 Fa k cF (ps.flatMap FR.cells) rfl rfl _ 1 1 [.int .i64 2, .slice Aj Nj cj] rfl rfl (cells_litF w9 (.int .i64 2) (.slice Aj Nj cj) _) (by intro u hu; simp at hu; rcases hu with rfl | rfl <;> rfl) (by unfold maxLen; omega) (by omega) ?_; intro A' n' c' w10 hn' hB10 _ _; dsimp only [List.set] at hB10; have BK10 := Lib.hid hB10; have HN10 := Lib.hid hn'; clear hn' hB10))
      go_roundw
      case rel =>
        have hn10 := HN10.out
        subst hn10
        refine ⟨k + 1, ps ++ [⟨2, ⟨Aj, Nj, cj⟩, S.edata (i + (k : Int)) en⟩], A', c', by omega, by go_num, rfl, by rw [List.length_append, HPL.out]; rfl, ?_, ?_, ?_⟩
        · rw [List.map_append, HPS.out, puts_take _ _ _ (by rw [HL.out]; exact h1), HEN.out]; rfl
        · intro p hp
          rcases List.mem_append.1 hp with hp | hp
          · exact HPN.out p hp
          · rw [List.mem_singleton] at hp
            subst hp
            show Nj ≤ _
            rw [HNJ.out, S.edata_length]
            have := HDE.out
            omega
        · rw [frRows_snoc, List.flatMap_append]
          have h := BK10.out
          exact ⟨h.since, fun p hp => h.own p (by simp only [List.mem_cons] at hp ⊢; rcases hp with h | h | h; exact .inr (.inl h); exact .inl h; exact .inr (.inr h)), (List.Perm.pairwise_iff (fun {_ _} h => Apartness.symm h) (List.Perm.swap _ _ _)).1 h.sep⟩
      case measure => simp [intOf]; omega
    · have i1 : ¬ (k : Int) < (n : Int) := by omega
      obtain rfl : k = n := by omega
      have hpl2 := hpl
      have HB := Lib.hid (show Bank w wr (frAcc Fa cF ps :: ps.reverse.map FR.acc) by unfold frAcc; rw [hpl2]; exact hB)
      have HPSn : Hid (ps.map FR.fr = S.puts i es) := Lib.hid (by rw [hps, List.take_of_length_le (by rw [HL.out]; omega)])
      clear hB hpl hps hpn hpl2 H2 HPS
      by_cases hk0 : k = 0
      · subst hk0
        have HFIN := Lib.hid (show AppS w0 D R room o Z c A cE xs L i es (.returned (.int .i64 0)) wr from .inr (.inl ⟨by rw [← HM.out]; exact HRG.out, List.eq_nil_of_length_eq_zero HL.out, rfl, H0.out.call HB.out.since⟩))
        go_wp2
        go_ret
        exact HFIN.out
      · have hk1 : ¬ (k : Int) = 0 := by omega
        have HNE := Lib.hid (show es ≠ [] by intro h; have h2 := HL.out; rw [h] at h2; exact hk0 h2.symm)
        have hidx : i = (i.toNat : Int) := by have := HRG.out; omega
        have hdo : S.sdos ⟨c, xs.map EV.e⟩ (ps.map FR.fr) = some ⟨c, (xs.map EV.e).take (i - 1).toNat ++ es⟩ := by
          have h := S.sdos_puts es HOK.out ⟨c, xs.map EV.e⟩ i.toNat (by have := HRG.out; omega) (by have := HRG.out; have h3 := HM.out; show _ ≤ (xs.map EV.e).length + 1; rw [List.length_map]; omega) (by have := HRG.out; have h3 := HL.out; omega)
          rw [← hidx, if_neg HNE.out] at h
          rw [HPSn.out, h, show (i - 1).toNat = i.toNat - 1 by omega]
        have HSP := Lib.hid (sput_any w0 wr D R room o Z c A cE xs L Fa cF ps ⟨c, (xs.map EV.e).take (i - 1).toNat ++ es⟩ k (H0.out.add HB.out) HPL.out (by
          intro p hp
          have h := puts_kind es i p.fr (by rw [← HPSn.out]; exact List.mem_map.2 ⟨p, hp, rfl⟩)
          have h2 : p.k = 2 := h
          rw [h2]
          unfold M.inI64
          omega) (by rw [HPSn.out]; exact S.puts_err i es HD.out) hdo (by rw [HPSn.out]; exact HT.out) ho (by have := HM.out; omega) HPN.out)
        rw [HPSn.out] at HSP
        clear hdo hidx
        go_wp2_with fail
        refine HSP.out.mono ?_
        rintro e w4 hp
        obtain ⟨n4, rfl⟩ := hp.ret
        have HFIN := Lib.hid (show AppS w0 D R room o Z c A cE xs L i es (.returned (.int .i64 n4)) w4 from .inr (.inr ⟨by rw [← HM.out]; exact HRG.out, HNE.out, hp⟩))
        clear hp HSP
        go_wp2
        go_ret
        exact HFIN.out
end Go.Proofs.Ytfpjmeknjhhakaa.K
