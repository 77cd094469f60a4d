/- TAluD64 -/
import Derived.Test.YtfeipbgnjainlaaGreatDoorTp2
import Derived.Test.YtfeipbgnjainlaaGreatDoorTp4
import Derived.Deep.DeepCutAuto
set_option linter.unusedVariables false
set_option linter.unusedSimpArgs false
set_option maxRecDepth 100000
set_option maxHeartbeats 40000000
namespace Go.Proofs.YtfeipbgnjainlaaGreatDoor.K
open Go Go.RowKit Go.Maps
def AluPost64(op:Int)(a b:BitVec 64)(w:World)(e:Ending)(w':World):Prop:=e=.returned (.tuple #[W64 (T.aluR 64 op a b),.int .i64 (T.aerrN 64 op b)])/\Since w w'
theorem three64(w:World)(x y z:Value)(t:TypeId):Since w (((w.alloc (.cells #[x] t)).alloc (.cells #[y] t)).alloc (.cells #[z] t))/\(((w.alloc (.cells #[x] t)).alloc (.cells #[y] t)).alloc (.cells #[z] t)).cell? ⟨w.heap.size,0,none⟩=some x /\
  (((w.alloc (.cells #[x] t)).alloc (.cells #[y] t)).alloc (.cells #[z] t)).cell? ⟨w.heap.size+1,0,none⟩=some y/\(((w.alloc (.cells #[x] t)).alloc (.cells #[y] t)).alloc (.cells #[z] t)).cell? ⟨w.heap.size+1+1,0,none⟩=some z:=by
 have h0:(w.alloc (.cells #[x] t)).cell? ⟨w.heap.size,0,none⟩=some x:=by rw[World.cell?_alloc_new];rfl
 have s1:(w.alloc (.cells #[x] t)).heap.size=w.heap.size+1:=by simp
 have h1:((w.alloc (.cells #[x] t)).alloc (.cells #[y] t)).cell? ⟨w.heap.size+1,0,none⟩=some y:=by rw[<-s1,World.cell?_alloc_new];rfl
 have s2:((w.alloc (.cells #[x] t)).alloc (.cells #[y] t)).heap.size=w.heap.size+1+1:=by simp
 refine⟨((Since.alloc (Below.refl _ _) _).alloc _).alloc _,cell_old _ (cell_old _ h0),cell_old _ h1,?_⟩;rw[<-s2,World.cell?_alloc_new];rfl
theorem alufin64{k:Int}{a b:BitVec 64}{w w5:World}(hk:¬((k=4\/k=5)/\b=0#64))(h:1<=k/\k<=13)(hs:Since w w5):AluPost64 k a b w (.returned (.tuple #[W64 (T.adoN 64 k a b),.int .i64 0])) w5:=by
 have he:T.aerrN 64 k b=0:=by unfold T.aerrN;rw[if_neg hk,if_pos h]
 refine⟨?_,hs⟩;unfold T.aluR;rw[he,if_pos rfl]
theorem aludo64_z(w:World)(op:Int)(a:BitVec 64)(h:op=4\/op=5):Calls Tryz.prog 150 #[.int .u8 op,W64 64#64,W64 a,W64 0#64] w (AluPost64 op a 0#64 w):=by
 obtain⟨hs3,c0,c1,c2⟩:=three64 w (W64 64#64) (W64 a) (W64 0#64) 39
 have HFIN:=Hd (show AluPost64 op a 0#64 w (.returned (.tuple #[W64 0#64,.int .i64 113])) _ from⟨by
  have he:T.aerrN 64 op 0#64=113:=by unfold T.aerrN;rw[if_pos ⟨h,rfl⟩]
  unfold T.aluR
  rw[he,if_neg (by decide)],hs3⟩)
 clear hs3;rcases h with rfl|rfl
 all_goals
  go_enter Tryz.func150,Tryz.ntmps150;go_upto_region 1 with fail;change Code.wp _ _ _ _ (((w.alloc (.cells #[W64 64#64] 39)).alloc (.cells #[W64 a] 39)).alloc (.cells #[W64 0#64] 39));generalize((w.alloc (.cells #[W64 64#64] 39)).alloc (.cells #[W64 a] 39)).alloc (.cells #[W64 0#64] 39)=w3 at *;go_wp2
  go_ret2
  exact HFIN.o
theorem aludo64_nz(w:World)(op:Int)(a b:BitVec 64)(h:1<=op/\op<=13)(hz:¬((op=4\/op=5)/\b=0#64)):Calls Tryz.prog 150 #[.int .u8 op,W64 64#64,W64 a,W64 b] w (AluPost64 op a b w):=by
 have ht:=Tryz.underlying270;have hk:=Tryz.underlying53;obtain⟨hs3,c0,c1,c2⟩:=three64 w (W64 64#64) (W64 a) (W64 b) 39;have S3:=Hd hs3;have HZ:=Hd hz;have HA:=Hd (fun w5 (hs:Since w w5)=>alufin64 (a:=a) hz h hs);clear hs3 hz;go_enter Tryz.func150,Tryz.ntmps150;go_upto_region 1 with fail;change Code.wp _ _ _ _ (((w.alloc (.cells #[W64 64#64] 39)).alloc (.cells #[W64 a] 39)).alloc (.cells #[W64 b] 39));have hz3:(((w.alloc (.cells #[W64 64#64] 39)).alloc (.cells #[W64 a] 39)).alloc (.cells #[W64 b] 39)).heap.size=w.heap.size+1+1+1:=by simp
 generalize((w.alloc (.cells #[W64 64#64] 39)).alloc (.cells #[W64 a] 39)).alloc (.cells #[W64 b] 39)=w3 at *;obtain⟨v1,hv1⟩:∃v,v=fnC 209 #[.pointer (some ⟨w.heap.size+1,0,none⟩),.pointer (some ⟨w.heap.size+1+1,0,none⟩)]:=⟨_,rfl⟩
 obtain⟨v2,hv2⟩:∃v,v=fnC 210 #[.pointer (some ⟨w.heap.size+1,0,none⟩),.pointer (some ⟨w.heap.size+1+1,0,none⟩)]:=⟨_,rfl⟩
 obtain⟨v3,hv3⟩:∃v,v=fnC 211 #[.pointer (some ⟨w.heap.size+1,0,none⟩),.pointer (some ⟨w.heap.size+1+1,0,none⟩)]:=⟨_,rfl⟩
 obtain⟨v4,hv4⟩:∃v,v=fnC 212 #[.pointer (some ⟨w.heap.size+1,0,none⟩),.pointer (some ⟨w.heap.size+1+1,0,none⟩)]:=⟨_,rfl⟩
 obtain⟨v5,hv5⟩:∃v,v=fnC 213 #[.pointer (some ⟨w.heap.size+1,0,none⟩),.pointer (some ⟨w.heap.size+1+1,0,none⟩)]:=⟨_,rfl⟩
 obtain⟨v6,hv6⟩:∃v,v=fnC 214 #[.pointer (some ⟨w.heap.size+1,0,none⟩),.pointer (some ⟨w.heap.size+1+1,0,none⟩)]:=⟨_,rfl⟩
 obtain⟨v7,hv7⟩:∃v,v=fnC 215 #[.pointer (some ⟨w.heap.size+1,0,none⟩),.pointer (some ⟨w.heap.size+1+1,0,none⟩)]:=⟨_,rfl⟩
 obtain⟨v8,hv8⟩:∃v,v=fnC 216 #[.pointer (some ⟨w.heap.size+1,0,none⟩),.pointer (some ⟨w.heap.size+1+1,0,none⟩)]:=⟨_,rfl⟩
 obtain⟨v9,hv9⟩:∃v,v=fnC 217 #[.pointer (some ⟨w.heap.size+1,0,none⟩),.pointer (some ⟨w.heap.size+1+1,0,none⟩),.pointer (some ⟨w.heap.size,0,none⟩)]:=⟨_,rfl⟩
 obtain⟨v10,hv10⟩:∃v,v=fnC 218 #[.pointer (some ⟨w.heap.size+1,0,none⟩),.pointer (some ⟨w.heap.size+1+1,0,none⟩),.pointer (some ⟨w.heap.size,0,none⟩)]:=⟨_,rfl⟩
 obtain⟨v11,hv11⟩:∃v,v=fnC 219 #[.pointer (some ⟨w.heap.size+1,0,none⟩),.pointer (some ⟨w.heap.size+1+1,0,none⟩),.pointer (some ⟨w.heap.size,0,none⟩)]:=⟨_,rfl⟩
 obtain⟨v12,hv12⟩:∃v,v=fnC 220 #[.pointer (some ⟨w.heap.size+1+1,0,none⟩)]:=⟨_,rfl⟩
 obtain⟨v13,hv13⟩:∃v,v=fnC 221 #[.pointer (some ⟨w.heap.size+1,0,none⟩)]:=⟨_,rfl⟩
 have p1:=put_mes ht hk w3 [] 1 v1 (by decide) (by decide) (by simp);have p2:=put_mes ht hk w3 [(1,v1)] 2 v2 (by decide) (by decide) (by simp);have p3:=put_mes ht hk w3 [(1,v1),(2,v2)] 3 v3 (by decide) (by decide) (by simp);have p4:=put_mes ht hk w3 [(1,v1),(2,v2),(3,v3)] 4 v4 (by decide) (by decide) (by simp);have p5:=put_mes ht hk w3 [(1,v1),(2,v2),(3,v3),(4,v4)] 5 v5 (by decide) (by decide) (by simp);have p6:=put_mes ht hk w3 [(1,v1),(2,v2),(3,v3),(4,v4),(5,v5)] 6 v6 (by decide) (by decide) (by simp);have p7:=put_mes ht hk w3 [(1,v1),(2,v2),(3,v3),(4,v4),(5,v5),(6,v6)] 7 v7 (by decide) (by decide) (by simp);have p8:=put_mes ht hk w3 [(1,v1),(2,v2),(3,v3),(4,v4),(5,v5),(6,v6),(7,v7)] 8 v8 (by decide) (by decide) (by simp);have p9:=put_mes ht hk w3 [(1,v1),(2,v2),(3,v3),(4,v4),(5,v5),(6,v6),(7,v7),(8,v8)] 9 v9 (by decide) (by decide) (by simp);have p10:=put_mes ht hk w3 [(1,v1),(2,v2),(3,v3),(4,v4),(5,v5),(6,v6),(7,v7),(8,v8),(9,v9)] 10 v10 (by decide) (by decide) (by simp);have p11:=put_mes ht hk w3 [(1,v1),(2,v2),(3,v3),(4,v4),(5,v5),(6,v6),(7,v7),(8,v8),(9,v9),(10,v10)] 11 v11 (by decide) (by decide) (by simp);have p12:=put_mes ht hk w3 [(1,v1),(2,v2),(3,v3),(4,v4),(5,v5),(6,v6),(7,v7),(8,v8),(9,v9),(10,v10),(11,v11)] 12 v12 (by decide) (by decide) (by simp);have p13:=put_mes ht hk w3 [(1,v1),(2,v2),(3,v3),(4,v4),(5,v5),(6,v6),(7,v7),(8,v8),(9,v9),(10,v10),(11,v11),(12,v12)] 13 v13 (by decide) (by decide) (by simp);simp only[List.cons_append,List.nil_append,List.length_cons,List.length_nil,Nat.reduceAdd]at p1 p2 p3 p4 p5 p6 p7 p8 p9 p10 p11 p12 p13;have hb0:=heap_alloc_new w3 (.map (mes [(1,v1),(2,v2),(3,v3),(4,v4),(5,v5),(6,v6),(7,v7),(8,v8),(9,v9),(10,v10),(11,v11),(12,v12),(13,v13)]) 13);have l1:=look_mes ht hk hb0 1 v1 (by decide) (by decide) (by simp) (by simp);have l2:=look_mes ht hk hb0 2 v2 (by decide) (by decide) (by simp) (by simp);have l3:=look_mes ht hk hb0 3 v3 (by decide) (by decide) (by simp) (by simp);have l4:=look_mes ht hk hb0 4 v4 (by decide) (by decide) (by simp) (by simp);have l5:=look_mes ht hk hb0 5 v5 (by decide) (by decide) (by simp) (by simp);have l6:=look_mes ht hk hb0 6 v6 (by decide) (by decide) (by simp) (by simp);have l7:=look_mes ht hk hb0 7 v7 (by decide) (by decide) (by simp) (by simp);have l8:=look_mes ht hk hb0 8 v8 (by decide) (by decide) (by simp) (by simp);have l9:=look_mes ht hk hb0 9 v9 (by decide) (by decide) (by simp) (by simp);have l10:=look_mes ht hk hb0 10 v10 (by decide) (by decide) (by simp) (by simp);have l11:=look_mes ht hk hb0 11 v11 (by decide) (by decide) (by simp) (by simp);have l12:=look_mes ht hk hb0 12 v12 (by decide) (by decide) (by simp) (by simp);have l13:=look_mes ht hk hb0 13 v13 (by decide) (by decide) (by simp) (by simp);have e0:mes [] = #[]:=rfl;rw[e0]at p1;clear e0 hb0;generalize mes [(1,v1)]=E1 at p1 p2;generalize mes [(1,v1),(2,v2)]=E2 at p2 p3;generalize mes [(1,v1),(2,v2),(3,v3)]=E3 at p3 p4;generalize mes [(1,v1),(2,v2),(3,v3),(4,v4)]=E4 at p4 p5;generalize mes [(1,v1),(2,v2),(3,v3),(4,v4),(5,v5)]=E5 at p5 p6;generalize mes [(1,v1),(2,v2),(3,v3),(4,v4),(5,v5),(6,v6)]=E6 at p6 p7;generalize mes [(1,v1),(2,v2),(3,v3),(4,v4),(5,v5),(6,v6),(7,v7)]=E7 at p7 p8;generalize mes [(1,v1),(2,v2),(3,v3),(4,v4),(5,v5),(6,v6),(7,v7),(8,v8)]=E8 at p8 p9;generalize mes [(1,v1),(2,v2),(3,v3),(4,v4),(5,v5),(6,v6),(7,v7),(8,v8),(9,v9)]=E9 at p9 p10;generalize mes [(1,v1),(2,v2),(3,v3),(4,v4),(5,v5),(6,v6),(7,v7),(8,v8),(9,v9),(10,v10)]=E10 at p10 p11;generalize mes [(1,v1),(2,v2),(3,v3),(4,v4),(5,v5),(6,v6),(7,v7),(8,v8),(9,v9),(10,v10),(11,v11)]=E11 at p11 p12;generalize mes [(1,v1),(2,v2),(3,v3),(4,v4),(5,v5),(6,v6),(7,v7),(8,v8),(9,v9),(10,v10),(11,v11),(12,v12)]=E12 at p12 p13;generalize mes [(1,v1),(2,v2),(3,v3),(4,v4),(5,v5),(6,v6),(7,v7),(8,v8),(9,v9),(10,v10),(11,v11),(12,v12),(13,v13)]=E13 at p13 l1 l2 l3 l4 l5 l6 l7 l8 l9 l10 l11 l12 l13;subst hv1 hv2 hv3 hv4 hv5 hv6 hv7 hv8 hv9 hv10 hv11 hv12 hv13;unfold fnC at p1 p2 p3 p4 p5 p6 p7 p8 p9 p10 p11 p12 p13 l1 l2 l3 l4 l5 l6 l7 l8 l9 l10 l11 l12 l13;have HD0:=Hd (cell_old (.map E13 13) c0);have HD1:=Hd (cell_old (.map E13 13) c1);have HD2:=Hd (cell_old (.map E13 13) c2);have S4:=Hd (S3.o.alloc (.map E13 13));rw[hz3]at p1 p2 p3 p4 p5 p6 p7 p8 p9 p10 p11 p12 p13 l1 l2 l3 l4 l5 l6 l7 l8 l9 l10 l11 l12 l13;have hmm2:=run_makeMap (P:=Tryz.prog) 270 w3;rw[hz3]at hmm2;clear ht hk S3 hz3;have hc:op=1\/op=2\/op=3\/op=4\/op=5\/op=6\/op=7\/op=8\/op=9\/op=10\/op=11\/op=12\/op=13:=by omega
 clear h;rcases hc with rfl|rfl|rfl|rfl|rfl|rfl|rfl|rfl|rfl|rfl|rfl|rfl|rfl
 all_goals as_aux_lemma =>
  try have hbb:(b==0#64)=false:=by rw[beq_eq_false_iff_ne];exact fun e=>HZ.o ⟨by decide,e⟩
  go_wp2_with fail
  first
   | refine(clo64_1 _ (w.heap.size+1) (w.heap.size+1+1) a b HD1.o HD2.o).mono ?_
   | refine(clo64_2 _ (w.heap.size+1) (w.heap.size+1+1) a b HD1.o HD2.o).mono ?_
   | refine(clo64_3 _ (w.heap.size+1) (w.heap.size+1+1) a b HD1.o HD2.o).mono ?_
   | refine(clo64_4 _ (w.heap.size+1) (w.heap.size+1+1) a b HD1.o HD2.o (fun e=>HZ.o ⟨by decide,e⟩)).mono ?_
   | refine(clo64_5 _ (w.heap.size+1) (w.heap.size+1+1) a b HD1.o HD2.o (fun e=>HZ.o ⟨by decide,e⟩)).mono ?_
   | refine(clo64_6 _ (w.heap.size+1) (w.heap.size+1+1) a b HD1.o HD2.o).mono ?_
   | refine(clo64_7 _ (w.heap.size+1) (w.heap.size+1+1) a b HD1.o HD2.o).mono ?_
   | refine(clo64_8 _ (w.heap.size+1) (w.heap.size+1+1) a b HD1.o HD2.o).mono ?_
   | refine(clo64_9 _ (w.heap.size+1) (w.heap.size+1+1) (w.heap.size) a b HD1.o HD2.o HD0.o).mono ?_
   | refine(clo64_10 _ (w.heap.size+1) (w.heap.size+1+1) (w.heap.size) a b HD1.o HD2.o HD0.o).mono ?_
   | refine(clo64_11 _ (w.heap.size+1) (w.heap.size+1+1) (w.heap.size) a b HD1.o HD2.o HD0.o).mono ?_
   | refine(clo64_12 _ (w.heap.size+1+1) a b HD2.o).mono ?_
   | refine(clo64_13 _ (w.heap.size+1) a b HD1.o).mono ?_
  rintro e w5 ⟨rfl,hs5⟩;have HFIN:=Hd (HA.o _ (S4.o.add hs5));clear hs5 S4 p1 p2 p3 p4 p5 p6 p7 p8 p9 p10 p11 p12 p13 l1 l2 l3 l4 l5 l6 l7 l8 l9 l10 l11 l12 l13 hmm2;go_wp2
  go_ret2
  exact HFIN.o
theorem aludo64_any(w:World)(op:Int)(a b:BitVec 64)(h:1<=op/\op<=13):Calls Tryz.prog 150 #[.int .u8 op,W64 64#64,W64 a,W64 b] w (AluPost64 op a b w):=by
 by_cases hz:(op=4\/op=5)/\b=0#64
 ·obtain⟨h2,rfl⟩:=hz
  exact aludo64_z w op a h2
 ·exact aludo64_nz w op a b h hz
end Go.Proofs.YtfeipbgnjainlaaGreatDoor.K
