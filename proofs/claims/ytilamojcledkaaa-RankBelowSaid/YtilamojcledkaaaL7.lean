/- Whether a vertex is below another one, by any ranks, is told exactly: RankBelow, for every input, without a condition. -/
import Derived.Test.YtilamojcledkaaaRows
import Derived.ProofKit
import Derived.Test.YtilamojcledkaaaL7P15
set_option linter.unusedSimpArgs false
set_option linter.unusedVariables false
namespace Go.Proofs.Ytilamojcledkaaa
open Go.ChangeShapes Go.WideShapes Go.ChangeAt Go.RowKit Go.Ab
theorem Try.own : ownKnob Try.prog.godebug = none := by kernel_rfl
theorem Try.laidOut : laidOutB Try.prog = true := by kernel_rfl
set_option maxRecDepth 100000 in
theorem open_graph {H : Type} {enc : TypeId × Value → H} {W : World} {r : Reach} {b0 : Nat} {v : Value} {d : DataW H} {ps : List MemPlace}
  (hval : Value.okWide Try.prog W r b0 24 v) (hd : DataW.Trod enc Try.prog W 0 (fun _ => true) true 24 v d ps) :
  ∃ g : Gr, AVr W (lawE W) (eG g) v ∧ g.es.length ≤ maxLen := by
 simp only [Value.okWide, Try.underlying24] at hval
 obtain ⟨cs, rfl, hsz, _⟩ := hval
 obtain ⟨fuel, h⟩ := hd
 obtain ⟨y0, y1, n, hx, hl, h0, h1⟩ := trod_struct2 Try.underlying24 h
 have ct : Try.prog.cellsOf 24 = 2 := by kernel_rfl
 have ca : Try.prog.cellsOf 3 = 1 := by kernel_rfl
 have cb : Try.prog.cellsOf 22 = 1 := by kernel_rfl
 simp only [Value.cells] at h0 h1
 rw [ct] at hsz
 match hq : cs.toList with
 | [] => rw [← Array.length_toList, hq] at hsz; simp at hsz
 | [p] => rw [← Array.length_toList, hq] at hsz; simp at hsz
 | p :: q :: r :: l => rw [← Array.length_toList, hq] at hsz; simp at hsz
 | [p, q] =>
  rw [hq] at h0 h1
  simp only [ca, cb, List.drop_zero, List.take_succ_cons, List.take_zero, List.drop_succ_cons] at h0 h1
  obtain ⟨x, hx0, _, _⟩ := DataW.trod_int Try.underlying3 h0
  simp only [List.cons.injEq, and_true] at hx0
  obtain ⟨es, hes, hel, _⟩ := rd_pairs Try.underlying22 Try.underlying53 (by kernel_rfl) rfl rfl (by kernel_rfl) (by kernel_rfl) Try.underlying3 Try.underlying3 h1
  refine ⟨⟨x, es⟩, ⟨[p, q], ?_, p, [q], rfl, ?_, q, [], rfl, hes, rfl⟩, hel⟩
  ·congr 1; apply Array.toList_inj.1; rw [hq]
  ·rw [hx0]; exact AVr_scI _ rfl
set_option maxRecDepth 100000 in
theorem open_num {H : Type} {enc : TypeId × Value → H} {W : World} {r : Reach} {b0 : Nat} {v : Value} {d : DataW H} {ps : List MemPlace}
  (hval : Value.okWide Try.prog W r b0 3 v) (hd : DataW.Trod enc Try.prog W 0 (fun _ => true) true 3 v d ps) :
  ∃ n : Int, AVr W (lawE W) (eN n) v ∧ (-9223372036854775808 ≤ n ∧ n ≤ 9223372036854775807) := by
 obtain ⟨n, rfl, _, _, hw⟩ := open_int Try.underlying3 hval hd
 exact ⟨n, AVr_scI _ rfl, wf_i64 hw⟩
set_option maxRecDepth 100000 in
theorem open_plan {H : Type} {enc : TypeId × Value → H} {W : World} {r : Reach} {b0 : Nat} {v : Value} {d : DataW H} {ps : List MemPlace}
  (hval : Value.okWide Try.prog W r b0 43 v) (hd : DataW.Trod enc Try.prog W 0 (fun _ => true) true 43 v d ps) :
  ∃ p : Pl, AVr W (lawE W) (ePl p) v ∧ PlMax p := by
 simp only [Value.okWide, Try.underlying43] at hval
 obtain ⟨cs, rfl, hsz, _⟩ := hval
 obtain ⟨fuel, h⟩ := hd
 obtain ⟨y0, y1, n, hx, hl, h0, h1⟩ := trod_struct2 Try.underlying43 h
 have ct : Try.prog.cellsOf 43 = 2 := by kernel_rfl
 have ca : Try.prog.cellsOf 32 = 1 := by kernel_rfl
 have cb : Try.prog.cellsOf 41 = 1 := by kernel_rfl
 simp only [Value.cells] at h0 h1
 rw [ct] at hsz
 match hq : cs.toList with
 | [] => rw [← Array.length_toList, hq] at hsz; simp at hsz
 | [p] => rw [← Array.length_toList, hq] at hsz; simp at hsz
 | p :: q :: r :: l => rw [← Array.length_toList, hq] at hsz; simp at hsz
 | [p, q] =>
  rw [hq] at h0 h1
  simp only [ca, cb, List.drop_zero, List.take_succ_cons, List.take_zero, List.drop_succ_cons] at h0 h1
  obtain ⟨os, hos, hol, _⟩ := rd_ints Try.underlying32 Try.underlying3 (by kernel_rfl) h0
  obtain ⟨ls, hls, hll, hle⟩ := rd_llists Try.underlying41 (by kernel_rfl) Try.underlying32 Try.underlying3 (by kernel_rfl) h1
  refine ⟨⟨os, ls⟩, ⟨[p, q], ?_, p, [q], rfl, hos, q, [], rfl, hls, rfl⟩, ⟨hol, hll, hle⟩⟩
  congr 1; apply Array.toList_inj.1; rw [hq]
set_option maxRecDepth 100000 in
theorem open_list {H : Type} {enc : TypeId × Value → H} {W : World} {r : Reach} {b0 : Nat} {v : Value} {d : DataW H} {ps : List MemPlace}
  (hval : Value.okWide Try.prog W r b0 32 v) (hd : DataW.Trod enc Try.prog W 0 (fun _ => true) true 32 v d ps) :
  ∃ l : List Int, AVr W (lawE W) (.d (sI l)) v ∧ l.length ≤ maxLen := by
 obtain ⟨fuel, h⟩ := hd
 have hc : v.cells.toList = [v] := by
  rcases DataW.trod_slice Try.underlying32 h with h0 | ⟨a, len, cap, elems, rest, n, h0, hq, _⟩
  all_goals (cases v <;> first | rfl | (simp [Value.okWide, Try.underlying32, Cell.okWide, Cell.ok] at hval; done) | simp_all [Value.cells])
 rw [hc] at h
 obtain ⟨l, h1, h2, _⟩ := rd_ints Try.underlying32 Try.underlying3 (by kernel_rfl) h
 exact ⟨l, h1, h2⟩
set_option maxRecDepth 100000 in
theorem rankBelow_lifted (os : Os) (started : os.Started) (H : Type) (enc : TypeId × Value → H) :
  ReturnsInHanded {} Try.checked os 9 .any (Rows.rankBelowSpec.pre6 enc Try.prog Try.f9 Rows.rankBelowRow.domain false) (Rows.rankBelowSpec.post enc Try.prog Try.f9 false true false false) := by
 refine returnsInHanded_of_change (C := Try.checked) Try.own started (by kernel_rfl) Try.func9
  (ChangeSpec.witness6 (enc := enc) (C := Try.checked) false ⟨#[], #[.slice none 0 0, .slice none 0 0, .int .i64 0, .int .i64 0], []⟩ 8 (by kernel_rfl) (by kernel_rfl) (by kernel_rfl) (by kernel_rfl)) ?_
 intro W base args ds gs before hval0 hW hcnd _
 have hval : ∀ (j : Nat) t v, Try.f9.params[j]? = some t → args[j]? = some v → Value.okWide Try.prog W .any base t v := hval0
 have hW' := hW
 obtain ⟨p, q, hA0, hV, rfl, hfz, hnd⟩ := hW
 have hA : DataW.TrodAll enc Try.prog W 0 (fun _ => true) true Try.f9.params.toList args.toList ds p := hA0
 rw [Try.params9] at hA hval
 obtain ⟨v0, vs0, d0, ds0, p0, q0, hargs, rfl, rfl, k0, r0⟩ := trodAll_cons hA
 obtain ⟨v1, vs1, d1, ds1, p1, q1, rfl, rfl, rfl, k1, r1⟩ := trodAll_cons r0
 obtain ⟨v2, vs2, d2, ds2, p2, q2, rfl, rfl, rfl, k2, r2⟩ := trodAll_cons r1
 obtain ⟨v3, vs3, d3, ds3, p3, q3, rfl, rfl, rfl, k3, r3⟩ := trodAll_cons r2
 obtain ⟨rfl, rfl, rfl⟩ := trodAll_nil r3
 obtain ⟨rfl, rfl⟩ := trodVars_none hV
 have hae : args = #[v0, v1, v2, v3] := by apply Array.toList_inj.1; simpa using hargs
 subst hae
 obtain ⟨x0, e0, h0⟩ := open_list (hval 0 32 v0 rfl rfl) k0
 obtain ⟨x1, e1, h1⟩ := open_list (hval 1 32 v1 rfl rfl) k1
 obtain ⟨x2, e2, h2⟩ := open_num (hval 2 3 v2 rfl rfl) k2
 obtain ⟨x3, e3, h3⟩ := open_num (hval 3 3 v3 rfl rfl) k3
 refine (law_calls (rankBelow_spec x0 x1 x2 x3 h0 h1) (W := W) ⟨_, _, rfl, e0, _, _, rfl, e1, _, _, rfl, e2, _, _, rfl, e3, rfl⟩).mono fun e W' ⟨he, hb⟩ => ?_
 subst he
 exact ⟨_, rfl, [d0, d1, d2, d3], [], _, [], _, [], hW', trodAll_mk1 (shut_bool Try.underlying4 true), below_all Try.laidOut hb (by kernel_rfl) hA, rfl, hb.frame _, fun h => by cases h⟩
theorem rankBelow_holds : Rows.RankBelowSaid :=
 OpenClaim.holds_of_wide 9 Try.f9 rfl rfl rfl rfl rfl rfl rfl ⟨rfl, rfl, rfl, rfl, rfl⟩ rfl rfl rfl rfl rfl (by kernel_rfl) Try.func9 (by kernel_rfl)
  (of_decide_eq_true (by kernel_rfl)) (by unfold Func.isWrapper; first | (rw [if_pos (by decide +kernel)]; kernel_rfl) | (rw [if_neg (by decide +kernel)]; exact ⟨rfl, rfl⟩))
  (fun os started H enc _ => rankBelow_lifted os started H enc)
end Go.Proofs.Ytilamojcledkaaa
