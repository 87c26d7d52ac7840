/- A part of the proof. -/
import Derived.RangeFuncBox
import Derived.RangeFuncLeaves
import Derived.Shelf.Abstract
import Derived.WalkKit
import Derived.OwnWalkIn
import Derived.TacticsInMore
import Derived.LoopNIn
import Derived.LoopIn
import Derived.Maps.AppendAt
import Derived.Sort.OwnSortedInts
import Derived.Test.YtilamojcledkaaaGreatL2P10
set_option linter.unusedSimpArgs false
set_option linter.unusedVariables false
section
namespace Go.Ab
open Go.Proofs Go.RowKit Go.Shelf Go.Sort
attribute [local go_sem] Oper.semAt_some
def upto {α : Type} (f : Nat → α) (k : Nat) : List α := (List.range k).map f
theorem upto_succ {α : Type} (f : Nat → α) (k : Nat) : upto f (k + 1) = upto f k ++ [f k] := by simp [upto, List.range_succ]
theorem upto_length {α : Type} (f : Nat → α) (k : Nat) : (upto f k).length = k := by simp [upto]
theorem upto_all (zs : List Int) : upto (fun j => zs[j]?.getD 0) zs.length = zs := by
 apply List.ext_getElem
 ·simp [upto]
 ·intro i h1 h2
  simp [upto, h2]
theorem upto_take (zs : List Int) {k : Nat} (hk : k ≤ zs.length) : upto (fun j => zs[j]?.getD 0) k = zs.take k := by
 apply List.ext_getElem
 ·simp [upto, hk]
 ·intro i h1 h2
  have : i < zs.length := by simp [upto] at h1; omega
  simp [upto, this]
set_option maxRecDepth 100000 in
set_option maxHeartbeats 2000000 in
theorem values1_in (F : Fence) (n : Nat) (h7 : F.fn 130) (hro : F.round = none) (hn : 1 ≤ n) (l Bs n₀ b off len cap : Nat) (zs : List Int) (hreach : len * 8 ≤ 140737488351232) (hb : b < n₀) (J Jx : List Int → World → Prop)
  (hY : ∀ pre x W, J pre W → pre.length < len → YieldAt F (n - 1) Tryz.prog l #[.int .i64 x] W fun e W' =>
   (e = .returned (.bool true) ∧ J (pre ++ [x]) W' ∧ Below n₀ W W') ∨ (e = .returned (.bool false) ∧ Jx (pre ++ [x]) W'))
  (W : World) (hBs : W.cell? ⟨Bs, 0, none⟩ = some (.slice (some ⟨b, off, none⟩) len cap)) (hc : ∀ j, j < len → W.cell? ⟨b, off + j, none⟩ = some (.int .i64 (zs[j]?.getD 0))) (h0 : J [] W) :
  CallsIn F n Tryz.prog 130 #[.func (.yield l) #[] #[], .pointer (some ⟨Bs, 0, none⟩)] W fun e W' => (∃ v, e = .returned v) ∧
   ((∃ ys, ys = upto (fun j => zs[j]?.getD 0) len ∧ J ys W') ∨ (∃ pre, (∃ k, k ≤ len ∧ pre = upto (fun j => zs[j]?.getD 0) k) ∧ Jx pre W')) := by
 refine callsIn_of_wp Tryz.func130 rfl h7 ?_ hro
 simp only [Tryz.ntmps130, List.size_toArray, List.length_cons, List.length_nil, Nat.reduceAdd, Nat.reduceSub, Array.replicate_succ, Array.replicate_zero, List.push_toArray, List.append_toArray, List.nil_append, List.cons_append]
 gi_wp2
 gi_loopw [7] (fun i wr => ∃ k : Nat, k ≤ len ∧ i = .int .i64 k ∧ J (upto (fun j => zs[j]?.getD 0) k) wr ∧ Below n₀ W wr)
  (fun i _ => len - (Go.Proofs.intOf i).toNat)
 case atStart => exact ⟨0, Nat.zero_le _, rfl, h0, Below.refl _ _⟩
 case round =>
  obtain ⟨k, hk, rfl, hJs, hnx⟩ := hrel
  have hcx : k < len → wr.cell? ⟨b, off + k, none⟩ = some (.int .i64 (zs[k]?.getD 0)) := fun h => (hnx.cell (p := ⟨b, off + k, none⟩) hb).trans (hc k h)
  by_cases hlt : k < len
  ·obtain ⟨fn, tmps, assign, body, hy, hR⟩ := hY _ (zs[k]?.getD 0) wr hJs (by rw [upto_length]; exact hlt)
   have hcx' := hcx hlt
   gi_wp2
   refine hR.mono ?_
   rintro e W3 (⟨rfl, hJ3, hk3⟩ | ⟨rfl, hJx3⟩)
   ·gi_wp2
    go_roundw
    case rel => exact ⟨k + 1, by omega, by simp, by rw [upto_succ]; exact hJ3, hnx.trans hk3⟩
    case measure => simp [Go.Proofs.intOf]; omega
   ·gi_wp2
    refine bodyPost_ret (results_none rfl _ _ _) rfl ?_
    exact ⟨⟨_, rfl⟩, .inr ⟨_, ⟨k + 1, by omega, (upto_succ _ _).symm⟩, hJx3⟩⟩
  ·obtain rfl : k = len := by omega
   gi_wp2
   go_end0
   exact ⟨⟨_, rfl⟩, .inl ⟨_, rfl, hJs⟩⟩
def Ints (n₀ : Nat) (W : World) (sv : Value) (zs : List Int) : Prop :=
 (∃ p c, sv = .slice p 0 c ∧ zs = []) ∨ ∃ b off cap, sv = .slice (some ⟨b, off, none⟩) zs.length cap ∧ b < n₀ ∧ ∀ j, j < zs.length → W.cell? ⟨b, off + j, none⟩ = some (.int .i64 (zs[j]?.getD 0))
theorem Ints.below {n₀ : Nat} {A B : World} (h : Below n₀ A B) {sv : Value} {zs : List Int} : Ints n₀ A sv zs → Ints n₀ B sv zs
 | .inl e => .inl e
 | .inr ⟨b, off, cap, e, hb, hc⟩ => .inr ⟨b, off, cap, e, hb, fun j hj => (h.cell (p := ⟨b, off + j, none⟩) hb).trans (hc j hj)⟩
set_option maxRecDepth 100000 in
set_option maxHeartbeats 1000000 in
theorem values1_nil_in (F : Fence) (n : Nat) (h7 : F.fn 130) (hro : F.round = none) (l Bs : Nat) (p : Option Addr) (c : Nat) (J : List Int → World → Prop) (W : World) (hBs : W.cell? ⟨Bs, 0, none⟩ = some (.slice p 0 c)) (h0 : J [] W) :
  CallsIn F n Tryz.prog 130 #[.func (.yield l) #[] #[], .pointer (some ⟨Bs, 0, none⟩)] W fun e W' => (∃ v, e = .returned v) ∧ J [] W' := by
 refine callsIn_of_wp Tryz.func130 rfl h7 ?_ hro
 simp only [Tryz.ntmps130, List.size_toArray, List.length_cons, List.length_nil, Nat.reduceAdd, Nat.reduceSub, Array.replicate_succ, Array.replicate_zero, List.push_toArray, List.append_toArray, List.nil_append, List.cons_append]
 gi_wp2
 gi_loopw [7] (fun i wr => i = .int .i64 0 ∧ J [] wr) (fun _ _ => 0)
 case atStart => exact ⟨rfl, h0⟩
 case round =>
  obtain ⟨rfl, hJs⟩ := hrel
  gi_wp2
  go_end0
  exact ⟨⟨_, rfl⟩, hJs⟩
theorem values_stops (F : Fence) (n : Nat) (h7 : F.fn 130) (hro : F.round = none) (hn : 1 ≤ n) (Bs n₀ : Nat) (sv : Value) (zs : List Int) (hreach : zs.length * 8 ≤ 140737488351232) (w : World) (hBs : Bs < w.heap.size) (hn₀ : n₀ ≤ w.heap.size)
  (hc : w.cell? ⟨Bs, 0, none⟩ = some sv) (hI : Ints n₀ w sv zs) :
  SeqStopsK F n Tryz.prog 130 #[.pointer (some ⟨Bs, 0, none⟩)] (fun x : Int => #[Value.int .i64 x]) (Below n₀) (fun ys => ys = zs) (fun pre => pre <+: zs) zs.length w := fun l J Jx W hW _ _ hY h0 => by
 have hc' := (hW.cell (p := ⟨Bs, 0, none⟩) hBs).trans hc
 rcases hI.below (hW.mono hn₀) with ⟨p, c, rfl, rfl⟩ | ⟨b, off, cap, rfl, hb, hcs⟩
 ·exact (values1_nil_in F n h7 hro l Bs p c J W hc' h0).mono fun e W' ⟨he, hj⟩ => ⟨he, .inl ⟨_, rfl, hj⟩⟩
 ·refine (values1_in F n h7 hro hn l Bs n₀ b off zs.length cap zs hreach hb J Jx hY W hc' hcs h0).mono ?_
  rintro e W' ⟨he, ⟨ys, rfl, hj⟩ | ⟨pre, ⟨k, hk, rfl⟩, hj⟩⟩
  ·exact ⟨he, .inl ⟨_, upto_all zs, hj⟩⟩
  ·exact ⟨he, .inr ⟨_, by rw [upto_take zs hk]; exact List.take_prefix _ _, hj⟩⟩
theorem infoInt : (Tryz.prog.info? 3).map (fun i => (i.zero, i.size, i.bytes)) = some (some (.int .i64 0), 1, 8) := by kernel_rfl
set_option maxRecDepth 100000 in
set_option maxHeartbeats 2000000 in
theorem appendSeq_in (F : Fence) (n : Nat) (h3 : F.fn 153) (h5 : F.fn 130) (hro : F.round = none) (hn : 3 ≤ n) (Bs : Nat) (sv : Value) (zs : List Int) (hreach : zs.length * 8 ≤ 140737488351232) (w : World) (hBs : Bs < w.heap.size)
  (hcs : w.cell? ⟨Bs, 0, none⟩ = some sv) (hI : Ints w.heap.size w sv zs) :
  CallsIn F n Tryz.prog 153 #[.slice none 0 0, .func (.func 130) #[] #[.pointer (some ⟨Bs, 0, none⟩)]] w fun e W' => ∃ v, e = .returned v ∧ W'.ownsRow w.heap.size 3 1 v zs.length (zs.map (Value.int .i64)) ∧ (v = .slice none 0 0 ↔ zs = []) ∧ Below w.heap.size w W' := by
 have h1 : 1 ≤ n := by omega
 obtain ⟨i0, hi, hz0, hz1, hz2⟩ := info_parts infoInt
 refine callsIn_of_wp_marks Tryz.func153 rfl h3 ?_ hro
 simp only [Tryz.ntmps153, List.size_toArray, List.length_cons, List.length_nil, Nat.reduceAdd, Nat.reduceSub, Array.replicate_succ, Array.replicate_zero, List.push_toArray, List.append_toArray, List.nil_append, List.cons_append]
 gi_wp2
 have bO := Boxed.new w 25 (.slice none 0 0)
 have hB0 : Below w.heap.size w (w.alloc (.cells #[.slice none 0 0] 25)) := (Below.refl _ w).alloc (Nat.le_refl _) _
 refine wpIn_rangeFunc_ownG hro h1 (gf := 130) (lb := #[.pointer (some ⟨Bs, 0, none⟩)]) rfl h5 (enters_of Tryz.func130 (by kernel_rfl) rfl)
  (values_stops F (n - 1) h5 hro (by omega) Bs w.heap.size sv zs hreach _ (by simp; omega) (by simp) ((hB0.cell (p := ⟨Bs, 0, none⟩) hBs).trans hcs) (hI.below hB0)) belowK_t (belowK_b (by simp)) (Below.refl _ _) (fun _ => rfl)
  (fun pre W => (∃ v, Boxed W w.heap.size 25 v ∧ W.ownsRow w.heap.size 3 1 v pre.length (pre.map (Value.int .i64)) ∧ (v = .slice none 0 0 ↔ pre = [])) ∧ Below w.heap.size w W)
  (fun _ _ _ => False)
  (OwnFrom.and (Own.from (holdsRow_own w.heap.size w.heap.size 25 3 1 (fun pre => pre.length) (fun pre => pre.map (Value.int .i64)) (fun pre v => v = .slice none 0 0 ↔ pre = [])) _) (ownFrom_below (Nat.le_refl _) (by simp)))
  (fun _ _ _ _ _ hs _ _ => hs)
  ⟨⟨_, bO, World.ownsRow_nil _ _ _ _, by simp⟩, hB0⟩
  (fun x => { tmps := #[.slice none 0 0, .func (.func 130) #[] #[.pointer (some ⟨Bs, 0, none⟩)], .pointer (some ⟨w.heap.size, 0, none⟩), undef, .slice none 0 0, .int .i64 x, .func (.func 130) #[] #[.pointer (some ⟨Bs, 0, none⟩)], .int .i64 x, undef, undef, undef, undef, undef], defers := [] }) ?assign ?body ?done ?stop
 case assign =>
  intro l x W K hK
  gi_wp2
  exact hK
 case body =>
  rintro l pre x W ⟨⟨v, hv, hrow, hnil⟩, hB⟩ hlt
  have hc := hv.cell
  have hml : maxLen = 9223372036854775807 := rfl
  gi_wp2_with (gi_at_builtin; refine wpListIn_append_own _ rfl _ _ 25 rfl w.heap.size 3 i0 (.int .i64 0) 1 8 Tryz.underlying25 hi hz0 hz1 hz2 rfl (by decide) _ _ _ rfl (hrow.alloc _) ⟨W.heap.size, 0, none⟩ 1 1 [.int .i64 x] rfl rfl (cell_one_new _ _ _) (by simp [Value.oneCell']) (by omega) (by omega) (by have := hB.size; simp; omega) ?_; intro v' w1 hown' hgrow _; obtain ⟨g', cap', rfl⟩ := ownsRow_succ hown'; obtain ⟨hv1, hv2, hr2, hk2, hb2⟩ := hv.appended (by decide) hrow hB.size (Nat.le_refl _) hown' hgrow; have hc1 := hv1.cell; have hf1 := hv1.frozen)
  exact ⟨hk2.from _, hb2, ⟨_, hv2, by simpa using hr2, by simp⟩, hB.trans hb2⟩
 case done =>
  rintro D ys W hD rfl ⟨⟨v, hv, hrow, hnil⟩, hB⟩ hK
  have hc := hv.cell
  gi_wp2
  refine ⟨by simp, .inl ⟨_, _, rfl, run_takeDeferred hK, ?_⟩⟩
  exact ⟨_, results_tmp rfl _ _ _, v, rfl, ownsRow_putObj hrow _ hK rfl, hnil, hB.trans (belowK_b (w := w) (Nat.le_refl _) W D _ _ (by simp at hD; omega) hK rfl rfl)⟩
 case stop =>
  rintro D c pre W _ _ h _
  exact h.elim
set_option maxRecDepth 100000 in
set_option maxHeartbeats 2000000 in
theorem collect_in (F : Fence) (n : Nat) (h2 : F.fn 128) (h3 : F.fn 153) (h5 : F.fn 130) (hro : F.round = none) (hn : 4 ≤ n) (Bs : Nat) (sv : Value) (zs : List Int) (hreach : zs.length * 8 ≤ 140737488351232) (w : World) (hBs : Bs < w.heap.size)
  (hcs : w.cell? ⟨Bs, 0, none⟩ = some sv) (hI : Ints w.heap.size w sv zs) :
  CallsIn F n Tryz.prog 128 #[.func (.func 130) #[] #[.pointer (some ⟨Bs, 0, none⟩)]] w fun e W' => ∃ v, e = .returned v ∧ W'.ownsRow w.heap.size 3 1 v zs.length (zs.map (Value.int .i64)) ∧ (v = .slice none 0 0 ↔ zs = []) ∧ Below w.heap.size w W' := by
 have h1 : 1 ≤ n := by omega
 refine callsIn_of_wp Tryz.func128 rfl h2 ?_ hro
 simp only [Tryz.ntmps128, List.size_toArray, List.length_cons, List.length_nil, Nat.reduceAdd, Nat.reduceSub, Array.replicate_succ, Array.replicate_zero, List.push_toArray, List.append_toArray, List.nil_append, List.cons_append]
 gi_wp2_with (gi_at_call 153; refine (appendSeq_in F (n - 1) h3 h5 hro (by omega) Bs sv zs hreach _ hBs hcs hI).mono ?_; rintro e W ⟨v, rfl, hrow, hnil, hb⟩)
 go_ret
 exact ⟨v, rfl, hrow, hnil, hb⟩
def srt (l : List Int) : List Int := l.mergeSort fun x y => decide (x ≤ y)
set_option maxRecDepth 100000 in
set_option maxHeartbeats 2000000 in
theorem sorted_in (F : Fence) (n : Nat) (h1' : F.fn 83) (h2 : F.fn 128) (h3 : F.fn 153) (h5 : F.fn 130) (h9 : F.fn 129) (hro : F.round = none) (hn : 5 ≤ n)
  (hsort : ∀ (blk off cap : Nat) (ss : List Int) (W : World), Holds (Value.int .i64) W blk off ss.toArray → blk < W.heap.size → ss.length < 4611686018427387904 →
   CallsIn F (n - 1) Tryz.prog 129 #[.slice (some ⟨blk, off, none⟩) ss.length cap] W fun e w' => e = .returned (.tuple #[]) ∧ ∃ k os, w' = grow (putRow (Value.int .i64) (Sort.ahead W k) blk off (ss.mergeSort fun x y => decide (x ≤ y)).toArray) os)
  (hnone : ∀ (p : Option Addr) (cap : Nat) (W : World), CallsIn F (n - 1) Tryz.prog 129 #[.slice p 0 cap] W fun e w' => e = .returned (.tuple #[]) ∧ w' = W) (Bs : Nat) (sv : Value) (zs : List Int) (hreach : zs.length * 8 ≤ 140737488351232) (w : World) (hBs : Bs < w.heap.size)
  (hcs : w.cell? ⟨Bs, 0, none⟩ = some sv) (hI : Ints w.heap.size w sv zs) :
  CallsIn F n Tryz.prog 83 #[.func (.func 130) #[] #[.pointer (some ⟨Bs, 0, none⟩)]] w fun e W' => ∃ v, e = .returned v ∧ W'.ownsRow w.heap.size 3 1 v zs.length ((srt zs).map (Value.int .i64)) ∧ Below w.heap.size w W' := by
 have h1 : 1 ≤ n := by omega
 refine callsIn_of_wp Tryz.func83 rfl h1' ?_ hro
 simp only [Tryz.ntmps83, List.size_toArray, List.length_cons, List.length_nil, Nat.reduceAdd, Nat.reduceSub, Array.replicate_succ, Array.replicate_zero, List.push_toArray, List.append_toArray, List.nil_append, List.cons_append]
 gi_wp2_with (gi_at_call 128; refine (collect_in F (n - 1) h2 h3 h5 hro (by omega) Bs sv zs hreach _ hBs hcs hI).mono ?_; rintro e W ⟨v, rfl, hrow, hnil, hb⟩)
 rcases hrow.2 with ⟨rfl, hz⟩ | ⟨gb, cap, cur, rfl, hbase, hgb, r1, r2, r3, r4⟩
 ·have hss : zs = [] := List.eq_nil_of_length_eq_zero hz
  subst hss
  have cS := hnone none 0 W
  gi_wp2_with (gi_at_call 129; refine cS.mono ?_; rintro e w' ⟨rfl, rfl⟩)
  go_ret
  exact ⟨.slice none 0 0, rfl, by simpa [srt] using hrow, hb⟩
 ·have hH : Holds (Value.int .i64) W gb 0 zs.toArray := holds_of_blockI hgb (by simpa using r4)
  have hgl : gb < W.heap.size := (Array.getElem?_eq_some_iff.1 hgb).1
  have hsz : zs.length < 4611686018427387904 := by omega
  have cS := hsort gb 0 cap zs W hH hgl hsz
  gi_wp2_with (gi_at_call 129; refine cS.mono ?_; rintro e w' ⟨rfl, nn, os, rfl⟩)
  go_ret
  exact ⟨_, rfl, ownsRow_sortedI (by simp [srt]) hbase hgb r1 r2 r3, hb.grown (grownBy_sortedI _) hb.size (fun j hj => by cases hj; exact hbase)⟩
theorem sorted_calls (Bs : Nat) (sv : Value) (zs : List Int) (hreach : zs.length * 8 ≤ 140737488351232) (w : World) (hBs : Bs < w.heap.size)
  (hcs : w.cell? ⟨Bs, 0, none⟩ = some sv) (hI : Ints w.heap.size w sv zs) :
  Calls Tryz.prog 83 #[.func (.func 130) #[] #[.pointer (some ⟨Bs, 0, none⟩)]] w fun e W' => ∃ v, e = .returned v ∧ W'.ownsRow w.heap.size 3 1 v zs.length ((srt zs).map (Value.int .i64)) ∧ Below w.heap.size w W' :=
 (callsIn_wide (n := 5)).1 (sorted_in Fence.wide 5 trivial trivial trivial trivial trivial rfl (Nat.le_refl _)
  (fun blk off cap ss W h1 h2 h3 => callsIn_wide.2 (AnyM.slices_Sort_int Tryz.mSort blk off cap ss W h1 h2 h3))
  (fun p cap W => callsIn_wide.2 (AnyM.slices_Sort_int_none Tryz.mSort p cap W)) Bs sv zs hreach w hBs hcs hI)
end Go.Ab
end
section
namespace Go.Ab
open Go.Proofs Go.RowKit
attribute [local congr] ACall.congr
set_option maxRecDepth 10000
def upZ (E : Env) (w w' : World) : Env := ⟨E.ρ, E.σ, fun b => if b < w.heap.size then E.z b else fullZ w' b⟩
theorem upZ_stable {m : List (Nat × AObj)} {E : Env} {w w' : World} (hg : Good m E w) (hb : Below w.heap.size w w') : Stable w E.z w' (upZ E w w').z := by
 intro b
 by_cases h : b < w.heap.size
 ·exact ⟨by simp [upZ, h], fun o _ => hb.cell (p := ⟨b, o, none⟩) h⟩
 ·have h0 := hg.fresh b (by omega)
  exact ⟨by rw [h0]; exact Nat.zero_le _, fun o ho => by rw [h0] at ho; omega⟩
theorem Spec.of_calls {P : Program} {f : Nat} {A : Env → World → List Value → Prop} {m : List (Nat × AObj)} {res : AV} (hR : Robs m) (hc : CanCall P f)
  (h : ∀ E w vals, Good m E w → A E w vals → Calls P f vals.toArray w fun e w' => ∃ v, e = .returned v ∧ Below w.heap.size w w' ∧ AVr w' (upZ E w w') res v) : Spec P f A m res m := by
 refine ⟨hc, fun E w vals hg hA => (h E w vals hg hA).mono ?_⟩
 rintro e w' ⟨v, rfl, hb, hv⟩
 have hst := upZ_stable hg hb
 have hlow : ∀ {l o}, see m l = some o → look m l = some o := fun hl => (see_plain (fun p hp => hR.nest p hp) hl).1
 have hro : ∀ {l o}, see m l = some o → o.ro = true := fun hl => hR.ro _ (look_mem (hlow hl))
 refine ⟨v, upZ E w w', rfl, ⟨hb.os, hb.tape, hb.output, hb.size, hst, fun b h1 _ => ⟨hb.block b h1, by simp [upZ, h1]⟩, fun _ _ => ⟨rfl, rfl⟩⟩, ⟨hg.low, hg.inj, fun l o hl => ?_, fun b h1 => ?_⟩, fun l o b hl h1 => ?_, hv⟩
 ·have h0 := hg.sobj l o hl
  have h1 := hro hl
  cases o <;> simp only [AObj.ro] at h1 <;> try cases h1
  obtain ⟨b, vs, e, g1, g2, g3, g4, g5⟩ := h0
  have hlt : b < w.heap.size := (Array.getElem?_eq_some_iff.1 g2).1
  exact ⟨b, vs, e, g1, (hb.block b hlt).trans g2, by simp [upZ, hlt, g3], AVrs.mono ⟨hst, fun _ _ => rfl, fun _ _ => rfl⟩ (fun _ _ => trivial) (live := fun _ => True) g4, g5⟩
 ·simp only [upZ, fullZ]
  rw [if_neg (by have := hb.size; omega), Array.getElem?_eq_none h1]
 ·rw [hro hl] at h1; cases h1
theorem rd_int {w : World} {z : Nat → Nat} {v : Value} {x : Int} (h : Rd w z v (.sc (.int .i64 x))) : v = .int .i64 x := by cases h; rfl
theorem ints_of {w : World} {z : Nat → Nat} {v : Value} {l : List Int} (h : Rd w z v (sI l)) : Ints w.heap.size w v l := by
 generalize hx : sI l = x at h
 cases h with
 | sc v h => cases hx
 | pt b off cells vs hz hc hr => cases hx
 | nil p sz =>
  simp only [sI, D.sl.injEq, List.map_eq_nil_iff] at hx
  exact .inl ⟨p, 0, rfl, hx.2⟩
 | sl b off n cap sz rows vs hn hsz hz hcap hc hr =>
  simp only [sI, D.sl.injEq] at hx
  obtain ⟨rfl, rfl⟩ := hx
  rw [List.length_map] at hn
  subst hn
  rcases Nat.eq_zero_or_pos l.length with h0 | hpos
  ·exact .inl ⟨some ⟨b, off, none⟩, cap, by rw [h0], List.eq_nil_of_length_eq_zero h0⟩
  refine .inr ⟨b, off, cap, rfl, ?_, fun j hj => ?_⟩
  ·have := hc 0 (by omega)
   by_cases hlt : b < w.heap.size
   ·exact hlt
   ·exfalso
    simp [World.cell?, Array.getElem?_eq_none (Nat.le_of_not_lt hlt)] at this
  ·have h1 := hc j (by omega)
   have h2 := hr j 0 (rI l[j]) (.sc (.int .i64 l[j])) (by simp [List.getElem?_eq_getElem hj]) rfl
   have h3 := rd_int h2
   simp only [Nat.mul_one, Nat.add_zero] at h3
   rw [h1, h3]
   simp [List.getElem?_eq_getElem hj]
theorem rd_of_row {w' : World} {z : Nat → Nat} {base e : Nat} {v : Value} {l : List Int} (h : w'.ownsRow base e 1 v l.length (l.map (Value.int .i64))) (hz : ∀ b, base ≤ b → fullZ w' b ≤ z b) : Rd w' z v (sI l) := by
 rcases h.2 with ⟨rfl, h0⟩ | ⟨g, cap, cur, rfl, h1, h2, h3, h4, h5, h6⟩
 ·have : l = [] := List.eq_nil_of_length_eq_zero h0
  subst this
  exact .nil _ _
 ·have hzg := hz g h1
  simp only [fullZ, h2] at hzg
  refine .sl g 0 l.length cap 1 _ (fun k => .int .i64 (l.getD k 0)) (by simp) (by simp [rI]) (by omega) h3 (fun k hk => ?_) (fun i j r x hi hj => ?_)
  ·have h7 : (cur.toList.take (l.length * 1))[k]? = (l.map (Value.int .i64))[k]? := by rw [h6]
   rw [List.getElem?_take_of_lt hk, Array.getElem?_toList] at h7
   have hkl : k < l.length := by omega
   simp only [World.cell?, h2, Nat.zero_add, Option.isSome_none, Bool.false_eq_true, if_false, h7, List.getElem?_map, List.getElem?_eq_getElem hkl, Option.map_some, List.getD_eq_getElem?_getD, Option.getD_some]
  ·rw [List.getElem?_map] at hi
   obtain ⟨y, hy, rfl⟩ := Option.map_eq_some_iff.1 hi
   cases j with
   | succ j => simp [rI] at hj
   | zero =>
    simp only [rI, List.getElem?_cons_zero, Option.some.injEq] at hj
    subst hj
    simp only [Nat.mul_one, Nat.add_zero, List.getD_eq_getElem?_getD, hy, Option.getD_some]
    exact .sc _ rfl
theorem srt_length (l : List Int) : (srt l).length = l.length := by simp [srt]
theorem robL (l : List Int) : Robs [(10000, .rob [.d (sI l)])] := ⟨by simp [AObj.ro], by simp [nodupM, look], by simp, by simp [AObj.ids, AV.ids, AV.idss]⟩
theorem sortedB_spec (l : List Int) (hl : l.length ≤ 17592186043904) : Spec Tryz.prog 83 (Args [.fn 130 [] [.ptr 10000 0]]) [(10000, .rob [.d (sI l)])] (.d (sI (srt l))) [(10000, .rob [.d (sI l)])] := by
 refine Spec.of_calls (robL l) ⟨Tryz.f83, _, Tryz.func83, by kernel_rfl, rfl⟩ ?_
 intro E w vals hg hA
 obtain ⟨v, vs, rfl, h0, h3⟩ := hA
 obtain ⟨us, us', rfl, h1, h2⟩ := h0
 obtain ⟨u, us'', rfl, h4, h5⟩ := h2
 obtain ⟨B, hB, rfl⟩ := h4
 simp only [AVrs] at h1 h5 h3
 subst h1 h5 h3
 obtain ⟨b, ws, e, g1, g2, g3, g4, g5⟩ := hg.sobj 10000 (.rob [.d (sI l)]) rfl
 obtain rfl : b = B := by rw [g1] at hB; exact Option.some.inj hB
 obtain ⟨sv, ws', rfl, g6, g7⟩ := g4
 simp only [AVrs] at g7
 subst g7
 have hlt : b < w.heap.size := (Array.getElem?_eq_some_iff.1 g2).1
 refine (sorted_calls b sv l (by omega) w hlt (by simp [World.cell?, g2]) (ints_of g6)).mono ?_
 rintro e w' ⟨v, rfl, hrow, hb⟩
 refine ⟨v, rfl, hb, ?_⟩
 rw [← srt_length] at hrow
 exact rd_of_row hrow fun b hb => by simp only [upZ]; rw [if_neg (by omega)]; exact Nat.le_refl _
end Go.Ab
end
section
namespace Go.Ab
open Go.Proofs
attribute [local congr] ACall.congr
set_option maxRecDepth 10000
set_option maxHeartbeats 8000000
def endsK (f : Edge → Int) (es : List Edge) (k : Nat) (x : Nat) : List Int := ((List.range k).filter fun i => decide (f (es.getD i (0, 0)) = (x : Int))).map Int.ofNat
def rowsK (f : Edge → Int) (es : List Edge) (n k : Nat) : List (List (List D)) := (List.range n).map fun x => (endsK f es k x).map rI
def sL (ls : List (List Int)) : D := .sl 1 (ls.map fun l => [sI l])
def endsL (f : Edge → Int) (g : Gr) : List (List Int) := (List.range g.n.toNat).map (endsK f g.es g.es.length)
def vw (g : Gr) : D := .pt [.sc (.int .i64 g.n), sE g.es, sL (endsL (·.1) g), sL (endsL (·.2) g)]
theorem mayB_n {g : Gr} (h : mayB g = true) : 0 < g.n ∧ g.n ≤ 64 ∧ g.es.length ≤ 128 := by
 simp [mayB] at h; omega
theorem mayB_e {g : Gr} (h : mayB g = true) {k : Nat} (hk : k < g.es.length) : (0 ≤ (g.es.getD k (0, 0)).1 ∧ (g.es.getD k (0, 0)).1 < g.n) ∧ (0 ≤ (g.es.getD k (0, 0)).2 ∧ (g.es.getD k (0, 0)).2 < g.n) := by
 have h2 := mayB_out (g := g) hk
 rw [h] at h2
 have h3 : ¬ outE g (g.es.getD k (0, 0)) = true := fun e => by simpa using h2 e
 simp only [outE, outB, Bool.or_eq_true, decide_eq_true_eq] at h3
 omega
theorem rowsK_length {f : Edge → Int} {es : List Edge} {n k : Nat} : (rowsK f es n k).length = n := by simp [rowsK]
theorem rowsK_get {f : Edge → Int} {es : List Edge} {n k x : Nat} (hx : x < n) : (rowsK f es n k)[x]? = some ((endsK f es k x).map rI) := by
 simp [rowsK, List.getElem?_range hx]
theorem endsK_len {f : Edge → Int} {es : List Edge} {k x : Nat} : (endsK f es k x).length ≤ k := by
 simpa [endsK] using List.length_filter_le (fun i => decide (f (es.getD i (0, 0)) = (x : Int))) (List.range k)
theorem endsK_next {f : Edge → Int} {es : List Edge} {k x : Nat} : endsK f es (k + 1) x = endsK f es k x ++ if f (es.getD k (0, 0)) = (x : Int) then [(k : Int)] else [] := by
 simp only [endsK, List.range_succ, List.filter_append, List.map_append, List.filter_cons, List.filter_nil]
 split <;> simp_all
theorem rowsK_next {f : Edge → Int} {es : List Edge} {n k : Nat} (h0 : 0 ≤ f (es.getD k (0, 0))) :
  (rowsK f es n k).set (f (es.getD k (0, 0))).toNat ((endsK f es k (f (es.getD k (0, 0))).toNat).map rI ++ [[.sc (.int .i64 k)]]) = rowsK f es n (k + 1) := by
 refine List.ext_getElem? fun i => ?_
 rw [List.getElem?_set, rowsK_length]
 by_cases hi : i < n
 ·rw [rowsK_get hi, rowsK_get hi, endsK_next]
  generalize f (es.getD k (0, 0)) = e at *
  by_cases hq : e = (i : Int)
  ·subst hq; simp [hi, rI]
  ·have : ¬ e.toNat = i := by omega
   simp [hq, this]
 ·rw [List.getElem?_eq_none (by rw [rowsK_length]; omega), List.getElem?_eq_none (by rw [rowsK_length]; omega)]
  generalize f (es.getD k (0, 0)) = e at *
  split
  ·rename_i hq; rw [if_neg (by omega)]
  ·rfl
theorem rowsK_zero {f : Edge → Int} {es : List Edge} {n : Nat} : List.replicate n [] = rowsK f es n 0 := by
 refine List.ext_getElem? fun i => ?_
 by_cases hi : i < n
 ·rw [rowsK_get hi]; simp [hi, endsK]
 ·rw [List.getElem?_eq_none (by simp; omega), List.getElem?_eq_none (by rw [rowsK_length]; omega)]
theorem of_spec (g : Gr) (hm : mayB g = true) : Spec Tryz.prog 34 (Args [eG g]) [] (.d (vw g)) [] := by
 have hn := mayB_n hm
 have hl : g.es.length ≤ 9223372036854775807 := by omega
 have hl' : g.es.length ≤ 1000000 := by omega
 (refine Spec.intro (C := T.cfg [] [13, 16]) (rs := [.t 2]) (T.cfg_ok _ _) Tryz.func34 rfl rfl Tryz.ntmps34 Tryz.results34 (by simp [AObj.isNest]) (by simp [AObj.isNest]) (by kernel_rfl) ?_; intro X hX hP hC hXn hXm vals hA; refine ⟨_, by simp, hA, ?_⟩; have hmix : X.P.follows .mixedOrders = true := (by rw [hP]; exact T.mixed); clear hXn hXm)
 repeat' (first | fail | ((first | ((with_reducible (first | apply oA | apply oB)); exact rfl; intro K hK) | (refine hK _ ?_; clear hK K) | ((with_reducible (first | apply oG | apply oH)); iterate 3 exact rfl) | ((with_reducible apply oI); (iterate 2 exact rfl); intro K hK) | (with_reducible (first | apply wI | apply wJ | apply wK))); try simp only [go_sem, simprocAttr, hm]) | fail | (with_reducible (first | apply oC | apply oJ | exact oK | apply wA | apply wB | apply wC hX hC | apply wD hX hC | apply wE hX hC hmix | apply wF hX hC hmix | apply wG | apply wH | apply And.intro)) | ((with_reducible refine oD ?_ ?_); first | fail | kernel_rfl) | ((with_reducible (first | apply oE | apply oF)); (iterate 3 exact rfl); all_goals (intro h; first | (exact absurd h (by decide)) | ((try simp only [go_sem, simprocAttr, hm] at h); (try with_reducible intro K hK); simp only [go_sem, simprocAttr, hm]))) | ((first | ((with_reducible apply wL); exact rfl) | ((with_reducible apply wM); exact rfl)); all_goals (try ((with_reducible intro h); first | (exact absurd h (by decide)) | (try simp only [go_sem, simprocAttr, hm] at h)))) | omega | ((first | first | refine acall_simple hX hC hP (may_spec g hl) rfl rfl rfl (by simp only [go_sem, simprocAttr, hm]) rfl ?_ | refine acall_simple hX hC hP (cloneE_spec g.es hl') rfl rfl rfl (by simp only [go_sem, simprocAttr, hm]) rfl ?_); try simp only [go_sem, simprocAttr, hm]) | (intro h))
 refine awp_nest hX 13 (by simp [go_sem, simprocAttr, hm]; exact ⟨rfl, rfl, rfl, rfl⟩) (by decide) (by simp [go_sem, simprocAttr, hm]) (by simp [go_sem, simprocAttr, hm]) ?_
 refine awp_nest hX 16 (by simp [go_sem, simprocAttr, hm]; exact ⟨rfl, rfl, rfl, rfl⟩) (by decide) (by simp [go_sem, simprocAttr, hm]) (by simp [go_sem, simprocAttr, hm]) ?_
 simp only [go_sem, simprocAttr, hm]
 refine awp_loopP (fun k : Nat => k ≤ g.es.length) (fun k => ⟨[(29, eN k), (28, eN g.es.length), (27, .d (sE g.es)), (3, .ptr 18 0)], [(18, .box [eN g.n, .d (sE g.es), .ref 13, .ref 16]), (16, .nest 25 3 1 (rowsK (·.2) g.es g.n.toNat k) none), (13, .nest 25 3 1 (rowsK (·.1) g.es g.n.toNat k) none)]⟩) (fun k => g.es.length - k) 0 (by simp) ?_ ?_
 ·refine Le.of ?_ ?_ <;> simp [go_sem, simprocAttr, hm]
  exact ⟨rowsK_zero, rowsK_zero⟩
 rintro k hk
 rcases Nat.lt_or_ge k g.es.length with hlt | hge
 ·have hb : decide ((k : Int) < (g.es.length : Int)) = true := decide_eq_true (by omega)
  obtain ⟨he1, he2⟩ := mayB_e hm hlt
  have hg1 := rowsK_get (f := (·.1)) (es := g.es) (k := k) (show (g.es.getD k (0, 0)).1.toNat < g.n.toNat by omega)
  have hg2 := rowsK_get (f := (·.2)) (es := g.es) (k := k) (show (g.es.getD k (0, 0)).2.toNat < g.n.toNat by omega)
  have hl1 := endsK_len (f := (·.1)) (es := g.es) (k := k) (x := (g.es.getD k (0, 0)).1.toNat)
  have hl2 := endsK_len (f := (·.2)) (es := g.es) (k := k) (x := (g.es.getD k (0, 0)).2.toNat)
  repeat' (first | fail | ((first | ((with_reducible (first | apply oA | apply oB)); exact rfl; intro K hK) | (refine hK _ ?_; clear hK K) | ((with_reducible (first | apply oG | apply oH)); iterate 3 exact rfl) | ((with_reducible apply oI); (iterate 2 exact rfl); intro K hK) | (with_reducible (first | apply wI | apply wJ | apply wK))); try simp only [go_sem, simprocAttr, hm, hb, hg1, hg2, rowsK_length]) | fail | (with_reducible (first | apply oC | apply oJ | exact oK | apply wA | apply wB | apply wC hX hC | apply wD hX hC | apply wE hX hC hmix | apply wF hX hC hmix | apply wG | apply wH | apply And.intro)) | ((with_reducible refine oD ?_ ?_); first | (focus (simp only [chk, chkFrom, clash, meets, meetsK, mkRec, hitsT, hitsM, Rec.rs, Rec.wr, Rec.killed, Rec.names, KV.ids, key_ss, key_oo, key_so, key_os, beq_nn, nn_beq, List.zip_cons_cons, List.zip_nil_right, List.zipIdx_cons, List.zipIdx_nil, List.all_cons, List.all_nil, List.contains_cons, List.contains_nil, List.flatMap_nil, List.reverse_cons, List.reverse_nil, edge, pth, Region.binds, go_sem, simprocAttr, hm, hb, hg1, hg2, rowsK_length]; done)) | kernel_rfl) | ((with_reducible (first | apply oE | apply oF)); (iterate 3 exact rfl); all_goals (intro h; first | (exact absurd h (by decide)) | ((try simp only [go_sem, simprocAttr, hm, hb, hg1, hg2, rowsK_length] at h); (try with_reducible intro K hK); simp only [go_sem, simprocAttr, hm, hb, hg1, hg2, rowsK_length]))) | ((first | ((with_reducible apply wL); exact rfl) | ((with_reducible apply wM); exact rfl)); all_goals (try ((with_reducible intro h); first | (exact absurd h (by decide)) | (try simp only [go_sem, simprocAttr, hm, hb, hg1, hg2, rowsK_length] at h)))) | omega | ((first | first | refine acall_simple hX hC hP (may_spec g hl) rfl rfl rfl (by simp only [go_sem, simprocAttr, hm, hb, hg1, hg2, rowsK_length]) rfl ?_ | refine acall_simple hX hC hP (cloneE_spec g.es hl') rfl rfl rfl (by simp only [go_sem, simprocAttr, hm, hb, hg1, hg2, rowsK_length]) rfl ?_); try simp only [go_sem, simprocAttr, hm, hb, hg1, hg2, rowsK_length]) | (intro h))
  refine ⟨k + 1, by omega, ?_, by omega⟩
  refine Le.of ?_ ?_ <;> simp [go_sem, simprocAttr, hm, hb, hg1, hg2, rowsK_length]
  exact ⟨rowsK_next (f := (·.2)) he2.1, rowsK_next (f := (·.1)) he1.1⟩
 ·repeat' (first | fail | ((first | ((with_reducible (first | apply oA | apply oB)); exact rfl; intro K hK) | (refine hK _ ?_; clear hK K) | ((with_reducible (first | apply oG | apply oH)); iterate 3 exact rfl) | ((with_reducible apply oI); (iterate 2 exact rfl); intro K hK) | (with_reducible (first | apply wI | apply wJ | apply wK))); try simp only [go_sem, simprocAttr]) | fail | (with_reducible (first | apply oC | apply oJ | exact oK | apply wA | apply wB | apply wC hX hC | apply wD hX hC | apply wE hX hC hmix | apply wF hX hC hmix | apply wG | apply wH | apply And.intro)) | ((with_reducible refine oD ?_ ?_); first | (focus (simp only [chk, chkFrom, clash, meets, meetsK, mkRec, hitsT, hitsM, Rec.rs, Rec.wr, Rec.killed, Rec.names, KV.ids, key_ss, key_oo, key_so, key_os, beq_nn, nn_beq, List.zip_cons_cons, List.zip_nil_right, List.zipIdx_cons, List.zipIdx_nil, List.all_cons, List.all_nil, List.contains_cons, List.contains_nil, List.flatMap_nil, List.reverse_cons, List.reverse_nil, edge, pth, Region.binds, go_sem, simprocAttr]; done)) | kernel_rfl) | ((with_reducible (first | apply oE | apply oF)); (iterate 3 exact rfl); all_goals (intro h; first | (exact absurd h (by decide)) | ((try simp only [go_sem, simprocAttr] at h); (try with_reducible intro K hK); simp only [go_sem, simprocAttr]))) | ((first | ((with_reducible apply wL); exact rfl) | ((with_reducible apply wM); exact rfl)); all_goals (try ((with_reducible intro h); first | (exact absurd h (by decide)) | (try simp only [go_sem, simprocAttr] at h)))) | omega | ((first | first | refine acall_simple hX hC hP (may_spec g hl) rfl rfl rfl (by simp only [go_sem, simprocAttr]) rfl ?_ | refine acall_simple hX hC hP (cloneE_spec g.es hl') rfl rfl rfl (by simp only [go_sem, simprocAttr]) rfl ?_); try simp only [go_sem, simprocAttr]) | (intro h))
  have : k = g.es.length := by omega
  subst this
  simp only [vw, sE, sL, endsL, rowsK, List.map_map]
  rfl
end Go.Ab
end
section
namespace Go.Ab
open Go.Proofs
attribute [local congr] ACall.congr
set_option maxRecDepth 10000
def tl (g : Gr) (i : Nat) : Int := (g.es.getD i (0, 0)).1
def hd (g : Gr) (i : Nat) : Int := (g.es.getD i (0, 0)).2
def wt (g : Gr) (out : List Int) (y : Nat) : Int :=
 if (y : Int) ∈ out then -1 else (((List.range g.es.length).countP fun i => decide (hd g i = (y : Int)) && !decide (tl g i ∈ out) : Nat) : Int)
def wts (g : Gr) (out : List Int) : List Int := (List.range g.n.toNat).map (wt g out)
def runF (g : Gr) : Nat → List Int → List Int
 | 0, out => out
 | f + 1, out => if idxI (wts g out) 0 < 0 then out else runF g f (out ++ [idxI (wts g out) 0])
def runG (g : Gr) : List Int := runF g g.n.toNat []
structure Placed (g : Gr) (out : List Int) : Prop where
 lo : ∀ x ∈ out, 0 ≤ x ∧ x < g.n
 back : ∀ i, i < g.es.length → hd g i ∈ out → tl g i ∈ out
 fuel : out.length + (List.range g.n.toNat).countP (fun y : Nat => !decide ((y : Int) ∈ out)) = g.n.toNat
theorem findI_spec {α : Type} {f : α → Bool} {l : List α} (d : α) : findI f l = -1 ∧ (∀ x ∈ l, f x = false) ∨ ∃ k : Nat, findI f l = k ∧ k < l.length ∧ f (l.getD k d) = true ∧ ∀ j, j < k → f (l.getD j d) = false := by
 cases h : l.findIdx? f with
 | none =>
  rw [List.findIdx?_eq_none_iff] at h
  exact .inl ⟨by simp [findI, List.findIdx?_eq_none_iff.2 h], h⟩
 | some i =>
  obtain ⟨hi, hg, hb⟩ := List.findIdx?_eq_some_iff_getElem.1 h
  refine .inr ⟨i, by simp [findI, h], hi, by simpa [List.getD_eq_getElem?_getD, List.getElem?_eq_getElem hi] using hg, fun j hj => ?_⟩
  have hjl : j < l.length := by omega
  have := hb j hj
  simpa [List.getD_eq_getElem?_getD, List.getElem?_eq_getElem hjl] using this
theorem wts_length {g : Gr} {out : List Int} : (wts g out).length = g.n.toNat := by simp [wts]
theorem wts_getD {g : Gr} {out : List Int} {y : Nat} (h : y < g.n.toNat) (d : Int) : (wts g out).getD y d = wt g out y := by
 simp [wts, List.getD_eq_getElem?_getD, List.getElem?_range h]
theorem countP_less {p : Nat → Bool} {x : Nat} (hx : p x = true) : ∀ {n : Nat}, x < n → (List.range n).countP (fun y => p y && !decide (y = x)) + 1 = (List.range n).countP p
 | 0, h => by omega
 | n + 1, h => by
  rw [List.range_succ, List.countP_append, List.countP_append]
  by_cases hxn : x = n
  ·subst hxn
   have : (List.range x).countP (fun y => p y && !decide (y = x)) = (List.range x).countP p := by
    refine List.countP_congr fun y hy => ?_
    have : y ≠ x := by have := List.mem_range.1 hy; omega
    simp [this]
   rw [this]
   simp [List.countP_cons, hx]
  ·have := countP_less hx (n := n) (by omega)
   have hn : n ≠ x := fun e => hxn e.symm
   simp only [List.countP_cons, List.countP_nil, hn, decide_false, Bool.not_false, Bool.and_true]
   omega
theorem Placed.nil (g : Gr) : Placed g [] := ⟨by simp, by simp, by rw [List.countP_eq_length_filter, List.filter_eq_self.2 (by simp)]; simp⟩
theorem Placed.next {g : Gr} (hm : mayB g = true) {out : List Int} (h : Placed g out) {x : Nat} (hx : x < g.n.toNat) (hw : wt g out x = 0) : Placed g (out ++ [(x : Int)]) ∧ (x : Int) ∉ out ∧ (∀ i, i < g.es.length → hd g i = x → tl g i ∈ out) := by
 have hxo : (x : Int) ∉ out := fun hi => by simp [wt, hi] at hw
 have hb : ∀ i, i < g.es.length → hd g i = x → tl g i ∈ out := by
  intro i hi he
  simp only [wt, hxo, if_false] at hw
  have := List.countP_eq_zero.1 (Int.ofNat.inj hw) i (List.mem_range.2 hi)
  simpa [he] using this
 refine ⟨⟨?_, ?_, ?_⟩, hxo, hb⟩
 ·intro y hy
  rcases List.mem_append.1 hy with hy | hy
  ·exact h.lo y hy
  ·simp at hy; omega
 ·intro i hi hh
  rcases List.mem_append.1 hh with hh | hh
  ·exact List.mem_append_left _ (h.back i hi hh)
  ·simp at hh
   exact List.mem_append_left _ (hb i hi hh)
 ·have h1 := h.fuel
  have h2 := countP_less (p := fun y : Nat => !decide ((y : Int) ∈ out)) (x := x) (by simp [hxo]) hx
  have h3 : (List.range g.n.toNat).countP (fun y : Nat => !decide ((y : Int) ∈ out ++ [(x : Int)])) = (List.range g.n.toNat).countP (fun y : Nat => (!decide ((y : Int) ∈ out)) && !decide (y = x)) := by
   refine List.countP_congr fun y _ => ?_
   simp; omega
  rw [h3, List.length_append, List.length_singleton]
  omega
def outL (g : Gr) (x : Nat) : List Int := endsK (·.1) g.es g.es.length x
def inL (g : Gr) (x : Nat) : List Int := endsK (·.2) g.es g.es.length x
theorem outL_mem {g : Gr} {x : Nat} {e : Int} (h : e ∈ outL g x) : ∃ i : Nat, e = i ∧ i < g.es.length ∧ tl g i = x := by
 simp only [outL, endsK, List.mem_map, List.mem_filter, List.mem_range, decide_eq_true_eq] at h
 obtain ⟨i, ⟨h1, h2⟩, rfl⟩ := h
 exact ⟨i, rfl, h1, h2⟩
def wtp (g : Gr) (out : List Int) (x j y : Nat) : Int :=
 if (y : Int) ∈ out ++ [(x : Int)] then -1 else (((List.range g.es.length).countP fun i => decide (hd g i = (y : Int)) && !decide (tl g i ∈ out) : Nat) : Int) - (((outL g x).take j).countP fun e => decide (hd g e.toNat = (y : Int)) : Nat)
def wtps (g : Gr) (out : List Int) (x j : Nat) : List Int := (List.range g.n.toNat).map (wtp g out x j)
theorem wtps_length {g : Gr} {out : List Int} {x j : Nat} : (wtps g out x j).length = g.n.toNat := by simp [wtps]
theorem wtps_get {g : Gr} {out : List Int} {x j y : Nat} (h : y < g.n.toNat) : (wtps g out x j)[y]? = some (wtp g out x j y) := by
 simp [wtps, List.getElem?_range h]
theorem wts_get {g : Gr} {out : List Int} {y : Nat} (h : y < g.n.toNat) : (wts g out)[y]? = some (wt g out y) := by
 simp [wts, List.getElem?_range h]
theorem wtps_zero {g : Gr} {out : List Int} {x : Nat} : (wts g out).set x (-1) = wtps g out x 0 := by
 refine List.ext_getElem? fun i => ?_
 rw [List.getElem?_set, wts_length]
 by_cases hi : i < g.n.toNat
 ·rw [wts_get hi, wtps_get hi]
  by_cases hx : x = i
  ·subst hx; simp [hi, wtp]
  ·have : ¬ i = x := fun e => hx e.symm
   simp only [hx, if_false, wtp, wt, List.mem_append, List.mem_singleton, List.take_zero, List.countP_nil]
   have h2 : ¬ (i : Int) = (x : Int) := by omega
   simp [h2]
 ·rw [List.getElem?_eq_none (by rw [wts_length]; omega), List.getElem?_eq_none (by rw [wtps_length]; omega)]
  split
  ·rw [if_neg (by omega)]
  ·rfl
theorem countP_parts {α : Type} {p q r : α → Bool} : ∀ {l : List α}, (∀ a ∈ l, p a = (q a || r a) ∧ (q a && r a) = false) → l.countP p = l.countP q + l.countP r
 | [], _ => rfl
 | a :: l, h => by
  obtain ⟨h1, h2⟩ := h a List.mem_cons_self
  have := countP_parts (l := l) fun b hb => h b (List.mem_cons_of_mem _ hb)
  simp only [List.countP_cons, this, h1]
  cases hq : q a <;> cases hr : r a <;> simp [hq, hr] at h2 ⊢ <;> omega
theorem wtps_end {g : Gr} {out : List Int} {x j : Nat} (hx : (x : Int) ∉ out) (hj : (outL g x).length ≤ j) : wtps g out x j = wts g (out ++ [(x : Int)]) := by
 refine List.map_congr_left fun y _ => ?_
 simp only [wtp, wt]
 split
 ·rfl
 ·rw [List.take_of_length_le hj]
  have h1 : (outL g x).countP (fun e => decide (hd g e.toNat = (y : Int))) = (List.range g.es.length).countP (fun i => decide (hd g i = (y : Int)) && decide (tl g i = (x : Int))) := by
   simp only [outL, endsK, List.countP_map, List.countP_filter]
   exact List.countP_congr fun i _ => by simp [tl]
  have h2 := countP_parts (p := fun i => decide (hd g i = (y : Int)) && !decide (tl g i ∈ out)) (q := fun i => decide (hd g i = (y : Int)) && !decide (tl g i ∈ out ++ [(x : Int)])) (r := fun i => decide (hd g i = (y : Int)) && decide (tl g i = (x : Int))) (l := List.range g.es.length) (fun i _ => by
   by_cases h3 : tl g i = x
   ·simp [h3, hx]
   ·simp [h3])
  rw [h1, h2]; omega
theorem hd_new {g : Gr} {out : List Int} {x : Nat} (hP : Placed g out) (hxo : (x : Int) ∉ out) (hb : ∀ i, i < g.es.length → hd g i = x → tl g i ∈ out) {i : Nat} (hi : i < g.es.length) (ht : tl g i = x) : hd g i ∉ out ++ [(x : Int)] := by
 intro h
 rcases List.mem_append.1 h with h | h
 ·exact hxo (ht ▸ hP.back i hi h)
 ·simp at h
  exact hxo (ht ▸ hb i hi h)
theorem wtps_next {g : Gr} {out : List Int} {x j i : Nat} (hj : (outL g x)[j]? = some (i : Int)) (h0 : 0 ≤ hd g i) (hn : hd g i ∉ out ++ [(x : Int)]) :
  (wtps g out x j).set (hd g i).toNat (wtp g out x j (hd g i).toNat - 1) = wtps g out x (j + 1) := by
 refine List.ext_getElem? fun y => ?_
 rw [List.getElem?_set, wtps_length]
 by_cases hy : y < g.n.toNat
 ·rw [wtps_get hy, wtps_get hy]
  have ht : ((outL g x).take (j + 1)).countP (fun e => decide (hd g e.toNat = (y : Int))) = ((outL g x).take j).countP (fun e => decide (hd g e.toNat = (y : Int))) + if hd g i = (y : Int) then 1 else 0 := by
   rw [List.take_add_one, List.countP_append, hj]
   simp [List.countP_cons]
  by_cases hq : (hd g i).toNat = y
  ·subst hq
   have he : ((hd g i).toNat : Int) = hd g i := by omega
   rw [if_pos rfl, if_pos (by assumption)]
   rw [he, if_pos rfl] at ht
   simp only [wtp, he, hn, if_false, ht]
   congr 1; omega
  ·rw [if_neg hq]
   have hq' : ¬ hd g i = (y : Int) := by omega
   simp only [wtp, ht, hq', if_false, Nat.add_zero]
 ·rw [List.getElem?_eq_none (by rw [wtps_length]; omega), List.getElem?_eq_none (by rw [wtps_length]; omega)]
  split
  ·rw [if_neg (by omega)]
  ·rfl
def vwl (f : Edge → Int) (g : Gr) : List (List D) := (endsL f g).map fun l => [sI l]
theorem vwl_getD {f : Edge → Int} {g : Gr} {x : Nat} (h : x < g.n.toNat) (d : List D) : (vwl f g).getD x d = [sI (endsK f g.es g.es.length x)] := by
 simp [vwl, endsL, List.getD_eq_getElem?_getD, List.getElem?_range h]
theorem vwl_length {f : Edge → Int} {g : Gr} : (vwl f g).length = g.n.toNat := by simp [vwl, endsL]
def vw' (g : Gr) : D := .pt [.sc (.int .i64 g.n), sE g.es, .sl 1 (vwl (·.1) g), .sl 1 (vwl (·.2) g)]
theorem vw_eq (g : Gr) : vw g = vw' g := rfl
attribute [go_sem] vw' wtps_length wts_length vwl_length
theorem wts_getL {g : Gr} {k : Nat} (h : k < g.n.toNat) : (wts g []).take (k + 1) = (wts g []).take k ++ [((inL g k).length : Int)] := by
 rw [List.take_add_one, wts_get h]
 simp [wt, inL, endsK, hd, List.countP_eq_length_filter]
theorem wtp_bound {g : Gr} (hm : mayB g = true) {out : List Int} {x j y : Nat} : -1000 ≤ wtp g out x j y ∧ wtp g out x j y ≤ 1000 := by
 have hn := mayB_n hm
 have h1 := List.countP_le_length (p := fun i => decide (hd g i = (y : Int)) && !decide (tl g i ∈ out)) (l := List.range g.es.length)
 have h2 := List.countP_le_length (p := fun e : Int => decide (hd g e.toNat = (y : Int))) (l := (outL g x).take j)
 have h3 : ((outL g x).take j).length ≤ g.es.length := Nat.le_trans (List.length_take_le' _ _) endsK_len
 simp only [List.length_range] at h1
 unfold wtp
 split <;> omega
theorem runF_end {g : Gr} {out : List Int} (h : idxI (wts g out) 0 < 0) : ∀ f, runF g f out = out
 | 0 => rfl
 | f + 1 => by simp [runF, h]
def left (g : Gr) (out : List Int) : Nat := (List.range g.n.toNat).countP (fun y : Nat => !decide ((y : Int) ∈ out))
theorem left_next {g : Gr} {out : List Int} {x : Nat} (h : Placed g out) (h' : Placed g (out ++ [(x : Int)])) : left g out = left g (out ++ [(x : Int)]) + 1 := by
 have h1 := h.fuel
 have h2 := h'.fuel
 rw [List.length_append, List.length_singleton] at h2
 unfold left; omega
theorem idxW {g : Gr} (out : List Int) : idxI (wts g out) 0 = -1 ∨ ∃ x : Nat, idxI (wts g out) 0 = x ∧ x < g.n.toNat ∧ wt g out x = 0 := by
 rcases findI_spec (f := fun y : Int => decide (0 = y)) (l := wts g out) 0 with ⟨h, _⟩ | ⟨k, h1, h2, h3, _⟩
 ·exact .inl h
 ·rw [wts_length] at h2
  rw [wts_getD h2] at h3
  exact .inr ⟨k, h1, h2, by simpa using (of_decide_eq_true h3).symm⟩
theorem run_spec (g : Gr) (hm : mayB g = true) : Spec Tryz.prog 135 (Args [.d (vw g)]) [] (.tup [.d (sI (runG g)), .d (sI (wts g (runG g)))]) [] := by
 rw [vw_eq]
 have hn := mayB_n hm
 (refine Spec.intro (C := T.cfg [22] []) (rs := [.t 2, .t 3]) (T.cfg_ok _ _) Tryz.func135 rfl rfl Tryz.ntmps135 Tryz.results135 (by simp [AObj.isNest]) (by simp [AObj.isNest]) (by kernel_rfl) ?_; intro X hX hP hC hXn hXm vals hA; refine ⟨_, by simp, hA, ?_⟩; have hmix : X.P.follows .mixedOrders = true := (by rw [hP]; exact T.mixed); clear hXn hXm)
 repeat' (first | fail | ((first | ((with_reducible (first | apply oA | apply oB)); exact rfl; intro K hK) | (refine hK _ ?_; clear hK K) | ((with_reducible (first | apply oG | apply oH)); iterate 3 exact rfl) | ((with_reducible apply oI); (iterate 2 exact rfl); intro K hK) | (with_reducible (first | apply wI | apply wJ | apply wK))); try simp only [go_sem, simprocAttr]) | fail | (with_reducible (first | apply oC | apply oJ | exact oK | apply wA | apply wB | apply wC hX hC | apply wD hX hC | apply wE hX hC hmix | apply wF hX hC hmix | apply wG | apply wH | apply And.intro)) | ((with_reducible refine oD ?_ ?_); first | fail | kernel_rfl) | ((with_reducible (first | apply oE | apply oF)); (iterate 3 exact rfl); all_goals (intro h; first | (exact absurd h (by decide)) | ((try simp only [go_sem, simprocAttr] at h); (try with_reducible intro K hK); simp only [go_sem, simprocAttr]))) | ((first | ((with_reducible apply wL); exact rfl) | ((with_reducible apply wM); exact rfl)); all_goals (try ((with_reducible intro h); first | (exact absurd h (by decide)) | (try simp only [go_sem, simprocAttr] at h)))) | omega | ((first | (refine acall_lend hX hC hP (indexI_spec (wts g out) 0 hlw) rfl rfl rfl ?_ ?_ ?_ ?_; iterate 3 (focus (simp only [go_sem, simprocAttr]; done)))); try simp only [go_sem, simprocAttr]) | (intro h))
 (refine awp_new hX 3 22 (.own 3 1 []) (by simp only [go_sem, simprocAttr]) (by simp only [go_sem, simprocAttr]) (by decide) ⟨3, 1, by decide, .inl rfl⟩ ?_; simp only [go_sem, simprocAttr])
 refine awp_loopP (fun k : Nat => k ≤ g.n.toNat) (fun k => ⟨[(14, eN k), (13, eN g.n.toNat), (12, .d (.sl 1 (vwl (·.2) g))), (3, .ref 22), (2, .nil 3), (0, .d (vw' g))], [(22, .own 3 1 (((wts g []).take k).map rI))]⟩) (fun k => g.n.toNat - k) 0 (by simp) ?_ ?_
 ·(refine Le.of ?_ ?_ <;> simp [go_sem, simprocAttr])
 ·rintro k hk
  rcases Nat.lt_or_ge k g.n.toNat with hlt | hge
  ·have hb : decide ((k : Int) < (g.n.toNat : Int)) = true := decide_eq_true (by omega)
   have hv := vwl_getD (f := (·.2)) hlt
   have hl1 : (inL g k).length ≤ g.es.length := endsK_len
   have hlt' : ((wts g []).take k).length ≤ 64 := by rw [List.length_take, wts_length]; omega
   repeat' (first | fail | ((first | ((with_reducible (first | apply oA | apply oB)); exact rfl; intro K hK) | (refine hK _ ?_; clear hK K) | ((with_reducible (first | apply oG | apply oH)); iterate 3 exact rfl) | ((with_reducible apply oI); (iterate 2 exact rfl); intro K hK) | (with_reducible (first | apply wI | apply wJ | apply wK))); try simp only [go_sem, simprocAttr, hb, hv]) | fail | (with_reducible (first | apply oC | apply oJ | exact oK | apply wA | apply wB | apply wC hX hC | apply wD hX hC | apply wE hX hC hmix | apply wF hX hC hmix | apply wG | apply wH | apply And.intro)) | ((with_reducible refine oD ?_ ?_); first | fail | kernel_rfl) | ((with_reducible (first | apply oE | apply oF)); (iterate 3 exact rfl); all_goals (intro h; first | (exact absurd h (by decide)) | ((try simp only [go_sem, simprocAttr, hb, hv] at h); (try with_reducible intro K hK); simp only [go_sem, simprocAttr, hb, hv]))) | ((first | ((with_reducible apply wL); exact rfl) | ((with_reducible apply wM); exact rfl)); all_goals (try ((with_reducible intro h); first | (exact absurd h (by decide)) | (try simp only [go_sem, simprocAttr, hb, hv] at h)))) | omega | ((first | (refine acall_lend hX hC hP (indexI_spec (wts g out) 0 hlw) rfl rfl rfl ?_ ?_ ?_ ?_; iterate 3 (focus (simp only [go_sem, simprocAttr, hb, hv]; done)))); try simp only [go_sem, simprocAttr, hb, hv]) | (intro h))
   refine ⟨k + 1, by omega, ?_, by omega⟩
   refine Le.of ?_ ?_ <;> simp [go_sem, simprocAttr, hb, hv, wts_getL hlt]
   rfl
  ·obtain rfl : k = g.n.toNat := by omega
   have hb : decide ((g.n.toNat : Int) < (g.n.toNat : Int)) = false := decide_eq_false (by omega)
   have ht : (wts g []).take g.n.toNat = wts g [] := List.take_of_length_le (by rw [wts_length]; omega)
   repeat' (first | fail | ((first | ((with_reducible (first | apply oA | apply oB)); exact rfl; intro K hK) | (refine hK _ ?_; clear hK K) | ((with_reducible (first | apply oG | apply oH)); iterate 3 exact rfl) | ((with_reducible apply oI); (iterate 2 exact rfl); intro K hK) | (with_reducible (first | apply wI | apply wJ | apply wK))); try simp only [go_sem, simprocAttr, hb, ht]) | fail | (with_reducible (first | apply oC | apply oJ | exact oK | apply wA | apply wB | apply wC hX hC | apply wD hX hC | apply wE hX hC hmix | apply wF hX hC hmix | apply wG | apply wH | apply And.intro)) | ((with_reducible refine oD ?_ ?_); first | fail | kernel_rfl) | ((with_reducible (first | apply oE | apply oF)); (iterate 3 exact rfl); all_goals (intro h; first | (exact absurd h (by decide)) | ((try simp only [go_sem, simprocAttr, hb, ht] at h); (try with_reducible intro K hK); simp only [go_sem, simprocAttr, hb, ht]))) | ((first | ((with_reducible apply wL); exact rfl) | ((with_reducible apply wM); exact rfl)); all_goals (try ((with_reducible intro h); first | (exact absurd h (by decide)) | (try simp only [go_sem, simprocAttr, hb, ht] at h)))) | omega | ((first | (refine acall_lend hX hC hP (indexI_spec (wts g out) 0 hlw) rfl rfl rfl ?_ ?_ ?_ ?_; iterate 3 (focus (simp only [go_sem, simprocAttr, hb, ht]; done)))); try simp only [go_sem, simprocAttr, hb, ht]) | (intro h))
   (refine awp_new hX 2 33 (.tip 3 1 []) (by simp only [go_sem, simprocAttr, hb, ht]) (by simp only [go_sem, simprocAttr, hb, ht]) (by decide) ⟨3, 1, by decide, .inr rfl⟩ ?_; simp only [go_sem, simprocAttr, hb, ht])
   refine awp_loopP (fun out : List Int => Placed g out ∧ runF g (left g out) out = runG g) (fun out => ⟨[(3, .ref 22), (2, .ref 33), (0, .d (vw' g))], [(22, .own 3 1 ((wts g out).map rI)), (33, .tip 3 1 (out.map rI))]⟩) (left g) [] ⟨Placed.nil g, ?_⟩ ?_ ?_
   ·have := (Placed.nil g).fuel
    simp only [List.length_nil, Nat.zero_add] at this
    unfold left runG
    rw [this]
   ·(refine Le.of ?_ ?_ <;> simp [go_sem, simprocAttr, hb, ht])
   rintro out ⟨hpl, hrun⟩
   have hlw : (wts g out).length ≤ 9223372036854775807 := by rw [wts_length]; omega
   have hout : out.length ≤ 64 := by have := hpl.fuel; omega
   rcases idxW (g := g) out with hx | ⟨x, hx, hxn, hw0⟩
   ·have hr := runF_end (g := g) (out := out) (by omega) (left g out)
    rw [hrun] at hr
    repeat' (first | fail | ((first | ((with_reducible (first | apply oA | apply oB)); exact rfl; intro K hK) | (refine hK _ ?_; clear hK K) | ((with_reducible (first | apply oG | apply oH)); iterate 3 exact rfl) | ((with_reducible apply oI); (iterate 2 exact rfl); intro K hK) | (with_reducible (first | apply wI | apply wJ | apply wK))); try simp only [go_sem, simprocAttr, hx]) | fail | (with_reducible (first | apply oC | apply oJ | exact oK | apply wA | apply wB | apply wC hX hC | apply wD hX hC | apply wE hX hC hmix | apply wF hX hC hmix | apply wG | apply wH | apply And.intro)) | ((with_reducible refine oD ?_ ?_); first | fail | kernel_rfl) | ((with_reducible (first | apply oE | apply oF)); (iterate 3 exact rfl); all_goals (intro h; first | (exact absurd h (by decide)) | ((try simp only [go_sem, simprocAttr, hx] at h); (try with_reducible intro K hK); simp only [go_sem, simprocAttr, hx]))) | ((first | ((with_reducible apply wL); exact rfl) | ((with_reducible apply wM); exact rfl)); all_goals (try ((with_reducible intro h); first | (exact absurd h (by decide)) | (try simp only [go_sem, simprocAttr, hx] at h)))) | omega | ((first | (refine acall_lend hX hC hP (indexI_spec (wts g out) 0 hlw) rfl rfl rfl ?_ ?_ ?_ ?_; iterate 3 (focus (simp only [go_sem, simprocAttr, hx]; done)))); try simp only [go_sem, simprocAttr, hx]) | (intro h))
    ·rw [hr]
    ·rw [hr]
   ·obtain ⟨hpl', hxo, hbk⟩ := hpl.next hm hxn hw0
    have hb1 : decide ((x : Int) < 0) = false := decide_eq_false (by omega)
    have hv := vwl_getD (f := (·.1)) hxn
    have hl1 : (outL g x).length ≤ g.es.length := endsK_len
    repeat' (first | fail | ((first | ((with_reducible (first | apply oA | apply oB)); exact rfl; intro K hK) | (refine hK _ ?_; clear hK K) | ((with_reducible (first | apply oG | apply oH)); iterate 3 exact rfl) | ((with_reducible apply oI); (iterate 2 exact rfl); intro K hK) | (with_reducible (first | apply wI | apply wJ | apply wK))); try simp only [go_sem, simprocAttr, hx, hb1, hv]) | fail | (with_reducible (first | apply oC | apply oJ | exact oK | apply wA | apply wB | apply wC hX hC | apply wD hX hC | apply wE hX hC hmix | apply wF hX hC hmix | apply wG | apply wH | apply And.intro)) | ((with_reducible refine oD ?_ ?_); first | fail | kernel_rfl) | ((with_reducible (first | apply oE | apply oF)); (iterate 3 exact rfl); all_goals (intro h; first | (exact absurd h (by decide)) | ((try simp only [go_sem, simprocAttr, hx, hb1, hv] at h); (try with_reducible intro K hK); simp only [go_sem, simprocAttr, hx, hb1, hv]))) | ((first | ((with_reducible apply wL); exact rfl) | ((with_reducible apply wM); exact rfl)); all_goals (try ((with_reducible intro h); first | (exact absurd h (by decide)) | (try simp only [go_sem, simprocAttr, hx, hb1, hv] at h)))) | omega | ((first | (refine acall_lend hX hC hP (indexI_spec (wts g out) 0 hlw) rfl rfl rfl ?_ ?_ ?_ ?_; iterate 3 (focus (simp only [go_sem, simprocAttr, hx, hb1, hv]; done)))); try simp only [go_sem, simprocAttr, hx, hb1, hv]) | (intro h))
    refine awp_loopP (fun j : Nat => j ≤ (outL g x).length) (fun j => ⟨[(45, eN j), (44, eN (outL g x).length), (43, .d (sI (outL g x))), (3, .ref 22), (2, .ref 33), (0, .d (vw' g))], [(22, .own 3 1 ((wtps g out x j).map rI)), (33, .tip 3 1 ((out ++ [(x : Int)]).map rI))]⟩) (fun j => (outL g x).length - j) 0 (by simp) ?_ ?_
    ·refine Le.of ?_ ?_ <;> simp [go_sem, simprocAttr, hx, hb1, hv, outL, rI]
     rw [← wtps_zero, List.map_set]; rfl
    rintro j hj
    rcases Nat.lt_or_ge j (outL g x).length with hlt | hge
    ·have hb2 : decide ((j : Int) < ((outL g x).length : Int)) = true := decide_eq_true (by omega)
     obtain ⟨i, hi, hil, hit⟩ := outL_mem (List.getElem_mem hlt)
     have hi1 : (outL g x)[j]? = some (i : Int) := by rw [List.getElem?_eq_getElem hlt, hi]
     have hi2 : (outL g x).getD j 0 = (i : Int) := by rw [List.getD_eq_getElem?_getD, hi1]; rfl
     have hnew := hd_new hpl hxo hbk hil hit
     obtain ⟨_, he0, he1⟩ := mayB_e hm hil
     have hnext := wtps_next hi1 he0 hnew
     have hw : (wtps g out x j).getD (g.es.getD i (0, 0)).2.toNat 0 = wtp g out x j (hd g i).toNat := by
      rw [List.getD_eq_getElem?_getD, wtps_get (by omega)]; rfl
     have hbd := wtp_bound hm (out := out) (x := x) (j := j) (y := (hd g i).toNat)
     repeat' (first | fail | ((first | ((with_reducible (first | apply oA | apply oB)); exact rfl; intro K hK) | (refine hK _ ?_; clear hK K) | ((with_reducible (first | apply oG | apply oH)); iterate 3 exact rfl) | ((with_reducible apply oI); (iterate 2 exact rfl); intro K hK) | (with_reducible (first | apply wI | apply wJ | apply wK))); try simp only [go_sem, simprocAttr, hb2, hi2, hw]) | fail | (with_reducible (first | apply oC | apply oJ | exact oK | apply wA | apply wB | apply wC hX hC | apply wD hX hC | apply wE hX hC hmix | apply wF hX hC hmix | apply wG | apply wH | apply And.intro)) | ((with_reducible refine oD ?_ ?_); first | fail | kernel_rfl) | ((with_reducible (first | apply oE | apply oF)); (iterate 3 exact rfl); all_goals (intro h; first | (exact absurd h (by decide)) | ((try simp only [go_sem, simprocAttr, hb2, hi2, hw] at h); (try with_reducible intro K hK); simp only [go_sem, simprocAttr, hb2, hi2, hw]))) | ((first | ((with_reducible apply wL); exact rfl) | ((with_reducible apply wM); exact rfl)); all_goals (try ((with_reducible intro h); first | (exact absurd h (by decide)) | (try simp only [go_sem, simprocAttr, hb2, hi2, hw] at h)))) | omega | ((first | (refine acall_lend hX hC hP (indexI_spec (wts g out) 0 hlw) rfl rfl rfl ?_ ?_ ?_ ?_; iterate 3 (focus (simp only [go_sem, simprocAttr, hb2, hi2, hw]; done)))); try simp only [go_sem, simprocAttr, hb2, hi2, hw]) | (intro h))
     refine ⟨j + 1, by omega, ?_, by omega⟩
     refine Le.of ?_ ?_ <;> simp [go_sem, simprocAttr, hb2, hi2, hw]
     rw [← hnext, List.map_set]; rfl
    ·have hb2 : decide ((j : Int) < ((outL g x).length : Int)) = false := decide_eq_false (by omega)
     repeat' (first | fail | ((first | ((with_reducible (first | apply oA | apply oB)); exact rfl; intro K hK) | (refine hK _ ?_; clear hK K) | ((with_reducible (first | apply oG | apply oH)); iterate 3 exact rfl) | ((with_reducible apply oI); (iterate 2 exact rfl); intro K hK) | (with_reducible (first | apply wI | apply wJ | apply wK))); try simp only [go_sem, simprocAttr, hb2]) | fail | (with_reducible (first | apply oC | apply oJ | exact oK | apply wA | apply wB | apply wC hX hC | apply wD hX hC | apply wE hX hC hmix | apply wF hX hC hmix | apply wG | apply wH | apply And.intro)) | ((with_reducible refine oD ?_ ?_); first | fail | kernel_rfl) | ((with_reducible (first | apply oE | apply oF)); (iterate 3 exact rfl); all_goals (intro h; first | (exact absurd h (by decide)) | ((try simp only [go_sem, simprocAttr, hb2] at h); (try with_reducible intro K hK); simp only [go_sem, simprocAttr, hb2]))) | ((first | ((with_reducible apply wL); exact rfl) | ((with_reducible apply wM); exact rfl)); all_goals (try ((with_reducible intro h); first | (exact absurd h (by decide)) | (try simp only [go_sem, simprocAttr, hb2] at h)))) | omega | ((first | (refine acall_lend hX hC hP (indexI_spec (wts g out) 0 hlw) rfl rfl rfl ?_ ?_ ?_ ?_; iterate 3 (focus (simp only [go_sem, simprocAttr, hb2]; done)))); try simp only [go_sem, simprocAttr, hb2]) | (intro h))
     have hln := left_next hpl hpl'
     refine ⟨out ++ [(x : Int)], ⟨hpl', ?_⟩, ?_, by omega⟩
     ·rw [← hrun, hln]
      simp only [runF, hx]
      rw [if_neg (by omega)]
     ·refine Le.of ?_ ?_ <;> simp [go_sem, simprocAttr, hb2, wtps_end hxo hge]
end Go.Ab
end
section
namespace Go.Ab
open Go.Proofs
attribute [local congr] ACall.congr
set_option maxRecDepth 10000
def swapK (l : List Int) (k : Nat) : List Int := (List.range l.length).map fun p => if p < k ∨ l.length - 1 < p + k then l.getD (l.length - 1 - p) 0 else l.getD p 0
theorem swapK_length {l : List Int} {k : Nat} : (swapK l k).length = l.length := by simp [swapK]
theorem swapK_get {l : List Int} {k p : Nat} (h : p < l.length) : (swapK l k)[p]? = some (if p < k ∨ l.length - 1 < p + k then l.getD (l.length - 1 - p) 0 else l.getD p 0) := by
 simp [swapK, List.getElem?_range h]
theorem swapK_getD {l : List Int} {k p : Nat} (h : p < l.length) (d : Int) : (swapK l k).getD p d = if p < k ∨ l.length - 1 < p + k then l.getD (l.length - 1 - p) 0 else l.getD p 0 := by
 rw [List.getD_eq_getElem?_getD, swapK_get h]; rfl
theorem swapK_zero {l : List Int} : swapK l 0 = l := by
 refine List.ext_getElem? fun i => ?_
 by_cases hi : i < l.length
 ·rw [swapK_get hi, if_neg (by omega), List.getD_eq_getElem?_getD, List.getElem?_eq_getElem hi]; rfl
 ·rw [List.getElem?_eq_none (by rw [swapK_length]; omega), List.getElem?_eq_none (by omega)]
theorem swapK_end {l : List Int} {k : Nat} (h : l.length ≤ 2 * k + 1) : swapK l k = l.reverse := by
 refine List.ext_getElem? fun i => ?_
 by_cases hi : i < l.length
 ·rw [swapK_get hi, List.getElem?_reverse hi]
  split
  ·rw [List.getD_eq_getElem?_getD, List.getElem?_eq_getElem (by omega)]; rfl
  ·have : i = l.length - 1 - i := by omega
   rw [← this, List.getD_eq_getElem?_getD, List.getElem?_eq_getElem hi]; rfl
 ·rw [List.getElem?_eq_none (by rw [swapK_length]; omega), List.getElem?_eq_none (by rw [List.length_reverse]; omega)]
theorem swapK_next {l : List Int} {k : Nat} (h : k < l.length - 1 - k) : ((swapK l k).set k ((swapK l k).getD (l.length - 1 - k) 0)).set (l.length - 1 - k) ((swapK l k).getD k 0) = swapK l (k + 1) := by
 refine List.ext_getElem? fun i => ?_
 rw [List.getElem?_set, List.length_set, swapK_length, List.getElem?_set, swapK_length]
 by_cases hi : i < l.length
 ·rw [swapK_get hi, swapK_get hi, swapK_getD (by omega), swapK_getD (by omega)]
  by_cases h1 : l.length - 1 - k = i
  ·rw [if_pos h1, if_pos (by omega), if_neg (by omega), if_pos (by omega)]
   congr 2; omega
  ·rw [if_neg h1]
   by_cases h2 : k = i
   ·rw [if_pos h2, if_pos (by omega), if_neg (by omega), if_pos (by omega)]
    congr 2; omega
   ·rw [if_neg h2]
    congr 1
    by_cases h3 : i < k ∨ l.length - 1 < i + k
    ·rw [if_pos h3, if_pos (by omega)]
    ·rw [if_neg h3, if_neg (by omega)]
 ·rw [List.getElem?_eq_none (by rw [swapK_length]; omega), List.getElem?_eq_none (by rw [swapK_length]; omega), if_neg (by omega), if_neg (by omega)]
theorem reverse_spec (l : List Int) (hl : l.length ≤ 1000000) : Spec Tryz.prog 48 (Args [.ref 10000]) [(10000, .part 3 1 (l.map rI))] (.tup []) [(10000, .part 3 1 (l.reverse.map rI))] := by
 (refine Spec.intro (C := T.cfg [] []) (rs := []) (T.cfg_ok _ _) Tryz.func48 rfl rfl Tryz.ntmps48 Tryz.results48 (by simp [AObj.isNest]) (by simp [AObj.isNest]) (by kernel_rfl) ?_; intro X hX hP hC hXn hXm vals hA; refine ⟨_, by simp, hA, ?_⟩; have hmix : X.P.follows .mixedOrders = true := (by rw [hP]; exact T.mixed); clear hXn hXm)
 repeat' (first | fail | ((first | ((with_reducible (first | apply oA | apply oB)); exact rfl; intro K hK) | (refine hK _ ?_; clear hK K) | ((with_reducible (first | apply oG | apply oH)); iterate 3 exact rfl) | ((with_reducible apply oI); (iterate 2 exact rfl); intro K hK) | (with_reducible (first | apply wI | apply wJ | apply wK))); try simp only [go_sem, simprocAttr]) | fail | (with_reducible (first | apply oC | apply oJ | exact oK | apply wA | apply wB | apply wC hX hC | apply wD hX hC | apply wE hX hC hmix | apply wF hX hC hmix | apply wG | apply wH | apply And.intro)) | ((with_reducible refine oD ?_ ?_); first | fail | kernel_rfl) | ((with_reducible (first | apply oE | apply oF)); (iterate 3 exact rfl); all_goals (intro h; first | (exact absurd h (by decide)) | ((try simp only [go_sem, simprocAttr] at h); (try with_reducible intro K hK); simp only [go_sem, simprocAttr]))) | ((first | ((with_reducible apply wL); exact rfl) | ((with_reducible apply wM); exact rfl)); all_goals (try ((with_reducible intro h); first | (exact absurd h (by decide)) | (try simp only [go_sem, simprocAttr] at h)))) | omega | ((first | fail); try simp only [go_sem, simprocAttr]) | (intro h))
 refine awp_loopP (fun k : Nat => 2 * k ≤ l.length + 1) (fun k => ⟨[(0, .ref 10000), (2, eN k), (3, eN ((l.length : Int) - 1 - k))], [(10000, .part 3 1 ((swapK l k).map rI))]⟩) (fun k => l.length + 1 - k) 0 (by omega) ?_ ?_
 ·refine Le.of ?_ ?_ <;> simp [go_sem, simprocAttr, swapK_zero]
 rintro k hk
 rcases Nat.lt_or_ge (2 * k + 1) l.length with hlt | hge
 ·have hb : decide ((k : Int) < (l.length : Int) - 1 - (k : Int)) = true := decide_eq_true (by omega)
  have ht : ((l.length : Int) - 1 - (k : Int)).toNat = l.length - 1 - k := by omega
  repeat' (first | fail | ((first | ((with_reducible (first | apply oA | apply oB)); exact rfl; intro K hK) | (refine hK _ ?_; clear hK K) | ((with_reducible (first | apply oG | apply oH)); iterate 3 exact rfl) | ((with_reducible apply oI); (iterate 2 exact rfl); intro K hK) | (with_reducible (first | apply wI | apply wJ | apply wK))); try simp only [go_sem, simprocAttr, hb, ht, swapK_length, set_rI]) | fail | (with_reducible (first | apply oC | apply oJ | exact oK | apply wA | apply wB | apply wC hX hC | apply wD hX hC | apply wE hX hC hmix | apply wF hX hC hmix | apply wG | apply wH | apply And.intro)) | ((with_reducible refine oD ?_ ?_); first | fail | kernel_rfl) | ((with_reducible (first | apply oE | apply oF)); (iterate 3 exact rfl); all_goals (intro h; first | (exact absurd h (by decide)) | ((try simp only [go_sem, simprocAttr, hb, ht, swapK_length, set_rI] at h); (try with_reducible intro K hK); simp only [go_sem, simprocAttr, hb, ht, swapK_length, set_rI]))) | ((first | ((with_reducible apply wL); exact rfl) | ((with_reducible apply wM); exact rfl)); all_goals (try ((with_reducible intro h); first | (exact absurd h (by decide)) | (try simp only [go_sem, simprocAttr, hb, ht, swapK_length, set_rI] at h)))) | omega | ((first | fail); try simp only [go_sem, simprocAttr, hb, ht, swapK_length, set_rI]) | (intro h))
  refine ⟨k + 1, by omega, ?_, by omega⟩
  refine Le.of ?_ ?_ <;> simp [go_sem, simprocAttr]
  ·omega
  ·rw [← swapK_next (by omega), List.map_set, List.map_set]
   simp only [List.getD_eq_getElem?_getD]
 ·have hb : decide ((k : Int) < (l.length : Int) - 1 - (k : Int)) = false := decide_eq_false (by omega)
  repeat' (first | fail | ((first | ((with_reducible (first | apply oA | apply oB)); exact rfl; intro K hK) | (refine hK _ ?_; clear hK K) | ((with_reducible (first | apply oG | apply oH)); iterate 3 exact rfl) | ((with_reducible apply oI); (iterate 2 exact rfl); intro K hK) | (with_reducible (first | apply wI | apply wJ | apply wK))); try simp only [go_sem, simprocAttr, hb]) | fail | (with_reducible (first | apply oC | apply oJ | exact oK | apply wA | apply wB | apply wC hX hC | apply wD hX hC | apply wE hX hC hmix | apply wF hX hC hmix | apply wG | apply wH | apply And.intro)) | ((with_reducible refine oD ?_ ?_); first | fail | kernel_rfl) | ((with_reducible (first | apply oE | apply oF)); (iterate 3 exact rfl); all_goals (intro h; first | (exact absurd h (by decide)) | ((try simp only [go_sem, simprocAttr, hb] at h); (try with_reducible intro K hK); simp only [go_sem, simprocAttr, hb]))) | ((first | ((with_reducible apply wL); exact rfl) | ((with_reducible apply wM); exact rfl)); all_goals (try ((with_reducible intro h); first | (exact absurd h (by decide)) | (try simp only [go_sem, simprocAttr, hb] at h)))) | omega | ((first | fail); try simp only [go_sem, simprocAttr, hb]) | (intro h))
  simp only [go_sem, simprocAttr, hb, swapK_end hge]
def minL : List Int → Int
 | [] => 0
 | a :: r => r.foldl min a
theorem minL_next {l : List Int} {k : Nat} (h0 : 0 < k) (h : k < l.length) : minL (l.take (k + 1)) = min (minL (l.take k)) (l.getD k 0) := by
 cases l with
 | nil => simp at h
 | cons a r =>
  obtain ⟨k, rfl⟩ : ∃ j, k = j + 1 := ⟨k - 1, by omega⟩
  simp only [List.length_cons] at h
  simp only [List.take_succ_cons, minL, List.getD_cons_succ]
  rw [List.take_add_one, List.foldl_append, List.getElem?_eq_getElem (by omega), List.getD_eq_getElem?_getD, List.getElem?_eq_getElem (by omega)]
  rfl
theorem minL_one {l : List Int} (h : 0 < l.length) : minL (l.take 1) = l.getD 0 0 := by
 cases l with
 | nil => simp at h
 | cons a r => simp [minL]
theorem min_spec (l : List Int) (h0 : 0 < l.length) (hl : l.length ≤ 1000000) : Spec Tryz.prog 139 (Args [.d (sI l)]) [] (eN (minL l)) [] := by
 (refine Spec.intro (C := T.cfg [] []) (rs := [.t 2]) (T.cfg_ok _ _) Tryz.func139 rfl rfl Tryz.ntmps139 Tryz.results139 (by simp [AObj.isNest]) (by simp [AObj.isNest]) (by kernel_rfl) ?_; intro X hX hP hC hXn hXm vals hA; refine ⟨_, by simp, hA, ?_⟩; have hmix : X.P.follows .mixedOrders = true := (by rw [hP]; exact T.mixed); clear hXn hXm)
 repeat' (first | fail | ((first | ((with_reducible (first | apply oA | apply oB)); exact rfl; intro K hK) | (refine hK _ ?_; clear hK K) | ((with_reducible (first | apply oG | apply oH)); iterate 3 exact rfl) | ((with_reducible apply oI); (iterate 2 exact rfl); intro K hK) | (with_reducible (first | apply wI | apply wJ | apply wK))); try simp only [go_sem, simprocAttr]) | fail | (with_reducible (first | apply oC | apply oJ | exact oK | apply wA | apply wB | apply wC hX hC | apply wD hX hC | apply wE hX hC hmix | apply wF hX hC hmix | apply wG | apply wH | apply And.intro)) | ((with_reducible refine oD ?_ ?_); first | fail | kernel_rfl) | ((with_reducible (first | apply oE | apply oF)); (iterate 3 exact rfl); all_goals (intro h; first | (exact absurd h (by decide)) | ((try simp only [go_sem, simprocAttr] at h); (try with_reducible intro K hK); simp only [go_sem, simprocAttr]))) | ((first | ((with_reducible apply wL); exact rfl) | ((with_reducible apply wM); exact rfl)); all_goals (try ((with_reducible intro h); first | (exact absurd h (by decide)) | (try simp only [go_sem, simprocAttr] at h)))) | omega | ((first | fail); try simp only [go_sem, simprocAttr]) | (intro h))
 refine awp_loopP (fun k : Nat => 0 < k ∧ k ≤ l.length) (fun k => ⟨[(0, .d (sI l)), (3, eN (minL (l.take k))), (4, eN k)], []⟩) (fun k => l.length - k) 1 (by omega) ?_ ?_
 ·refine Le.of ?_ ?_ <;> simp [go_sem, simprocAttr, minL_one h0]
 rintro k ⟨hk0, hk⟩
 repeat' (first | fail | ((first | ((with_reducible (first | apply oA | apply oB)); exact rfl; intro K hK) | (refine hK _ ?_; clear hK K) | ((with_reducible (first | apply oG | apply oH)); iterate 3 exact rfl) | ((with_reducible apply oI); (iterate 2 exact rfl); intro K hK) | (with_reducible (first | apply wI | apply wJ | apply wK))); try simp only [go_sem, simprocAttr]) | fail | (with_reducible (first | apply oC | apply oJ | exact oK | apply wA | apply wB | apply wC hX hC | apply wD hX hC | apply wE hX hC hmix | apply wF hX hC hmix | apply wG | apply wH | apply And.intro)) | ((with_reducible refine oD ?_ ?_); first | fail | kernel_rfl) | ((with_reducible (first | apply oE | apply oF)); (iterate 3 exact rfl); all_goals (intro h; first | (exact absurd h (by decide)) | ((try simp only [go_sem, simprocAttr] at h); (try with_reducible intro K hK); simp only [go_sem, simprocAttr]))) | ((first | ((with_reducible apply wL); exact rfl) | ((with_reducible apply wM); exact rfl)); all_goals (try ((with_reducible intro h); first | (exact absurd h (by decide)) | (try simp only [go_sem, simprocAttr] at h)))) | omega | ((first | fail); try simp only [go_sem, simprocAttr]) | (intro h))
 ·refine ⟨k + 1, by omega, ?_, by omega⟩
  refine Le.of ?_ ?_ <;> simp [go_sem, simprocAttr]
  rw [minL_next hk0 (by omega), List.getD_eq_getElem?_getD]
 ·rw [List.take_of_length_le (by omega)]
theorem grow_spec (n : Int) (h0 : 0 < n) (hl : n ≤ 1000000) : Spec Tryz.prog 158 (Args [.nil 3, eN n]) [] (.ref 10000) [(10000, .own 3 1 [])] := by
 (refine Spec.introR (C := T.cfg [] []) (rs := [.t 4]) [(10000, 25)] (T.cfg_ok _ _) Tryz.func158 rfl rfl Tryz.ntmps158 Tryz.results158 (by simp [AObj.isNest]) (by simp [AObj.isNest]) (by first | (simp [look]; done) | (simp [asN]; done) | (intro l hl; simp only [asN]; repeat (rw [if_neg (fun e => by subst e; simp [look] at hl)]))) (by first | (simp [look]; done) | (simp [asN]; done) | (intro l hl; simp only [asN]; repeat (rw [if_neg (fun e => by subst e; simp [look] at hl)]))) (by kernel_rfl) ?_; intro X hX hP hC hXn hXm vals hA; refine ⟨_, by simp, hA, ?_⟩; have hmix : X.P.follows .mixedOrders = true := (by rw [hP]; exact T.mixed); clear hXn hXm)
 repeat' (first | fail | ((first | ((with_reducible (first | apply oA | apply oB)); exact rfl; intro K hK) | (refine hK _ ?_; clear hK K) | ((with_reducible (first | apply oG | apply oH)); iterate 3 exact rfl) | ((with_reducible apply oI); (iterate 2 exact rfl); intro K hK) | (with_reducible (first | apply wI | apply wJ | apply wK))); try simp only [go_sem, simprocAttr]) | fail | (with_reducible (first | apply oC | apply oJ | exact oK | apply wA | apply wB | apply wC hX hC | apply wD hX hC | apply wE hX hC hmix | apply wF hX hC hmix | apply wG | apply wH | apply And.intro)) | ((with_reducible refine oD ?_ ?_); first | fail | kernel_rfl) | ((with_reducible (first | apply oE | apply oF)); (iterate 3 exact rfl); all_goals (intro h; first | (exact absurd h (by decide)) | ((try simp only [go_sem, simprocAttr] at h); (try with_reducible intro K hK); simp only [go_sem, simprocAttr]))) | ((first | ((with_reducible apply wL); exact rfl) | ((with_reducible apply wM); exact rfl)); all_goals (try ((with_reducible intro h); first | (exact absurd h (by decide)) | (try simp only [go_sem, simprocAttr] at h)))) | omega | ((first | fail); try simp only [go_sem, simprocAttr]) | (intro h))
end Go.Ab
end
section
namespace Go.Ab
open Go.Proofs
attribute [local congr] ACall.congr
set_option maxRecDepth 10000
def vL (ls : List (List Int)) : List (List D) := ls.map fun l => [sI l]
theorem vL_length {ls : List (List Int)} : (vL ls).length = ls.length := by simp [vL]
theorem vL_getD {ls : List (List Int)} {k : Nat} (h : k < ls.length) (d : List D) : (vL ls).getD k d = [sI (ls.getD k [])] := by
 simp [vL, List.getD_eq_getElem?_getD, List.getElem?_eq_getElem h]
attribute [go_sem] vL_length
theorem flat_next {ls : List (List Int)} {k : Nat} (h : k < ls.length) : (ls.take (k + 1)).flatten = (ls.take k).flatten ++ ls.getD k [] := by
 rw [List.take_add_one, List.flatten_append, List.getElem?_eq_getElem h, List.getD_eq_getElem?_getD, List.getElem?_eq_getElem h]
 simp
theorem flat_le {ls : List (List Int)} {k : Nat} : (ls.take k).flatten.length ≤ ls.flatten.length := by
 have := congrArg (fun x => x.flatten.length) (List.take_append_drop k ls)
 simp only [List.flatten_append, List.length_append] at this
 omega
theorem concat_spec (ls : List (List Int)) (hn : ls.length ≤ 1000) (h0 : 0 < ls.flatten.length) (hl : ls.flatten.length ≤ 1000000) : Spec Tryz.prog 140 (Args [.d (.sl 1 (vL ls))]) [] (.d (sI ls.flatten)) [] := by
 (refine Spec.intro (C := T.cfg [] []) (rs := [.t 2]) (T.cfg_ok _ _) Tryz.func140 rfl rfl Tryz.ntmps140 Tryz.results140 (by simp [AObj.isNest]) (by simp [AObj.isNest]) (by kernel_rfl) ?_; intro X hX hP hC hXn hXm vals hA; refine ⟨_, by simp, hA, ?_⟩; have hmix : X.P.follows .mixedOrders = true := (by rw [hP]; exact T.mixed); clear hXn hXm)
 repeat' (first | fail | ((first | ((with_reducible (first | apply oA | apply oB)); exact rfl; intro K hK) | (refine hK _ ?_; clear hK K) | ((with_reducible (first | apply oG | apply oH)); iterate 3 exact rfl) | ((with_reducible apply oI); (iterate 2 exact rfl); intro K hK) | (with_reducible (first | apply wI | apply wJ | apply wK))); try simp only [go_sem, simprocAttr]) | fail | (with_reducible (first | apply oC | apply oJ | exact oK | apply wA | apply wB | apply wC hX hC | apply wD hX hC | apply wE hX hC hmix | apply wF hX hC hmix | apply wG | apply wH | apply And.intro)) | ((with_reducible refine oD ?_ ?_); first | fail | kernel_rfl) | ((with_reducible (first | apply oE | apply oF)); (iterate 3 exact rfl); all_goals (intro h; first | (exact absurd h (by decide)) | ((try simp only [go_sem, simprocAttr] at h); (try with_reducible intro K hK); simp only [go_sem, simprocAttr]))) | ((first | ((with_reducible apply wL); exact rfl) | ((with_reducible apply wM); exact rfl)); all_goals (try ((with_reducible intro h); first | (exact absurd h (by decide)) | (try simp only [go_sem, simprocAttr] at h)))) | omega | ((first | (refine acall_gen hX hC hP [(10000, 33)] (grow_spec (ls.flatten.length : Int) (by omega) (by omega)) rfl rfl rfl ?_ ?_ ?_ ?_ ?_ ?_ ?_ ?_ ?_ ?_ ?_ ?_ ?_ ?_; (focus (simp only [go_sem, simprocAttr]; done)); (iterate 12 (focus (simp [go_sem, simprocAttr]; done))); simp only [go_sem, simprocAttr, List.map_cons, List.map_nil])); try simp only [go_sem, simprocAttr]) | (intro h))
 refine awp_loopP (fun k : Nat => k ≤ ls.length) (fun k => ⟨[(0, .d (.sl 1 (vL ls))), (9, .d (.sl 1 (vL ls))), (10, eN ls.length), (11, eN k), (3, eN ((ls.take k).flatten.length))], []⟩) (fun k => ls.length - k) 0 (by omega) ?_ ?_
 ·(refine Le.of ?_ ?_ <;> simp [go_sem, simprocAttr])
 ·rintro k hk
  rcases Nat.lt_or_ge k ls.length with hlt | hge
  ·have hb : decide ((k : Int) < (ls.length : Int)) = true := decide_eq_true (by omega)
   have hv := vL_getD hlt
   have hf := flat_next hlt
   have hf1 := flat_le (ls := ls) (k := k)
   have hf2 := flat_le (ls := ls) (k := k + 1)
   rw [hf, List.length_append] at hf2
   have hneg : decide (((ls.take k).flatten.length : Int) + ((ls.getD k []).length : Int) < 0) = false := decide_eq_false (by omega)
   repeat' (first | fail | ((first | ((with_reducible (first | apply oA | apply oB)); exact rfl; intro K hK) | (refine hK _ ?_; clear hK K) | ((with_reducible (first | apply oG | apply oH)); iterate 3 exact rfl) | ((with_reducible apply oI); (iterate 2 exact rfl); intro K hK) | (with_reducible (first | apply wI | apply wJ | apply wK))); try simp only [go_sem, simprocAttr, hb, hv, hneg]) | fail | (with_reducible (first | apply oC | apply oJ | exact oK | apply wA | apply wB | apply wC hX hC | apply wD hX hC | apply wE hX hC hmix | apply wF hX hC hmix | apply wG | apply wH | apply And.intro)) | ((with_reducible refine oD ?_ ?_); first | fail | kernel_rfl) | ((with_reducible (first | apply oE | apply oF)); (iterate 3 exact rfl); all_goals (intro h; first | (exact absurd h (by decide)) | ((try simp only [go_sem, simprocAttr, hb, hv, hneg] at h); (try with_reducible intro K hK); simp only [go_sem, simprocAttr, hb, hv, hneg]))) | ((first | ((with_reducible apply wL); exact rfl) | ((with_reducible apply wM); exact rfl)); all_goals (try ((with_reducible intro h); first | (exact absurd h (by decide)) | (try simp only [go_sem, simprocAttr, hb, hv, hneg] at h)))) | omega | ((first | (refine acall_gen hX hC hP [(10000, 33)] (grow_spec (ls.flatten.length : Int) (by omega) (by omega)) rfl rfl rfl ?_ ?_ ?_ ?_ ?_ ?_ ?_ ?_ ?_ ?_ ?_ ?_ ?_ ?_; (focus (simp only [go_sem, simprocAttr, hb, hv, hneg]; done)); (iterate 12 (focus (simp [go_sem, simprocAttr, hb, hv, hneg]; done))); simp only [go_sem, simprocAttr, hb, hv, hneg, List.map_cons, List.map_nil])); try simp only [go_sem, simprocAttr, hb, hv, hneg]) | (intro h))
   refine ⟨k + 1, by omega, ?_, by omega⟩
   simp only [hf]
   refine Le.of ?_ ?_ <;> simp [go_sem, simprocAttr, hb, hv, hneg]
  ·have hb : decide ((k : Int) < (ls.length : Int)) = false := decide_eq_false (by omega)
   have ht : ls.take k = ls := List.take_of_length_le (by omega)
   repeat' (first | fail | ((first | ((with_reducible (first | apply oA | apply oB)); exact rfl; intro K hK) | (refine hK _ ?_; clear hK K) | ((with_reducible (first | apply oG | apply oH)); iterate 3 exact rfl) | ((with_reducible apply oI); (iterate 2 exact rfl); intro K hK) | (with_reducible (first | apply wI | apply wJ | apply wK))); try simp only [go_sem, simprocAttr, hb, ht]) | fail | (with_reducible (first | apply oC | apply oJ | exact oK | apply wA | apply wB | apply wC hX hC | apply wD hX hC | apply wE hX hC hmix | apply wF hX hC hmix | apply wG | apply wH | apply And.intro)) | ((with_reducible refine oD ?_ ?_); first | fail | kernel_rfl) | ((with_reducible (first | apply oE | apply oF)); (iterate 3 exact rfl); all_goals (intro h; first | (exact absurd h (by decide)) | ((try simp only [go_sem, simprocAttr, hb, ht] at h); (try with_reducible intro K hK); simp only [go_sem, simprocAttr, hb, ht]))) | ((first | ((with_reducible apply wL); exact rfl) | ((with_reducible apply wM); exact rfl)); all_goals (try ((with_reducible intro h); first | (exact absurd h (by decide)) | (try simp only [go_sem, simprocAttr, hb, ht] at h)))) | omega | ((first | (refine acall_gen hX hC hP [(10000, 33)] (grow_spec (ls.flatten.length : Int) (by omega) (by omega)) rfl rfl rfl ?_ ?_ ?_ ?_ ?_ ?_ ?_ ?_ ?_ ?_ ?_ ?_ ?_ ?_; (focus (simp only [go_sem, simprocAttr, hb, ht]; done)); (iterate 12 (focus (simp [go_sem, simprocAttr, hb, ht]; done))); simp only [go_sem, simprocAttr, hb, ht, List.map_cons, List.map_nil])); try simp only [go_sem, simprocAttr, hb, ht]) | (intro h))
   refine awp_loopP (fun k : Nat => k ≤ ls.length) (fun k => ⟨[(25, .d (.sl 1 (vL ls))), (26, eN ls.length), (27, eN k), (6, .ref 33)], [(33, .own 3 1 ((ls.take k).flatten.map rI))]⟩) (fun k => ls.length - k) 0 (by omega) ?_ ?_
   ·(refine Le.of ?_ ?_ <;> simp [go_sem, simprocAttr, hb, ht])
   ·clear hb ht hk hge
    rintro k hk
    rcases Nat.lt_or_ge k ls.length with hlt | hge
    ·have hb : decide ((k : Int) < (ls.length : Int)) = true := decide_eq_true (by omega)
     have hv := vL_getD hlt
     have hf := flat_next hlt
     have hf1 := flat_le (ls := ls) (k := k)
     have hf2 := flat_le (ls := ls) (k := k + 1)
     rw [hf, List.length_append] at hf2
     repeat' (first | fail | ((first | ((with_reducible (first | apply oA | apply oB)); exact rfl; intro K hK) | (refine hK _ ?_; clear hK K) | ((with_reducible (first | apply oG | apply oH)); iterate 3 exact rfl) | ((with_reducible apply oI); (iterate 2 exact rfl); intro K hK) | (with_reducible (first | apply wI | apply wJ | apply wK))); try simp only [go_sem, simprocAttr, hb, hv]) | fail | (with_reducible (first | apply oC | apply oJ | exact oK | apply wA | apply wB | apply wC hX hC | apply wD hX hC | apply wE hX hC hmix | apply wF hX hC hmix | apply wG | apply wH | apply And.intro)) | ((with_reducible refine oD ?_ ?_); first | fail | kernel_rfl) | ((with_reducible (first | apply oE | apply oF)); (iterate 3 exact rfl); all_goals (intro h; first | (exact absurd h (by decide)) | ((try simp only [go_sem, simprocAttr, hb, hv] at h); (try with_reducible intro K hK); simp only [go_sem, simprocAttr, hb, hv]))) | ((first | ((with_reducible apply wL); exact rfl) | ((with_reducible apply wM); exact rfl)); all_goals (try ((with_reducible intro h); first | (exact absurd h (by decide)) | (try simp only [go_sem, simprocAttr, hb, hv] at h)))) | omega | ((first | (refine acall_gen hX hC hP [(10000, 33)] (grow_spec (ls.flatten.length : Int) (by omega) (by omega)) rfl rfl rfl ?_ ?_ ?_ ?_ ?_ ?_ ?_ ?_ ?_ ?_ ?_ ?_ ?_ ?_; (focus (simp only [go_sem, simprocAttr, hb, hv]; done)); (iterate 12 (focus (simp [go_sem, simprocAttr, hb, hv]; done))); simp only [go_sem, simprocAttr, hb, hv, List.map_cons, List.map_nil])); try simp only [go_sem, simprocAttr, hb, hv]) | (intro h))
     refine ⟨k + 1, by omega, ?_, by omega⟩
     simp only [hf]
     refine Le.of ?_ ?_ <;> simp [go_sem, simprocAttr, hb, hv]
    ·have hb : decide ((k : Int) < (ls.length : Int)) = false := decide_eq_false (by omega)
     have ht : ls.take k = ls := List.take_of_length_le (by omega)
     repeat' (first | fail | ((first | ((with_reducible (first | apply oA | apply oB)); exact rfl; intro K hK) | (refine hK _ ?_; clear hK K) | ((with_reducible (first | apply oG | apply oH)); iterate 3 exact rfl) | ((with_reducible apply oI); (iterate 2 exact rfl); intro K hK) | (with_reducible (first | apply wI | apply wJ | apply wK))); try simp only [go_sem, simprocAttr, hb, ht]) | fail | (with_reducible (first | apply oC | apply oJ | exact oK | apply wA | apply wB | apply wC hX hC | apply wD hX hC | apply wE hX hC hmix | apply wF hX hC hmix | apply wG | apply wH | apply And.intro)) | ((with_reducible refine oD ?_ ?_); first | fail | kernel_rfl) | ((with_reducible (first | apply oE | apply oF)); (iterate 3 exact rfl); all_goals (intro h; first | (exact absurd h (by decide)) | ((try simp only [go_sem, simprocAttr, hb, ht] at h); (try with_reducible intro K hK); simp only [go_sem, simprocAttr, hb, ht]))) | ((first | ((with_reducible apply wL); exact rfl) | ((with_reducible apply wM); exact rfl)); all_goals (try ((with_reducible intro h); first | (exact absurd h (by decide)) | (try simp only [go_sem, simprocAttr, hb, ht] at h)))) | omega | ((first | (refine acall_gen hX hC hP [(10000, 33)] (grow_spec (ls.flatten.length : Int) (by omega) (by omega)) rfl rfl rfl ?_ ?_ ?_ ?_ ?_ ?_ ?_ ?_ ?_ ?_ ?_ ?_ ?_ ?_; (focus (simp only [go_sem, simprocAttr, hb, ht]; done)); (iterate 12 (focus (simp [go_sem, simprocAttr, hb, ht]; done))); simp only [go_sem, simprocAttr, hb, ht, List.map_cons, List.map_nil])); try simp only [go_sem, simprocAttr, hb, ht]) | (intro h))
def bareK (ls : List (List Int)) (k : Nat) : List Int := ((List.range k).filter fun x => decide ((ls.getD x []).length = 0)).map Int.ofNat
theorem bareK_next {ls : List (List Int)} {k : Nat} : bareK ls (k + 1) = bareK ls k ++ if (ls.getD k []).length = 0 then [(k : Int)] else [] := by
 simp only [bareK, List.range_succ, List.filter_append, List.map_append, List.filter_cons, List.filter_nil]
 split <;> simp_all
theorem bareK_len {ls : List (List Int)} {k : Nat} : (bareK ls k).length ≤ k := by
 simpa [bareK] using List.length_filter_le (fun x => decide ((ls.getD x []).length = 0)) (List.range k)
theorem bare_spec (ls : List (List Int)) (hn : ls.length ≤ 1000) : Spec Tryz.prog 96 (Args [.d (.sl 1 (vL ls))]) [] (.d (sI (bareK ls ls.length))) [] := by
 (refine Spec.intro (C := T.cfg [] []) (rs := [.t 2]) (T.cfg_ok _ _) Tryz.func96 rfl rfl Tryz.ntmps96 Tryz.results96 (by simp [AObj.isNest]) (by simp [AObj.isNest]) (by kernel_rfl) ?_; intro X hX hP hC hXn hXm vals hA; refine ⟨_, by simp, hA, ?_⟩; have hmix : X.P.follows .mixedOrders = true := (by rw [hP]; exact T.mixed); clear hXn hXm)
 repeat' (first | fail | ((first | ((with_reducible (first | apply oA | apply oB)); exact rfl; intro K hK) | (refine hK _ ?_; clear hK K) | ((with_reducible (first | apply oG | apply oH)); iterate 3 exact rfl) | ((with_reducible apply oI); (iterate 2 exact rfl); intro K hK) | (with_reducible (first | apply wI | apply wJ | apply wK))); try simp only [go_sem, simprocAttr]) | fail | (with_reducible (first | apply oC | apply oJ | exact oK | apply wA | apply wB | apply wC hX hC | apply wD hX hC | apply wE hX hC hmix | apply wF hX hC hmix | apply wG | apply wH | apply And.intro)) | ((with_reducible refine oD ?_ ?_); first | fail | kernel_rfl) | ((with_reducible (first | apply oE | apply oF)); (iterate 3 exact rfl); all_goals (intro h; first | (exact absurd h (by decide)) | ((try simp only [go_sem, simprocAttr] at h); (try with_reducible intro K hK); simp only [go_sem, simprocAttr]))) | ((first | ((with_reducible apply wL); exact rfl) | ((with_reducible apply wM); exact rfl)); all_goals (try ((with_reducible intro h); first | (exact absurd h (by decide)) | (try simp only [go_sem, simprocAttr] at h)))) | omega | ((first | (refine acall_gen hX hC hP [(10000, 33)] (grow_spec (ls.flatten.length : Int) (by omega) (by omega)) rfl rfl rfl ?_ ?_ ?_ ?_ ?_ ?_ ?_ ?_ ?_ ?_ ?_ ?_ ?_ ?_; (focus (simp only [go_sem, simprocAttr]; done)); (iterate 12 (focus (simp [go_sem, simprocAttr]; done))); simp only [go_sem, simprocAttr, List.map_cons, List.map_nil])); try simp only [go_sem, simprocAttr]) | (intro h))
 (refine awp_new hX 2 18 (.tip 3 1 []) (by simp only [go_sem, simprocAttr]) (by simp only [go_sem, simprocAttr]) (by decide) ⟨3, 1, by decide, .inr rfl⟩ ?_; simp only [go_sem, simprocAttr])
 refine awp_loopP (fun k : Nat => k ≤ ls.length) (fun k => ⟨[(5, .d (.sl 1 (vL ls))), (6, eN ls.length), (7, eN k), (2, .ref 18)], [(18, .tip 3 1 ((bareK ls k).map rI))]⟩) (fun k => ls.length - k) 0 (by omega) ?_ ?_
 ·refine Le.of ?_ ?_ <;> simp [go_sem, simprocAttr, bareK]
 ·rintro k hk
  rcases Nat.lt_or_ge k ls.length with hlt | hge
  ·have hb : decide ((k : Int) < (ls.length : Int)) = true := decide_eq_true (by omega)
   have hv := vL_getD hlt
   have hlen := bareK_len (ls := ls) (k := k)
   repeat' (first | fail | ((first | ((with_reducible (first | apply oA | apply oB)); exact rfl; intro K hK) | (refine hK _ ?_; clear hK K) | ((with_reducible (first | apply oG | apply oH)); iterate 3 exact rfl) | ((with_reducible apply oI); (iterate 2 exact rfl); intro K hK) | (with_reducible (first | apply wI | apply wJ | apply wK))); try simp only [go_sem, simprocAttr, hb, hv]) | fail | (with_reducible (first | apply oC | apply oJ | exact oK | apply wA | apply wB | apply wC hX hC | apply wD hX hC | apply wE hX hC hmix | apply wF hX hC hmix | apply wG | apply wH | apply And.intro)) | ((with_reducible refine oD ?_ ?_); first | fail | kernel_rfl) | ((with_reducible (first | apply oE | apply oF)); (iterate 3 exact rfl); all_goals (intro h; first | (exact absurd h (by decide)) | ((try simp only [go_sem, simprocAttr, hb, hv] at h); (try with_reducible intro K hK); simp only [go_sem, simprocAttr, hb, hv]))) | ((first | ((with_reducible apply wL); exact rfl) | ((with_reducible apply wM); exact rfl)); all_goals (try ((with_reducible intro h); first | (exact absurd h (by decide)) | (try simp only [go_sem, simprocAttr, hb, hv] at h)))) | omega | ((first | (refine acall_gen hX hC hP [(10000, 33)] (grow_spec (ls.flatten.length : Int) (by omega) (by omega)) rfl rfl rfl ?_ ?_ ?_ ?_ ?_ ?_ ?_ ?_ ?_ ?_ ?_ ?_ ?_ ?_; (focus (simp only [go_sem, simprocAttr, hb, hv]; done)); (iterate 12 (focus (simp [go_sem, simprocAttr, hb, hv]; done))); simp only [go_sem, simprocAttr, hb, hv, List.map_cons, List.map_nil])); try simp only [go_sem, simprocAttr, hb, hv]) | (intro h))
   ·refine ⟨k + 1, by omega, ?_, by omega⟩
    rw [bareK_next, if_pos (by omega)]
    refine Le.of ?_ ?_ <;> simp [go_sem, simprocAttr, hb, hv]
    rfl
   ·refine ⟨k + 1, by omega, ?_, by omega⟩
    rw [bareK_next, if_neg (by omega), List.append_nil]
    refine Le.of ?_ ?_ <;> simp [go_sem, simprocAttr, hb, hv]
  ·have hb : decide ((k : Int) < (ls.length : Int)) = false := decide_eq_false (by omega)
   obtain rfl : k = ls.length := by omega
   repeat' (first | fail | ((first | ((with_reducible (first | apply oA | apply oB)); exact rfl; intro K hK) | (refine hK _ ?_; clear hK K) | ((with_reducible (first | apply oG | apply oH)); iterate 3 exact rfl) | ((with_reducible apply oI); (iterate 2 exact rfl); intro K hK) | (with_reducible (first | apply wI | apply wJ | apply wK))); try simp only [go_sem, simprocAttr, hb]) | fail | (with_reducible (first | apply oC | apply oJ | exact oK | apply wA | apply wB | apply wC hX hC | apply wD hX hC | apply wE hX hC hmix | apply wF hX hC hmix | apply wG | apply wH | apply And.intro)) | ((with_reducible refine oD ?_ ?_); first | fail | kernel_rfl) | ((with_reducible (first | apply oE | apply oF)); (iterate 3 exact rfl); all_goals (intro h; first | (exact absurd h (by decide)) | ((try simp only [go_sem, simprocAttr, hb] at h); (try with_reducible intro K hK); simp only [go_sem, simprocAttr, hb]))) | ((first | ((with_reducible apply wL); exact rfl) | ((with_reducible apply wM); exact rfl)); all_goals (try ((with_reducible intro h); first | (exact absurd h (by decide)) | (try simp only [go_sem, simprocAttr, hb] at h)))) | omega | ((first | (refine acall_gen hX hC hP [(10000, 33)] (grow_spec (ls.flatten.length : Int) (by omega) (by omega)) rfl rfl rfl ?_ ?_ ?_ ?_ ?_ ?_ ?_ ?_ ?_ ?_ ?_ ?_ ?_ ?_; (focus (simp only [go_sem, simprocAttr, hb]; done)); (iterate 12 (focus (simp [go_sem, simprocAttr, hb]; done))); simp only [go_sem, simprocAttr, hb, List.map_cons, List.map_nil])); try simp only [go_sem, simprocAttr, hb]) | (intro h))
theorem vwl_vL {f : Edge → Int} {g : Gr} : vwl f g = vL (endsL f g) := rfl
theorem endsL_length {f : Edge → Int} {g : Gr} : (endsL f g).length = g.n.toNat := by simp [endsL]
def bareG (f : Edge → Int) (g : Gr) : List Int := bareK (endsL f g) g.n.toNat
theorem sources_spec (g : Gr) (hm : mayB g = true) : Spec Tryz.prog 95 (Args [.d (vw g)]) [] (.d (sI (bareG (·.2) g))) [] := by
 rw [vw_eq]
 have hn := mayB_n hm
 have hle : (endsL (·.2) g).length ≤ 1000 := by rw [endsL_length]; omega
 (refine Spec.intro (C := T.cfg [] []) (rs := [.t 2]) (T.cfg_ok _ _) Tryz.func95 rfl rfl Tryz.ntmps95 Tryz.results95 (by simp [AObj.isNest]) (by simp [AObj.isNest]) (by kernel_rfl) ?_; intro X hX hP hC hXn hXm vals hA; refine ⟨_, by simp, hA, ?_⟩; have hmix : X.P.follows .mixedOrders = true := (by rw [hP]; exact T.mixed); clear hXn hXm)
 repeat' (first | fail | ((first | ((with_reducible (first | apply oA | apply oB)); exact rfl; intro K hK) | (refine hK _ ?_; clear hK K) | ((with_reducible (first | apply oG | apply oH)); iterate 3 exact rfl) | ((with_reducible apply oI); (iterate 2 exact rfl); intro K hK) | (with_reducible (first | apply wI | apply wJ | apply wK))); try simp only [go_sem, simprocAttr]) | fail | (with_reducible (first | apply oC | apply oJ | exact oK | apply wA | apply wB | apply wC hX hC | apply wD hX hC | apply wE hX hC hmix | apply wF hX hC hmix | apply wG | apply wH | apply And.intro)) | ((with_reducible refine oD ?_ ?_); first | fail | kernel_rfl) | ((with_reducible (first | apply oE | apply oF)); (iterate 3 exact rfl); all_goals (intro h; first | (exact absurd h (by decide)) | ((try simp only [go_sem, simprocAttr] at h); (try with_reducible intro K hK); simp only [go_sem, simprocAttr]))) | ((first | ((with_reducible apply wL); exact rfl) | ((with_reducible apply wM); exact rfl)); all_goals (try ((with_reducible intro h); first | (exact absurd h (by decide)) | (try simp only [go_sem, simprocAttr] at h)))) | omega | ((first | (rw [vwl_vL]; refine acall_simple hX hC hP (bare_spec (endsL (·.2) g) hle) rfl rfl rfl (by simp only [go_sem, simprocAttr]) rfl ?_)); try simp only [go_sem, simprocAttr]) | (intro h))
 rw [endsL_length]; rfl
theorem sinks_spec (g : Gr) (hm : mayB g = true) : Spec Tryz.prog 56 (Args [.d (vw g)]) [] (.d (sI (bareG (·.1) g))) [] := by
 rw [vw_eq]
 have hn := mayB_n hm
 have hle : (endsL (·.1) g).length ≤ 1000 := by rw [endsL_length]; omega
 (refine Spec.intro (C := T.cfg [] []) (rs := [.t 2]) (T.cfg_ok _ _) Tryz.func56 rfl rfl Tryz.ntmps56 Tryz.results56 (by simp [AObj.isNest]) (by simp [AObj.isNest]) (by kernel_rfl) ?_; intro X hX hP hC hXn hXm vals hA; refine ⟨_, by simp, hA, ?_⟩; have hmix : X.P.follows .mixedOrders = true := (by rw [hP]; exact T.mixed); clear hXn hXm)
 repeat' (first | fail | ((first | ((with_reducible (first | apply oA | apply oB)); exact rfl; intro K hK) | (refine hK _ ?_; clear hK K) | ((with_reducible (first | apply oG | apply oH)); iterate 3 exact rfl) | ((with_reducible apply oI); (iterate 2 exact rfl); intro K hK) | (with_reducible (first | apply wI | apply wJ | apply wK))); try simp only [go_sem, simprocAttr]) | fail | (with_reducible (first | apply oC | apply oJ | exact oK | apply wA | apply wB | apply wC hX hC | apply wD hX hC | apply wE hX hC hmix | apply wF hX hC hmix | apply wG | apply wH | apply And.intro)) | ((with_reducible refine oD ?_ ?_); first | fail | kernel_rfl) | ((with_reducible (first | apply oE | apply oF)); (iterate 3 exact rfl); all_goals (intro h; first | (exact absurd h (by decide)) | ((try simp only [go_sem, simprocAttr] at h); (try with_reducible intro K hK); simp only [go_sem, simprocAttr]))) | ((first | ((with_reducible apply wL); exact rfl) | ((with_reducible apply wM); exact rfl)); all_goals (try ((with_reducible intro h); first | (exact absurd h (by decide)) | (try simp only [go_sem, simprocAttr] at h)))) | omega | ((first | (rw [vwl_vL]; refine acall_simple hX hC hP (bare_spec (endsL (·.1) g) hle) rfl rfl rfl (by simp only [go_sem, simprocAttr]) rfl ?_)); try simp only [go_sem, simprocAttr]) | (intro h))
 rw [endsL_length]; rfl
end Go.Ab
end
section
namespace Go.Ab
open Go.Proofs
attribute [local congr] ACall.congr
set_option maxRecDepth 10000
def backS (g : Gr) (ws : List Int) (b : Int) (e : Int) : Int := if 0 < ws.getD (tl g e.toNat).toNat 0 ∧ (b < 0 ∨ tl g e.toNat < b) then tl g e.toNat else b
theorem backS_eq (g : Gr) (ws : List Int) (b : Int) (i : Nat) : backS g ws b (i : Int) = if 0 < ws.getD (g.es.getD i (0, 0)).1.toNat 0 ∧ (b < 0 ∨ (g.es.getD i (0, 0)).1 < b) then (g.es.getD i (0, 0)).1 else b := rfl
def backF (g : Gr) (ws : List Int) (es : List Int) : Int := es.foldl (backS g ws) (-1)
def backG (g : Gr) (ws : List Int) (at_ : Int) : Int := backF g ws (inL g at_.toNat)
def wayF (g : Gr) (ws : List Int) : Nat → List Int → Int → List Int × Int
 | 0, way, at_ => (way, at_)
 | f + 1, way, at_ => if at_ < 0 ∨ at_ ∈ way then (way, at_) else wayF g ws f (way ++ [at_]) (backG g ws at_)
def wayG (g : Gr) : List Int × Int := wayF g (wts g (runG g)) g.n.toNat [] (findI (fun n => decide (0 < n)) (wts g (runG g)))
def turnL (l : List Int) : List Int := l.drop (idxI l (minL l)).toNat ++ l.take (idxI l (minL l)).toNat
def cycG (g : Gr) : List Int := if (wayG g).2 < 0 then [] else turnL ((wayG g).1.drop (idxI (wayG g).1 (wayG g).2).toNat).reverse
theorem cyc1_spec (n : Int) : Spec Tryz.prog 137 (Args [eN n]) [] (eB (decide (0 < n))) [] := by
 (refine Spec.intro (C := T.cfg [] []) (rs := [.t 2]) (T.cfg_ok _ _) Tryz.func137 rfl rfl Tryz.ntmps137 Tryz.results137 (by simp [AObj.isNest]) (by simp [AObj.isNest]) (by kernel_rfl) ?_; intro X hX hP hC hXn hXm vals hA; refine ⟨_, by simp, hA, ?_⟩; have hmix : X.P.follows .mixedOrders = true := (by rw [hP]; exact T.mixed); clear hXn hXm)
 repeat' (first | fail | ((first | ((with_reducible (first | apply oA | apply oB)); exact rfl; intro K hK) | (refine hK _ ?_; clear hK K) | ((with_reducible (first | apply oG | apply oH)); iterate 3 exact rfl) | ((with_reducible apply oI); (iterate 2 exact rfl); intro K hK) | (with_reducible (first | apply wI | apply wJ | apply wK))); try simp only [go_sem, simprocAttr]) | fail | (with_reducible (first | apply oC | apply oJ | exact oK | apply wA | apply wB | apply wC hX hC | apply wD hX hC | apply wE hX hC hmix | apply wF hX hC hmix | apply wG | apply wH | apply And.intro)) | ((with_reducible refine oD ?_ ?_); first | fail | kernel_rfl) | ((with_reducible (first | apply oE | apply oF)); (iterate 3 exact rfl); all_goals (intro h; first | (exact absurd h (by decide)) | ((try simp only [go_sem, simprocAttr] at h); (try with_reducible intro K hK); simp only [go_sem, simprocAttr]))) | ((first | ((with_reducible apply wL); exact rfl) | ((with_reducible apply wM); exact rfl)); all_goals (try ((with_reducible intro h); first | (exact absurd h (by decide)) | (try simp only [go_sem, simprocAttr] at h)))) | omega | ((first | fail); try simp only [go_sem, simprocAttr]) | (intro h))
structure Way (g : Gr) (way : List Int) : Prop where
 lo : ∀ x ∈ way, 0 ≤ x ∧ x < g.n
 fuel : way.length + left g way = g.n.toNat
theorem left_nil {g : Gr} : left g [] = g.n.toNat := by
 have := (Placed.nil g).fuel
 rw [List.length_nil, Nat.zero_add] at this
 exact this
theorem left_app {g : Gr} {way : List Int} {a : Nat} (ha : a < g.n.toNat) (hn : (a : Int) ∉ way) : left g way = left g (way ++ [(a : Int)]) + 1 := by
 unfold left
 rw [← countP_less (p := fun y : Nat => !decide ((y : Int) ∈ way)) (x := a) (by simp [hn]) ha]
 congr 1
 refine List.countP_congr fun y _ => ?_
 simp; omega
theorem Way.nil (g : Gr) : Way g [] := ⟨by simp, by rw [left_nil]; simp⟩
theorem Way.next {g : Gr} {way : List Int} {a : Nat} (h : Way g way) (ha : a < g.n.toNat) (hn : (a : Int) ∉ way) : Way g (way ++ [(a : Int)]) := by
 refine ⟨fun x hx => ?_, ?_⟩
 ·rcases List.mem_append.1 hx with hx | hx
  ·exact h.lo x hx
  ·simp at hx; omega
 ·have h1 := h.fuel
  have h2 := left_app ha hn
  rw [List.length_append, List.length_singleton]; omega
theorem inL_mem {g : Gr} {x : Nat} {e : Int} (h : e ∈ inL g x) : ∃ i : Nat, e = i ∧ i < g.es.length ∧ hd g i = x := by
 simp only [inL, endsK, List.mem_map, List.mem_filter, List.mem_range, decide_eq_true_eq] at h
 obtain ⟨i, ⟨h1, h2⟩, rfl⟩ := h
 exact ⟨i, rfl, h1, h2⟩
theorem fold_next {α β : Type} {f : β → α → β} {b : β} {l : List α} {j : Nat} {x : α} (h : l[j]? = some x) : (l.take (j + 1)).foldl f b = f ((l.take j).foldl f b) x := by
 rw [List.take_add_one, List.foldl_append, h]; rfl
theorem backF_range {g : Gr} (hm : mayB g = true) (ws : List Int) : ∀ (l : List Int) (b : Int), (b = -1 ∨ (0 ≤ b ∧ b < g.n)) → (∀ e ∈ l, ∃ i : Nat, e = i ∧ i < g.es.length) → l.foldl (backS g ws) b = -1 ∨ (0 ≤ l.foldl (backS g ws) b ∧ l.foldl (backS g ws) b < g.n)
 | [], b, hb, _ => hb
 | e :: l, b, hb, h => by
  refine backF_range hm ws l _ ?_ fun e he => h e (List.mem_cons_of_mem _ he)
  obtain ⟨i, rfl, hi⟩ := h e List.mem_cons_self
  obtain ⟨⟨h1, h2⟩, _⟩ := mayB_e hm hi
  unfold backS
  split
  ·exact .inr ⟨h1, h2⟩
  ·exact hb
theorem inL_ok {g : Gr} {x : Nat} : ∀ e ∈ inL g x, ∃ i : Nat, e = i ∧ i < g.es.length := fun e he => by
 obtain ⟨i, h1, h2, _⟩ := inL_mem he; exact ⟨i, h1, h2⟩
theorem wayF_end {g : Gr} {ws way : List Int} {a : Int} (h : a < 0 ∨ a ∈ way) : ∀ f, wayF g ws f way a = (way, a)
 | 0 => rfl
 | f + 1 => by simp only [wayF]; rw [if_pos h]
theorem idxI_mem {l : List Int} {x : Int} (h : x ∈ l) : ∃ k : Nat, idxI l x = k ∧ k < l.length ∧ l.getD k 0 = x := by
 rcases findI_spec (f := fun y : Int => decide (x = y)) (l := l) 0 with ⟨h1, h2⟩ | ⟨k, h1, h2, h3, _⟩
 ·exact absurd (h2 x h) (by simp)
 ·exact ⟨k, h1, h2, (of_decide_eq_true h3).symm⟩
theorem minL_mem : ∀ {l : List Int}, 0 < l.length → minL l ∈ l
 | a :: r, _ => by
  have : ∀ (r : List Int) (a : Int), r.foldl min a = a ∨ r.foldl min a ∈ r := by
   intro r
   induction r with
   | nil => intro a; exact .inl rfl
   | cons b r ih =>
    intro a
    simp only [List.foldl_cons]
    rcases ih (min a b) with h | h
    ·by_cases hab : a ≤ b
     ·left; rw [h]; omega
     ·right; rw [h]; simp; omega
    ·right; simp [h]
  rcases this r a with h | h
  ·simp [minL, h]
  ·simp [minL, h]
theorem cycle_spec (g : Gr) (hm : mayB g = true) : Spec Tryz.prog 94 (Args [.d (vw g)]) [] (.d (sI (cycG g))) [] := by
 have hn := mayB_n hm
 have hlw : (wts g (runG g)).length ≤ 9223372036854775807 := by rw [wts_length]; omega
 (refine Spec.intro (C := T.cfg [30] []) (rs := [.t 2]) (T.cfg_ok _ _) Tryz.func94 rfl rfl Tryz.ntmps94 Tryz.results94 (by simp [AObj.isNest]) (by simp [AObj.isNest]) (by kernel_rfl) ?_; intro X hX hP hC hXn hXm vals hA; refine ⟨_, by simp, hA, ?_⟩; have hmix : X.P.follows .mixedOrders = true := (by rw [hP]; exact T.mixed); clear hXn hXm)
 repeat' (first | fail | ((first | ((with_reducible (first | apply oA | apply oB)); exact rfl; intro K hK) | (refine hK _ ?_; clear hK K) | ((with_reducible (first | apply oG | apply oH)); iterate 3 exact rfl) | ((with_reducible apply oI); (iterate 2 exact rfl); intro K hK) | (with_reducible (first | apply wI | apply wJ | apply wK))); try simp only [go_sem, simprocAttr]) | fail | (with_reducible (first | apply oC | apply oJ | exact oK | apply wA | apply wB | apply wC hX hC | apply wD hX hC | apply wE hX hC hmix | apply wF hX hC hmix | apply wG | apply wH | apply And.intro)) | ((with_reducible refine oD ?_ ?_); first | fail | kernel_rfl) | ((with_reducible (first | apply oE | apply oF)); (iterate 3 exact rfl); all_goals (intro h; first | (exact absurd h (by decide)) | ((try simp only [go_sem, simprocAttr] at h); (try with_reducible intro K hK); simp only [go_sem, simprocAttr]))) | ((first | ((with_reducible apply wL); exact rfl) | ((with_reducible apply wM); exact rfl)); all_goals (try ((with_reducible intro h); first | (exact absurd h (by decide)) | (try simp only [go_sem, simprocAttr] at h)))) | omega | ((first | first | refine acall_simple hX hC hP (run_spec g hm) rfl rfl rfl (by simp only [go_sem, simprocAttr]) rfl ?_ | refine acall_simple hX hC hP (indexFuncI_spec Robs.nil _ [] _ cyc1_spec (wts g (runG g)) hlw) rfl rfl rfl (by simp only [go_sem, simprocAttr]) rfl ?_ | (refine acall_lend hX hC hP (containsI_spec way a hlway) rfl rfl rfl ?_ ?_ ?_ ?_; iterate 3 (focus (simp only [go_sem, simprocAttr]; done))) | (refine acall_lend hX hC hP (indexI_spec way a hlway) rfl rfl rfl ?_ ?_ ?_ ?_; iterate 3 (focus (simp only [go_sem, simprocAttr]; done))) | (refine acall_gen hX hC hP [(10000, 75)] (reverse_spec (way.drop k) hlr) rfl rfl rfl ?_ ?_ ?_ ?_ ?_ ?_ ?_ ?_ ?_ ?_ ?_ ?_ ?_ ?_; (focus (simp only [go_sem, simprocAttr]; done)); (iterate 12 (focus (simp [go_sem, simprocAttr]; done))); simp only [go_sem, simprocAttr, List.map_cons, List.map_nil]) | (refine acall_lend hX hC hP (min_spec rev hrev0 hrev) rfl rfl rfl ?_ ?_ ?_ ?_; iterate 3 (focus (simp only [go_sem, simprocAttr]; done))) | (refine acall_lend hX hC hP (indexI_spec rev (minL rev) hrev') rfl rfl rfl ?_ ?_ ?_ ?_; iterate 3 (focus (simp only [go_sem, simprocAttr]; done))) | (refine acall_look hX hC hP (concat_spec [rev.drop k2, rev.take k2] hc1 hc2 hc3) rfl rfl rfl ?_ ?_ rfl ?_; iterate 2 (focus (simp only [go_sem, simprocAttr]; done)))); try simp only [go_sem, simprocAttr]) | (intro h))
 (refine awp_new hX 6 30 (.own 3 1 []) (by simp only [go_sem, simprocAttr]) (by simp only [go_sem, simprocAttr]) (by decide) ⟨3, 1, by decide, .inl rfl⟩ ?_; simp only [go_sem, simprocAttr])
 refine awp_loopP (fun i : List Int × Int => Way g i.1 ∧ (i.2 = -1 ∨ (0 ≤ i.2 ∧ i.2 < g.n)) ∧ wayF g (wts g (runG g)) (left g i.1) i.1 i.2 = wayG g) (fun i => ⟨[(0, .d (vw g)), (4, .d (sI (wts g (runG g)))), (5, eN i.2), (6, .ref 30)], [(30, .own 3 1 (i.1.map rI))]⟩) (fun i => left g i.1) ([], findI (fun n => decide (0 < n)) (wts g (runG g))) ⟨Way.nil g, ?_, ?_⟩ ?_ ?_
 ·rcases findI_range (fun n : Int => decide (0 < n)) (wts g (runG g)) with h | h
  ·exact .inl h
  ·rw [wts_length] at h; exact .inr (by simp only; omega)
 ·rw [left_nil]; rfl
 ·(refine Le.of ?_ ?_ <;> simp [go_sem, simprocAttr])
 rintro ⟨way, at_⟩ ⟨hway, hat, hrun⟩
 simp only at hway hat hrun ⊢
 have hwl : way.length ≤ 64 := by have := hway.fuel; omega
 have hlway : way.length ≤ 9223372036854775807 := by omega
 by_cases h0 : at_ < 0
 ·have hb1 : decide (0 ≤ at_) = false := decide_eq_false (by omega)
  have hb3 : decide (at_ < 0) = true := decide_eq_true h0
  have he : cycG g = [] := by
   have := wayF_end (g := g) (ws := wts g (runG g)) (way := way) (.inl h0) (left g way)
   rw [hrun] at this
   simp only [cycG, this]; rw [if_pos h0]
  repeat' (first | fail | ((first | ((with_reducible (first | apply oA | apply oB)); exact rfl; intro K hK) | (refine hK _ ?_; clear hK K) | ((with_reducible (first | apply oG | apply oH)); iterate 3 exact rfl) | ((with_reducible apply oI); (iterate 2 exact rfl); intro K hK) | (with_reducible (first | apply wI | apply wJ | apply wK))); try simp only [go_sem, simprocAttr, hb1, hb3]) | fail | (with_reducible (first | apply oC | apply oJ | exact oK | apply wA | apply wB | apply wC hX hC | apply wD hX hC | apply wE hX hC hmix | apply wF hX hC hmix | apply wG | apply wH | apply And.intro)) | ((with_reducible refine oD ?_ ?_); first | fail | kernel_rfl) | ((with_reducible (first | apply oE | apply oF)); (iterate 3 exact rfl); all_goals (intro h; first | (exact absurd h (by decide)) | ((try simp only [go_sem, simprocAttr, hb1, hb3] at h); (try with_reducible intro K hK); simp only [go_sem, simprocAttr, hb1, hb3]))) | ((first | ((with_reducible apply wL); exact rfl) | ((with_reducible apply wM); exact rfl)); all_goals (try ((with_reducible intro h); first | (exact absurd h (by decide)) | (try simp only [go_sem, simprocAttr, hb1, hb3] at h)))) | omega | ((first | first | refine acall_simple hX hC hP (run_spec g hm) rfl rfl rfl (by simp only [go_sem, simprocAttr, hb1, hb3]) rfl ?_ | refine acall_simple hX hC hP (indexFuncI_spec Robs.nil _ [] _ cyc1_spec (wts g (runG g)) hlw) rfl rfl rfl (by simp only [go_sem, simprocAttr, hb1, hb3]) rfl ?_ | (refine acall_lend hX hC hP (containsI_spec way a hlway) rfl rfl rfl ?_ ?_ ?_ ?_; iterate 3 (focus (simp only [go_sem, simprocAttr, hb1, hb3]; done))) | (refine acall_lend hX hC hP (indexI_spec way a hlway) rfl rfl rfl ?_ ?_ ?_ ?_; iterate 3 (focus (simp only [go_sem, simprocAttr, hb1, hb3]; done))) | (refine acall_gen hX hC hP [(10000, 75)] (reverse_spec (way.drop k) hlr) rfl rfl rfl ?_ ?_ ?_ ?_ ?_ ?_ ?_ ?_ ?_ ?_ ?_ ?_ ?_ ?_; (focus (simp only [go_sem, simprocAttr, hb1, hb3]; done)); (iterate 12 (focus (simp [go_sem, simprocAttr, hb1, hb3]; done))); simp only [go_sem, simprocAttr, hb1, hb3, List.map_cons, List.map_nil]) | (refine acall_lend hX hC hP (min_spec rev hrev0 hrev) rfl rfl rfl ?_ ?_ ?_ ?_; iterate 3 (focus (simp only [go_sem, simprocAttr, hb1, hb3]; done))) | (refine acall_lend hX hC hP (indexI_spec rev (minL rev) hrev') rfl rfl rfl ?_ ?_ ?_ ?_; iterate 3 (focus (simp only [go_sem, simprocAttr, hb1, hb3]; done))) | (refine acall_look hX hC hP (concat_spec [rev.drop k2, rev.take k2] hc1 hc2 hc3) rfl rfl rfl ?_ ?_ rfl ?_; iterate 2 (focus (simp only [go_sem, simprocAttr, hb1, hb3]; done)))); try simp only [go_sem, simprocAttr, hb1, hb3]) | (intro h))
  rw [he]; rfl
 obtain ⟨a, rfl⟩ : ∃ a : Nat, at_ = a := ⟨at_.toNat, by omega⟩
 have han : a < g.n.toNat := by omega
 have hb1 : decide (0 ≤ (a : Int)) = true := decide_eq_true (by omega)
 by_cases hmem : (a : Int) ∈ way
 ·have hb2 : decide ((a : Int) ∈ way) = true := decide_eq_true hmem
  have hb3 : decide ((a : Int) < 0) = false := decide_eq_false h0
  have hend := wayF_end (g := g) (ws := wts g (runG g)) (.inr hmem) (left g way)
  rw [hrun] at hend
  obtain ⟨k, hk, hkl, _⟩ := idxI_mem hmem
  obtain ⟨rev, hrevE⟩ : ∃ rev, rev = (way.drop k).reverse := ⟨_, rfl⟩
  have hrl : rev.length = way.length - k := by rw [hrevE]; simp
  have hrev0 : 0 < rev.length := by omega
  have hrev : rev.length ≤ 1000000 := by omega
  have hrev' : rev.length ≤ 9223372036854775807 := by omega
  have hlr : (way.drop k).length ≤ 1000000 := by simp; omega
  obtain ⟨k2, hk2, hk2l, _⟩ := idxI_mem (minL_mem hrev0)
  have hc1 : [rev.drop k2, rev.take k2].length ≤ 1000 := by simp
  have hc2 : 0 < [rev.drop k2, rev.take k2].flatten.length := by simp; omega
  have hc3 : [rev.drop k2, rev.take k2].flatten.length ≤ 1000000 := by simp; omega
  have hcyc : cycG g = [rev.drop k2, rev.take k2].flatten := by
   simp only [cycG, hend]
   rw [if_neg h0, hk]
   simp only [Int.toNat_natCast, ← hrevE, turnL, hk2, List.flatten_cons, List.flatten_nil, List.append_nil]
  repeat' (first | fail | ((first | ((with_reducible (first | apply oA | apply oB)); exact rfl; intro K hK) | (refine hK _ ?_; clear hK K) | ((with_reducible (first | apply oG | apply oH)); iterate 3 exact rfl) | ((with_reducible apply oI); (iterate 2 exact rfl); intro K hK) | (with_reducible (first | apply wI | apply wJ | apply wK))); try simp only [go_sem, simprocAttr, hb1, hb2, hb3, hk, hk2, ← List.map_take, ← List.map_drop, List.take_length, ← hrevE, vL]) | (show awp _ (.seq (.region 20 _ _) _) _ _; (refine awp_frz hX 75 rfl (.inr rfl) ?_; simp only [go_sem, simprocAttr, hb1, hb2, hb3, hk, hk2, ← List.map_take, ← List.map_drop, List.take_length, ← hrevE, vL])) | (with_reducible (first | apply oC | apply oJ | exact oK | apply wA | apply wB | apply wC hX hC | apply wD hX hC | apply wE hX hC hmix | apply wF hX hC hmix | apply wG | apply wH | apply And.intro)) | ((with_reducible refine oD ?_ ?_); first | fail | kernel_rfl) | ((with_reducible (first | apply oE | apply oF)); (iterate 3 exact rfl); all_goals (intro h; first | (exact absurd h (by decide)) | ((try simp only [go_sem, simprocAttr, hb1, hb2, hb3, hk, hk2, ← List.map_take, ← List.map_drop, List.take_length, ← hrevE, vL] at h); (try with_reducible intro K hK); simp only [go_sem, simprocAttr, hb1, hb2, hb3, hk, hk2, ← List.map_take, ← List.map_drop, List.take_length, ← hrevE, vL]))) | ((first | ((with_reducible apply wL); exact rfl) | ((with_reducible apply wM); exact rfl)); all_goals (try ((with_reducible intro h); first | (exact absurd h (by decide)) | (try simp only [go_sem, simprocAttr, hb1, hb2, hb3, hk, hk2, ← List.map_take, ← List.map_drop, List.take_length, ← hrevE, vL] at h)))) | omega | ((first | first | refine acall_simple hX hC hP (run_spec g hm) rfl rfl rfl (by simp only [go_sem, simprocAttr, hb1, hb2, hb3, hk, hk2, ← List.map_take, ← List.map_drop, List.take_length, ← hrevE, vL]) rfl ?_ | refine acall_simple hX hC hP (indexFuncI_spec Robs.nil _ [] _ cyc1_spec (wts g (runG g)) hlw) rfl rfl rfl (by simp only [go_sem, simprocAttr, hb1, hb2, hb3, hk, hk2, ← List.map_take, ← List.map_drop, List.take_length, ← hrevE, vL]) rfl ?_ | (refine acall_lend hX hC hP (containsI_spec way a hlway) rfl rfl rfl ?_ ?_ ?_ ?_; iterate 3 (focus (simp only [go_sem, simprocAttr, hb1, hb2, hb3, hk, hk2, ← List.map_take, ← List.map_drop, List.take_length, ← hrevE, vL]; done))) | (refine acall_lend hX hC hP (indexI_spec way a hlway) rfl rfl rfl ?_ ?_ ?_ ?_; iterate 3 (focus (simp only [go_sem, simprocAttr, hb1, hb2, hb3, hk, hk2, ← List.map_take, ← List.map_drop, List.take_length, ← hrevE, vL]; done))) | (refine acall_gen hX hC hP [(10000, 75)] (reverse_spec (way.drop k) hlr) rfl rfl rfl ?_ ?_ ?_ ?_ ?_ ?_ ?_ ?_ ?_ ?_ ?_ ?_ ?_ ?_; (focus (simp only [go_sem, simprocAttr, hb1, hb2, hb3, hk, hk2, ← List.map_take, ← List.map_drop, List.take_length, ← hrevE, vL]; done)); (iterate 12 (focus (simp [go_sem, simprocAttr, hb1, hb2, hb3, hk, hk2, ← List.map_take, ← List.map_drop, List.take_length, ← hrevE, vL]; done))); simp only [go_sem, simprocAttr, hb1, hb2, hb3, hk, hk2, ← List.map_take, ← List.map_drop, List.take_length, ← hrevE, vL, List.map_cons, List.map_nil]) | (refine acall_lend hX hC hP (min_spec rev hrev0 hrev) rfl rfl rfl ?_ ?_ ?_ ?_; iterate 3 (focus (simp only [go_sem, simprocAttr, hb1, hb2, hb3, hk, hk2, ← List.map_take, ← List.map_drop, List.take_length, ← hrevE, vL]; done))) | (refine acall_lend hX hC hP (indexI_spec rev (minL rev) hrev') rfl rfl rfl ?_ ?_ ?_ ?_; iterate 3 (focus (simp only [go_sem, simprocAttr, hb1, hb2, hb3, hk, hk2, ← List.map_take, ← List.map_drop, List.take_length, ← hrevE, vL]; done))) | (refine acall_look hX hC hP (concat_spec [rev.drop k2, rev.take k2] hc1 hc2 hc3) rfl rfl rfl ?_ ?_ rfl ?_; iterate 2 (focus (simp only [go_sem, simprocAttr, hb1, hb2, hb3, hk, hk2, ← List.map_take, ← List.map_drop, List.take_length, ← hrevE, vL]; done)))); try simp only [go_sem, simprocAttr, hb1, hb2, hb3, hk, hk2, ← List.map_take, ← List.map_drop, List.take_length, ← hrevE, vL]) | (intro h))
  rw [hcyc]
 ·have hb2 : decide ((a : Int) ∈ way) = false := decide_eq_false hmem
  have hv := vwl_getD (f := (·.2)) han
  have hl1 : (inL g a).length ≤ g.es.length := endsK_len
  repeat' (first | fail | ((first | ((with_reducible (first | apply oA | apply oB)); exact rfl; intro K hK) | (refine hK _ ?_; clear hK K) | ((with_reducible (first | apply oG | apply oH)); iterate 3 exact rfl) | ((with_reducible apply oI); (iterate 2 exact rfl); intro K hK) | (with_reducible (first | apply wI | apply wJ | apply wK))); try simp only [go_sem, simprocAttr, hb1, hb2, hv, vw_eq]) | fail | (with_reducible (first | apply oC | apply oJ | exact oK | apply wA | apply wB | apply wC hX hC | apply wD hX hC | apply wE hX hC hmix | apply wF hX hC hmix | apply wG | apply wH | apply And.intro)) | ((with_reducible refine oD ?_ ?_); first | fail | kernel_rfl) | ((with_reducible (first | apply oE | apply oF)); (iterate 3 exact rfl); all_goals (intro h; first | (exact absurd h (by decide)) | ((try simp only [go_sem, simprocAttr, hb1, hb2, hv, vw_eq] at h); (try with_reducible intro K hK); simp only [go_sem, simprocAttr, hb1, hb2, hv, vw_eq]))) | ((first | ((with_reducible apply wL); exact rfl) | ((with_reducible apply wM); exact rfl)); all_goals (try ((with_reducible intro h); first | (exact absurd h (by decide)) | (try simp only [go_sem, simprocAttr, hb1, hb2, hv, vw_eq] at h)))) | omega | ((first | first | refine acall_simple hX hC hP (run_spec g hm) rfl rfl rfl (by simp only [go_sem, simprocAttr, hb1, hb2, hv, vw_eq]) rfl ?_ | refine acall_simple hX hC hP (indexFuncI_spec Robs.nil _ [] _ cyc1_spec (wts g (runG g)) hlw) rfl rfl rfl (by simp only [go_sem, simprocAttr, hb1, hb2, hv, vw_eq]) rfl ?_ | (refine acall_lend hX hC hP (containsI_spec way a hlway) rfl rfl rfl ?_ ?_ ?_ ?_; iterate 3 (focus (simp only [go_sem, simprocAttr, hb1, hb2, hv, vw_eq]; done))) | (refine acall_lend hX hC hP (indexI_spec way a hlway) rfl rfl rfl ?_ ?_ ?_ ?_; iterate 3 (focus (simp only [go_sem, simprocAttr, hb1, hb2, hv, vw_eq]; done))) | (refine acall_gen hX hC hP [(10000, 75)] (reverse_spec (way.drop k) hlr) rfl rfl rfl ?_ ?_ ?_ ?_ ?_ ?_ ?_ ?_ ?_ ?_ ?_ ?_ ?_ ?_; (focus (simp only [go_sem, simprocAttr, hb1, hb2, hv, vw_eq]; done)); (iterate 12 (focus (simp [go_sem, simprocAttr, hb1, hb2, hv, vw_eq]; done))); simp only [go_sem, simprocAttr, hb1, hb2, hv, vw_eq, List.map_cons, List.map_nil]) | (refine acall_lend hX hC hP (min_spec rev hrev0 hrev) rfl rfl rfl ?_ ?_ ?_ ?_; iterate 3 (focus (simp only [go_sem, simprocAttr, hb1, hb2, hv, vw_eq]; done))) | (refine acall_lend hX hC hP (indexI_spec rev (minL rev) hrev') rfl rfl rfl ?_ ?_ ?_ ?_; iterate 3 (focus (simp only [go_sem, simprocAttr, hb1, hb2, hv, vw_eq]; done))) | (refine acall_look hX hC hP (concat_spec [rev.drop k2, rev.take k2] hc1 hc2 hc3) rfl rfl rfl ?_ ?_ rfl ?_; iterate 2 (focus (simp only [go_sem, simprocAttr, hb1, hb2, hv, vw_eq]; done)))); try simp only [go_sem, simprocAttr, hb1, hb2, hv, vw_eq]) | (intro h))
  refine awp_loopP (fun j : Nat => j ≤ (inL g a).length) (fun j => ⟨[(39, eN j), (38, eN (inL g a).length), (37, .d (sI (inL g a))), (7, eN (backF g (wts g (runG g)) ((inL g a).take j))), (0, .d (vw' g)), (4, .d (sI (wts g (runG g)))), (6, .ref 30)], [(30, .own 3 1 ((way ++ [(a : Int)]).map rI))]⟩) (fun j => (inL g a).length - j) 0 (by simp) ?_ ?_
  ·refine Le.of ?_ ?_ <;> simp [go_sem, simprocAttr, hb1, hb2, hv, vw_eq, inL, rI, backF]
  rintro j hj
  rcases Nat.lt_or_ge j (inL g a).length with hlt | hge
  ·have hb4 : decide ((j : Int) < ((inL g a).length : Int)) = true := decide_eq_true (by omega)
   obtain ⟨i, hi, hil, hit⟩ := inL_mem (List.getElem_mem hlt)
   have hi1 : (inL g a)[j]? = some (i : Int) := by rw [List.getElem?_eq_getElem hlt, hi]
   have hi2 : (inL g a).getD j 0 = (i : Int) := by rw [List.getD_eq_getElem?_getD, hi1]; rfl
   obtain ⟨⟨he0, he1⟩, _⟩ := mayB_e hm hil
   have hstep : backF g (wts g (runG g)) ((inL g a).take (j + 1)) = backS g (wts g (runG g)) (backF g (wts g (runG g)) ((inL g a).take j)) i := fold_next hi1
   rw [backS_eq] at hstep
   repeat' (first | fail | ((first | ((with_reducible (first | apply oA | apply oB)); exact rfl; intro K hK) | (refine hK _ ?_; clear hK K) | ((with_reducible (first | apply oG | apply oH)); iterate 3 exact rfl) | ((with_reducible apply oI); (iterate 2 exact rfl); intro K hK) | (with_reducible (first | apply wI | apply wJ | apply wK))); try simp only [go_sem, simprocAttr, hb4, hi2, wts_length]) | fail | (with_reducible (first | apply oC | apply oJ | exact oK | apply wA | apply wB | apply wC hX hC | apply wD hX hC | apply wE hX hC hmix | apply wF hX hC hmix | apply wG | apply wH | apply And.intro)) | ((with_reducible refine oD ?_ ?_); first | fail | kernel_rfl) | ((with_reducible (first | apply oE | apply oF)); (iterate 3 exact rfl); all_goals (intro h; first | (exact absurd h (by decide)) | ((try simp only [go_sem, simprocAttr, hb4, hi2, wts_length] at h); (try with_reducible intro K hK); simp only [go_sem, simprocAttr, hb4, hi2, wts_length]))) | ((first | ((with_reducible apply wL); exact rfl) | ((with_reducible apply wM); exact rfl)); all_goals (try ((with_reducible intro h); first | (exact absurd h (by decide)) | (try simp only [go_sem, simprocAttr, hb4, hi2, wts_length] at h)))) | omega | ((first | first | refine acall_simple hX hC hP (run_spec g hm) rfl rfl rfl (by simp only [go_sem, simprocAttr, hb4, hi2, wts_length]) rfl ?_ | refine acall_simple hX hC hP (indexFuncI_spec Robs.nil _ [] _ cyc1_spec (wts g (runG g)) hlw) rfl rfl rfl (by simp only [go_sem, simprocAttr, hb4, hi2, wts_length]) rfl ?_ | (refine acall_lend hX hC hP (containsI_spec way a hlway) rfl rfl rfl ?_ ?_ ?_ ?_; iterate 3 (focus (simp only [go_sem, simprocAttr, hb4, hi2, wts_length]; done))) | (refine acall_lend hX hC hP (indexI_spec way a hlway) rfl rfl rfl ?_ ?_ ?_ ?_; iterate 3 (focus (simp only [go_sem, simprocAttr, hb4, hi2, wts_length]; done))) | (refine acall_gen hX hC hP [(10000, 75)] (reverse_spec (way.drop k) hlr) rfl rfl rfl ?_ ?_ ?_ ?_ ?_ ?_ ?_ ?_ ?_ ?_ ?_ ?_ ?_ ?_; (focus (simp only [go_sem, simprocAttr, hb4, hi2, wts_length]; done)); (iterate 12 (focus (simp [go_sem, simprocAttr, hb4, hi2, wts_length]; done))); simp only [go_sem, simprocAttr, hb4, hi2, wts_length, List.map_cons, List.map_nil]) | (refine acall_lend hX hC hP (min_spec rev hrev0 hrev) rfl rfl rfl ?_ ?_ ?_ ?_; iterate 3 (focus (simp only [go_sem, simprocAttr, hb4, hi2, wts_length]; done))) | (refine acall_lend hX hC hP (indexI_spec rev (minL rev) hrev') rfl rfl rfl ?_ ?_ ?_ ?_; iterate 3 (focus (simp only [go_sem, simprocAttr, hb4, hi2, wts_length]; done))) | (refine acall_look hX hC hP (concat_spec [rev.drop k2, rev.take k2] hc1 hc2 hc3) rfl rfl rfl ?_ ?_ rfl ?_; iterate 2 (focus (simp only [go_sem, simprocAttr, hb4, hi2, wts_length]; done)))); try simp only [go_sem, simprocAttr, hb4, hi2, wts_length]) | (intro h))
   all_goals (refine ⟨j + 1, by omega, ?_, by omega⟩; first | rw [if_pos (by omega)] at hstep | rw [if_neg (by omega)] at hstep)
   all_goals (refine Le.of ?_ ?_ <;> simp [go_sem, simprocAttr, hb4, hi2, wts_length, hstep])
  ·have hb4 : decide ((j : Int) < ((inL g a).length : Int)) = false := decide_eq_false (by omega)
   have ht : (inL g a).take j = inL g a := List.take_of_length_le (by omega)
   repeat' (first | fail | ((first | ((with_reducible (first | apply oA | apply oB)); exact rfl; intro K hK) | (refine hK _ ?_; clear hK K) | ((with_reducible (first | apply oG | apply oH)); iterate 3 exact rfl) | ((with_reducible apply oI); (iterate 2 exact rfl); intro K hK) | (with_reducible (first | apply wI | apply wJ | apply wK))); try simp only [go_sem, simprocAttr, hb4, ht]) | fail | (with_reducible (first | apply oC | apply oJ | exact oK | apply wA | apply wB | apply wC hX hC | apply wD hX hC | apply wE hX hC hmix | apply wF hX hC hmix | apply wG | apply wH | apply And.intro)) | ((with_reducible refine oD ?_ ?_); first | fail | kernel_rfl) | ((with_reducible (first | apply oE | apply oF)); (iterate 3 exact rfl); all_goals (intro h; first | (exact absurd h (by decide)) | ((try simp only [go_sem, simprocAttr, hb4, ht] at h); (try with_reducible intro K hK); simp only [go_sem, simprocAttr, hb4, ht]))) | ((first | ((with_reducible apply wL); exact rfl) | ((with_reducible apply wM); exact rfl)); all_goals (try ((with_reducible intro h); first | (exact absurd h (by decide)) | (try simp only [go_sem, simprocAttr, hb4, ht] at h)))) | omega | ((first | first | refine acall_simple hX hC hP (run_spec g hm) rfl rfl rfl (by simp only [go_sem, simprocAttr, hb4, ht]) rfl ?_ | refine acall_simple hX hC hP (indexFuncI_spec Robs.nil _ [] _ cyc1_spec (wts g (runG g)) hlw) rfl rfl rfl (by simp only [go_sem, simprocAttr, hb4, ht]) rfl ?_ | (refine acall_lend hX hC hP (containsI_spec way a hlway) rfl rfl rfl ?_ ?_ ?_ ?_; iterate 3 (focus (simp only [go_sem, simprocAttr, hb4, ht]; done))) | (refine acall_lend hX hC hP (indexI_spec way a hlway) rfl rfl rfl ?_ ?_ ?_ ?_; iterate 3 (focus (simp only [go_sem, simprocAttr, hb4, ht]; done))) | (refine acall_gen hX hC hP [(10000, 75)] (reverse_spec (way.drop k) hlr) rfl rfl rfl ?_ ?_ ?_ ?_ ?_ ?_ ?_ ?_ ?_ ?_ ?_ ?_ ?_ ?_; (focus (simp only [go_sem, simprocAttr, hb4, ht]; done)); (iterate 12 (focus (simp [go_sem, simprocAttr, hb4, ht]; done))); simp only [go_sem, simprocAttr, hb4, ht, List.map_cons, List.map_nil]) | (refine acall_lend hX hC hP (min_spec rev hrev0 hrev) rfl rfl rfl ?_ ?_ ?_ ?_; iterate 3 (focus (simp only [go_sem, simprocAttr, hb4, ht]; done))) | (refine acall_lend hX hC hP (indexI_spec rev (minL rev) hrev') rfl rfl rfl ?_ ?_ ?_ ?_; iterate 3 (focus (simp only [go_sem, simprocAttr, hb4, ht]; done))) | (refine acall_look hX hC hP (concat_spec [rev.drop k2, rev.take k2] hc1 hc2 hc3) rfl rfl rfl ?_ ?_ rfl ?_; iterate 2 (focus (simp only [go_sem, simprocAttr, hb4, ht]; done)))); try simp only [go_sem, simprocAttr, hb4, ht]) | (intro h))
   refine ⟨(way ++ [(a : Int)], backG g (wts g (runG g)) a), ⟨hway.next han hmem, backF_range hm _ _ _ (.inl rfl) inL_ok, ?_⟩, ?_, ?_⟩
   ·simp only
    rw [← hrun, left_app han hmem]
    simp only [wayF]
    rw [if_neg (by intro h; rcases h with h | h; omega; exact hmem h)]
   ·refine Le.of ?_ ?_ <;> simp [go_sem, simprocAttr, hb4, ht, backG]
   ·have := left_app han hmem; simp only; omega
end Go.Ab
end
section
namespace Go.Ab
open Go.Proofs
attribute [local congr] ACall.congr
set_option maxRecDepth 10000
def eF (f : Int × Int × List Int) : AV := .agg [eN f.1, eN f.2.1, .d (sI f.2.2)]
attribute [go_sem] eF
def loopI (g : Gr) : Int := findI (fun e : Edge => decide (e.1 = e.2)) g.es
def twiceB (g : Gr) (i : Nat) : Bool := decide (g.es.getD i (0, 0) ∈ g.es.take i)
def twiceI (g : Gr) : Int := findI (twiceB g) (List.range g.es.length)
def chkOf (g : Gr) (cyc bare : List Int) : Int × Int × List Int :=
 if mayB g = false then (1, 0, []) else
 if 0 ≤ loopI g then (13, loopI g, []) else
 if 0 ≤ twiceI g then (14, twiceI g, []) else
 if 0 < cyc.length then (15, 0, cyc) else
 if 1 < bare.length then (16, 0, bare.take 2) else (0, 0, [])
def chkG (g : Gr) : Int × Int × List Int := chkOf g (cycG g) (bareG (·.2) g)
theorem chk1_spec (e : Edge) : Spec Tryz.prog 92 (Args [eE e]) [] (eB (decide (e.1 = e.2))) [] := by
 (refine Spec.intro (C := T.cfg [] []) (rs := [.t 2]) (T.cfg_ok _ _) Tryz.func92 rfl rfl Tryz.ntmps92 Tryz.results92 (by simp [AObj.isNest]) (by simp [AObj.isNest]) (by kernel_rfl) ?_; intro X hX hP hC hXn hXm vals hA; refine ⟨_, by simp, hA, ?_⟩; have hmix : X.P.follows .mixedOrders = true := (by rw [hP]; exact T.mixed); clear hXn hXm)
 repeat' (first | fail | ((first | ((with_reducible (first | apply oA | apply oB)); exact rfl; intro K hK) | (refine hK _ ?_; clear hK K) | ((with_reducible (first | apply oG | apply oH)); iterate 3 exact rfl) | ((with_reducible apply oI); (iterate 2 exact rfl); intro K hK) | (with_reducible (first | apply wI | apply wJ | apply wK))); try simp only [go_sem, simprocAttr]) | fail | (with_reducible (first | apply oC | apply oJ | exact oK | apply wA | apply wB | apply wC hX hC | apply wD hX hC | apply wE hX hC hmix | apply wF hX hC hmix | apply wG | apply wH | apply And.intro)) | ((with_reducible refine oD ?_ ?_); first | fail | kernel_rfl) | ((with_reducible (first | apply oE | apply oF)); (iterate 3 exact rfl); all_goals (intro h; first | (exact absurd h (by decide)) | ((try simp only [go_sem, simprocAttr] at h); (try with_reducible intro K hK); simp only [go_sem, simprocAttr]))) | ((first | ((with_reducible apply wL); exact rfl) | ((with_reducible apply wM); exact rfl)); all_goals (try ((with_reducible intro h); first | (exact absurd h (by decide)) | (try simp only [go_sem, simprocAttr] at h)))) | omega | ((first | fail); try simp only [go_sem, simprocAttr]) | (intro h))
theorem range_getD {n k : Nat} (h : k < n) (d : Nat) : (List.range n).getD k d = k := by
 simp [List.getD_eq_getElem?_getD, List.getElem?_range h]
theorem check_spec (g : Gr) (hl : g.es.length ≤ 1000) : Spec Tryz.prog 55 (Args [eG g]) [] (eF (chkG g)) [] := by
 have hl : g.es.length ≤ 9223372036854775807 := by omega
 (refine Spec.intro (C := T.cfg [] []) (rs := [.c 2 56]) (T.cfg_ok _ _) Tryz.func55 rfl rfl Tryz.ntmps55 Tryz.results55 (by simp [AObj.isNest]) (by simp [AObj.isNest]) (by kernel_rfl) ?_; intro X hX hP hC hXn hXm vals hA; refine ⟨_, by simp, hA, ?_⟩; have hmix : X.P.follows .mixedOrders = true := (by rw [hP]; exact T.mixed); clear hXn hXm)
 cases hm : mayB g with
 | false =>
  repeat' (first | fail | ((first | ((with_reducible (first | apply oA | apply oB)); exact rfl; intro K hK) | (refine hK _ ?_; clear hK K) | ((with_reducible (first | apply oG | apply oH)); iterate 3 exact rfl) | ((with_reducible apply oI); (iterate 2 exact rfl); intro K hK) | (with_reducible (first | apply wI | apply wJ | apply wK))); try simp only [go_sem, simprocAttr, hm]) | fail | (with_reducible (first | apply oC | apply oJ | exact oK | apply wA | apply wB | apply wC hX hC | apply wD hX hC | apply wE hX hC hmix | apply wF hX hC hmix | apply wG | apply wH | apply And.intro)) | ((with_reducible refine oD ?_ ?_); first | fail | kernel_rfl) | ((with_reducible (first | apply oE | apply oF)); (iterate 3 exact rfl); all_goals (intro h; first | (exact absurd h (by decide)) | ((try simp only [go_sem, simprocAttr, hm] at h); (try with_reducible intro K hK); simp only [go_sem, simprocAttr, hm]))) | ((first | ((with_reducible apply wL); exact rfl) | ((with_reducible apply wM); exact rfl)); all_goals (try ((with_reducible intro h); first | (exact absurd h (by decide)) | (try simp only [go_sem, simprocAttr, hm] at h)))) | omega | ((first | first | refine acall_simple hX hC hP (may_spec g hl) rfl rfl rfl (by simp only [go_sem, simprocAttr, hm]) rfl ?_ | refine acall_simple hX hC hP (indexFuncE_spec Robs.nil _ [] _ chk1_spec g.es hl) rfl rfl rfl (by simp only [go_sem, simprocAttr, hm]) rfl ?_ | refine acall_simple hX hC hP (of_spec g hm) rfl rfl rfl (by simp only [go_sem, simprocAttr, hm]) rfl ?_ | refine acall_simple hX hC hP (cycle_spec g hm) rfl rfl rfl (by simp only [go_sem, simprocAttr, hm]) rfl ?_ | refine acall_simple hX hC hP (sources_spec g hm) rfl rfl rfl (by simp only [go_sem, simprocAttr, hm]) rfl ?_ | refine acall_simple hX hC hP (containsE_spec (g.es.take k) (g.es.getD k (0, 0)) hlk) rfl rfl rfl (by simp only [go_sem, simprocAttr, hm]) rfl ?_); try simp only [go_sem, simprocAttr, hm]) | (intro h))
  all_goals simp [chkG, chkOf, hm]
 | true =>
 have hn := mayB_n hm
 by_cases hlo : 0 ≤ loopI g
 ·have hb1 : decide (0 ≤ findI (fun p : Edge => decide (p.1 = p.2)) g.es) = true := decide_eq_true hlo
  repeat' (first | fail | ((first | ((with_reducible (first | apply oA | apply oB)); exact rfl; intro K hK) | (refine hK _ ?_; clear hK K) | ((with_reducible (first | apply oG | apply oH)); iterate 3 exact rfl) | ((with_reducible apply oI); (iterate 2 exact rfl); intro K hK) | (with_reducible (first | apply wI | apply wJ | apply wK))); try simp only [go_sem, simprocAttr, hm, hb1]) | fail | (with_reducible (first | apply oC | apply oJ | exact oK | apply wA | apply wB | apply wC hX hC | apply wD hX hC | apply wE hX hC hmix | apply wF hX hC hmix | apply wG | apply wH | apply And.intro)) | ((with_reducible refine oD ?_ ?_); first | fail | kernel_rfl) | ((with_reducible (first | apply oE | apply oF)); (iterate 3 exact rfl); all_goals (intro h; first | (exact absurd h (by decide)) | ((try simp only [go_sem, simprocAttr, hm, hb1] at h); (try with_reducible intro K hK); simp only [go_sem, simprocAttr, hm, hb1]))) | ((first | ((with_reducible apply wL); exact rfl) | ((with_reducible apply wM); exact rfl)); all_goals (try ((with_reducible intro h); first | (exact absurd h (by decide)) | (try simp only [go_sem, simprocAttr, hm, hb1] at h)))) | omega | ((first | first | refine acall_simple hX hC hP (may_spec g hl) rfl rfl rfl (by simp only [go_sem, simprocAttr, hm, hb1]) rfl ?_ | refine acall_simple hX hC hP (indexFuncE_spec Robs.nil _ [] _ chk1_spec g.es hl) rfl rfl rfl (by simp only [go_sem, simprocAttr, hm, hb1]) rfl ?_ | refine acall_simple hX hC hP (of_spec g hm) rfl rfl rfl (by simp only [go_sem, simprocAttr, hm, hb1]) rfl ?_ | refine acall_simple hX hC hP (cycle_spec g hm) rfl rfl rfl (by simp only [go_sem, simprocAttr, hm, hb1]) rfl ?_ | refine acall_simple hX hC hP (sources_spec g hm) rfl rfl rfl (by simp only [go_sem, simprocAttr, hm, hb1]) rfl ?_ | refine acall_simple hX hC hP (containsE_spec (g.es.take k) (g.es.getD k (0, 0)) hlk) rfl rfl rfl (by simp only [go_sem, simprocAttr, hm, hb1]) rfl ?_); try simp only [go_sem, simprocAttr, hm, hb1]) | (intro h))
  all_goals (
   have hc : chkG g = (13, loopI g, []) := by
    simp only [chkG, chkOf]; rw [if_neg (by simp [hm]), if_pos hlo]
   rw [hc] <;> rfl)
 have hb1 : decide (0 ≤ findI (fun p : Edge => decide (p.1 = p.2)) g.es) = false := decide_eq_false hlo
 repeat' (first | fail | ((first | ((with_reducible (first | apply oA | apply oB)); exact rfl; intro K hK) | (refine hK _ ?_; clear hK K) | ((with_reducible (first | apply oG | apply oH)); iterate 3 exact rfl) | ((with_reducible apply oI); (iterate 2 exact rfl); intro K hK) | (with_reducible (first | apply wI | apply wJ | apply wK))); try simp only [go_sem, simprocAttr, hm, hb1]) | fail | (with_reducible (first | apply oC | apply oJ | exact oK | apply wA | apply wB | apply wC hX hC | apply wD hX hC | apply wE hX hC hmix | apply wF hX hC hmix | apply wG | apply wH | apply And.intro)) | ((with_reducible refine oD ?_ ?_); first | fail | kernel_rfl) | ((with_reducible (first | apply oE | apply oF)); (iterate 3 exact rfl); all_goals (intro h; first | (exact absurd h (by decide)) | ((try simp only [go_sem, simprocAttr, hm, hb1] at h); (try with_reducible intro K hK); simp only [go_sem, simprocAttr, hm, hb1]))) | ((first | ((with_reducible apply wL); exact rfl) | ((with_reducible apply wM); exact rfl)); all_goals (try ((with_reducible intro h); first | (exact absurd h (by decide)) | (try simp only [go_sem, simprocAttr, hm, hb1] at h)))) | omega | ((first | first | refine acall_simple hX hC hP (may_spec g hl) rfl rfl rfl (by simp only [go_sem, simprocAttr, hm, hb1]) rfl ?_ | refine acall_simple hX hC hP (indexFuncE_spec Robs.nil _ [] _ chk1_spec g.es hl) rfl rfl rfl (by simp only [go_sem, simprocAttr, hm, hb1]) rfl ?_ | refine acall_simple hX hC hP (of_spec g hm) rfl rfl rfl (by simp only [go_sem, simprocAttr, hm, hb1]) rfl ?_ | refine acall_simple hX hC hP (cycle_spec g hm) rfl rfl rfl (by simp only [go_sem, simprocAttr, hm, hb1]) rfl ?_ | refine acall_simple hX hC hP (sources_spec g hm) rfl rfl rfl (by simp only [go_sem, simprocAttr, hm, hb1]) rfl ?_ | refine acall_simple hX hC hP (containsE_spec (g.es.take k) (g.es.getD k (0, 0)) hlk) rfl rfl rfl (by simp only [go_sem, simprocAttr, hm, hb1]) rfl ?_); try simp only [go_sem, simprocAttr, hm, hb1]) | (intro h))
 refine awp_loopP (fun k : Nat => k ≤ g.es.length ∧ ∀ j, j < k → twiceB g j = false) (fun k => ⟨[(23, eN k), (22, eN g.es.length), (21, .d (sE g.es)), (1, .ptr 1 0), (2, .ptr 2 0)], [(1, .box [eN g.n, .d (sE g.es)]), (2, .box [eN 0, eN 0, .nil 3])]⟩) (fun k => g.es.length - k) 0 (by simp) ?_ ?_
 ·(refine Le.of ?_ ?_ <;> simp [go_sem, simprocAttr, hm, hb1])
 rintro k ⟨hk, htw⟩
 rcases Nat.lt_or_ge k g.es.length with hlt | hge
 ·have hb2 : decide ((k : Int) < (g.es.length : Int)) = true := decide_eq_true (by omega)
  have hlk : (g.es.take k).length ≤ 9223372036854775807 := by rw [List.length_take]; omega
  repeat' (first | fail | ((first | ((with_reducible (first | apply oA | apply oB)); exact rfl; intro K hK) | (refine hK _ ?_; clear hK K) | ((with_reducible (first | apply oG | apply oH)); iterate 3 exact rfl) | ((with_reducible apply oI); (iterate 2 exact rfl); intro K hK) | (with_reducible (first | apply wI | apply wJ | apply wK))); try simp only [go_sem, simprocAttr, hm, hb1, hb2, ← List.map_take]) | fail | (with_reducible (first | apply oC | apply oJ | exact oK | apply wA | apply wB | apply wC hX hC | apply wD hX hC | apply wE hX hC hmix | apply wF hX hC hmix | apply wG | apply wH | apply And.intro)) | ((with_reducible refine oD ?_ ?_); first | fail | kernel_rfl) | ((with_reducible (first | apply oE | apply oF)); (iterate 3 exact rfl); all_goals (intro h; first | (exact absurd h (by decide)) | ((try simp only [go_sem, simprocAttr, hm, hb1, hb2, ← List.map_take] at h); (try with_reducible intro K hK); simp only [go_sem, simprocAttr, hm, hb1, hb2, ← List.map_take]))) | ((first | ((with_reducible apply wL); exact rfl) | ((with_reducible apply wM); exact rfl)); all_goals (try ((with_reducible intro h); first | (exact absurd h (by decide)) | (try simp only [go_sem, simprocAttr, hm, hb1, hb2, ← List.map_take] at h)))) | omega | ((first | first | refine acall_simple hX hC hP (may_spec g hl) rfl rfl rfl (by simp only [go_sem, simprocAttr, hm, hb1, hb2, ← List.map_take]) rfl ?_ | refine acall_simple hX hC hP (indexFuncE_spec Robs.nil _ [] _ chk1_spec g.es hl) rfl rfl rfl (by simp only [go_sem, simprocAttr, hm, hb1, hb2, ← List.map_take]) rfl ?_ | refine acall_simple hX hC hP (of_spec g hm) rfl rfl rfl (by simp only [go_sem, simprocAttr, hm, hb1, hb2, ← List.map_take]) rfl ?_ | refine acall_simple hX hC hP (cycle_spec g hm) rfl rfl rfl (by simp only [go_sem, simprocAttr, hm, hb1, hb2, ← List.map_take]) rfl ?_ | refine acall_simple hX hC hP (sources_spec g hm) rfl rfl rfl (by simp only [go_sem, simprocAttr, hm, hb1, hb2, ← List.map_take]) rfl ?_ | refine acall_simple hX hC hP (containsE_spec (g.es.take k) (g.es.getD k (0, 0)) hlk) rfl rfl rfl (by simp only [go_sem, simprocAttr, hm, hb1, hb2, ← List.map_take]) rfl ?_); try simp only [go_sem, simprocAttr, hm, hb1, hb2, ← List.map_take]) | (intro h))
  any_goals (
   have htI : twiceI g = (k : Int) := findI_at (d := 0) (by simpa using hlt) (fun j hj => by rw [range_getD (by omega)]; exact htw j hj) (by rw [range_getD hlt]; exact decide_eq_true h)
   have hc : chkG g = (14, twiceI g, []) := by
    simp only [chkG, chkOf]; rw [if_neg (by simp [hm]), if_neg hlo, if_pos (by omega)]
   rw [hc] <;> first | rfl | exact htI.symm)
  refine ⟨k + 1, ⟨by omega, fun j hj => ?_⟩, ?_, by omega⟩
  ·by_cases hjk : j = k
   ·subst hjk; exact decide_eq_false h
   ·exact htw j (by omega)
  ·(refine Le.of ?_ ?_ <;> simp [go_sem, simprocAttr, hm, hb1, hb2, ← List.map_take])
 ·have hb2 : decide ((k : Int) < (g.es.length : Int)) = false := decide_eq_false (by omega)
  have htw' : ¬ 0 ≤ twiceI g := by
   have : twiceI g = -1 := findI_none 0 fun j hj => by
    rw [List.length_range] at hj
    rw [range_getD hj]; exact htw j (by omega)
   omega
  repeat' (first | fail | ((first | ((with_reducible (first | apply oA | apply oB)); exact rfl; intro K hK) | (refine hK _ ?_; clear hK K) | ((with_reducible (first | apply oG | apply oH)); iterate 3 exact rfl) | ((with_reducible apply oI); (iterate 2 exact rfl); intro K hK) | (with_reducible (first | apply wI | apply wJ | apply wK))); try simp only [go_sem, simprocAttr, hm, hb1, hb2]) | fail | (with_reducible (first | apply oC | apply oJ | exact oK | apply wA | apply wB | apply wC hX hC | apply wD hX hC | apply wE hX hC hmix | apply wF hX hC hmix | apply wG | apply wH | apply And.intro)) | ((with_reducible refine oD ?_ ?_); first | fail | kernel_rfl) | ((with_reducible (first | apply oE | apply oF)); (iterate 3 exact rfl); all_goals (intro h; first | (exact absurd h (by decide)) | ((try simp only [go_sem, simprocAttr, hm, hb1, hb2] at h); (try with_reducible intro K hK); simp only [go_sem, simprocAttr, hm, hb1, hb2]))) | ((first | ((with_reducible apply wL); exact rfl) | ((with_reducible apply wM); exact rfl)); all_goals (try ((with_reducible intro h); first | (exact absurd h (by decide)) | (try simp only [go_sem, simprocAttr, hm, hb1, hb2] at h)))) | omega | ((first | first | refine acall_simple hX hC hP (may_spec g hl) rfl rfl rfl (by simp only [go_sem, simprocAttr, hm, hb1, hb2]) rfl ?_ | refine acall_simple hX hC hP (indexFuncE_spec Robs.nil _ [] _ chk1_spec g.es hl) rfl rfl rfl (by simp only [go_sem, simprocAttr, hm, hb1, hb2]) rfl ?_ | refine acall_simple hX hC hP (of_spec g hm) rfl rfl rfl (by simp only [go_sem, simprocAttr, hm, hb1, hb2]) rfl ?_ | refine acall_simple hX hC hP (cycle_spec g hm) rfl rfl rfl (by simp only [go_sem, simprocAttr, hm, hb1, hb2]) rfl ?_ | refine acall_simple hX hC hP (sources_spec g hm) rfl rfl rfl (by simp only [go_sem, simprocAttr, hm, hb1, hb2]) rfl ?_ | refine acall_simple hX hC hP (containsE_spec (g.es.take k) (g.es.getD k (0, 0)) hlk) rfl rfl rfl (by simp only [go_sem, simprocAttr, hm, hb1, hb2]) rfl ?_); try simp only [go_sem, simprocAttr, hm, hb1, hb2]) | (intro h))
  all_goals (
   have hc : chkG g = if 0 < (cycG g).length then (15, 0, cycG g) else if 1 < (bareG (·.2) g).length then (16, 0, (bareG (·.2) g).take 2) else (0, 0, []) := by
    simp only [chkG, chkOf]; rw [if_neg (by simp [hm]), if_neg hlo, if_neg htw']
   first | rw [if_pos (by omega)] at hc | (rw [if_neg (by omega)] at hc; first | rw [if_pos (by omega)] at hc | rw [if_neg (by omega)] at hc)
   rw [hc] <;> first | rfl | simp only [List.map_take])
end Go.Ab
end
section
namespace Go.Ab
open Go.Proofs
attribute [local congr] ACall.congr
set_option maxRecDepth 10000
theorem has_spec (ps : List Int) (x : Int) (hl : ps.length ≤ 9223372036854775807) :
  Spec Tryz.prog 49 (Args [.d (sI ps), eN x]) [] (eN (idxI ps x)) [] := by
 (refine Spec.intro (C := T.cfg [] []) (rs := [.t 4]) (T.cfg_ok _ _) Tryz.func49 rfl rfl Tryz.ntmps49 Tryz.results49 (by simp [AObj.isNest]) (by simp [AObj.isNest]) (by kernel_rfl) ?_; intro X hX hP hC hXn hXm vals hA; refine ⟨_, by simp, hA, ?_⟩; have hmix : X.P.follows .mixedOrders = true := (by rw [hP]; exact T.mixed); clear hXn hXm)
 repeat' (first | fail | ((first | ((with_reducible (first | apply oA | apply oB)); exact rfl; intro K hK) | (refine hK _ ?_; clear hK K) | ((with_reducible (first | apply oG | apply oH)); iterate 3 exact rfl) | ((with_reducible apply oI); (iterate 2 exact rfl); intro K hK) | (with_reducible (first | apply wI | apply wJ | apply wK))); try simp only [go_sem, simprocAttr]) | fail | (with_reducible (first | apply oC | apply oJ | exact oK | apply wA | apply wB | apply wC hX hC | apply wD hX hC | apply wE hX hC hmix | apply wF hX hC hmix | apply wG | apply wH | apply And.intro)) | ((with_reducible refine oD ?_ ?_); first | fail | kernel_rfl) | ((with_reducible (first | apply oE | apply oF)); (iterate 3 exact rfl); all_goals (intro h; first | (exact absurd h (by decide)) | ((try simp only [go_sem, simprocAttr] at h); (try with_reducible intro K hK); simp only [go_sem, simprocAttr]))) | ((first | ((with_reducible apply wL); exact rfl) | ((with_reducible apply wM); exact rfl)); all_goals (try ((with_reducible intro h); first | (exact absurd h (by decide)) | (try simp only [go_sem, simprocAttr] at h)))) | omega | ((first | fail); try simp only [go_sem, simprocAttr]) | (intro h))
 refine awp_loopP (fun k : Nat => k ≤ ps.length ∧ ∀ j, j < k → decide (x = ps.getD j 0) = false) (fun k => ⟨[(0, .d (sI ps)), (1, eN x), (5, eN k)], []⟩) (fun k => ps.length - k) 0 (by simp) ?_ ?_
 ·(refine ⟨leT_spec ?_, fun _ _ h => h⟩; simp [go_sem, simprocAttr])
 rintro k ⟨hk, hg⟩
 repeat' (first | fail | ((first | ((with_reducible (first | apply oA | apply oB)); exact rfl; intro K hK) | (refine hK _ ?_; clear hK K) | ((with_reducible (first | apply oG | apply oH)); iterate 3 exact rfl) | ((with_reducible apply oI); (iterate 2 exact rfl); intro K hK) | (with_reducible (first | apply wI | apply wJ | apply wK))); try simp only [go_sem, simprocAttr]) | fail | (with_reducible (first | apply oC | apply oJ | exact oK | apply wA | apply wB | apply wC hX hC | apply wD hX hC | apply wE hX hC hmix | apply wF hX hC hmix | apply wG | apply wH | apply And.intro)) | ((with_reducible refine oD ?_ ?_); first | fail | kernel_rfl) | ((with_reducible (first | apply oE | apply oF)); (iterate 3 exact rfl); all_goals (intro h; first | (exact absurd h (by decide)) | ((try simp only [go_sem, simprocAttr] at h); (try with_reducible intro K hK); simp only [go_sem, simprocAttr]))) | ((first | ((with_reducible apply wL); exact rfl) | ((with_reducible apply wM); exact rfl)); all_goals (try ((with_reducible intro h); first | (exact absurd h (by decide)) | (try simp only [go_sem, simprocAttr] at h)))) | omega | ((first | fail); try simp only [go_sem, simprocAttr]) | (intro h))
 ·exact (findI_at (by omega) hg (by simpa using h.symm)).symm
 ·refine ⟨k + 1, ⟨by omega, fun j hj => ?_⟩, ?_, by omega⟩
  ·by_cases hjk : j = k
   ·subst hjk; exact fun e => h (Eq.symm e)
   ·simpa using hg j (by omega)
  ·(refine ⟨leT_spec ?_, fun _ _ h => h⟩; simp [go_sem, simprocAttr])
 ·exact (findI_none 0 fun j hj => hg j (by omega)).symm
def endsZ (f : Edge → Int) (es : List Edge) (k : Nat) (x : Int) : List Int := ((List.range k).filter fun i => decide (f (es.getD i (0, 0)) = x)).map Int.ofNat
theorem endsK_eq (f : Edge → Int) (es : List Edge) (k x : Nat) : endsK f es k x = endsZ f es k (x : Int) := rfl
theorem endsZ_len {f : Edge → Int} {es : List Edge} {k : Nat} {x : Int} : (endsZ f es k x).length ≤ k := by
 simpa [endsZ] using List.length_filter_le (fun i => decide (f (es.getD i (0, 0)) = x)) (List.range k)
theorem endsZ_next {f : Edge → Int} {es : List Edge} {k : Nat} {x : Int} : endsZ f es (k + 1) x = endsZ f es k x ++ if f (es.getD k (0, 0)) = x then [(k : Int)] else [] := by
 simp only [endsZ, List.range_succ, List.filter_append, List.map_append, List.filter_cons, List.filter_nil]
 split <;> simp_all
def endF (b : Bool) (e : Edge) : Int := if b then e.1 else e.2
theorem ends_spec (g : Gr) (x : Int) (b : Bool) (hl : g.es.length ≤ 1000) : Spec Tryz.prog 45 (Args [eG g, eN x, eB b]) [] (.d (sI (endsZ (endF b) g.es g.es.length x))) [] := by
 (refine Spec.intro (C := T.cfg [] []) (rs := [.t 6]) (T.cfg_ok _ _) Tryz.func45 rfl rfl Tryz.ntmps45 Tryz.results45 (by simp [AObj.isNest]) (by simp [AObj.isNest]) (by kernel_rfl) ?_; intro X hX hP hC hXn hXm vals hA; refine ⟨_, by simp, hA, ?_⟩; have hmix : X.P.follows .mixedOrders = true := (by rw [hP]; exact T.mixed); clear hXn hXm)
 repeat' (first | fail | ((first | ((with_reducible (first | apply oA | apply oB)); exact rfl; intro K hK) | (refine hK _ ?_; clear hK K) | ((with_reducible (first | apply oG | apply oH)); iterate 3 exact rfl) | ((with_reducible apply oI); (iterate 2 exact rfl); intro K hK) | (with_reducible (first | apply wI | apply wJ | apply wK))); try simp only [go_sem, simprocAttr]) | fail | (with_reducible (first | apply oC | apply oJ | exact oK | apply wA | apply wB | apply wC hX hC | apply wD hX hC | apply wE hX hC hmix | apply wF hX hC hmix | apply wG | apply wH | apply And.intro)) | ((with_reducible refine oD ?_ ?_); first | fail | kernel_rfl) | ((with_reducible (first | apply oE | apply oF)); (iterate 3 exact rfl); all_goals (intro h; first | (exact absurd h (by decide)) | ((try simp only [go_sem, simprocAttr] at h); (try with_reducible intro K hK); simp only [go_sem, simprocAttr]))) | ((first | ((with_reducible apply wL); exact rfl) | ((with_reducible apply wM); exact rfl)); all_goals (try ((with_reducible intro h); first | (exact absurd h (by decide)) | (try simp only [go_sem, simprocAttr] at h)))) | omega | ((first | fail); try simp only [go_sem, simprocAttr]) | (intro h))
 (refine awp_mv hX 7 9 45 (by simp only [go_sem, simprocAttr]) rfl (by first | exact .inl rfl | exact .inr rfl) (by decide) ?_; simp only [go_sem, simprocAttr])
 refine awp_loopP (fun k : Nat => k ≤ g.es.length) (fun k => ⟨[(1, eN x), (2, eB b), (3, .ptr 3 0), (8, eN k), (7, .ref 45)], [(3, .box [eN g.n, .d (sE g.es)]), (45, .tip 3 1 ((endsZ (endF b) g.es k x).map rI))]⟩) (fun k => g.es.length - k) 0 (by simp) ?_ ?_
 ·refine Le.of ?_ ?_ <;> simp [go_sem, simprocAttr, endsZ]
 rintro k hk
 rcases Nat.lt_or_ge k g.es.length with hlt | hge
 ·have hb : decide ((k : Int) < (g.es.length : Int)) = true := decide_eq_true (by omega)
  have hll := endsZ_len (f := endF b) (es := g.es) (k := k) (x := x)
  cases b
  ·have hnx : endsZ (endF false) g.es (k + 1) x = endsZ (endF false) g.es k x ++ if (g.es.getD k (0, 0)).2 = x then [(k : Int)] else [] := endsZ_next
   repeat' (first | fail | ((first | ((with_reducible (first | apply oA | apply oB)); exact rfl; intro K hK) | (refine hK _ ?_; clear hK K) | ((with_reducible (first | apply oG | apply oH)); iterate 3 exact rfl) | ((with_reducible apply oI); (iterate 2 exact rfl); intro K hK) | (with_reducible (first | apply wI | apply wJ | apply wK))); try simp only [go_sem, simprocAttr, hb]) | fail | (with_reducible (first | apply oC | apply oJ | exact oK | apply wA | apply wB | apply wC hX hC | apply wD hX hC | apply wE hX hC hmix | apply wF hX hC hmix | apply wG | apply wH | apply And.intro)) | ((with_reducible refine oD ?_ ?_); first | fail | kernel_rfl) | ((with_reducible (first | apply oE | apply oF)); (iterate 3 exact rfl); all_goals (intro h; first | (exact absurd h (by decide)) | ((try simp only [go_sem, simprocAttr, hb] at h); (try with_reducible intro K hK); simp only [go_sem, simprocAttr, hb]))) | ((first | ((with_reducible apply wL); exact rfl) | ((with_reducible apply wM); exact rfl)); all_goals (try ((with_reducible intro h); first | (exact absurd h (by decide)) | (try simp only [go_sem, simprocAttr, hb] at h)))) | omega | ((first | fail); try simp only [go_sem, simprocAttr, hb]) | (intro h))
   all_goals (first | rw [if_pos (by assumption)] at hnx | rw [if_neg (by assumption), List.append_nil] at hnx)
   all_goals (refine ⟨k + 1, by omega, ?_, by omega⟩; refine Le.of ?_ ?_ <;> simp [go_sem, simprocAttr, hb, hnx, rI])
  ·have hnx : endsZ (endF true) g.es (k + 1) x = endsZ (endF true) g.es k x ++ if (g.es.getD k (0, 0)).1 = x then [(k : Int)] else [] := endsZ_next
   repeat' (first | fail | ((first | ((with_reducible (first | apply oA | apply oB)); exact rfl; intro K hK) | (refine hK _ ?_; clear hK K) | ((with_reducible (first | apply oG | apply oH)); iterate 3 exact rfl) | ((with_reducible apply oI); (iterate 2 exact rfl); intro K hK) | (with_reducible (first | apply wI | apply wJ | apply wK))); try simp only [go_sem, simprocAttr, hb]) | fail | (with_reducible (first | apply oC | apply oJ | exact oK | apply wA | apply wB | apply wC hX hC | apply wD hX hC | apply wE hX hC hmix | apply wF hX hC hmix | apply wG | apply wH | apply And.intro)) | ((with_reducible refine oD ?_ ?_); first | fail | kernel_rfl) | ((with_reducible (first | apply oE | apply oF)); (iterate 3 exact rfl); all_goals (intro h; first | (exact absurd h (by decide)) | ((try simp only [go_sem, simprocAttr, hb] at h); (try with_reducible intro K hK); simp only [go_sem, simprocAttr, hb]))) | ((first | ((with_reducible apply wL); exact rfl) | ((with_reducible apply wM); exact rfl)); all_goals (try ((with_reducible intro h); first | (exact absurd h (by decide)) | (try simp only [go_sem, simprocAttr, hb] at h)))) | omega | ((first | fail); try simp only [go_sem, simprocAttr, hb]) | (intro h))
   all_goals (first | rw [if_pos (by assumption)] at hnx | rw [if_neg (by assumption), List.append_nil] at hnx)
   all_goals (refine ⟨k + 1, by omega, ?_, by omega⟩; refine Le.of ?_ ?_ <;> simp [go_sem, simprocAttr, hb, hnx, rI])
 ·have hb : decide ((k : Int) < (g.es.length : Int)) = false := decide_eq_false (by omega)
  obtain rfl : k = g.es.length := by omega
  repeat' (first | fail | ((first | ((with_reducible (first | apply oA | apply oB)); exact rfl; intro K hK) | (refine hK _ ?_; clear hK K) | ((with_reducible (first | apply oG | apply oH)); iterate 3 exact rfl) | ((with_reducible apply oI); (iterate 2 exact rfl); intro K hK) | (with_reducible (first | apply wI | apply wJ | apply wK))); try simp only [go_sem, simprocAttr, hb]) | fail | (with_reducible (first | apply oC | apply oJ | exact oK | apply wA | apply wB | apply wC hX hC | apply wD hX hC | apply wE hX hC hmix | apply wF hX hC hmix | apply wG | apply wH | apply And.intro)) | ((with_reducible refine oD ?_ ?_); first | fail | kernel_rfl) | ((with_reducible (first | apply oE | apply oF)); (iterate 3 exact rfl); all_goals (intro h; first | (exact absurd h (by decide)) | ((try simp only [go_sem, simprocAttr, hb] at h); (try with_reducible intro K hK); simp only [go_sem, simprocAttr, hb]))) | ((first | ((with_reducible apply wL); exact rfl) | ((with_reducible apply wM); exact rfl)); all_goals (try ((with_reducible intro h); first | (exact absurd h (by decide)) | (try simp only [go_sem, simprocAttr, hb] at h)))) | omega | ((first | fail); try simp only [go_sem, simprocAttr, hb]) | (intro h))
theorem refBare_spec (g : Gr) (b : Bool) (hl : g.es.length ≤ 1000) (hn : 0 ≤ g.n ∧ g.n ≤ 1000) : Spec Tryz.prog 29 (Args [eG g, eB b]) [] (.d (sI (bareG (endF (!b)) g))) [] := by
 (refine Spec.intro (C := T.cfg [] []) (rs := [.t 4]) (T.cfg_ok _ _) Tryz.func29 rfl rfl Tryz.ntmps29 Tryz.results29 (by simp [AObj.isNest]) (by simp [AObj.isNest]) (by kernel_rfl) ?_; intro X hX hP hC hXn hXm vals hA; refine ⟨_, by simp, hA, ?_⟩; have hmix : X.P.follows .mixedOrders = true := (by rw [hP]; exact T.mixed); clear hXn hXm)
 repeat' (first | fail | ((first | ((with_reducible (first | apply oA | apply oB)); exact rfl; intro K hK) | (refine hK _ ?_; clear hK K) | ((with_reducible (first | apply oG | apply oH)); iterate 3 exact rfl) | ((with_reducible apply oI); (iterate 2 exact rfl); intro K hK) | (with_reducible (first | apply wI | apply wJ | apply wK))); try simp only [go_sem, simprocAttr]) | fail | (with_reducible (first | apply oC | apply oJ | exact oK | apply wA | apply wB | apply wC hX hC | apply wD hX hC | apply wE hX hC hmix | apply wF hX hC hmix | apply wG | apply wH | apply And.intro)) | ((with_reducible refine oD ?_ ?_); first | fail | kernel_rfl) | ((with_reducible (first | apply oE | apply oF)); (iterate 3 exact rfl); all_goals (intro h; first | (exact absurd h (by decide)) | ((try simp only [go_sem, simprocAttr] at h); (try with_reducible intro K hK); simp only [go_sem, simprocAttr]))) | ((first | ((with_reducible apply wL); exact rfl) | ((with_reducible apply wM); exact rfl)); all_goals (try ((with_reducible intro h); first | (exact absurd h (by decide)) | (try simp only [go_sem, simprocAttr] at h)))) | omega | ((first | refine acall_simple hX hC hP (ends_spec g (k : Int) (!b) hl) rfl rfl rfl (by simp only [go_sem, simprocAttr]) rfl ?_); try simp only [go_sem, simprocAttr]) | (intro h))
 (refine awp_mv hX 5 7 24 (by simp only [go_sem, simprocAttr]) rfl (by first | exact .inl rfl | exact .inr rfl) (by decide) ?_; simp only [go_sem, simprocAttr])
 refine awp_loopP (fun k : Nat => k ≤ g.n.toNat) (fun k => ⟨[(1, eB b), (2, .ptr 2 0), (6, eN k), (5, .ref 24)], [(2, .box [eN g.n, .d (sE g.es)]), (24, .tip 3 1 ((bareK (endsL (endF (!b)) g) k).map rI))]⟩) (fun k => g.n.toNat - k) 0 (by simp) ?_ ?_
 ·refine Le.of ?_ ?_ <;> simp [go_sem, simprocAttr, bareK]
 rintro k hk
 rcases Nat.lt_or_ge k g.n.toNat with hlt | hge
 ·have hb : decide ((k : Int) < g.n) = true := decide_eq_true (by omega)
  have hll := bareK_len (ls := endsL (endF (!b)) g) (k := k)
  have he : (endsL (endF (!b)) g).getD k [] = endsZ (endF (!b)) g.es g.es.length (k : Int) := by
   simp [endsL, List.getD_eq_getElem?_getD, List.getElem?_range hlt, endsK_eq]
  have hnx := bareK_next (ls := endsL (endF (!b)) g) (k := k)
  rw [he] at hnx
  repeat' (first | fail | ((first | ((with_reducible (first | apply oA | apply oB)); exact rfl; intro K hK) | (refine hK _ ?_; clear hK K) | ((with_reducible (first | apply oG | apply oH)); iterate 3 exact rfl) | ((with_reducible apply oI); (iterate 2 exact rfl); intro K hK) | (with_reducible (first | apply wI | apply wJ | apply wK))); try simp only [go_sem, simprocAttr, hb]) | fail | (with_reducible (first | apply oC | apply oJ | exact oK | apply wA | apply wB | apply wC hX hC | apply wD hX hC | apply wE hX hC hmix | apply wF hX hC hmix | apply wG | apply wH | apply And.intro)) | ((with_reducible refine oD ?_ ?_); first | fail | kernel_rfl) | ((with_reducible (first | apply oE | apply oF)); (iterate 3 exact rfl); all_goals (intro h; first | (exact absurd h (by decide)) | ((try simp only [go_sem, simprocAttr, hb] at h); (try with_reducible intro K hK); simp only [go_sem, simprocAttr, hb]))) | ((first | ((with_reducible apply wL); exact rfl) | ((with_reducible apply wM); exact rfl)); all_goals (try ((with_reducible intro h); first | (exact absurd h (by decide)) | (try simp only [go_sem, simprocAttr, hb] at h)))) | omega | ((first | refine acall_simple hX hC hP (ends_spec g (k : Int) (!b) hl) rfl rfl rfl (by simp only [go_sem, simprocAttr, hb]) rfl ?_); try simp only [go_sem, simprocAttr, hb]) | (intro h))
  all_goals (first | rw [if_pos (by omega)] at hnx | rw [if_neg (by omega), List.append_nil] at hnx)
  all_goals (refine ⟨k + 1, by omega, ?_, by omega⟩; refine Le.of ?_ ?_ <;> simp [go_sem, simprocAttr, hb, hnx, rI])
 ·have hb : decide ((k : Int) < g.n) = false := decide_eq_false (by omega)
  obtain rfl : k = g.n.toNat := by omega
  repeat' (first | fail | ((first | ((with_reducible (first | apply oA | apply oB)); exact rfl; intro K hK) | (refine hK _ ?_; clear hK K) | ((with_reducible (first | apply oG | apply oH)); iterate 3 exact rfl) | ((with_reducible apply oI); (iterate 2 exact rfl); intro K hK) | (with_reducible (first | apply wI | apply wJ | apply wK))); try simp only [go_sem, simprocAttr, hb]) | fail | (with_reducible (first | apply oC | apply oJ | exact oK | apply wA | apply wB | apply wC hX hC | apply wD hX hC | apply wE hX hC hmix | apply wF hX hC hmix | apply wG | apply wH | apply And.intro)) | ((with_reducible refine oD ?_ ?_); first | fail | kernel_rfl) | ((with_reducible (first | apply oE | apply oF)); (iterate 3 exact rfl); all_goals (intro h; first | (exact absurd h (by decide)) | ((try simp only [go_sem, simprocAttr, hb] at h); (try with_reducible intro K hK); simp only [go_sem, simprocAttr, hb]))) | ((first | ((with_reducible apply wL); exact rfl) | ((with_reducible apply wM); exact rfl)); all_goals (try ((with_reducible intro h); first | (exact absurd h (by decide)) | (try simp only [go_sem, simprocAttr, hb] at h)))) | omega | ((first | refine acall_simple hX hC hP (ends_spec g (k : Int) (!b) hl) rfl rfl rfl (by simp only [go_sem, simprocAttr, hb]) rfl ?_); try simp only [go_sem, simprocAttr, hb]) | (intro h))
  rfl
end Go.Ab
end
section
namespace Go.Ab
open Go.Proofs
attribute [local congr] ACall.congr
set_option maxRecDepth 10000
def rB (b : Bool) : List D := [.sc (.bool b)]
def sB (l : List Bool) : D := .sl 1 (l.map rB)
theorem getD_rB (l : List Bool) (i : Nat) : (l.map rB).getD i [.sc (.bool false)] = [.sc (.bool (l.getD i false))] := by
 simp only [List.getD_eq_getElem?_getD, List.getElem?_map]
 cases l[i]? <;> rfl
attribute [go_sem] getD_rB sB
theorem set_rB (l : List Bool) (k : Nat) (v : Bool) : (l.map rB).set k [.sc (.bool v)] = (l.set k v).map rB := by
 rw [List.map_set]; rfl
theorem set_range {α : Type} {n k : Nat} {f : Nat → α} {v : α} : ((List.range n).map f).set k v = (List.range n).map fun y => if y = k then v else f y := by
 refine List.ext_getElem? fun i => ?_
 rw [List.getElem?_set, List.length_map, List.length_range]
 by_cases hi : i < n
 ·rw [List.getElem?_map, List.getElem?_map, List.getElem?_range hi]
  by_cases h : k = i
  ·subst h; simp [hi]
  ·have : ¬ i = k := fun e => h e.symm
   simp [h, this]
 ·rw [List.getElem?_eq_none (by simp; omega), List.getElem?_eq_none (by simp; omega)]
  split
  ·rw [if_neg (by omega)]
  ·rfl
def trueK (n k : Nat) : List Bool := (List.range n).map fun y => decide (y < k)
def nextK (g : Gr) (l : List Bool) (j : Nat) : List Bool := (List.range g.n.toNat).map fun y : Nat => (List.range j).any fun i => decide (hd g i = (y : Int)) && (l.getD (tl g i).toNat false && l.getD (hd g i).toNat false)
def leftK (g : Gr) : Nat → List Bool
 | 0 => trueK g.n.toNat g.n.toNat
 | k + 1 => nextK g (leftK g k) g.es.length
theorem trueK_length {n k : Nat} : (trueK n k).length = n := by simp [trueK]
theorem nextK_length {g : Gr} {l : List Bool} {j : Nat} : (nextK g l j).length = g.n.toNat := by simp [nextK]
theorem leftK_length {g : Gr} {k : Nat} : (leftK g k).length = g.n.toNat := by
 cases k
 ·exact trueK_length
 ·exact nextK_length
theorem trueK_zero {n : Nat} : List.replicate n [D.sc (.bool false)] = (trueK n 0).map rB := by
 refine List.ext_getElem? fun i => ?_
 by_cases hi : i < n
 ·simp [trueK, hi, rB, List.getElem?_range hi]
 ·rw [List.getElem?_eq_none (by simp; omega), List.getElem?_eq_none (by simp [trueK]; omega)]
theorem trueK_next {n k : Nat} : (trueK n k).set k true = trueK n (k + 1) := by
 unfold trueK; rw [set_range]
 refine List.map_congr_left fun y _ => ?_
 split
 ·rename_i h; subst h; simp
 ·rename_i h
  rw [Bool.eq_iff_iff]; simp; omega
theorem nextK_zero {g : Gr} {l : List Bool} : List.replicate g.n.toNat [D.sc (.bool false)] = (nextK g l 0).map rB := by
 refine List.ext_getElem? fun i => ?_
 by_cases hi : i < g.n.toNat
 ·simp [nextK, hi, rB, List.getElem?_range hi]
 ·rw [List.getElem?_eq_none (by simp; omega), List.getElem?_eq_none (by simp [nextK]; omega)]
theorem nextK_yes {g : Gr} {l : List Bool} {j : Nat} (h0 : 0 ≤ hd g j) (h : (l.getD (tl g j).toNat false && l.getD (hd g j).toNat false) = true) : (nextK g l j).set (hd g j).toNat true = nextK g l (j + 1) := by
 unfold nextK; rw [set_range]
 refine List.map_congr_left fun y _ => ?_
 rw [List.range_succ, List.any_append]
 simp only [List.any_cons, List.any_nil, h, Bool.and_true, Bool.or_false]
 split
 ·rename_i e
  have : hd g j = (y : Int) := by omega
  simp [this]
 ·rename_i e
  have : ¬ hd g j = (y : Int) := by omega
  simp [this]
theorem nextK_no {g : Gr} {l : List Bool} {j : Nat} (h : (l.getD (tl g j).toNat false && l.getD (hd g j).toNat false) = false) : nextK g l j = nextK g l (j + 1) := by
 unfold nextK
 refine List.map_congr_left fun y _ => ?_
 rw [List.range_succ, List.any_append]
 simp only [List.any_cons, List.any_nil, h, Bool.and_false, Bool.or_false]
attribute [go_sem] trueK_length nextK_length leftK_length
theorem left_spec (g : Gr) (hm : mayB g = true) : Spec Tryz.prog 141 (Args [eG g]) [] (.d (sB (leftK g g.n.toNat))) [] := by
 have hn := mayB_n hm
 (refine Spec.intro (C := T.cfg [] []) (rs := [.t 2]) (T.cfg_ok _ _) Tryz.func141 rfl rfl Tryz.ntmps141 Tryz.results141 (by simp [AObj.isNest]) (by simp [AObj.isNest]) (by kernel_rfl) ?_; intro X hX hP hC hXn hXm vals hA; refine ⟨_, by simp, hA, ?_⟩; have hmix : X.P.follows .mixedOrders = true := (by rw [hP]; exact T.mixed); clear hXn hXm)
 repeat' (first | fail | ((first | ((with_reducible (first | apply oA | apply oB)); exact rfl; intro K hK) | (refine hK _ ?_; clear hK K) | ((with_reducible (first | apply oG | apply oH)); iterate 3 exact rfl) | ((with_reducible apply oI); (iterate 2 exact rfl); intro K hK) | (with_reducible (first | apply wI | apply wJ | apply wK))); try simp only [go_sem, simprocAttr]) | first | (show awp _ (.seq (.region 6 _ _) _) _ _; (refine awp_frz hX 11 rfl (.inl rfl) ?_; simp only [go_sem, simprocAttr])) | (show awp _ (.region 8 _ _) _ _; (refine awp_frz hX 29 rfl (.inl rfl) ?_; simp only [go_sem, simprocAttr])) | (with_reducible (first | apply oC | apply oJ | exact oK | apply wA | apply wB | apply wC hX hC | apply wD hX hC | apply wE hX hC hmix | apply wF hX hC hmix | apply wG | apply wH | apply And.intro)) | ((with_reducible refine oD ?_ ?_); first | fail | kernel_rfl) | ((with_reducible (first | apply oE | apply oF)); (iterate 3 exact rfl); all_goals (intro h; first | (exact absurd h (by decide)) | ((try simp only [go_sem, simprocAttr] at h); (try with_reducible intro K hK); simp only [go_sem, simprocAttr]))) | ((first | ((with_reducible apply wL); exact rfl) | ((with_reducible apply wM); exact rfl)); all_goals (try ((with_reducible intro h); first | (exact absurd h (by decide)) | (try simp only [go_sem, simprocAttr] at h)))) | omega | ((first | fail); try simp only [go_sem, simprocAttr]) | (intro h))
 refine awp_loopP (fun k : Nat => k ≤ g.n.toNat) (fun k => ⟨[(1, .ptr 1 0), (4, eN k), (3, .ref 11)], [(1, .box [eN g.n, .d (sE g.es)]), (11, .own 4 1 ((trueK g.n.toNat k).map rB))]⟩) (fun k => g.n.toNat - k) 0 (by simp) ?_ ?_
 ·refine Le.of ?_ ?_ <;> simp [go_sem, simprocAttr]
  exact trueK_zero
 rintro k hk
 rcases Nat.lt_or_ge k g.n.toNat with hlt | hge
 ·have hb : decide ((k : Int) < g.n) = true := decide_eq_true (by omega)
  repeat' (first | fail | ((first | ((with_reducible (first | apply oA | apply oB)); exact rfl; intro K hK) | (refine hK _ ?_; clear hK K) | ((with_reducible (first | apply oG | apply oH)); iterate 3 exact rfl) | ((with_reducible apply oI); (iterate 2 exact rfl); intro K hK) | (with_reducible (first | apply wI | apply wJ | apply wK))); try simp only [go_sem, simprocAttr, hb, set_rB, trueK_next]) | first | (show awp _ (.seq (.region 6 _ _) _) _ _; (refine awp_frz hX 11 rfl (.inl rfl) ?_; simp only [go_sem, simprocAttr, hb, set_rB, trueK_next])) | (show awp _ (.region 8 _ _) _ _; (refine awp_frz hX 29 rfl (.inl rfl) ?_; simp only [go_sem, simprocAttr, hb, set_rB, trueK_next])) | (with_reducible (first | apply oC | apply oJ | exact oK | apply wA | apply wB | apply wC hX hC | apply wD hX hC | apply wE hX hC hmix | apply wF hX hC hmix | apply wG | apply wH | apply And.intro)) | ((with_reducible refine oD ?_ ?_); first | fail | kernel_rfl) | ((with_reducible (first | apply oE | apply oF)); (iterate 3 exact rfl); all_goals (intro h; first | (exact absurd h (by decide)) | ((try simp only [go_sem, simprocAttr, hb, set_rB, trueK_next] at h); (try with_reducible intro K hK); simp only [go_sem, simprocAttr, hb, set_rB, trueK_next]))) | ((first | ((with_reducible apply wL); exact rfl) | ((with_reducible apply wM); exact rfl)); all_goals (try ((with_reducible intro h); first | (exact absurd h (by decide)) | (try simp only [go_sem, simprocAttr, hb, set_rB, trueK_next] at h)))) | omega | ((first | fail); try simp only [go_sem, simprocAttr, hb, set_rB, trueK_next]) | (intro h))
  refine ⟨k + 1, by omega, ?_, by omega⟩
  (refine Le.of ?_ ?_ <;> simp [go_sem, simprocAttr])
 ·have hb : decide ((k : Int) < g.n) = false := decide_eq_false (by omega)
  obtain rfl : k = g.n.toNat := by omega
  repeat' (first | fail | ((first | ((with_reducible (first | apply oA | apply oB)); exact rfl; intro K hK) | (refine hK _ ?_; clear hK K) | ((with_reducible (first | apply oG | apply oH)); iterate 3 exact rfl) | ((with_reducible apply oI); (iterate 2 exact rfl); intro K hK) | (with_reducible (first | apply wI | apply wJ | apply wK))); try simp only [go_sem, simprocAttr, hb]) | first | (show awp _ (.seq (.region 6 _ _) _) _ _; (refine awp_frz hX 11 rfl (.inl rfl) ?_; simp only [go_sem, simprocAttr, hb])) | (show awp _ (.region 8 _ _) _ _; (refine awp_frz hX 29 rfl (.inl rfl) ?_; simp only [go_sem, simprocAttr, hb])) | (with_reducible (first | apply oC | apply oJ | exact oK | apply wA | apply wB | apply wC hX hC | apply wD hX hC | apply wE hX hC hmix | apply wF hX hC hmix | apply wG | apply wH | apply And.intro)) | ((with_reducible refine oD ?_ ?_); first | fail | kernel_rfl) | ((with_reducible (first | apply oE | apply oF)); (iterate 3 exact rfl); all_goals (intro h; first | (exact absurd h (by decide)) | ((try simp only [go_sem, simprocAttr, hb] at h); (try with_reducible intro K hK); simp only [go_sem, simprocAttr, hb]))) | ((first | ((with_reducible apply wL); exact rfl) | ((with_reducible apply wM); exact rfl)); all_goals (try ((with_reducible intro h); first | (exact absurd h (by decide)) | (try simp only [go_sem, simprocAttr, hb] at h)))) | omega | ((first | fail); try simp only [go_sem, simprocAttr, hb]) | (intro h))
  clear hb hk hge
  refine awp_loopP (fun k : Nat => k ≤ g.n.toNat) (fun k => ⟨[(1, .ptr 1 0), (5, eN k), (3, .d (sB (leftK g k)))], [(1, .box [eN g.n, .d (sE g.es)])]⟩) (fun k => g.n.toNat - k) 0 (by simp) ?_ ?_
  ·refine Le.of ?_ ?_ <;> simp [go_sem, simprocAttr, leftK]
  rintro k hk
  rcases Nat.lt_or_ge k g.n.toNat with hlt | hge
  ·have hb : decide ((k : Int) < g.n) = true := decide_eq_true (by omega)
   repeat' (first | fail | ((first | ((with_reducible (first | apply oA | apply oB)); exact rfl; intro K hK) | (refine hK _ ?_; clear hK K) | ((with_reducible (first | apply oG | apply oH)); iterate 3 exact rfl) | ((with_reducible apply oI); (iterate 2 exact rfl); intro K hK) | (with_reducible (first | apply wI | apply wJ | apply wK))); try simp only [go_sem, simprocAttr, hb]) | first | (show awp _ (.seq (.region 6 _ _) _) _ _; (refine awp_frz hX 11 rfl (.inl rfl) ?_; simp only [go_sem, simprocAttr, hb])) | (show awp _ (.region 8 _ _) _ _; (refine awp_frz hX 29 rfl (.inl rfl) ?_; simp only [go_sem, simprocAttr, hb])) | (with_reducible (first | apply oC | apply oJ | exact oK | apply wA | apply wB | apply wC hX hC | apply wD hX hC | apply wE hX hC hmix | apply wF hX hC hmix | apply wG | apply wH | apply And.intro)) | ((with_reducible refine oD ?_ ?_); first | fail | kernel_rfl) | ((with_reducible (first | apply oE | apply oF)); (iterate 3 exact rfl); all_goals (intro h; first | (exact absurd h (by decide)) | ((try simp only [go_sem, simprocAttr, hb] at h); (try with_reducible intro K hK); simp only [go_sem, simprocAttr, hb]))) | ((first | ((with_reducible apply wL); exact rfl) | ((with_reducible apply wM); exact rfl)); all_goals (try ((with_reducible intro h); first | (exact absurd h (by decide)) | (try simp only [go_sem, simprocAttr, hb] at h)))) | omega | ((first | fail); try simp only [go_sem, simprocAttr, hb]) | (intro h))
   refine awp_loopP (fun j : Nat => j ≤ g.es.length) (fun j => ⟨[(1, .ptr 1 0), (5, eN k), (3, .d (sB (leftK g k))), (7, eN j), (6, .ref 29)], [(1, .box [eN g.n, .d (sE g.es)]), (29, .own 4 1 ((nextK g (leftK g k) j).map rB))]⟩) (fun j => g.es.length - j) 0 (by simp) ?_ ?_
   ·refine Le.of ?_ ?_ <;> simp [go_sem, simprocAttr]
    exact nextK_zero
   rintro j hj
   rcases Nat.lt_or_ge j g.es.length with hjl | hjg
   ·have hb2 : decide ((j : Int) < (g.es.length : Int)) = true := decide_eq_true (by omega)
    obtain ⟨⟨he0, he1⟩, ⟨he2, he3⟩⟩ := mayB_e hm hjl
    repeat' (first | fail | ((first | ((with_reducible (first | apply oA | apply oB)); exact rfl; intro K hK) | (refine hK _ ?_; clear hK K) | ((with_reducible (first | apply oG | apply oH)); iterate 3 exact rfl) | ((with_reducible apply oI); (iterate 2 exact rfl); intro K hK) | (with_reducible (first | apply wI | apply wJ | apply wK))); try simp only [go_sem, simprocAttr, hb2, set_rB]) | first | (show awp _ (.seq (.region 6 _ _) _) _ _; (refine awp_frz hX 11 rfl (.inl rfl) ?_; simp only [go_sem, simprocAttr, hb2, set_rB])) | (show awp _ (.region 8 _ _) _ _; (refine awp_frz hX 29 rfl (.inl rfl) ?_; simp only [go_sem, simprocAttr, hb2, set_rB])) | (with_reducible (first | apply oC | apply oJ | exact oK | apply wA | apply wB | apply wC hX hC | apply wD hX hC | apply wE hX hC hmix | apply wF hX hC hmix | apply wG | apply wH | apply And.intro)) | ((with_reducible refine oD ?_ ?_); first | fail | kernel_rfl) | ((with_reducible (first | apply oE | apply oF)); (iterate 3 exact rfl); all_goals (intro h; first | (exact absurd h (by decide)) | ((try simp only [go_sem, simprocAttr, hb2, set_rB] at h); (try with_reducible intro K hK); simp only [go_sem, simprocAttr, hb2, set_rB]))) | ((first | ((with_reducible apply wL); exact rfl) | ((with_reducible apply wM); exact rfl)); all_goals (try ((with_reducible intro h); first | (exact absurd h (by decide)) | (try simp only [go_sem, simprocAttr, hb2, set_rB] at h)))) | omega | ((first | fail); try simp only [go_sem, simprocAttr, hb2, set_rB]) | (intro h))
    ·have hy : (nextK g (leftK g k) j).set (g.es.getD j (0, 0)).2.toNat true = nextK g (leftK g k) (j + 1) := nextK_yes he2 (by rw [Bool.and_eq_true]; exact ⟨by assumption, by assumption⟩)
     refine ⟨j + 1, by omega, ?_, by omega⟩
     refine Le.of ?_ ?_ <;> simp [go_sem, simprocAttr]
     rw [← hy, List.map_set]; rfl
    all_goals (
     have hy : nextK g (leftK g k) j = nextK g (leftK g k) (j + 1) := nextK_no (Bool.and_eq_false_iff.2 (by first | exact .inl (by assumption) | exact .inr (by assumption)))
     refine ⟨j + 1, by omega, ?_, by omega⟩
     refine Le.of ?_ ?_ <;> simp [go_sem, simprocAttr, ← hy])
   ·have hb2 : decide ((j : Int) < (g.es.length : Int)) = false := decide_eq_false (by omega)
    obtain rfl : j = g.es.length := by omega
    repeat' (first | fail | ((first | ((with_reducible (first | apply oA | apply oB)); exact rfl; intro K hK) | (refine hK _ ?_; clear hK K) | ((with_reducible (first | apply oG | apply oH)); iterate 3 exact rfl) | ((with_reducible apply oI); (iterate 2 exact rfl); intro K hK) | (with_reducible (first | apply wI | apply wJ | apply wK))); try simp only [go_sem, simprocAttr, hb2]) | first | (show awp _ (.seq (.region 6 _ _) _) _ _; (refine awp_frz hX 11 rfl (.inl rfl) ?_; simp only [go_sem, simprocAttr, hb2])) | (show awp _ (.region 8 _ _) _ _; (refine awp_frz hX 29 rfl (.inl rfl) ?_; simp only [go_sem, simprocAttr, hb2])) | (with_reducible (first | apply oC | apply oJ | exact oK | apply wA | apply wB | apply wC hX hC | apply wD hX hC | apply wE hX hC hmix | apply wF hX hC hmix | apply wG | apply wH | apply And.intro)) | ((with_reducible refine oD ?_ ?_); first | fail | kernel_rfl) | ((with_reducible (first | apply oE | apply oF)); (iterate 3 exact rfl); all_goals (intro h; first | (exact absurd h (by decide)) | ((try simp only [go_sem, simprocAttr, hb2] at h); (try with_reducible intro K hK); simp only [go_sem, simprocAttr, hb2]))) | ((first | ((with_reducible apply wL); exact rfl) | ((with_reducible apply wM); exact rfl)); all_goals (try ((with_reducible intro h); first | (exact absurd h (by decide)) | (try simp only [go_sem, simprocAttr, hb2] at h)))) | omega | ((first | fail); try simp only [go_sem, simprocAttr, hb2]) | (intro h))
    refine ⟨k + 1, by omega, ?_, by omega⟩
    refine Le.of ?_ ?_ <;> simp [go_sem, simprocAttr, leftK]
  ·have hb : decide ((k : Int) < g.n) = false := decide_eq_false (by omega)
   obtain rfl : k = g.n.toNat := by omega
   repeat' (first | fail | ((first | ((with_reducible (first | apply oA | apply oB)); exact rfl; intro K hK) | (refine hK _ ?_; clear hK K) | ((with_reducible (first | apply oG | apply oH)); iterate 3 exact rfl) | ((with_reducible apply oI); (iterate 2 exact rfl); intro K hK) | (with_reducible (first | apply wI | apply wJ | apply wK))); try simp only [go_sem, simprocAttr, hb]) | first | (show awp _ (.seq (.region 6 _ _) _) _ _; (refine awp_frz hX 11 rfl (.inl rfl) ?_; simp only [go_sem, simprocAttr, hb])) | (show awp _ (.region 8 _ _) _ _; (refine awp_frz hX 29 rfl (.inl rfl) ?_; simp only [go_sem, simprocAttr, hb])) | (with_reducible (first | apply oC | apply oJ | exact oK | apply wA | apply wB | apply wC hX hC | apply wD hX hC | apply wE hX hC hmix | apply wF hX hC hmix | apply wG | apply wH | apply And.intro)) | ((with_reducible refine oD ?_ ?_); first | fail | kernel_rfl) | ((with_reducible (first | apply oE | apply oF)); (iterate 3 exact rfl); all_goals (intro h; first | (exact absurd h (by decide)) | ((try simp only [go_sem, simprocAttr, hb] at h); (try with_reducible intro K hK); simp only [go_sem, simprocAttr, hb]))) | ((first | ((with_reducible apply wL); exact rfl) | ((with_reducible apply wM); exact rfl)); all_goals (try ((with_reducible intro h); first | (exact absurd h (by decide)) | (try simp only [go_sem, simprocAttr, hb] at h)))) | omega | ((first | fail); try simp only [go_sem, simprocAttr, hb]) | (intro h))
end Go.Ab
end
