/- A walk by hand. -/
import Derived.RangeFuncNested
import Derived.RangeFuncLeaves
import Derived.Shelf.Abstract
import Derived.WalkKit
import Derived.OwnWalkIn
import Derived.TacticsInMore
import Derived.LoopNIn
import Derived.LoopIn
import Derived.Test.YtacnidaafcfgiaaGreatFc
import Derived.Test.YtacnidaafcfgiaaGreatSh
import Derived.Test.YtacnidaafcfgiaaGreatSx
import Derived.Test.YtacnidaafcfgiaaGreatTl
import Derived.Test.YtacnidaafcfgiaaGreatSr
import Derived.Test.YtacnidaafcfgiaaGreatDr
import Derived.Test.YtacnidaafcfgiaaGreatW0
namespace Go.Proofs

open Go.RowKit Go.Shelf Go.Ep
set_option linter.unusedVariables false
attribute [local go_sem] Oper.semAt_some
namespace Szr
def upto {α : Type} (f : Nat → α) (k : Nat) : List α := (List.range k).map f
theorem upto_succ {α : Type} (f : Nat → α) (k : Nat) : upto f (k + 1) = upto f k ++ [f k] := by simp [upto, List.range_succ]
theorem upto_length {α : Type} (f : Nat → α) (k : Nat) : (upto f k).length = k := by simp [upto]
theorem upto_all {α : Type} (d : α) (zs : List α) : upto (fun j => zs[j]?.getD d) zs.length = zs := by
  apply List.ext_getElem
  · simp [upto]
  · intro i h1 h2
    simp [upto, h2]
/-- A block's cells stay. -/
def Kp (b : Nat) (X Y : World) : Prop := ∀ o : Obj, o.isCells = true → X.heap[b]? = some o → Y.heap[b]? = some o
theorem Kp.t {b : Nat} {A B C : World} (h : Kp b A B) (k : Kp b B C) : Kp b A C := fun o ho h1 => k o ho (h o ho h1)
theorem Kp.b {b : Nat} (W : World) (l : Nat) (o o' : Obj) (h : W.heap[l]? = some o) (ho : o.isCells = false) : Kp b W (W.putObj l o') := fun p hp h1 => by
  have : b ≠ l := fun e => by subst e; rw [h] at h1; cases h1; rw [hp] at ho; cases ho
  rw [World.putObj_heap_other this]; exact h1
theorem Kp.alloc {b : Nat} (W : World) (o : Obj) : Kp b W (W.alloc o) := fun p _ h1 => by
  have : b < W.heap.size := (Array.getElem?_eq_some_iff.1 h1).1
  rw [Below.heap_alloc _ _ _ this]; exact h1

set_option maxRecDepth 100000 in
set_option maxHeartbeats 2000000 in
theorem values1_in (F : Fence) (n : Nat) (h7 : F.fn 133) (hro : F.round = none) (hn : 1 ≤ n) (l Bs b len cap : Nat) (cur : List Value) (z : Nat → TRun) (hreach : len ≤ 9223372036854775807) (J Jx : List TRun → World → Prop)
    (hY : ∀ pre x W, J pre W → pre.length < len → YieldAt F (n - 1) Tryz.prog l #[.agg #[.int .u64 x.lo, .int .u64 x.hi]] W fun e W' =>
      (e = .returned (.bool true) ∧ J (pre ++ [x]) W' ∧ Kp b W W') ∨ (e = .returned (.bool false) ∧ Jx (pre ++ [x]) W'))
    (W : World) (hBs : W.cell? ⟨Bs, 0, none⟩ = some (.slice (some ⟨b, 0, none⟩) len cap)) (hb : W.heap[b]? = some (.cells cur.toArray 89 (0, 0))) (hc0 : ∀ j, j < len → cur[j * 2]? = some (.int .u64 (z j).lo)) (hc1 : ∀ j, j < len → cur[j * 2 + 1]? = some (.int .u64 (z j).hi)) (h0 : J [] W) (hJa : ∀ s A o, J s A → J s (A.alloc o)) :
    CallsIn F n Tryz.prog 133 #[.func (.yield l) #[] #[], .pointer (some ⟨Bs, 0, none⟩)] W fun e W' => (∃ v, e = .returned v) ∧
      ((∃ ys, ys = upto z len ∧ J ys W') ∨ (∃ pre, (∃ k, k ≤ len ∧ pre = upto z k) ∧ Jx pre W')) := by
  refine callsIn_of_wp Tryz.func133 rfl h7 ?_ hro
  simp only [Tryz.ntmps133, List.size_toArray, List.length_cons, List.length_nil, Nat.reduceAdd, Nat.reduceSub, Array.replicate_succ, Array.replicate_zero, List.push_toArray, List.append_toArray, List.nil_append, List.cons_append]
  gi_wp2
  gi_loopw [7] (fun i wr => ∃ k : Nat, k ≤ len ∧ i = .int .i64 k ∧ J (upto z k) wr ∧ wr.heap[b]? = some (.cells cur.toArray 89 (0, 0)))
    (fun i _ => len - (intOf i).toNat)
  case atStart => exact ⟨0, Nat.zero_le _, rfl, h0, hb⟩
  case round =>
    obtain ⟨k, hk, rfl, hJs, hnx⟩ := hrel
    by_cases hlt : k < len
    · have hcx0 : wr.cell? ⟨b, k * 2, none⟩ = some (.int .u64 (z k).lo) := by simp [World.cell?, hnx, hc0 k hlt]
      have hcx1 : wr.cell? ⟨b, k * 2 + 1, none⟩ = some (.int .u64 (z k).hi) := by simp [World.cell?, hnx, hc1 k hlt]
      gi_wp2
      have hJ' := hJa _ _ (.cells #[.int .u64 (z k).lo, .int .u64 (z k).hi] 89) hJs
      obtain ⟨fn, tmps, assign, body, hy, hR⟩ := hY _ (z k) _ hJ' (by rw [upto_length]; exact hlt)
      have hB1 : Kp b wr (wr.alloc (.cells #[.int .u64 (z k).lo, .int .u64 (z k).hi] 89)) := Kp.alloc _ _
      rw [hy]
      simp only [Oper.uponIn]
      refine ⟨fun _ => hn, hR.mono ?_⟩
      rintro e W3 (⟨rfl, hJ3, hk3⟩ | ⟨rfl, hJx3⟩)
      · gi_wp2
        go_roundw
        case rel => exact ⟨k + 1, by omega, by simp, by rw [upto_succ]; exact hJ3, (hB1.t hk3) _ rfl hnx⟩
        case measure => simp [intOf]; omega
      · gi_wp2
        refine bodyPost_ret (results_none rfl _ _ _) rfl ?_
        exact ⟨⟨_, rfl⟩, .inr ⟨_, ⟨k + 1, by omega, (upto_succ _ _).symm⟩, hJx3⟩⟩
    · obtain rfl : k = len := by omega
      gi_wp2
      go_end0
      exact ⟨⟨_, rfl⟩, .inl ⟨_, rfl, hJs⟩⟩
set_option maxRecDepth 100000 in
set_option maxHeartbeats 1000000 in
theorem values1_nil_in (F : Fence) (n : Nat) (h7 : F.fn 133) (hro : F.round = none) (l Bs : Nat) (J : List TRun → World → Prop) (W : World) (hBs : W.cell? ⟨Bs, 0, none⟩ = some (.slice none 0 0)) (h0 : J [] W) :
    CallsIn F n Tryz.prog 133 #[.func (.yield l) #[] #[], .pointer (some ⟨Bs, 0, none⟩)] W fun e W' => (∃ v, e = .returned v) ∧ J [] W' := by
  refine callsIn_of_wp Tryz.func133 rfl h7 ?_ hro
  simp only [Tryz.ntmps133, List.size_toArray, List.length_cons, List.length_nil, Nat.reduceAdd, Nat.reduceSub, Array.replicate_succ, Array.replicate_zero, List.push_toArray, List.append_toArray, List.nil_append, List.cons_append]
  gi_wp2
  gi_loopw [7] (fun i wr => i = .int .i64 0 ∧ J [] wr) (fun _ _ => 0)
  case atStart => exact ⟨rfl, h0⟩
  case round =>
    obtain ⟨rfl, hJs⟩ := hrel
    gi_wp2
    go_end0
    exact ⟨⟨_, rfl⟩, hJs⟩
set_option maxHeartbeats 1000000 in
theorem values_in (F : Fence) (n : Nat) (h5 : F.fn 112) (hro : F.round = none) (a : Option Addr) (len cap : Nat) (w : World) :
    CallsIn F n Tryz.prog 112 #[.slice a len cap] w fun e w' => e = .returned (.func (.func 133) #[] #[.pointer (some ⟨w.heap.size, 0, none⟩)]) ∧ w' = w.alloc (.cells #[.slice a len cap] 37) := by
  refine callsIn_of_wp Tryz.func112 rfl h5 ?_ hro
  simp only [Tryz.ntmps112, List.size_toArray, List.length_cons, List.length_nil, Nat.reduceAdd, Nat.reduceSub, Array.replicate_succ, Array.replicate_zero, List.push_toArray, List.append_toArray, List.nil_append, List.cons_append]
  gi_wp2
  go_ret
  exact ⟨rfl, rfl⟩
/-- What the slice is: nil, or in a block of its own. -/
def Runs (W : World) (b : Nat) (sv : Value) (zs : List TRun) : Prop :=
  (sv = .slice none 0 0 ∧ zs = []) ∨ ∃ cap cur, sv = .slice (some ⟨b, 0, none⟩) zs.length cap ∧ zs.length ≤ 9223372036854775807 ∧ W.heap[b]? = some (.cells (List.toArray cur) 89 (0, 0)) ∧ (∀ j, j < zs.length → cur[j * 2]? = some (.int .u64 (zs[j]?.getD ⟨0, 0⟩).lo)) ∧ (∀ j, j < zs.length → cur[j * 2 + 1]? = some (.int .u64 (zs[j]?.getD ⟨0, 0⟩).hi))
theorem values_stops (F : Fence) (n : Nat) (h7 : F.fn 133) (hro : F.round = none) (hn : 1 ≤ n) (Bs b : Nat) (sv : Value) (zs : List TRun) (w : World) (hBs : Bs < w.heap.size) (hc : w.cell? ⟨Bs, 0, none⟩ = some sv) (hI : Runs w b sv zs) :
    SeqStopsK F n Tryz.prog 133 #[.pointer (some ⟨Bs, 0, none⟩)] (fun x : TRun => #[.agg #[.int .u64 x.lo, .int .u64 x.hi]]) (Kp b) (fun ys => ys = zs) (fun _ => True) zs.length w := fun l J Jx W hW hJ _ hY h0 => by
  have hc' := (hW.cell (p := ⟨Bs, 0, none⟩) hBs).trans hc
  rcases hI with ⟨rfl, rfl⟩ | ⟨cap, cur, rfl, hz, hb, h1, h2⟩
  · exact (values1_nil_in F n h7 hro l Bs J W hc' h0).mono fun e W' ⟨he, hj⟩ => ⟨he, .inl ⟨_, rfl, hj⟩⟩
  · have hb' : W.heap[b]? = some (.cells cur.toArray 89 (0, 0)) := (hW.block b (Array.getElem?_eq_some_iff.1 hb).1).trans hb
    refine (values1_in F n h7 hro hn l Bs b zs.length cap cur (fun j => zs[j]?.getD ⟨0, 0⟩) (by omega) J Jx hY W hc' hb' h1 h2 h0 (fun s A o hs => hJ s A _ none hs (World.grownBy_alloc A o none) (fun r e => by cases e))).mono ?_
    rintro e W' ⟨he, ⟨ys, rfl, hj⟩ | ⟨pre, _, hj⟩⟩
    · exact ⟨he, .inl ⟨_, upto_all _ zs, hj⟩⟩
    · exact ⟨he, .inr ⟨_, trivial, hj⟩⟩

theorem sumW_snoc (pre : List TRun) (x : TRun) : runs_SizeL (pre ++ [x]) = IntKind.u64.wrap (runs_SizeL pre + IntKind.u64.wrap (IntKind.u64.wrap (x.hi - x.lo) + 1)) := by simp [runs_SizeL]
theorem rowRuns {W : World} {S : Nat → Prop} {base : Nat} {zs : List TRun} {u : Value} (h : RowRd W S base 89 2 (List.map TRun.e zs) u) : ∃ a len cap b, u = .slice a len cap ∧ base ≤ b ∧ Runs W b u zs := by
  generalize hq : List.map TRun.e zs = q at h
  cases h with
  | nil => exact ⟨none, 0, 0, base, rfl, Nat.le_refl _, .inl ⟨rfl, by simpa using hq⟩⟩
  | row _ blk cap cur hb hh hlc hcap hcs hk hr =>
    subst hq
    rw [List.length_map] at hlc ⊢
    have hm : zs.length ≤ 9223372036854775807 := by unfold maxLen at hcap; omega
    refine ⟨_, _, _, blk, rfl, hb, .inr ⟨cap, cur, rfl, hm, hh, fun j hj => ?_, fun j hj => ?_⟩⟩
    · obtain ⟨u, h1, h2⟩ := hr j (TRun.e zs[j]) 0 _ (by simp [hj]) rfl
      cases h2
      simpa [hj] using h1
    · obtain ⟨u, h1, h2⟩ := hr j (TRun.e zs[j]) 1 _ (by simp [hj]) rfl
      cases h2
      simpa [hj] using h1
end Szr
set_option maxRecDepth 100000 in
set_option maxHeartbeats 2000000 in
theorem runs_Size_in (l1 l2 : List TRun) (h : (runs_Norm l1).wp (· = l2)) (w : World) (S : Nat → Prop) (v : Value) (hv : Rd w g0 S (.d (.sl (List.map TRun.e l1))) v) :
    CallsIn Fence.wide 5 Tryz.prog 73 #[v] w fun e W' => e = .returned (.int .u64 (runs_SizeL l2)) ∧ Below w.heap.size w W' := by
  have hN := runs_Norm_ok l1 l2 h (w.alloc (.cells #[.int .u64 0] 30)) S [v] rfl (fun i p u hp hu => by
    cases i with
    | zero =>
      simp at hp hu
      subst hp; subst hu
      cases hv with
      | d hd => exact .d (hd.keep ⟨by simp, fun b _ hb => Below.heap_alloc _ _ _ hb⟩ (fun b hb _ => hb))
    | succ i => simp at hp)
  refine callsIn_of_wp_marks Tryz.func73 rfl trivial ?_ rfl
  simp only [Tryz.ntmps73, List.size_toArray, List.length_cons, List.length_nil, Nat.reduceAdd, Nat.reduceSub, Array.replicate_succ, Array.replicate_zero, List.push_toArray, List.append_toArray, List.nil_append, List.cons_append]
  gi_wp2
  refine ⟨trivial, (callsIn_wide.2 hN).mono ?_⟩
  rintro e w1 ⟨u, rfl, hB1, hrow⟩
  obtain ⟨a, len, cap, b, rfl, hb, hI⟩ := Szr.rowRuns hrow
  rw [World.size_alloc] at hB1 hb
  gi_wp2
  refine ⟨trivial, (Szr.values_in Fence.wide 4 trivial rfl a len cap w1).mono ?_⟩
  rintro e w2 ⟨rfl, rfl⟩
  have hA1 : Boxed w1 w.heap.size 30 (.int .u64 0) := (hB1.block _ (by omega)).trans (Boxed.new w 30 (.int .u64 0))
  have hB2 : Below w.heap.size w w1 := ((Below.refl _ w).alloc (Nat.le_refl _) _).trans (hB1.mono (by omega))
  have hsz := hB1.size
  gi_wp2
  have bN : Boxed (w1.alloc (.cells #[.slice a len cap] 37)) w1.heap.size 37 (.slice a len cap) := Boxed.new w1 37 _
  have hAb : w.heap.size + 1 ≤ w1.heap.size := by rw [World.size_alloc] at hsz; exact hsz
  have hA2 : Boxed (w1.alloc (.cells #[.slice a len cap] 37)) w.heap.size 30 (.int .u64 0) := hA1.alloc _
  have hB3 : Below w.heap.size w (w1.alloc (.cells #[.slice a len cap] 37)) := hB2.alloc (by omega) _
  have hI2 : Szr.Runs (w1.alloc (.cells #[.slice a len cap] 37)) b (.slice a len cap) l2 := by
    rcases hI with h | ⟨cap', cur, h1, h2, h3, h4⟩
    · exact .inl h
    · exact .inr ⟨cap', cur, h1, h2, Szr.Kp.alloc w1 _ _ rfl h3, h4⟩
  have hs2 : (w1.alloc (.cells #[.slice a len cap] 37)).heap.size = w1.heap.size + 1 := World.size_alloc _ _
  generalize hW2 : w1.alloc (.cells #[.slice a len cap] 37) = w2 at bN hA2 hB3 hI2 hs2
  refine wpIn_rangeFunc_ownH (F := Fence.wide) rfl (by decide) (gf := 133) (lb := #[.pointer (some ⟨w1.heap.size, 0, none⟩)]) rfl trivial (enters_of Tryz.func133 (by kernel_rfl) rfl)
    (Szr.values_stops Fence.wide 4 trivial rfl (by decide) w1.heap.size b _ l2 w2 (by omega) bN.cell hI2) (fun h k => h.t k) (fun W l o o' _ h ho _ => Szr.Kp.b W l o o' h ho) (Below.refl _ _) (fun _ => rfl)
    (fun pre W => Boxed W w.heap.size 30 (.int .u64 (runs_SizeL pre)) ∧ Below w.heap.size w W)
    (fun _ _ _ => False)
    (OwnFrom.and (Own.from (boxed_own _ _ _) _) (ownFrom_below (Nat.le_refl _) (by omega)))
    (fun _ _ _ _ _ hs _ _ => hs)
    ⟨hA2, hB3⟩
    (fun x a' W => ∃ B, a' = { tmps := #[v, undef, .int .u64 0, .pointer (some ⟨w.heap.size, 0, none⟩), .pointer (some ⟨B, 0, none⟩), v, .slice a len cap, .func (.func 133) #[] #[.pointer (some ⟨w1.heap.size, 0, none⟩)], .agg #[.int .u64 x.lo, .int .u64 x.hi], undef, undef, undef, undef, undef, undef, undef, undef, undef], defers := [] } ∧ B ≠ w.heap.size ∧ W.heap[B]? = some (.cells #[.int .u64 x.lo, .int .u64 x.hi] 89 (0, 0)))
    ?hAx ?assign ?body ?done ?stop
  case hAx =>
    rintro x a' _ W W' row ⟨B, h1, h2, h3⟩ hg hr
    refine ⟨B, h1, h2, (hg.block B (Array.getElem?_eq_some_iff.1 h3).1 (fun e => ?_)).trans h3⟩
    obtain ⟨_, o, ho, hc⟩ := hr B e.symm
    rw [h3] at ho; cases ho; cases hc
  case assign =>
    rintro l pre x W K ⟨hbx, hbe⟩ hK
    gi_wp2
    have hlt := hbx.lt
    exact hK _ _ ((KeepsOthers.alloc W _).from _) (Szr.Kp.alloc W _) ⟨hbx.alloc _, hbe.alloc (by omega) _⟩ ⟨W.heap.size, rfl, by omega, World.alloc_heap_new W _⟩
  case body =>
    rintro l pre x a' W _ _ ⟨hbx, hbe⟩ ⟨B, rfl, hBA, hB⟩ _
    have hcA : W.cell? ⟨w.heap.size, 0, none⟩ = some (.int .u64 (runs_SizeL pre)) := hbx.cell
    have hfA := hbx.frozen
    have hc0 : W.cell? ⟨B, 0, none⟩ = some (.int .u64 x.lo) := by simp [World.cell?, hB]
    have hc1 : W.cell? ⟨B, 1, none⟩ = some (.int .u64 x.hi) := by simp [World.cell?, hB]
    gi_wp2
    refine ⟨(KeepsOthers.setCell _ _ _).from _, fun o _ ho => ?_, ?_, hbe.setCell (p := ⟨w.heap.size, 0, none⟩) (Nat.le_refl _) _⟩
    · rw [Below.heap_setCell _ _ _ b (by simp only; omega)]; exact ho
    · rw [Szr.sumW_snoc]; exact hbx.set _
  case done =>
    rintro D ys W hD rfl ⟨hbx, hbe⟩ hK
    have hcA : W.cell? ⟨w.heap.size, 0, none⟩ = some (.int .u64 (runs_SizeL ys)) := hbx.cell
    gi_wp2
    refine ⟨by simp, .inl ⟨_, _, rfl, run_takeDeferred hK, ?_⟩⟩
    exact ⟨_, results_tmp rfl _ _ _, rfl, hbe.trans (belowK_b (w := w) (Nat.le_refl _) W D _ _ (by omega) hK rfl rfl)⟩
  case stop =>
    rintro D c pre W _ _ h _
    exact h.elim
theorem runs_Size_ok (l1 : List TRun) (r0 : Int) (h : (runs_Size l1).wp (· = r0)) : PFun Tryz.prog 73 [.d (.sl (List.map TRun.e l1))] (.d (.v (.int .u64 r0))) := by
  obtain ⟨l2, h1, h2⟩ := h
  replace h2 : runs_SizeL l2 = r0 := h2
  subst h2
  intro w S vs hl hv
  match vs, hl with
  | [v], _ =>
    refine (callsIn_wide.1 (runs_Size_in l1 l2 h1 w S v (hv 0 _ _ rfl rfl))).mono ?_
    rintro e w' ⟨rfl, hb⟩
    exact ⟨_, rfl, hb, .d (.v _ rfl)⟩
end Go.Proofs
