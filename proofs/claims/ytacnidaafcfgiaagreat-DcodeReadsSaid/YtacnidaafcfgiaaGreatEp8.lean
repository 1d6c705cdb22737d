/- Walks over pure states: handier forms of the rules; forgetting; new slices handed back. No program in sight. -/
import Derived.Test.YtacnidaafcfgiaaGreatEp7
import Derived.WalkSpells
namespace Go.Ep
open Go.RowKit

/-! ### Forgetting, step by step -/
inductive Fgt (s : PState) : List (Nat × PV) → Prop
  | nil : Fgt s []
  | cons {i : Nat} {p q : PV} {t : List (Nat × PV)} (h : s.at i = some p) (e : p = q) (r : Fgt s t) : Fgt s ((i, q) :: t)
theorem Fgt.get {s : PState} {t : List (Nat × PV)} (h : Fgt s t) : ∀ (i : Nat) (p : PV), getS t i = some p → s.at i = some p := by
  induction h with
  | nil => intro i p h; simp [getS] at h
  | cons h e _ ih =>
    intro i p hp
    rw [getS_cons] at hp
    split at hp
    · rename_i e2; subst e2; subst e; rw [h]; exact hp
    · exact ih i p hp

inductive OFgt (so : List (Nat × Ob)) : List (Nat × Ob) → Prop
  | nil : OFgt so []
  | cons {id : Nat} {o o' : Ob} {to : List (Nat × Ob)} (h : look so id = some o') (e : o' = o) (r : OFgt so to) : OFgt so ((id, o) :: to)
theorem OFgt.get {so to : List (Nat × Ob)} (h : OFgt so to) : ∀ id o, look to id = some o → look so id = some o := by
  induction h with
  | nil => intro id o h; simp [look] at h
  | cons h e _ ih =>
    intro j o' hj
    subst e
    unfold look at hj
    split at hj
    · rename_i ej; subst ej; rw [h]; exact hj
    · exact ih j o' hj

theorem Sub.of {ctx : Ctx} {s : PState} {n : Nat} {tl : List (Nat × PV)} {to : List (Nat × Ob)} (hn : s.n = n) (h : Fgt s tl) (ho : OFgt s.objs to) : Sub ctx s ⟨n, tl, to⟩ := Sub.drop (s := s) (t := ⟨n, tl, to⟩) hn (fun i p hp => h.get i p (at_get hp)) ho.get

theorem eachMap {α : Type} {enc : α → List DV} {k : Nat} (henc : ∀ x, (enc x).length = k) (L : List α) : ∀ (i : Nat) (cs : List DV), (L.map enc)[i]? = some cs → cs.length = k := by
  intro i cs h
  rw [List.getElem?_map] at h
  cases hx : L[i]? with
  | none => simp [hx] at h
  | some x => simp [hx] at h; subst h; exact henc x
theorem eachLit {k : Nat} {l : List (List DV)} (h : l.all (fun cs => cs.length == k) = true) : ∀ (i : Nat) (cs : List DV), l[i]? = some cs → cs.length = k := by
  intro i cs hi
  simp only [List.all_eq_true] at h
  simpa using h cs (List.mem_of_getElem? hi)

section
variable {P : Program} {ctx : Ctx} {Q : PQ} {s : PState}
variable {dst : Option Tmp} {ty : TypeId} {pos : String} {after : Array Edge} {gd : Option (Nat × Bool)}

theorem LR.idxMap {α : Type} {enc : α → List DV} {L : List α} {x ix : Operand} {ki : IntKind} {i : Int} {n k : Nat} {t e : TypeId} (hu : P.underlying t = some (.slice e)) (hs : ∀ w, (sizeOf e).run P w = .ok k w)
    (hx : s.ev x = some (.d (.sl (L.map enc)))) (hix : s.ev ix = some (.d (.v (.int ki i)))) (hi : i = n) (hn : n < L.length) (hk : ∀ x, (enc x).length = k) :
    Local P ctx ⟨dst, .indexAddr t x ix, ty, pos, after, gd⟩ s (s.putD dst (.ep (enc L[n]) 0)) :=
  LR.idxSl hu hs hx hix hi (by simp [hn]) (hk _)

theorem LR.loadEpAll {x : Operand} {k : Nat} {T : TypeId} {cs : List DV} (ha : ∀ w, (isAgg T).run P w = .ok true w) (hs : ∀ w, (sizeOf T).run P w = .ok k w) (hx : s.ev x = some (.ep cs 0)) (hk : cs.length = k) :
    Local P ctx ⟨dst, .load T x, ty, pos, after, gd⟩ s (s.putD dst (.agg (cs.map .d))) := by
  have := LR.loadEpAgg (P := P) (ctx := ctx) (s := s) (dst := dst) (ty := ty) (pos := pos) (after := after) (gd := gd) (ys := cs) ha hs hx (by simp [← hk]) hk
  exact this

theorem LR.allocZ {id : Nat} {T : TypeId} {z : Value} {zs : List Value} {cs : List PV} (hz : ∀ w, (zeroValue T).run P w = .ok z w) (hzs : z.cells = zs.toArray) (h1 : (zs.all Value.oneCell') = true) (hcs : zs.map zpv = cs) (hf : s.fresh id = true) :
    Local P ctx ⟨some id, .alloc T, ty, pos, after, gd⟩ s (s.newO id (.cells T cs) (.ref id 0)) := by
  subst hcs; exact LR.alloc hz hzs h1 hf

theorem LR.storeB {x y : Operand} {id o k : Nat} {T T0 : TypeId} {cs ps ns : List PV} {p : PV} (hs : ∀ w, (sizeOf T).run P w = .ok k w) (hx : s.ev x = some (.ref id o)) (hy : s.ev y = some p) (hp : p.parts = some ps) (hk : ps.length = k)
    (hl : look s.objs id = some (.cells T0 cs)) (hlen : Nat.ble (o + k) cs.length = true) (hns : cs.take o ++ ps ++ cs.drop (o + k) = ns) :
    Local P ctx ⟨none, .store T x y, ty, pos, after, gd⟩ s (s.setO id (.cells T0 ns)) := LR.store hs hx hy hp hk hl (Nat.le_of_ble_eq_true hlen) hns
theorem LR.storeRpB {x y : Operand} {id i o k m : Nat} {T T0 : TypeId} {l : List (List DV)} {cs ys ns : List DV} {p : PV} (hs : ∀ w, (sizeOf T).run P w = .ok m w) (hx : s.ev x = some (.rp id i o k)) (hy : s.ev y = some p) (hp : p.dparts = some ys) (hm : ys.length = m)
    (hl : look s.objs id = some (.row T0 k l)) (hi : l[i]? = some cs) (hlen : Nat.ble (o + m) k = true) (hns : cs.take o ++ ys ++ cs.drop (o + m) = ns) :
    Local P ctx ⟨none, .store T x y, ty, pos, after, gd⟩ s (s.setO id (.row T0 k (l.set i ns))) := LR.storeRp hs hx hy (PV.dparts_parts hp) hm hl hi (Nat.le_of_ble_eq_true hlen) hns

/-- 'x == nil' at a slice: true at most where there is no element. -/
theorem PWl.eqlNil {ops : Array Oper} {rest : List Oper} {x : Operand} {l : List (List DV)} {t t' e : TypeId} (hu : P.underlying t = some (.slice e)) (hx : s.ev x = some (.d (.sl l))) (hg : gd = none)
    (h : ∀ b : Bool, (b = true → l = []) → PWl P ctx ops Q rest (s.putD dst (.d (.v (.bool b))))) : PWl P ctx ops Q (⟨dst, .binOp .eql t x (.const (.slice none 0 0)) t', ty, pos, after, gd⟩ :: rest) s := by
  rintro a w ⟨g, hr⟩
  have hv := hr.ev hx
  obtain ⟨ao, n, c, he, hn⟩ : ∃ ao n c, a.eval x = .slice ao n c ∧ (ao = none → l = []) := by
    cases hv with
    | d hd =>
      generalize a.eval x = v at hd
      cases hd with
      | nil ao cap => exact ⟨ao, 0, cap, rfl, fun _ => rfl⟩
      | sl _ b off cap => exact ⟨_, _, cap, rfl, fun e => by cases e⟩
  refine wpList_plain hg fun K hK => ?_
  have hrun := Lib.run_eql_slice_nil (P := P) w t e ao n c 0 0 hu
  unfold Oper.wp
  have : (execOp a.eval ⟨dst, .binOp .eql t x (.const (.slice none 0 0)) t', ty, pos, after, gd⟩).run P w = .ok (.value (.bool ao.isNone)) w := by
    have hc : a.eval (.const (.slice none 0 0)) = .slice none 0 0 := rfl
    simp only [execOp, he, hc, eqGuard_at_slice, Sem.run_bind, Sem.run_pure, Result.andThen_ok, hrun]
  rw [this]
  exact hK _ _ (h ao.isNone (fun e => hn (by simpa using e)) _ _ ⟨g, hr.put dst (.d (.v _ rfl))⟩)

/-- Ways that meet again. -/
theorem PWc.join {x : Code} {K : PState → Prop} {X : Type} (J : X → PState) (I : X → Prop) (h : PWc P ctx x (Then (fun t => ∃ v, I v ∧ Sub ctx t (J v)) Q) s) (k : ∀ v, I v → K (J v)) (hK : ∀ t u, Sub ctx t u → K u → K t := by exact fun t u hs h => PWc.sub hs h) : PWc P ctx x (Then K Q) s :=
  h.mono fun e t hq => by
    cases e with
    | normal => obtain ⟨v, hv, hs⟩ := hq; exact hK t _ hs (k v hv)
    | _ => exact hq
theorem PWc.condT {c : Operand} {x y : Code} (hc : s.ev c = some (.d (.v (.bool true)))) (h : PWc P ctx x Q s) : PWc P ctx (.cond c x y) Q s := PWc.cond hc (fun _ => h) (fun e => by cases e)
theorem PWc.condF {c : Operand} {x y : Code} (hc : s.ev c = some (.d (.v (.bool false)))) (h : PWc P ctx y Q s) : PWc P ctx (.cond c x y) Q s := PWc.cond hc (fun e => by cases e) (fun _ => h)

/-- A truth in a slot, taken apart. -/
theorem PWl.split {ops : Array Oper} {rest : List Oper} {d : Nat} {b : Bool} (hs : s.at d = some (.d (.v (.bool b)))) (ht : b = true → PWl P ctx ops Q rest (s.put d (.d (.v (.bool true))))) (hf : b = false → PWl P ctx ops Q rest (s.put d (.d (.v (.bool false))))) : PWl P ctx ops Q rest s := by
  refine PWl.sub (t := s.put d (.d (.v (.bool b)))) (Sub.drop rfl (fun i p hp => ?_) (fun _ _ h => h)) ?_
  · rcases put_at s d _ i p hp with ⟨rfl, rfl⟩ | ⟨_, h2⟩
    · exact hs
    · exact h2
  · cases b with
    | true => exact ht rfl
    | false => exact hf rfl

/-- The slots that are still needed, listed anew. -/
theorem PWc.keep {c : Code} {n : Nat} {tl : List (Nat × PV)} (hn : s.n = n) (h : Fgt s tl) (k : PWc P ctx c Q ⟨n, tl, s.objs⟩) : PWc P ctx c Q s :=
  PWc.sub (Sub.drop (t := ⟨n, tl, s.objs⟩) hn (fun i p hp => h.get i p (at_get hp)) (fun _ _ h => h)) k
theorem PWl.keep {ops : Array Oper} {l : List Oper} {n : Nat} {tl : List (Nat × PV)} (hn : s.n = n) (h : Fgt s tl) (k : PWl P ctx ops Q l ⟨n, tl, s.objs⟩) : PWl P ctx ops Q l s :=
  PWl.sub (Sub.drop (t := ⟨n, tl, s.objs⟩) hn (fun i p hp => h.get i p (at_get hp)) (fun _ _ h => h)) k

inductive AllRow (s : PState) (id n : Nat) : List Nat → Prop
  | nil : AllRow s id n []
  | cons {j : Nat} {js : List Nat} (h : s.at j = some (.row id n)) (r : AllRow s id n js) : AllRow s id n (j :: js)
theorem AllRow.get {id n : Nat} {js : List Nat} (h : AllRow s id n js) : ∀ j ∈ js, s.at j = some (.row id n) := by
  induction h with
  | nil => intro j hj; cases hj
  | cons h _ ih =>
    intro j hj
    rcases List.mem_cons.1 hj with rfl | hj
    · exact h
    · exact ih j hj
theorem PWl.frz {ops : Array Oper} {rest : List Oper} {id n k : Nat} {e : TypeId} {l : List (List DV)} (js : List Nat) (hK : ∀ b, ctx.K b → ctx.S b) (hjs : AllRow s id n js) (hl : look s.objs id = some (.row e k l)) (hn : l.length = n) (h : PWl P ctx ops Q rest (s.frz id l js)) : PWl P ctx ops Q rest s :=
  PWl.sub (Sub.frz js hK hl hn hjs.get) h

/-- The walk's end where a new slice is handed back. -/
def EndsRow (fn : Func) (e : TypeId) (k : Nat) (l : List (List DV)) : PQ := fun en s => (en = .normal ∨ en = .ret) ∧ ∃ t, fn.results = #[.tmp t] ∧ ((l = [] ∧ s.at t = some (.d (.v (.slice none 0 0)))) ∨ ∃ id n, s.at t = some (.row id n) ∧ l.length = n ∧ look s.objs id = some (.row e k l))

theorem PRow.intro {f : FuncId} {fn : Func} {c : Code} {ps : List PV} {e : TypeId} {k : Nat} {l : List (List DV)} {n : Nat} {sl : List (Nat × PV)} (hf : P.funcs[f]? = some fn) (hb : fn.body = some c) (hn : fn.ntmps = n) (hsl : args 0 ps = sl) (hpn : Nat.ble ps.length n = true)
    (body : ∀ ctx : Ctx, (∀ b, ctx.K b → ctx.S b) → PWc P ctx c (EndsRow fn e k l) ⟨n, sl, []⟩) : PRow P f ps e k l := by
  intro w S vs hlen hreal
  let ctx : Ctx := ⟨w, S, fun _ => False⟩
  have hK : ∀ b, ¬ ctx.K b := fun _ h => h
  refine calls_of_wp hf hb ?_
  subst hsl
  have hrel : RelG ctx g0 ⟨n, args 0 ps, []⟩ { tmps := vs.toArray ++ Array.replicate (fn.ntmps - vs.toArray.size) undef, defers := [] } w := by
    rw [hn]; exact rel_args hlen hreal (by rw [← hlen]; exact Nat.le_of_ble_eq_true hpn)
  refine wp_mono (body ctx (fun b h => (hK b h).elim) _ w ⟨g0, hrel⟩) fun en a' w' ⟨s, ⟨he, t, hres, hcase⟩, g, hg⟩ => ?_
  have hbel : Below w.heap.size w w' := ⟨hg.os, hg.tape, hg.output, hg.grows, fun k hk => hg.keep k hk (hK k)⟩
  have main : a'.defers = [] ∧ ∃ v, (results fn a'.tmps).run P w' = .ok v w' ∧ (∃ u, Ending.returned v = .returned u ∧ Below w.heap.size w w' ∧ RowRd w' S w.heap.size e k l u) := by
    refine ⟨hg.defers, _, results_tmp hres _ _ _, _, rfl, hbel, ?_⟩
    rcases hcase with ⟨rfl, hs⟩ | ⟨id, m, hs, hlm, hl⟩
    · have := (hg.slots t _ hs).of_v
      rw [this]
      exact .nil
    · have hr := hg.slots t _ hs
      generalize hv : a'.tmps.getD t undef = v at hr
      cases hg.objs id _ hl with
      | rowNil _ _ hgn =>
        cases hr with
        | row _ _ blk cap hgi => rw [hgn] at hgi; cases hgi
        | rowNil => exact .nil
      | row _ _ _ blk' cap' cur hgi hh hlc hcap hcs hkk hr' =>
        cases hr with
        | rowNil _ hgn => rw [hgn] at hgi; cases hgi
        | row _ _ blk cap hgi' =>
          rw [hgi] at hgi'
          cases hgi'
          subst hlm
          have hown := hg.own id _ blk' cap' hl hgi
          refine .row l blk' cap' cur (hown.2.resolve_right (hK _)) hh hlc hcap hcs hkk fun i cs j x hi hx => ?_
          obtain ⟨u, hu, hd⟩ := hr' i cs j x hi hx
          exact ⟨u, hu, hd.keep ⟨Nat.le_refl _, fun _ _ _ => rfl⟩ fun b ⟨h1, h2⟩ _ => ⟨h1, fun eb => by subst eb; exact h2 id _ cap' hl hgi⟩⟩
  rcases he with rfl | rfl
  · exact main
  · exact main
end
end Go.Ep
