/- Texts that the walks and laws lean on, side by side. -/
import Derived.WalkSpells
import Derived.Test.YthcldkmidhhgbaaProg
import Derived.KernelRfl
import Derived.Shelf.SlGeneric
import Derived.Shelf.SlLaysF0
import Derived.Ground.SlsfProg
import Derived.Shelf.SlSortCmp.WholeK
import Derived.Shelf.SlSortCmp.NoneTotal
import Derived.StillTactics
import Derived.RegionTactic
import Derived.Test.YthcldkmidhhgbaaAOn2
import Derived.Test.YthcldkmidhhgbaaAOn3
set_option linter.unusedVariables false
set_option linter.unusedSimpArgs false
namespace Go.Ep
open Go.RowKit
section
variable {ctx : Ctx} {s : PState}
/-- An object is said otherwise. -/
theorem Sub.obj {id : Nat} {o o' : Ob} (hl : look s.objs id = some o) (hob : ∀ (w : World) (g : Ghost) (S : Nat → Prop), ObRd w g S id o → ObRd w g S id o') : Sub ctx s { s with objs := putO id o' s.objs } := by
  rintro a w ⟨g, h1⟩
  refine ⟨g, ?_⟩
  have hF : ∀ b, Free ctx g s.objs b → Free ctx g (putO id o' s.objs) b := fun b hb => ⟨hb.1, fun i o2 n ho hgi => by
    rw [look_putO] at ho
    by_cases ei : i = id
    · subst ei; exact hb.2 i _ n hl hgi
    · rw [if_neg ei] at ho; exact hb.2 i o2 n ho hgi⟩
  have hst : Stays w w (Free ctx g s.objs) := ⟨Nat.le_refl _, fun _ _ _ => rfl⟩
  have hlk : ∀ i o2, look (putO id o' s.objs) i = some o2 → ∃ o3, look s.objs i = some o3 := fun i o2 ho => by
    rw [look_putO] at ho
    by_cases ei : i = id
    · subst ei; exact ⟨_, hl⟩
    · rw [if_neg ei] at ho; exact ⟨_, ho⟩
  refine ⟨h1.defers, h1.size, fun i p hp => (h1.slots i p hp).keep hst (fun b hb _ => hF b hb) (fun _ _ => rfl), fun i o2 ho => ?_, fun i i2 o2 o3 b n m ho ho2 hgi hgi2 => ?_, fun i o2 b n ho hgi => ?_, h1.os, h1.tape, h1.output, h1.grows, h1.keep⟩
  · rw [look_putO] at ho
    by_cases ei : i = id
    · subst ei
      rw [if_pos rfl] at ho
      cases ho
      exact hob _ _ _ ((h1.objs i _ hl).keep hst (fun b hb _ => hF b hb) (fun _ _ _ => rfl) rfl (fun _ _ => rfl))
    · rw [if_neg ei] at ho
      exact (h1.objs i o2 ho).keep hst (fun b hb _ => hF b hb) (fun _ _ _ => rfl) rfl (fun _ _ => rfl)
  · obtain ⟨o4, e4⟩ := hlk i o2 ho
    obtain ⟨o5, e5⟩ := hlk i2 o3 ho2
    exact h1.inj i i2 o4 o5 b n m e4 e5 hgi hgi2
  · obtain ⟨o4, e4⟩ := hlk i o2 ho
    exact h1.own i o4 b n e4 hgi
theorem Sub.mapF {id : Nat} {nl : Bool} {ks : List IntKind} {ag : Bool} {m : List (List Int × List DV)} {bs : List Nat} {ck : Nat} (hl : look s.objs id = some (.mapN nl ks ag m bs ck)) (hn : nl = false) : Sub ctx s { s with objs := putO id (.map ks ag m bs ck) s.objs } :=
  Sub.obj hl fun w g S h => by
    subst hn
    cases h with
    | mapN _ _ _ _ _ blk n es h hh hm => exact .map _ _ _ _ _ blk n es h hh hm
theorem Sub.mapToN {id : Nat} {ks : List IntKind} {ag : Bool} {m : List (List Int × List DV)} {bs : List Nat} {ck : Nat} (hl : look s.objs id = some (.map ks ag m bs ck)) : Sub ctx s { s with objs := putO id (.mapN false ks ag m bs ck) s.objs } :=
  Sub.obj hl fun w g S h => by
    cases h with
    | map _ _ _ _ _ blk n es h hh hm => exact .mapN _ _ _ _ _ blk n es h hh hm
end
section
variable {P : Program} {ctx : Ctx} {Q : PQ} {s : PState}
variable {dst : Option Tmp} {ty : TypeId} {pos : String} {after : Array Edge} {gd : Option (Nat × Bool)}
variable {id : Nat} {nl : Bool} {ks : List IntKind} {ag : Bool} {m : List (List Int × List DV)} {bs : List Nat} {ck : Nat}
/-- What a nil map has. -/
theorem PWc.mapNil {c : Code} (hl : look s.objs id = some (.mapN nl ks ag m bs ck)) (h : (nl = true → m = [] ∧ bs = []) → PWc P ctx c Q s) : PWc P ctx c Q s := fun a w hr => by
  refine h ?_ a w hr
  obtain ⟨g, hg⟩ := hr
  intro hn
  subst hn
  cases hg.objs id _ hl with
  | mapNil => exact ⟨rfl, rfl⟩
theorem PWl.mapNil {ops : Array Oper} {l : List Oper} (hl : look s.objs id = some (.mapN nl ks ag m bs ck)) (h : (nl = true → m = [] ∧ bs = []) → PWl P ctx ops Q l s) : PWl P ctx ops Q l s := fun a w hr => by
  refine h ?_ a w hr
  obtain ⟨g, hg⟩ := hr
  intro hn
  subst hn
  cases hg.objs id _ hl with
  | mapNil => exact ⟨rfl, rfl⟩
section
variable {x kx : Operand} {t kt et : TypeId} {ns : List Int} {z : Value} {zs : List DV} {p : PV}
  (hu : P.underlying t = some (.map kt et)) (K : KeyOK P kt ks) (hz : ∀ w, (zeroValue et).run P w = .ok z w) (hzr : ∀ (w : World) (g : Ghost) (S : Nat → Prop), Rd w g S (elP ag zs) z) (hk : s.ev kx = some (keyP ks ns)) (hn : ns.length = ks.length) (hp : elP ag ((mget m ns).getD zs) = p)
  (hx : s.ev x = some (.mp id)) (hl : look s.objs id = some (.mapN nl ks ag m bs ck))
include hu K hz hzr hk hn hp hx hl
theorem LR.lookupOkN : Local P ctx ⟨dst, .lookup t x kx true, ty, pos, after, gd⟩ s (s.putD dst (.tup [p, .d (.v (.bool (mget m ns).isSome))])) :=
  local_pure (o := ⟨dst, .lookup t x kx true, ty, pos, after, gd⟩) fun a w g hg => by
    have h := hg.ev hx
    generalize hv : a.eval x = v at h
    have fin : ∀ v, Rd w g (Free ctx g s.objs) p v → Rd w g (Free ctx g s.objs) (.tup [p, .d (.v (.bool (mget m ns).isSome))]) (.tuple [v, .bool (mget m ns).isSome].toArray) := fun v h2 => .tup _ [v, .bool (mget m ns).isSome] rfl (fun i q u hq hu => by
      match i with
      | 0 => simp at hq hu; subst hq; subst hu; exact h2
      | 1 => simp at hq hu; subst hq; subst hu; exact .d (.v _ rfl)
      | _ + 2 => simp at hq)
    cases h with
    | mpNil _ hgn =>
      cases hg.objs id _ hl with
      | mapN _ _ _ _ _ blk' n' es h' hh hm => rw [hgn] at h'; cases h'
      | mapNil =>
        refine ⟨_, ?_, fin z (hp ▸ hzr w g _)⟩
        simp only [execOp, hv, keyP_eq (hg.ev hk), Sem.run_bind, run_lookup_nil (w := w) hu K hn hz true, Result.andThen_ok, Sem.run_pure]
        rfl
    | mp _ blk n hgi =>
      cases hg.objs id _ hl with
      | mapNil _ _ _ h' => rw [hgi] at h'; cases h'
      | mapN _ _ _ _ _ blk' n' es h' hh hm =>
        rw [hgi] at h'; cases h'
        obtain ⟨v, h1, h2⟩ := run_lookup (g := g) hu K hn hh hm hz (hzr w g _) true
        refine ⟨_, ?_, fin v (hp ▸ h2)⟩
        simp only [execOp, hv, keyP_eq (hg.ev hk), Sem.run_bind, h1, Result.andThen_ok, Sem.run_pure]
        rfl
end
theorem LR.deleteN {x kx : Operand} {t kt et : TypeId} {ats : Array TypeId} {ns : List Int} (hats : ats[0]? = some t) (hu : P.underlying t = some (.map kt et)) (K : KeyOK P kt ks) (hx : s.ev x = some (.mp id)) (hl : look s.objs id = some (.mapN nl ks ag m bs ck))
    (hk : s.ev kx = some (keyP ks ns)) (hn : ns.length = ks.length) :
    Local P ctx ⟨dst, .call ⟨.builtin .delete, #[x, kx], ats⟩, ty, pos, after, gd⟩ s ((s.setO id (.mapN nl ks ag (mdel m ns) (bdel m ns bs) ck)).putD dst (.tup [])) := by
  refine local_value (o := ⟨dst, .call ⟨.builtin .delete, #[x, kx], ats⟩, ty, pos, after, gd⟩) fun a w g hg => ?_
  have h := hg.ev hx
  generalize hxv : a.eval x = v at h
  cases h with
  | mpNil _ hgn =>
    cases ho : hg.objs id _ hl with
    | mapN _ _ _ _ _ blk' n' es h' hh hm => rw [hgn] at h'; cases h'
    | mapNil =>
      have hexec : (execOp a.eval ⟨dst, .call ⟨.builtin .delete, #[x, kx], ats⟩, ty, pos, after, gd⟩).run P w = .ok (.value (.tuple #[])) w := by
        simp only [execOp, resolve, invoke, builtin, hxv, keyP_eq (hg.ev hk), Sem.run_bind, Sem.run_pure, Result.andThen_ok, List.map_toArray, List.map_cons, List.map_nil]
        have a0 : (#[Value.map none, keyV ks ns] : Array Value)[0]? = some (.map none) := rfl
        have a1 : (#[Value.map none, keyV ks ns] : Array Value)[1]? = some (keyV ks ns) := rfl
        simp only [Builtin.delete_, hats, a0, a1, Sem.run_bind, run_underlying hu, Result.andThen_ok, K.check w _ ns hn, Sem.run_pure]
      obtain ⟨g', h2⟩ := Sub.obj (o' := .mapN true ks ag [] [] ck) hl (fun _ _ _ h => h) a w ⟨g, hg⟩
      exact ⟨.tuple #[], _, hexec, g', h2.put dst (.tup [] [] rfl (by simp))⟩
  | mp _ blk n hgi =>
    cases hg.objs id _ hl with
    | mapNil _ _ _ h' => rw [hgi] at h'; cases h'
    | mapN _ _ _ _ _ blk' n' es h' hh hm =>
      rw [hgi] at h'; cases h'
      obtain ⟨es', hrun, hm'⟩ := run_delete (P := P) (ty := ty) hats hu K hn hh hm
      have hexec : (execOp a.eval ⟨dst, .call ⟨.builtin .delete, #[x, kx], ats⟩, ty, pos, after, gd⟩).run P w = .ok (.value (.tuple #[])) { w with heap := w.heap.setIfInBounds blk (.map es' ck) } := by
        simp only [execOp, resolve, invoke, builtin, hxv, keyP_eq (hg.ev hk), Sem.run_bind, Sem.run_pure, Result.andThen_ok, List.map_toArray, List.map_cons, List.map_nil, hrun]
      refine ⟨.tuple #[], _, hexec, g, ?_⟩
      have hown := hg.own id _ blk n hl hgi
      have hother : ∀ k, k < w.heap.size → k ≠ blk → ({ w with heap := w.heap.setIfInBounds blk (.map es' ck) } : World).heap[k]? = w.heap[k]? := fun k _ hne => set_other w blk k _ hne
      have hst : Stays w { w with heap := w.heap.setIfInBounds blk (.map es' ck) } (Free ctx g s.objs) := ⟨by simp, fun b ⟨_, h2⟩ hlt => hother b hlt fun e => by subst e; exact h2 id _ n hl hgi⟩
      exact (hg.wrote hl hgi (w' := { w with heap := w.heap.setIfInBounds blk (.map es' ck) }) rfl rfl rfl (by simp) hother hown.2 (.mapN ks ag _ _ _ blk n es' hgi (set_same w blk _ hown.1) (hm'.keep hst (fun b hb _ => free_put hl b hb)))).put dst (.tup [] [] rfl (by simp))
def PWL (P : Program) (ctx : Ctx) (c : Code) (Q : PQ) (s : PState) : Prop := ∀ a w, Rel ctx s a w → LoopAt P c (lift ctx Q) a w
theorem PWL.step {c : Code} (h : PWc P ctx c (Then (PWL P ctx c Q) Q) s) : PWL P ctx c Q s := fun a w hr => by
  refine LoopAt.step (wp_mono (h a w hr) fun e a' w' ⟨t, h1, h2⟩ => ?_)
  cases e with
  | normal => exact h1 a' w' h2
  | _ => exact ⟨t, h1, h2⟩
theorem PWL.sub {c : Code} {t : PState} (hs : Sub ctx s t) (h : PWL P ctx c Q t) : PWL P ctx c Q s := fun a w hr => h a w (hs a w hr)
theorem LR.rangeN {id mid : Nat} {x : Operand} {t kt et : TypeId} (hu : P.underlying t = some (.map kt et)) (hx : s.ev x = some (.mp mid)) (hl : look s.objs mid = some (.mapN nl ks ag m bs ck)) (hf : s.fresh id = true) :
    Local P ctx ⟨some id, .range t x, ty, pos, after, gd⟩ s (s.newO id (.iterO mid bs ck []) (.ref id 0)) :=
  local_value (o := ⟨some id, .range t x, ty, pos, after, gd⟩) fun a w g hg => by
    have h := hg.ev hx
    have hne : mid ≠ id := fun e => by subst e; rw [fresh_look hf] at hl; cases hl
    generalize hv : a.eval x = v at h
    cases h with
    | mpNil _ hgn =>
      cases hg.objs mid _ hl with
      | mapN _ _ _ _ _ blk' n' es h' hh hm => rw [hgn] at h'; cases h'
      | mapNil =>
        refine ⟨_, _, ?_, iter_new (o := ⟨some id, .range t x, ty, pos, after, gd⟩) rfl hf hg (it := .mapIter none 0 #[] 0) fun w' g' S' _ _ h1 h2 h3 => .iterON mid ck w.heap.size 0 h2 h3 (by rw [h1 mid hne]; exact hgn)⟩
        simp [execOp, hv, Instr.range, run_underlying hu, Result.andThen]
    | mp _ blk n hgi =>
      cases hg.objs mid _ hl with
      | mapNil _ _ _ h' => rw [hgi] at h'; cases h'
      | mapN _ _ _ _ _ blk' n' es h' hh hm =>
        rw [hgi] at h'; cases h'
        refine ⟨_, _, ?_, iter_new (o := ⟨some id, .range t x, ty, pos, after, gd⟩) rfl hf hg (it := .mapIter (some blk) ck #[] ck) fun w' g' S' _ _ h1 h2 h3 => .iterO mid bs ck [] w.heap.size 0 blk n h2 h3 (by rw [h1 mid hne]; exact hgi)⟩
        simp [execOp, hv, Instr.range, run_underlying hu, MapKept.run_getObj_map hh, Result.andThen]
section
variable {ops : Array Oper} {rest : List Oper} {it : Operand} {L : List Nat} {mid : Nat}
theorem PWl.nextN (hx : s.ev it = some (.ref id 0)) (hl : look s.objs id = some (.iterO mid bs ck L)) (hlm : look s.objs mid = some (.mapN nl ks ag m bs ck)) (hL : ∀ i ∈ L, i < m.length) (hgd : gd = none)
    (hdone : (∀ i, i < m.length → i ∈ L) → PWl P ctx ops Q rest (s.putD dst (.tup [.d (.v (.bool false))])))
    (hstep : ∀ i, i < m.length → i ∉ L → PWl P ctx ops Q rest ((s.setO id (.iterO mid bs ck (L ++ [i]))).putD dst (.tup [.d (.v (.bool true)), .junk, .junk]))) :
    PWl P ctx ops Q (⟨dst, .next it false, ty, pos, after, gd⟩ :: rest) s := by
  have hne : mid ≠ id := fun e => by subst e; rw [hl] at hlm; cases hlm
  cases nl with
  | false =>
    have hb : ∀ (t : PState) (t' : PState), t.n = t'.n → t.sl = t'.sl → look t.objs mid = some (.map ks ag m bs ck) → look t'.objs mid = some (.mapN false ks ag m bs ck) → (∀ j, j ≠ mid → look t.objs j = look t'.objs j) → Sub ctx t t' := fun t t' h1 h2 h3 h4 h5 => by
      intro a w hr
      have := Sub.mapToN h3 a w hr
      refine Sub.drop (s := { t with objs := putO mid (.mapN false ks ag m bs ck) t.objs }) (t := t') h1 (fun i p hp => ?_) (fun j o ho => ?_) a w this
      · unfold PState.at at hp ⊢; rw [h1, h2]; exact hp
      · show look (putO mid _ t.objs) j = some o
        rw [look_putO]
        by_cases e : j = mid
        · subst e; rw [if_pos rfl, ← h4]; exact ho
        · rw [if_neg e, h5 j e]; exact ho
    refine PWl.sub (Sub.mapF hlm rfl) (PWl.nextO (mid := mid) hx (by show look (putO mid _ s.objs) id = _; rw [look_putO, if_neg (Ne.symm hne)]; exact hl) (by show look (putO mid _ s.objs) mid = _; rw [look_putO, if_pos rfl]) hL hgd (fun hd => PWl.sub (hb _ _ ?_ ?_ ?_ ?_ ?_) (hdone hd)) (fun i hi hn => PWl.sub (hb _ _ ?_ ?_ ?_ ?_ ?_) (hstep i hi hn)))
    · cases dst <;> rfl
    · cases dst <;> rfl
    · cases dst <;> (show look (putO mid _ s.objs) mid = _; rw [look_putO, if_pos rfl])
    · cases dst <;> exact hlm
    · intro j hj; cases dst <;> (show look (putO mid _ s.objs) j = _; rw [look_putO, if_neg hj]; rfl)
    · cases dst <;> rfl
    · cases dst <;> rfl
    · cases dst <;> (show look (putO id _ (putO mid _ s.objs)) mid = _; rw [look_putO, if_neg hne, look_putO, if_pos rfl])
    · cases dst <;> (show look (putO id _ s.objs) mid = _; rw [look_putO, if_neg hne]; exact hlm)
    · intro j hj; cases dst <;> (show look (putO id _ (putO mid _ s.objs)) j = look (putO id _ s.objs) j; rw [look_putO, look_putO, look_putO, if_neg hj])
  | true =>
    rintro a w ⟨g, hg⟩
    have hr := hg.ev hx
    generalize hv : a.eval it = v at hr
    refine wpList_plain hgd fun K hK => ?_
    cases hr with
    | ref _ _ blk n hgi =>
      cases hg.objs mid _ hlm with
      | mapNil _ _ _ hgm =>
        cases hg.objs id _ hl with
        | iterO _ _ _ _ blk' n' b n2 h' hh hgm2 => rw [hgm] at hgm2; cases hgm2
        | iterON _ _ blk' n' h' hh _ =>
          rw [hgi] at h'; cases h'
          have hrun : (execOp a.eval ⟨dst, .next it false, ty, pos, after, gd⟩).run P w = .ok (.value (.tuple #[.bool false])) w := by
            have hgr : (getObj blk).run P w = .ok (.mapIter none 0 #[] 0) w := by simp [getObj, Sem.run, hh]
            simp only [execOp, hv, Instr.next, Sem.run_bind, hgr, Result.andThen_ok, Sem.run_pure]
          unfold Oper.wp
          rw [hrun]
          exact hK _ _ (hdone (by simp) _ _ ⟨g, hg.put dst (.tup [.d (.v (.bool false))] [.bool false] rfl (fun i p u hp hu => by
            cases i with
            | zero => simp at hp hu; subst hp; subst hu; exact .d (.v _ rfl)
            | succ i => simp at hp))⟩)
theorem LR.entryN {i : Nat} {ns : List Int} {cs : List DV} {kp p : PV} (hx : s.ev it = some (.ref id 0)) (hl : look s.objs id = some (.iterO mid bs ck (L ++ [i]))) (hlm : look s.objs mid = some (.mapN nl ks ag m bs ck)) (hi : m[i]? = some (ns, cs)) (hkp : keyP ks ns = kp) (hp : elP ag cs = p) :
    Local P ctx ⟨dst, .entry it, ty, pos, after, gd⟩ s (s.putD dst (.tup [kp, p])) := by
  have hne : mid ≠ id := fun e => by subst e; rw [hl] at hlm; cases hlm
  cases nl with
  | true =>
    refine local_pure (o := ⟨dst, .entry it, ty, pos, after, gd⟩) fun a w g hg => ?_
    cases hg.objs mid _ hlm with
    | mapNil => simp at hi
  | false =>
    refine local_pure (o := ⟨dst, .entry it, ty, pos, after, gd⟩) fun a w g hg => ?_
    have hr := hg.ev hx
    generalize hv : a.eval it = v at hr
    cases hr with
    | ref _ _ blk n hgi =>
      have hob := hg.objs id _ hl
      generalize hLL : L ++ [i] = LL at hob
      cases hob with
      | iterON => simp at hLL
      | iterO _ _ _ _ blk' n' b n2 h' hh hgm =>
        subst hLL
        rw [hgi] at h'; cases h'
        cases hg.objs mid _ hlm with
        | mapN _ _ _ _ _ bm nm es hgm2 hb2 hm =>
          rw [hgm] at hgm2; cases hgm2
          obtain ⟨e, us, g1, g2, g3, g4, g5, g6, g7, g8⟩ := hm.ent i ns cs hi
          have := run_entry (P := P) hh hb2 hm.stamps hm.nodup g1
          refine ⟨.tuple [e.key, e.val].toArray, by simp only [execOp, hv, Sem.run_bind, this, Result.andThen_ok, Sem.run_pure], .tup _ [e.key, e.val] rfl (fun j p' u hp' hu => ?_)⟩
          subst hkp; subst hp
          match j with
          | 0 => simp at hp' hu; subst hp'; subst hu; rw [g2]; exact keyV_rd w g _ ks ns
          | 1 => simp at hp' hu; subst hp'; subst hu; rw [g3]; exact elV_rd g4 g5 g6 g8
          | _ + 2 => simp at hp'
end
end
section
variable {P : Program} {ctx : Ctx} {Q : PQ} {s : PState}
variable {dst : Option Tmp} {ty : TypeId} {pos : String} {after : Array Edge} {gd : Option (Nat × Bool)}
variable {κ ν : Type} [DecidableEq κ] {eK : κ → List Int} {eV : ν → List DV} {m : List (κ × ν)} {q : κ} {zv : ν} (inj : ∀ a b, eK a = eK b → a = b)
variable {x kx : Operand} {t kt et : TypeId} {ks : List IntKind} {ag : Bool} {z : Value} {p kp : PV} {id : Nat} {nl : Bool} {bs : List Nat} {ck : Nat}
section
variable (hu : P.underlying t = some (.map kt et)) (K : KeyOK P kt ks) (hz : ∀ w, (zeroValue et).run P w = .ok z w) (hzr : ∀ (w : World) (g : Ghost) (S : Nat → Prop), Rd w g S (elP ag (eV zv)) z) (hk : s.ev kx = some kp) (hkp : kp = keyP ks (eK q)) (hn : (eK q).length = ks.length) (hp : elP ag (eV (AL.getZ m q zv)) = p)
include inj hu K hz hzr hk hkp hn hp
theorem LR.getOkN (hx : s.ev x = some (.mp id)) (hl : look s.objs id = some (.mapN nl ks ag (encM eK eV m) bs ck)) : Local P ctx ⟨dst, .lookup t x kx true, ty, pos, after, gd⟩ s (s.putD dst (.tup [p, .d (.v (.bool (AL.has m q)))])) := by
  have := LR.lookupOkN (P := P) (ctx := ctx) (dst := dst) (ty := ty) (pos := pos) (after := after) (gd := gd) (p := p) hu K hz hzr (by rw [hk, hkp]) hn (by rw [mget_encM inj, getD_map]; exact hp) hx hl
  rw [mget_encM inj, Option.isSome_map] at this
  exact this
end
include inj in
theorem LR.delN {ats : Array TypeId} (hu : P.underlying t = some (.map kt et)) (K : KeyOK P kt ks) (hx : s.ev x = some (.mp id)) (hl : look s.objs id = some (.mapN nl ks ag (encM eK eV m) bs ck)) (hk : s.ev kx = some kp) (hkp : kp = keyP ks (eK q)) (hn : (eK q).length = ks.length) (hats : ats[0]? = some t) :
    Local P ctx ⟨dst, .call ⟨.builtin .delete, #[x, kx], ats⟩, ty, pos, after, gd⟩ s ((s.setO id (.mapN nl ks ag (encM eK eV (AL.del m q)) (bdel (encM eK eV m) (eK q) bs) ck)).putD dst (.tup [])) := by
  have := LR.deleteN (P := P) (ctx := ctx) (dst := dst) (ty := ty) (pos := pos) (after := after) (gd := gd) hats hu K hx hl (by rw [hk, hkp]) hn
  rwa [mdel_encM inj] at this
end
section
variable {ctx : Ctx} {s : PState}
end
end Go.Ep

namespace Go.Ep
open Go.RowKit
section
variable {P : Program} {ctx : Ctx} {Q : PQ} {s : PState}
variable {dst : Option Tmp} {ty : TypeId} {pos : String} {after : Array Edge} {gd : Option (Nat × Bool)}

section
variable {x kx : Operand} {t kt et : TypeId} {ks : List IntKind} {m : List (List Int × Value)} {ns : List Int} {bs : List Nat} {ck id : Nat} {ov : Option (Nat × PV)}
variable (hu : P.underlying t = some (.map kt et)) (K : KeyOK P kt ks) (hx : s.ev x = some (.mp id)) (hl : look s.objs id = some (.mapP ks m ov bs ck)) (hk : s.ev kx = some (keyP ks ns)) (hn : ns.length = ks.length)
include hu K hx hl hk hn
omit hu K hx hl hk hn in
end
end

section
variable {P : Program} {ctx : Ctx} {ops : Array Oper} {Q : PState → Prop} {s : PState}
variable {dst : Option Tmp} {ty : TypeId} {pos : String} {after : Array Edge} {gd : Option (Nat × Bool)}
theorem Local.post {o : Oper} {t u : PState} (h : Local P ctx o s t) (hs : Sub ctx t u) : Local P ctx o s u := fun a w hr K Qx hK => h a w hr K Qx fun a' w' h' => hK a' w' (hs a' w' h')
theorem Local.pre {o : Oper} {t u : PState} (hs : Sub ctx s t) (h : Local P ctx o t u) : Local P ctx o s u := fun a w hr K Qx hK => h a w (hs a w hr) K Qx hK
section
variable {α : Type} {enc : α → List DV} {L R : List α} {x y : Operand} {id mid m k bs' : Nat} {t t' e e' : TypeId} {ks : List IntKind} {mm : List (List Int × Value)} {j : Nat} {p : PV} {bs : List Nat} {ck : Nat}
end
end
end Go.Ep

namespace Go.Ep
open Go.RowKit
section
variable {ctx : Ctx} {s : PState}
theorem RelG.obj {g : Ghost} {a : Act} {w : World} (h1 : RelG ctx g s a w) {id : Nat} {o o' : Ob} (hl : look s.objs id = some o) (hob : ObRd w g (Free ctx g s.objs) id o') : RelG ctx g { s with objs := putO id o' s.objs } a w := by
  have hF : ∀ b, Free ctx g s.objs b → Free ctx g (putO id o' s.objs) b := fun b hb => ⟨hb.1, fun i o2 n ho hgi => by
    rw [look_putO] at ho
    by_cases ei : i = id
    · subst ei; exact hb.2 i _ n hl hgi
    · rw [if_neg ei] at ho; exact hb.2 i o2 n ho hgi⟩
  have hst : Stays w w (Free ctx g s.objs) := ⟨Nat.le_refl _, fun _ _ _ => rfl⟩
  have hlk : ∀ i o2, look (putO id o' s.objs) i = some o2 → ∃ o3, look s.objs i = some o3 := fun i o2 ho => by
    rw [look_putO] at ho
    by_cases ei : i = id
    · subst ei; exact ⟨_, hl⟩
    · rw [if_neg ei] at ho; exact ⟨_, ho⟩
  refine ⟨h1.defers, h1.size, fun i p hp => (h1.slots i p hp).keep hst (fun b hb _ => hF b hb) (fun _ _ => rfl), fun i o2 ho => ?_, fun i i2 o2 o3 b n m ho ho2 hgi hgi2 => ?_, fun i o2 b n ho hgi => ?_, h1.os, h1.tape, h1.output, h1.grows, h1.keep⟩
  · rw [look_putO] at ho
    by_cases ei : i = id
    · subst ei
      rw [if_pos rfl] at ho
      cases ho
      exact hob.keep hst (fun b hb _ => hF b hb) (fun _ _ _ => rfl) rfl (fun _ _ => rfl)
    · rw [if_neg ei] at ho
      exact (h1.objs i o2 ho).keep hst (fun b hb _ => hF b hb) (fun _ _ _ => rfl) rfl (fun _ _ => rfl)
  · obtain ⟨o4, e4⟩ := hlk i o2 ho
    obtain ⟨o5, e5⟩ := hlk i2 o3 ho2
    exact h1.inj i i2 o4 o5 b n m e4 e5 hgi hgi2
  · obtain ⟨o4, e4⟩ := hlk i o2 ho
    exact h1.own i o4 b n e4 hgi
variable {id : Nat} {nl : Bool} {ks : List IntKind} {ag : Bool} {m : List (List Int × List DV)} {bs : List Nat} {ck : Nat}
theorem Sub.nToH (hl : look s.objs id = some (.mapN nl ks ag m bs ck)) : Sub ctx s { s with objs := putO id (.mapH nl ks ag m) s.objs } :=
  Sub.obj hl fun w g S h => by
    cases h with
    | mapNil _ _ _ h => exact .mapHNil _ _ h
    | mapN _ _ _ _ _ blk n es h hh hm => exact .mapH _ _ _ _ _ blk n es h hh hm
theorem Sub.toH (hl : look s.objs id = some (.map ks ag m bs ck)) : Sub ctx s { s with objs := putO id (.mapH false ks ag m) s.objs } :=
  Sub.obj hl fun w g S h => by
    cases h with
    | map _ _ _ _ _ blk n es h hh hm => exact .mapH _ _ _ _ _ blk n es h hh hm
theorem Sub.hT (hl : look s.objs id = some (.mapH nl ks ag m)) (hn : nl = true) : Sub ctx s { s with objs := putO id (.mapN true ks ag m [] 0) s.objs } :=
  Sub.obj hl fun w g S h => by
    subst hn
    cases h with
    | mapHNil _ _ h => exact .mapNil _ _ _ h
theorem openH (hl : look s.objs id = some (.mapH nl ks ag m)) {a : Act} {w : World} (hr : Rel ctx s a w) : ∃ bs ck, Rel ctx { s with objs := putO id (.mapN nl ks ag m bs ck) s.objs } a w := by
  obtain ⟨g, hg⟩ := hr
  have h := hg.objs id _ hl
  cases h with
  | mapHNil _ _ h => exact ⟨[], 0, g, hg.obj hl (.mapNil _ _ _ h)⟩
  | mapH _ _ _ bs ck blk n es h hh hm => exact ⟨bs, ck, g, hg.obj hl (.mapN _ _ _ _ _ blk n es h hh hm)⟩
variable {P : Program} {Q : PQ}
theorem PWc.openH {c : Code} (hl : look s.objs id = some (.mapH nl ks ag m)) (h : ∀ bs ck, PWc P ctx c Q { s with objs := putO id (.mapN nl ks ag m bs ck) s.objs }) : PWc P ctx c Q s := fun a w hr => by
  obtain ⟨bs, ck, h2⟩ := Go.Ep.openH hl hr
  exact h bs ck a w h2
theorem PWl.openH {ops : Array Oper} {l : List Oper} (hl : look s.objs id = some (.mapH nl ks ag m)) (h : ∀ bs ck, PWl P ctx ops Q l { s with objs := putO id (.mapN nl ks ag m bs ck) s.objs }) : PWl P ctx ops Q l s := fun a w hr => by
  obtain ⟨bs, ck, h2⟩ := Go.Ep.openH hl hr
  exact h bs ck a w h2
theorem look_put2 (id : Nat) (o o' : Ob) (l : List (Nat × Ob)) (i : Nat) : look (putO id o (putO id o' l)) i = look (putO id o l) i := by
  rw [look_putO, look_putO, look_putO]
  by_cases h : i = id <;> simp [h]
theorem Sub.same {t : PState} (hn : s.n = t.n) (hs : s.sl = t.sl) (ho : ∀ i, look s.objs i = look t.objs i) : Sub ctx s t :=
  Sub.drop hn (fun i p hp => by rw [at_eq] at hp ⊢; rw [hn, hs]; exact hp) (fun i o h => by rw [ho]; exact h)
theorem PWc.hF {c : Code} (hl : look s.objs id = some (.mapH nl ks ag m)) (hn : nl = false) (h : ∀ bs ck, PWc P ctx c Q { s with objs := putO id (.map ks ag m bs ck) s.objs }) : PWc P ctx c Q s :=
  PWc.openH hl fun bs ck => PWc.sub (Sub.mapF (id := id) (by show look (putO id _ _) id = _; rw [look_putO, if_pos rfl]) hn) (PWc.sub (Sub.same (t := { s with objs := putO id (.map ks ag m bs ck) s.objs }) rfl rfl fun i => by
    show look (putO id _ (putO id _ _)) i = look (putO id _ _) i
    rw [look_put2]) (h bs ck))
theorem Local.openH {o : Oper} {t : PState} (hl : look s.objs id = some (.mapH nl ks ag m)) (h : ∀ bs ck, Local P ctx o { s with objs := putO id (.mapN nl ks ag m bs ck) s.objs } t) : Local P ctx o s t := fun a w hr K Qx hK => by
  obtain ⟨bs, ck, h2⟩ := Go.Ep.openH hl hr
  exact h bs ck a w h2 K Qx hK
theorem closeP {dst : Option Nat} {p : PV} {m' : List (List Int × List DV)} (hl : look s.objs id = some (.mapH nl ks ag m')) : Sub ctx (({ s with objs := putO id (.mapN nl ks ag m' bs ck) s.objs } : PState).putD dst p) (s.putD dst p) := by
  refine Sub.trans (Sub.nToH (id := id) (nl := nl) (ks := ks) (ag := ag) (m := m') (bs := bs) (ck := ck) ?_) (Sub.same ?_ ?_ fun i => ?_)
  · rw [putD_objs]; show look (putO id _ _) id = _; rw [look_putO, if_pos rfl]
  · cases dst <;> rfl
  · cases dst <;> rfl
  · rw [putD_objs]
    show look (putO id _ _) i = _
    rw [putD_objs]
    show look (putO id _ (putO id _ _)) i = _
    rw [look_put2, look_putO]
    by_cases h : i = id
    · rw [if_pos h, h, hl]
    · rw [if_neg h]
theorem ev_objs {x : Operand} (l : List (Nat × Ob)) : ({ s with objs := l } : PState).ev x = s.ev x := by cases x <;> rfl
end
section
variable {P : Program} {ctx : Ctx} {Q : PQ} {s : PState}
variable {dst : Option Tmp} {ty : TypeId} {pos : String} {after : Array Edge} {gd : Option (Nat × Bool)}
variable {κ ν : Type} [DecidableEq κ] {eK : κ → List Int} {eV : ν → List DV} {m : List (κ × ν)} {q : κ} {zv : ν} (inj : ∀ a b, eK a = eK b → a = b)
variable {x kx : Operand} {t kt et : TypeId} {ks : List IntKind} {ag : Bool} {z : Value} {p kp : PV} {id : Nat} {nl : Bool} {bs : List Nat} {ck : Nat}
section
variable (hu : P.underlying t = some (.map kt et)) (K : KeyOK P kt ks) (hz : ∀ w, (zeroValue et).run P w = .ok z w) (hzr : ∀ (w : World) (g : Ghost) (S : Nat → Prop), Rd w g S (elP ag (eV zv)) z) (hk : s.ev kx = some kp) (hkp : kp = keyP ks (eK q)) (hn : (eK q).length = ks.length) (hp : elP ag (eV (AL.getZ m q zv)) = p)
include inj hu K hz hzr hk hkp hn hp
theorem LR.getOkH (hx : s.ev x = some (.mp id)) (hl : look s.objs id = some (.mapH nl ks ag (encM eK eV m))) : Local P ctx ⟨dst, .lookup t x kx true, ty, pos, after, gd⟩ s (s.putD dst (.tup [p, .d (.v (.bool (AL.has m q)))])) :=
  Local.openH hl fun bs ck => (LR.getOkN inj hu K hz hzr (by rw [ev_objs]; exact hk) hkp hn hp (by rw [ev_objs]; exact hx) (by show look (putO id _ _) id = _; rw [look_putO, if_pos rfl])).post (closeP hl)
end
include inj in
theorem LR.delH {ats : Array TypeId} (hu : P.underlying t = some (.map kt et)) (K : KeyOK P kt ks) (hx : s.ev x = some (.mp id)) (hl : look s.objs id = some (.mapH nl ks ag (encM eK eV m))) (hk : s.ev kx = some kp) (hkp : kp = keyP ks (eK q)) (hn : (eK q).length = ks.length) (hats : ats[0]? = some t) :
    Local P ctx ⟨dst, .call ⟨.builtin .delete, #[x, kx], ats⟩, ty, pos, after, gd⟩ s ((s.setO id (.mapH nl ks ag (encM eK eV (AL.del m q)))).putD dst (.tup [])) :=
  Local.openH hl fun bs ck => (LR.delN inj hu K (by rw [ev_objs]; exact hx) (by show look (putO id _ _) id = _; rw [look_putO, if_pos rfl]) (by rw [ev_objs]; exact hk) hkp hn hats).post
    (Sub.trans (Sub.nToH (id := id) (by rw [putD_objs]; show look (putO id _ _) id = _; rw [look_putO, if_pos rfl]))
      (Sub.same (by cases dst <;> rfl) (by cases dst <;> rfl) fun i => by
        cases dst <;> (show look (putO id _ (putO id _ (putO id _ _))) i = look (putO id _ _) i; rw [look_put2, look_putO, look_putO, look_putO]; by_cases h : i = id <;> simp [h])))
include inj in
end
inductive JCs (nm : List Nat) : List PV → List PV → Prop
  | nil : JCs nm [] []
  | keep {p : PV} {cs cs' : List PV} (h : p.named nm = true) (t : JCs nm cs cs') : JCs nm (p :: cs) (p :: cs')
  | junk {p : PV} {cs cs' : List PV} (t : JCs nm cs cs') : JCs nm (p :: cs) (.junk :: cs')
inductive JOb (nm : List Nat) : Ob → Ob → Prop
  | same {o : Ob} (h : o.named nm = true) : JOb nm o o
  | cells {T : TypeId} {cs cs' : List PV} (h : JCs nm cs cs') : JOb nm (.cells T cs) (.cells T cs')
inductive JObs (nm : List Nat) : List (Nat × Ob) → List (Nat × Ob) → Prop
  | nil : JObs nm [] []
  | cons {k : Nat} {o o' : Ob} {F F' : List (Nat × Ob)} (h : JOb nm o o') (t : JObs nm F F') : JObs nm ((k, o) :: F) ((k, o') :: F')
theorem JCs.len {nm : List Nat} {cs cs' : List PV} (h : JCs nm cs cs') : cs'.length = cs.length := by
  induction h with
  | nil => rfl
  | keep _ _ ih => simp [ih]
  | junk _ ih => simp [ih]
theorem JCs.get {nm : List Nat} {cs cs' : List PV} (h : JCs nm cs cs') : ∀ (i : Nat) (p : PV), cs'[i]? = some p → p = .junk ∨ cs[i]? = some p := by
  induction h with
  | nil => intro i p h; simp at h
  | keep _ _ ih =>
    intro i p h
    cases i with
    | zero => exact .inr (by simpa using h)
    | succ i => simpa using ih i p (by simpa using h)
  | junk _ ih =>
    intro i p h
    cases i with
    | zero => exact .inl (by simpa using h.symm)
    | succ i => simpa using ih i p (by simpa using h)
theorem JCs.named {nm : List Nat} {cs cs' : List PV} (h : JCs nm cs cs') : PV.named.namedL nm cs' = true := by
  induction h with
  | nil => rfl
  | keep h _ ih => simp only [PV.named.namedL, h, ih, Bool.and_self]
  | junk _ ih => simp only [PV.named.namedL, PV.named, ih, Bool.and_self]
theorem JOb.named {nm : List Nat} {o o' : Ob} (h : JOb nm o o') : o'.named nm = true := by
  cases h with
  | same h => exact h
  | cells h => exact h.named
theorem JOb.rd {nm : List Nat} {o o' : Ob} (h : JOb nm o o') {w : World} {g : Ghost} {S : Nat → Prop} {id : Nat} (hr : ObRd w g S id o) : ObRd w g S id o' := by
  cases h with
  | same => exact hr
  | cells h =>
    cases hr with
    | cells _ _ blk n us hgi hh hl hr' h1 =>
      refine .cells _ _ blk n us hgi hh (h.len.trans hl) (fun i p u hp hu => ?_) h1
      rcases h.get i p hp with rfl | h2
      · exact .junk u
      · exact hr' i p u h2 hu
theorem JObs.look {nm : List Nat} {F F' : List (Nat × Ob)} (h : JObs nm F F') : ∀ (id : Nat) (o' : Ob), Go.Ep.look F' id = some o' → ∃ o, Go.Ep.look F id = some o ∧ JOb nm o o' := by
  induction h with
  | nil => intro id o' h; simp [Go.Ep.look] at h
  | cons h _ ih =>
    intro id o' hl
    simp only [Go.Ep.look] at hl ⊢
    split at hl
    · rename_i e; cases hl; exact ⟨_, by rw [if_pos e], h⟩
    · rename_i e; rw [if_neg e]; exact ih id o' hl
theorem JObs.keys {nm : List Nat} {F F' : List (Nat × Ob)} (h : JObs nm F F') : F'.map (·.1) = F.map (·.1) := by
  induction h with
  | nil => rfl
  | cons _ _ ih => simp [ih]
theorem look_nkey {l : List (Nat × Ob)} {i : Nat} (h : i ∉ l.map (·.1)) : look l i = none := by
  cases hl : look l i with
  | none => rfl
  | some o => exact absurd (look_key hl) h
theorem OwnB.app {g : Ghost} {a b : List (Nat × Ob)} {k : Nat} (h : OwnB g (a ++ b) k) : OwnB g a k ∨ OwnB g b k := by
  obtain ⟨id, o, n, h1, h2⟩ := h
  rw [look_append] at h1
  cases hl : look a id with
  | none => rw [hl, Option.none_or] at h1; exact .inr ⟨id, o, n, h1, h2⟩
  | some q => rw [hl, Option.some_or] at h1; exact .inl ⟨id, q, n, hl, h2⟩
theorem PObj.frame {G : Type} {P : Program} {f : FuncId} {ps : List PV} {os : List (Nat × Ob)} {pins ks : List Nat} {r : PV} {os' : G → List (Nat × Ob)} (F F' : List (Nat × Ob)) (hc : PObj P f ps os pins r os')
    (hks : ∀ gh, (os' gh).map (·.1) = ks) (hcl : ∀ gh, (os' gh).all (fun x => x.2.named ks) = true) (hr : r.named ks = true) (hd : ((F.map (·.1)).all fun k => !inL (os.map (·.1)) k && !inL ks k) = true) (hj : JObs (pins ++ F.map (·.1)) F F') :
    PObj P f ps (os ++ F) (pins ++ F.map (·.1)) r (fun gh => os' gh ++ F') := by
  intro w g S vs hlen hreal hobs hdis
  have hd1 : ∀ k ∈ F.map (·.1), k ∉ os.map (·.1) ∧ k ∉ ks := fun k hk => by
    have h := List.all_eq_true.1 hd k hk
    rw [Bool.and_eq_true, Bool.not_eq_true', Bool.not_eq_true', inL_false, inL_false] at h
    exact h
  have lookR : ∀ {id o}, look F id = some o → look (os ++ F) id = some o := fun {id o} h => by
    rw [look_append, look_nkey (hd1 id (look_key h)).1, Option.none_or]; exact h
  have ownL : ∀ {b}, OwnB g os b → OwnB g (os ++ F) b := fun ⟨id, o, n, h1, h2⟩ => ⟨id, o, n, look_left h1, h2⟩
  have ownR : ∀ {b}, OwnB g F b → OwnB g (os ++ F) b := fun ⟨id, o, n, h1, h2⟩ => ⟨id, o, n, lookR h1, h2⟩
  have hnF : ∀ {id o b n}, look F id = some o → g id = some (b, n) → ¬ OwnB g os b := fun {id o b n} h1 h2 ⟨id2, o2, n2, h3, h4⟩ => by
    have := hobs.inj id id2 o o2 b n n2 (lookR h1) (look_left h3) h2 h4
    subst this
    exact (hd1 id (look_key h1)).1 (look_key h3)
  refine (hc w g S vs hlen hreal ⟨fun id o h => hobs.rd id o (look_left h), fun i j oi oj b n m hi hj => hobs.inj i j oi oj b n m (look_left hi) (look_left hj), fun id o b n h => hobs.lt id o b n (look_left h)⟩ (fun b hb h => hdis b hb (ownL h))).mono fun e w' ⟨u, g', gh, he, hpost⟩ => ?_
  have hks' := hks gh
  have hcl' := hcl gh
  let G' : Ghost := fun j => if inL (F.map (·.1)) j then g j else g' j
  refine ⟨u, G', gh, he, ?_⟩
  show ObPost w g S (os ++ F) (pins ++ F.map (·.1)) r (os' gh ++ F') w' G' u
  generalize os' gh = os1 at hpost hks' hcl' ⊢
  have gF : ∀ {j}, j ∈ F.map (·.1) → G' j = g j := fun {j} h => by simp only [G', inL_iff.2 h, if_true]
  have gN : ∀ {j}, j ∉ F.map (·.1) → G' j = g' j := fun {j} h => by simp only [G', inL_false.2 h, Bool.false_eq_true, if_false]
  have gK : ∀ {j}, j ∈ ks → G' j = g' j := fun {j} h => gN fun h2 => (hd1 j h2).2 h
  have gP : ∀ {j}, j ∈ pins ++ F.map (·.1) → G' j = g j := fun {j} h => by
    by_cases hf : j ∈ F.map (·.1)
    · exact gF hf
    · rw [gN hf]; exact hpost.pin j ((List.mem_append.1 h).resolve_right hf)
  have split : ∀ {id o}, look (os1 ++ F') id = some o → (look os1 id = some o ∧ id ∈ ks) ∨ ∃ o0, look F id = some o0 ∧ JOb (pins ++ F.map (·.1)) o0 o := fun {id o} h => by
    rw [look_append] at h
    cases hl : look os1 id with
    | none => rw [hl, Option.none_or] at h; exact .inr (hj.look id o h)
    | some q => rw [hl, Option.some_or] at h; cases h; exact .inl ⟨rfl, hks' ▸ look_key hl⟩
  have hA : ∀ b, After w g S os g' os1 b → After w g S (os ++ F) G' (os1 ++ F') b := fun b ⟨h1, h2⟩ => ⟨by
    rcases h1 with h1 | h1 | h1
    · exact .inl h1
    · exact .inr (.inl (ownL h1))
    · exact .inr (.inr h1), fun ⟨id, o, n, hl, hgi⟩ => by
    rcases split hl with ⟨h3, h4⟩ | ⟨o0, h3, h4⟩
    · rw [gK h4] at hgi; exact h2 ⟨id, o, n, h3, hgi⟩
    · rw [gF (look_key h3)] at hgi
      rcases h1 with h1 | h1 | h1
      · exact hdis b h1 ⟨id, o0, n, lookR h3, hgi⟩
      · exact hnF h3 hgi h1
      · have := hobs.lt id o0 b n (lookR h3) hgi; omega⟩
  have hS : ∀ b, S b → b < w.heap.size → After w g S (os ++ F) G' (os1 ++ F') b := fun b hb hlt => ⟨.inl hb, fun ⟨id, o, n, hl, hgi⟩ => by
    rcases split hl with ⟨h3, h4⟩ | ⟨o0, h3, h4⟩
    · rw [gK h4] at hgi
      rcases hpost.own b ⟨id, o, n, h3, hgi⟩ with h5 | h5
      · exact hdis b hb (ownL h5)
      · omega
    · rw [gF (look_key h3)] at hgi
      exact hdis b hb ⟨id, o0, n, lookR h3, hgi⟩⟩
  have hst : Stays w w' S := ⟨hpost.grows, fun b hb hlt => hpost.keep b hlt fun h => hdis b hb (ownL h)⟩
  have hst' : Stays w' w' (After w g S os g' os1) := ⟨Nat.le_refl _, fun _ _ _ => rfl⟩
  refine ⟨hpost.eos, hpost.tape, hpost.output, hpost.grows, fun k hk h => hpost.keep k hk fun h2 => h (ownL h2), fun b ⟨id, o, n, hl, hgi⟩ => ?_, fun id h => gP h, ?_, ⟨fun id o hl => ?_, fun i j oi oj b n m hi hj' hgi hgj => ?_, fun id o b n hl hgi => ?_⟩⟩
  · rcases split hl with ⟨h3, h4⟩ | ⟨o0, h3, h4⟩
    · rw [gK h4] at hgi
      exact (hpost.own b ⟨id, o, n, h3, hgi⟩).imp ownL (fun h => h)
    · rw [gF (look_key h3)] at hgi
      exact .inl (ownR ⟨id, o0, n, h3, hgi⟩)
  · exact hpost.res.keep hst' (fun b hb _ => hA b hb) fun j hjj => gK (PV.named_has hr hjj)
  · rcases split hl with ⟨h3, h4⟩ | ⟨o0, h3, h4⟩
    · have hn := (List.all_eq_true.1 hcl') _ (look_mem h3)
      exact (hpost.obs.rd id o h3).keep hst' (fun b hb _ => hA b hb) (fun _ _ _ => rfl) (gK h4) fun j hjj => gK (Ob.named_has hn hjj)
    · exact (h4.rd (hobs.rd id o0 (lookR h3))).keep hst hS (fun b n hgi => hpost.keep b (hobs.lt id o0 b n (lookR h3) hgi) (hnF h3 hgi)) (gF (look_key h3)) fun j hjj => gP (Ob.named_has h4.named hjj)
  · rcases split hi with ⟨h3, h4⟩ | ⟨o0, h3, h4⟩ <;> rcases split hj' with ⟨h5, h6⟩ | ⟨o2, h5, h6⟩
    · rw [gK h4] at hgi; rw [gK h6] at hgj; exact hpost.obs.inj i j oi oj b n m h3 h5 hgi hgj
    · rw [gK h4] at hgi; rw [gF (look_key h5)] at hgj
      exfalso
      rcases hpost.own b ⟨i, oi, n, h3, hgi⟩ with h7 | h7
      · exact hnF h5 hgj h7
      · have := hobs.lt j o2 b m (lookR h5) hgj; omega
    · rw [gF (look_key h3)] at hgi; rw [gK h6] at hgj
      exfalso
      rcases hpost.own b ⟨j, oj, m, h5, hgj⟩ with h7 | h7
      · exact hnF h3 hgi h7
      · have := hobs.lt i o0 b n (lookR h3) hgi; omega
    · rw [gF (look_key h3)] at hgi; rw [gF (look_key h5)] at hgj
      exact hobs.inj i j o0 o2 b n m (lookR h3) (lookR h5) hgi hgj
  · rcases split hl with ⟨h3, h4⟩ | ⟨o0, h3, h4⟩
    · rw [gK h4] at hgi; exact hpost.obs.lt id o b n h3 hgi
    · rw [gF (look_key h3)] at hgi
      exact Nat.lt_of_lt_of_le (hobs.lt id o0 b n (lookR h3) hgi) hpost.grows
section
variable {ctx : Ctx} {s : PState}
inductive RSl (s : PState) (ρ : List (Nat × Nat)) : List (Nat × PV) → Prop
  | nil : RSl s ρ []
  | cons {i : Nat} {p : PV} {r : List (Nat × PV)} (h : s.at i = some (p.ren ρ)) (t : RSl s ρ r) : RSl s ρ ((i, p) :: r)
theorem RSl.get {ρ : List (Nat × Nat)} {l : List (Nat × PV)} (h : RSl s ρ l) : ∀ i p, getS l i = some p → s.at i = some (p.ren ρ) := by
  induction h with
  | nil => intro i p h; simp [getS] at h
  | cons h _ ih =>
    intro i p hl
    rw [getS_cons] at hl
    split at hl
    · rename_i e; subst e; cases hl; exact h
    · exact ih i p hl
end
inductive LookIn (os' : List (Nat × Ob)) : List (Nat × Ob) → Prop
  | nil : LookIn os' []
  | cons {i : Nat} {o : Ob} {r : List (Nat × Ob)} (h : Go.Ep.look os' i = some o) (t : LookIn os' r) : LookIn os' ((i, o) :: r)
theorem LookIn.get {os' l : List (Nat × Ob)} (h : LookIn os' l) : ∀ i o, Go.Ep.look l i = some o → Go.Ep.look os' i = some o := by
  induction h with
  | nil => intro i o h; simp [Go.Ep.look] at h
  | cons h _ ih =>
    intro j o2 hl
    simp only [Go.Ep.look] at hl
    split at hl
    · rename_i e; subst e; cases hl; exact h
    · exact ih j o2 hl
theorem lookF {ρ : List (Nat × Nat)} {acc : List (Nat × Ob)} {i : Nat} {o : Ob} : ∀ {l : List (Nat × Ob)}, look l i = some o → (∀ j ∈ l.map (·.1), rn ρ j = rn ρ i → j = i) → look (l.foldr (fun x l => putO (rn ρ x.1) (x.2.ren ρ) l) acc) (rn ρ i) = some (o.ren ρ)
  | [], h, _ => by simp [look] at h
  | (k, q) :: r, h, hi => by
    rw [List.foldr_cons, look_putO]
    by_cases e : rn ρ i = rn ρ k
    · rw [if_pos e]
      have := hi k (by simp) e.symm
      subst this
      simp [look] at h
      rw [h]
    · rw [if_neg e]
      refine lookF (l := r) ?_ (fun j hj => hi j (by simp only [List.map_cons, List.mem_cons]; exact .inr hj))
      simp only [look] at h
      rw [if_neg (fun e2 => e (by rw [e2]))] at h
      exact h
theorem lookN {ρ : List (Nat × Nat)} {acc : List (Nat × Ob)} {j : Nat} : ∀ {l : List (Nat × Ob)}, (∀ i ∈ l.map (·.1), rn ρ i ≠ j) → look (l.foldr (fun x l => putO (rn ρ x.1) (x.2.ren ρ) l) acc) j = look acc j
  | [], _ => rfl
  | (k, q) :: r, h => by
    rw [List.foldr_cons, look_putO, if_neg (fun e => h k (by simp) e.symm)]
    exact lookN fun i hi => h i (by simp only [List.map_cons, List.mem_cons]; exact .inr hi)
theorem lookDN {ρ : List (Nat × Nat)} {acc : List (Nat × Ob)} {j : Nat} : ∀ {l : List (Nat × Ob)}, (∀ i ∈ l.map (·.1), rn ρ i ≠ j) → look (l.foldr (fun x l => delO (rn ρ x.1) l) acc) j = look acc j
  | [], _ => rfl
  | (k, q) :: r, h => by
    rw [List.foldr_cons, look_delO, if_neg (fun e => h k (by simp) e.symm)]
    exact lookDN fun i hi => h i (by simp only [List.map_cons, List.mem_cons]; exact .inr hi)
theorem key_look {l : List (Nat × Ob)} {i : Nat} (h : i ∈ l.map (·.1)) : ∃ o, look l i = some o := by
  cases hl : look l i with
  | some o => exact ⟨o, rfl⟩
  | none =>
    exfalso
    induction l with
    | nil => cases h
    | cons x r ih =>
      simp only [look] at hl
      split at hl
      · cases hl
      · rename_i e
        simp only [List.map_cons, List.mem_cons] at h
        exact ih (h.resolve_left e) hl
section
variable {P : Program} {ctx : Ctx} {Q : PState → Prop} {s : PState} {ops : Array Oper} {rest : List Oper} {fs : List Ft} {f : Ft}
variable {dst : Option Tmp} {ty : TypeId} {pos : String} {after : Array Edge} {gd : Option (Nat × Bool)}
theorem PQe.callObjS {x : Operand} {xs : List Operand} {ats : Array TypeId} {fn : FuncId} {ps qs : List PV} {os os' : List (Nat × Ob)} {pins : List Nat} {r : PV} (ρ : List (Nat × Nat)) (js ks : List Nat) (osV osS : List (Nat × Ob))
    (hc : PObj P fn ps os pins r (fun _ : Unit => os')) (hK : ∀ b, ctx.K b → ctx.S b)
    (hev : ∀ s' : PState, (∀ {y q}, readsX (⟨dst, .call ⟨.value x, xs.toArray, ats⟩, ty, pos, after, gd⟩ : Oper) y = true → s.ev y = some q → s'.ev y = some q) → s'.ev x = some (.d (.v (.func (.func fn) #[] #[]))) ∧ s'.evs xs = some qs)
    (he : ∀ args w, (callFunc fn args).run P w = .ok (.enter fn args) w) (hq : qs.map PV.nilD = ps.map (PV.ren ρ)) (hos : AllOb s ρ os) (hV : LookIn os' osV) (hS : LookIn os' osS) (hAS : AllOb s ρ osS) (hcov : (os'.map (·.1)).all (fun i => inL (osV.map (·.1)) i || inL (osS.map (·.1)) i) = true) (hSo : (osS.map (·.1)).all (inL (os.map (·.1))) = true)
    (hks : os'.map (·.1) = ks) (hcl : os'.all (fun x => x.2.named ks) = true) (hr : r.named ks = true) (hok : calO ρ js (os.map (·.1)) pins ks f = true)
    (hg : Wd ops (⟨dst, .call ⟨.value x, xs.toArray, ats⟩, ty, pos, after, gd⟩ : Oper) s) (hk : okE f (effO ρ js dst r osV) = true) (h : PQe P ctx ops Q rest fs (s.app (effO ρ js dst r osV))) :
    PQe P ctx ops Q (⟨dst, .call ⟨.value x, xs.toArray, ats⟩, ty, pos, after, gd⟩ :: rest) (f :: fs) s := by
  simp only [calO, Bool.and_eq_true] at hok
  obtain ⟨⟨⟨⟨⟨c1, c2⟩, c3⟩, c4⟩, c5⟩, c6⟩ := hok
  refine .step (e := effO ρ js dst r osV) (fun s' hn hee ho hfr hal => ?_) hg hk h
  obtain ⟨h1, h2⟩ := hev s' (fun hx hq => hee hx hq)
  have hinj : ∀ i j, i ∈ os.map (·.1) ++ ks → j ∈ os.map (·.1) ++ ks → rn ρ i = rn ρ j → i = j := fun i j hi hj e => by
    have h3 := List.all_eq_true.1 (List.all_eq_true.1 c1 i hi) j hj
    rw [Bool.or_eq_true, Bool.not_eq_true'] at h3
    rcases h3 with h | h
    · exact Nat.eq_of_beq_eq_true h
    · rw [e, Nat.beq_refl] at h; cases h
  have hok' : callOK s' ρ js (os.map (·.1)) pins ks = true := by
    unfold callOK
    rw [Bool.and_eq_true, Bool.and_eq_true]
    refine ⟨⟨c1, ?_⟩, ?_⟩
    · rw [List.all_eq_true] at c2 ⊢
      intro i hi
      have := c2 i hi
      rw [Bool.or_eq_true] at this ⊢
      exact this.imp (fun h => h) fun h => hfr _ (inL_iff.1 h)
    · rw [List.all_eq_true] at c5 ⊢
      intro i hi
      have := c5 i hi
      rw [Bool.or_eq_true, Bool.or_eq_true] at this
      rw [Bool.or_eq_true]
      rcases this with (h | h) | h
      · exact .inl h
      · refine .inr ?_
        have hf := hfr _ (inL_iff.1 h)
        rw [Bool.and_eq_true]
        refine ⟨chk_junks js hf, ?_⟩
        simp only [PState.fresh, Bool.and_eq_true, List.all_eq_true] at hf
        rw [List.all_eq_true]
        intro y hy
        rw [Bool.or_eq_true]
        exact .inl (hf.2 y hy).2
      · refine .inr ?_
        obtain ⟨a, ha1, ha2⟩ := List.any_eq_true.1 h
        simp only [Bool.and_eq_true, beq_iff_eq] at ha2
        have hx := hal a ha1
        rw [Nat.eq_of_beq_eq_true ha2.1, ha2.2] at hx
        unfold PState.aloneX at hx
        rw [Bool.and_eq_true, junks_objs] at hx
        rw [Bool.and_eq_true]
        refine ⟨hx.1, ?_⟩
        rw [List.all_eq_true] at c4
        have hx2 := hx.2
        rw [List.all_eq_true] at hx2 ⊢
        intro y hy
        have := hx2 y hy
        rw [Bool.or_eq_true] at this ⊢
        rcases this with h | h
        · exact .inr (c4 _ (inL_iff.1 h))
        · exact .inl h
  have hl := LR.callObj (P := P) (ctx := ctx) (dst := dst) (ty := ty) (pos := pos) (after := after) (gd := gd) (ats := ats) ρ js ks hc hK h1 he h2 hq (hos.keep (fun hi hl => ho (inL_iff.1 hi) hl) c6) hks hcl hr hok'
  have hAS' : AllOb s' ρ osS := hAS.keep (f := f) (fun hi hl => ho (inL_iff.1 hi) hl) (by
    rw [List.all_eq_true] at c6 hSo ⊢
    exact fun i hi => c6 i (inL_iff.1 (hSo i hi)))
  refine hl.post (Sub.drop ?_ ?_ ?_)
  · cases dst <;> rfl
  · intro i p hp
    have hat := at_get hp
    have hlt : i < s'.n := at_lt (s := s'.app (effO ρ js dst r osV)) hp
    refine at_of (by cases dst <;> exact hlt) ?_
    simp only [PState.app, effO] at hat
    cases dst with
    | none => simpa [dstL, PState.putD, PState.callO, junks_sl] using hat
    | some d => simpa [dstL, PState.putD, PState.put, PState.callO, junks_sl] using hat
  · intro id o hlo
    have e1 : (s'.app (effO ρ js dst r osV)).objs = osV.foldr (fun x l => putO (rn ρ x.1) (x.2.ren ρ) l) s'.objs := by
      simp only [PState.app, effO, List.foldr_map]
    have e2 : ((s'.callO ρ js os os').putD dst (r.ren ρ)).objs = os'.foldr (fun x l => putO (rn ρ x.1) (x.2.ren ρ) l) (os.foldr (fun x l => delO (rn ρ x.1) l) s'.objs) := by cases dst <;> rfl
    rw [e1] at hlo
    rw [e2]
    have inj' : ∀ i, i ∈ os'.map (·.1) → ∀ j ∈ os'.map (·.1), rn ρ j = rn ρ i → j = i := fun i hi j hj e => hinj j i (List.mem_append_right _ (hks ▸ hj)) (List.mem_append_right _ (hks ▸ hi)) e
    rcases lookR hlo with ⟨i, o1, h3, h4, h5⟩ | ⟨h3, h4⟩
    · have h6 := hV.get i o1 h3
      rw [h4, h5]
      exact lookF h6 (inj' i (look_key h6))
    · by_cases hex : ∃ i ∈ os'.map (·.1), rn ρ i = id
      · obtain ⟨i, hi, rfl⟩ := hex
        have h5 := List.all_eq_true.1 hcov i hi
        rw [Bool.or_eq_true] at h5
        rcases h5 with h5 | h5
        · exact absurd rfl (h3 i (inL_iff.1 h5))
        · obtain ⟨o2, h6⟩ := key_look (inL_iff.1 h5)
          have h7 := hAS'.get i o2 h6
          rw [h4] at h7
          cases h7
          exact lookF (hS.get i o2 h6) (inj' i hi)
      · rw [lookN fun i hi e => hex ⟨i, hi, e⟩, lookDN fun i hi e => hex ⟨i, by rw [hks]; exact inL_iff.1 (List.all_eq_true.1 c3 i hi), e⟩]
        exact h4
end
section
variable {P : Program} {ctx : Ctx} {s : PState}
variable {dst : Option Tmp} {ty : TypeId} {pos : String} {after : Array Edge} {gd : Option (Nat × Bool)}
theorem callO_sub {os os' : List (Nat × Ob)} {pins : List Nat} {r : PV} (ρ : List (Nat × Nat)) (js ks : List Nat) (osV osS : List (Nat × Ob)) (hV : LookIn os' osV) (hS : LookIn os' osS) (hAS : AllOb s ρ osS) (hcov : (os'.map (·.1)).all (fun i => inL (osV.map (·.1)) i || inL (osS.map (·.1)) i) = true) (c3 : (os.map (·.1)).all (inL ks) = true)
    (hks : os'.map (·.1) = ks) (hok : callOK s ρ js (os.map (·.1)) pins ks = true) : Sub ctx ((s.callO ρ js os os').putD dst (r.ren ρ)) (s.app (effO ρ js dst r osV)) := by
  have hinj : ∀ i j, i ∈ os.map (·.1) ++ ks → j ∈ os.map (·.1) ++ ks → rn ρ i = rn ρ j → i = j := fun i j hi hj e => by
    simp only [callOK, Bool.and_eq_true] at hok
    have h3 := List.all_eq_true.1 (List.all_eq_true.1 hok.1.1 i hi) j hj
    rw [Bool.or_eq_true, Bool.not_eq_true'] at h3
    rcases h3 with h | h
    · exact Nat.eq_of_beq_eq_true h
    · rw [e, Nat.beq_refl] at h; cases h
  refine Sub.drop ?_ ?_ ?_
  · cases dst <;> rfl
  · intro i p hp
    have hat := at_get hp
    have hlt : i < s.n := at_lt (s := s.app (effO ρ js dst r osV)) hp
    refine at_of (by cases dst <;> exact hlt) ?_
    simp only [PState.app, effO] at hat
    cases dst with
    | none => simpa [dstL, PState.putD, PState.callO, junks_sl] using hat
    | some d => simpa [dstL, PState.putD, PState.put, PState.callO, junks_sl] using hat
  · intro id o hlo
    have e1 : (s.app (effO ρ js dst r osV)).objs = osV.foldr (fun x l => putO (rn ρ x.1) (x.2.ren ρ) l) s.objs := by
      simp only [PState.app, effO, List.foldr_map]
    have e2 : ((s.callO ρ js os os').putD dst (r.ren ρ)).objs = os'.foldr (fun x l => putO (rn ρ x.1) (x.2.ren ρ) l) (os.foldr (fun x l => delO (rn ρ x.1) l) s.objs) := by cases dst <;> rfl
    rw [e1] at hlo
    rw [e2]
    have inj' : ∀ i, i ∈ os'.map (·.1) → ∀ j ∈ os'.map (·.1), rn ρ j = rn ρ i → j = i := fun i hi j hj e => hinj j i (List.mem_append_right _ (hks ▸ hj)) (List.mem_append_right _ (hks ▸ hi)) e
    rcases lookR hlo with ⟨i, o1, h3, h4, h5⟩ | ⟨h3, h4⟩
    · have h6 := hV.get i o1 h3
      rw [h4, h5]
      exact lookF h6 (inj' i (look_key h6))
    · by_cases hex : ∃ i ∈ os'.map (·.1), rn ρ i = id
      · obtain ⟨i, hi, rfl⟩ := hex
        have h5 := List.all_eq_true.1 hcov i hi
        rw [Bool.or_eq_true] at h5
        rcases h5 with h5 | h5
        · exact absurd rfl (h3 i (inL_iff.1 h5))
        · obtain ⟨o2, h6⟩ := key_look (inL_iff.1 h5)
          have h7 := hAS.get i o2 h6
          rw [h4] at h7
          cases h7
          exact lookF (hS.get i o2 h6) (inj' i hi)
      · rw [lookN fun i hi e => hex ⟨i, hi, e⟩, lookDN fun i hi e => hex ⟨i, by rw [hks]; exact inL_iff.1 (List.all_eq_true.1 c3 i hi), e⟩]
        exact h4
theorem LR.callObjS {x : Operand} {xs : List Operand} {ats : Array TypeId} {fn : FuncId} {ps qs : List PV} {os os' : List (Nat × Ob)} {pins : List Nat} {r : PV} (ρ : List (Nat × Nat)) (js ks : List Nat) (osV osS : List (Nat × Ob))
    (hc : PObj P fn ps os pins r (fun _ : Unit => os')) (hK : ∀ b, ctx.K b → ctx.S b) (hx : s.ev x = some (.d (.v (.func (.func fn) #[] #[])))) (he : ∀ args w, (callFunc fn args).run P w = .ok (.enter fn args) w) (hps : s.evs xs = some qs)
    (hq : qs.map PV.nilD = ps.map (PV.ren ρ)) (hos : AllOb s ρ os) (hV : LookIn os' osV) (hS : LookIn os' osS) (hAS : AllOb s ρ osS) (hcov : (os'.map (·.1)).all (fun i => inL (osV.map (·.1)) i || inL (osS.map (·.1)) i) = true) (c3 : (os.map (·.1)).all (inL ks) = true)
    (hks : os'.map (·.1) = ks) (hcl : os'.all (fun x => x.2.named ks) = true) (hr : r.named ks = true) (hok : callOK s ρ js (os.map (·.1)) pins ks = true) :
    Local P ctx ⟨dst, .call ⟨.value x, xs.toArray, ats⟩, ty, pos, after, gd⟩ s (s.app (effO ρ js dst r osV)) :=
  (LR.callObj (P := P) (ctx := ctx) (dst := dst) (ty := ty) (pos := pos) (after := after) (gd := gd) (ats := ats) ρ js ks hc hK hx he hps hq hos hks hcl hr hok).post (callO_sub ρ js ks osV osS hV hS hAS hcov c3 hks hok)
theorem PWl.callObjS {G : Type} {Q : PQ} {ops : Array Oper} {rest : List Oper} {x : Operand} {xs : List Operand} {ats : Array TypeId} {fn : FuncId} {ps qs : List PV} {os : List (Nat × Ob)} {os' : G → List (Nat × Ob)} {pins : List Nat} {r : PV} (ρ : List (Nat × Nat)) (js ks : List Nat) (osV : G → List (Nat × Ob)) (osS : List (Nat × Ob))
    (hc : PObj P fn ps os pins r os') (hK : ∀ b, ctx.K b → ctx.S b) (hx : s.ev x = some (.d (.v (.func (.func fn) #[] #[])))) (he : ∀ args w, (callFunc fn args).run P w = .ok (.enter fn args) w) (hps : s.evs xs = some qs)
    (hq : qs.map PV.nilD = ps.map (PV.ren ρ)) (hos : AllOb s ρ os) (hV : ∀ gh, LookIn (os' gh) (osV gh)) (hS : ∀ gh, LookIn (os' gh) osS) (hAS : AllOb s ρ osS) (hcov : ∀ gh, ((os' gh).map (·.1)).all (fun i => inL ((osV gh).map (·.1)) i || inL (osS.map (·.1)) i) = true) (c3 : (os.map (·.1)).all (inL ks) = true)
    (hks : ∀ gh, (os' gh).map (·.1) = ks) (hcl : ∀ gh, (os' gh).all (fun x => x.2.named ks) = true) (hr : r.named ks = true) (hok : callOK s ρ js (os.map (·.1)) pins ks = true) (hgd : gd = none)
    (h : ∀ gh, PWl P ctx ops Q rest (s.app (effO ρ js dst r (osV gh)))) : PWl P ctx ops Q (⟨dst, .call ⟨.value x, xs.toArray, ats⟩, ty, pos, after, gd⟩ :: rest) s :=
  PWl.callObj ρ js ks hc hK hx he hps hq hos hks hcl hr hok hgd fun gh => PWl.sub (callO_sub ρ js ks (osV gh) osS (hV gh) (hS gh) hAS (hcov gh) c3 (hks gh) hok) (h gh)
end
end Go.Ep

namespace Go.Ep
open Go.RowKit
section
variable {P : Program} {ctx : Ctx} {Q : PQ} {s : PState}
variable {dst : Option Tmp} {ty : TypeId} {pos : String} {after : Array Edge} {gd : Option (Nat × Bool)}
theorem EpRd.of {w : World} {g : Ghost} {S : Nat → Prop} {ds : List DV} {u : Value} (h : Rd w g S (.ep ds 0) u) : EpRd w S ds u := by
  cases h with
  | ep _ b off _ c hS hb hc hr => exact ⟨b, off, c, rfl, hS, hb, hc, hr⟩
theorem EpRd.rd {w : World} {g : Ghost} {S : Nat → Prop} {ds : List DV} {u : Value} (h : EpRd w S ds u) : Rd w g S (.ep ds 0) u := by
  obtain ⟨b, off, c, rfl, hS, hb, hc, hr⟩ := h
  exact .ep ds b off 0 c hS hb hc hr
end
section
variable {ctx : Ctx} {s : PState}
inductive AllRef (s : PState) (id : Nat) : List Nat → Prop
  | nil : AllRef s id []
  | cons {j : Nat} {js : List Nat} (h : s.at j = some (.ref id 0)) (r : AllRef s id js) : AllRef s id (j :: js)
theorem AllRef.get {id : Nat} {js : List Nat} (h : AllRef s id js) : ∀ j ∈ js, s.at j = some (.ref id 0) := by
  induction h with
  | nil => intro j hj; cases hj
  | cons h _ ih =>
    intro j hj
    rcases List.mem_cons.1 hj with rfl | hj
    · exact h
    · exact ih j hj
end
inductive LendL (s : PState) : List PV → List PV → Prop
  | nil : LendL s [] []
  | data {q p : PV} {qs ps : List PV} (h : q.nilD = p) (hd : p.isData = true) (t : LendL s qs ps) : LendL s (q :: qs) (p :: ps)
  | row {id n k : Nat} {e : TypeId} {l : List (List DV)} {qs ps : List PV} (hl : look s.objs id = some (.row e k l)) (hn : l.length = n) (t : LendL s qs ps) : LendL s (.row id n :: qs) (.d (.sl l) :: ps)
section
variable {P : Program} {ctx : Ctx} {Q : PQ} {s : PState}
variable {dst : Option Tmp} {ty : TypeId} {pos : String} {after : Array Edge} {gd : Option (Nat × Bool)}
def LentS (ctx : Ctx) (g : Ghost) (s : PState) (b : Nat) : Prop := Free ctx g s.objs b ∨ ∃ id o n, look s.objs id = some o ∧ g id = some (b, n)
theorem LendL.rd {g : Ghost} {a : Act} {w : World} (hg : RelG ctx g s a w) {qs ps : List PV} (h : LendL s qs ps) : ∀ (vs : List Value), qs.length = vs.length → (∀ (i : Nat) (q : PV) (v : Value), qs[i]? = some q → vs[i]? = some v → Rd w g (Free ctx g s.objs) q v) →
    ps.length = vs.length ∧ ∀ (i : Nat) (p : PV) (v : Value), ps[i]? = some p → vs[i]? = some v → Rd w g0 (LentS ctx g s) p v := by
  have hst : Stays w w (Free ctx g s.objs) := ⟨Nat.le_refl _, fun _ _ _ => rfl⟩
  induction h with
  | nil => intro vs hl _; exact ⟨hl, fun i p v hp => by simp at hp⟩
  | @data q p qs ps h hd _ ih =>
    intro vs hl hr
    cases vs with
    | nil => simp at hl
    | cons v vs =>
      obtain ⟨h1, h2⟩ := ih vs (by simpa using hl) (fun i q u hq hu => hr (i + 1) q u (by simpa using hq) (by simpa using hu))
      refine ⟨by simp [h1], fun i p' u hp hu => ?_⟩
      cases i with
      | zero =>
        simp at hp hu; subst hp; subst hu; subst h
        exact (((hr 0 q v rfl rfl).nilD).data hd g0).keep hst (fun b hb _ => .inl hb) (fun _ _ => rfl)
      | succ i => exact h2 i p' u (by simpa using hp) (by simpa using hu)
  | @row id n k e l qs ps hlk hn _ ih =>
    intro vs hl hr
    cases vs with
    | nil => simp at hl
    | cons v vs =>
      obtain ⟨h1, h2⟩ := ih vs (by simpa using hl) (fun i q u hq hu => hr (i + 1) q u (by simpa using hq) (by simpa using hu))
      refine ⟨by simp [h1], fun i p' u hp hu => ?_⟩
      cases i with
      | succ i => exact h2 i p' u (by simpa using hp) (by simpa using hu)
      | zero =>
        simp at hp hu; subst hp; subst hu
        have hq := hr 0 (.row id n) v rfl rfl
        have hob := hg.objs id _ hlk
        cases hob with
        | rowNil _ _ hgn =>
          cases hq with
          | row _ _ blk cap hgi => rw [hgn] at hgi; cases hgi
          | rowNil => exact .d (.nil none 0 (Nat.zero_le _) (fun _ => rfl))
        | row _ _ _ blk' cap' cur hgi hh hlc hcap hcs hkk hr' =>
          cases hq with
          | rowNil _ hgn => rw [hgn] at hgi; cases hgi
          | row _ _ blk cap hgi' =>
            rw [hgi] at hgi'
            cases hgi'
            subst hn
            have hown := hg.own id _ blk' cap' hlk hgi
            refine .d (.sl l blk' 0 cap' k (fun i j => cur.getD (i * k + j) undef) hlc hcap (.inr ⟨id, _, cap', hlk, hgi⟩) hown.1 hkk ?_ ?_)
            · intro i j hi hj
              have hlt : i * k + j < cur.length := by rw [hcs]; exact idx_lt (by omega) hj
              rw [cell_of_heap hh]
              simp [hlt]
            · intro i cs j x hi hx
              obtain ⟨u, hu, hd⟩ := hr' i cs j x hi hx
              have e : cur.getD (i * k + j) undef = u := by simp [List.getD, hu]
              show DRd w _ x (cur.getD (i * k + j) undef)
              rw [e]
              exact hd.keep hst (fun b hb _ => .inl hb)
end
end Go.Ep

namespace Go.Ep
open Go Go.RowKit
def aIx (o : Nat) (i : Int) : Nat := o + i.toNat
namespace AR
def pl (k : IntKind) (A : A16) : List PV := (l A).map fun n => .d (.v (.int k n))
theorem pl_get {k : IntKind} {A : A16} {i : Nat} (h : i < 16) : (pl k A)[i]? = some (.d (.v (.int k (get A i)))) := by
  unfold pl; rw [List.getElem?_map, get_lt h]; rfl
theorem at_ {cs : List PV} {o i : Nat} {k : IntKind} {A : A16} (h : (cs.drop o).take 16 = pl k A) (hi : i < 16) : cs[o + i]? = some (.d (.v (.int k (get A i)))) := by
  rw [← pl_get hi, ← h, List.getElem?_take, if_pos hi, List.getElem?_drop]
theorem room {cs : List PV} {o : Nat} {k : IntKind} {A : A16} (h : (cs.drop o).take 16 = pl k A) : o + 16 ≤ cs.length := by
  have e := congrArg List.length h
  rw [List.length_take, List.length_drop] at e
  have : (pl k A).length = 16 := rfl
  omega
theorem parts {cs : List PV} {o : Nat} {k : IntKind} {A : A16} (h : (cs.drop o).take 16 = pl k A) : cs = cs.take o ++ (pl k A ++ cs.drop (o + 16)) := by
  have e : cs.drop o = pl k A ++ cs.drop (o + 16) := by
    rw [← h, ← List.drop_drop, List.take_append_drop]
  rw [← e, List.take_append_drop]
theorem put {cs : List PV} {o i : Nat} {k : IntKind} {A : A16} {v : Int} (h : (cs.drop o).take 16 = pl k A) (hi : i < 16) :
    cs.take (o + i) ++ [.d (.v (.int k v))] ++ cs.drop (o + i + 1) = cs.take o ++ pl k (set A i v) ++ cs.drop (o + 16) := by
  have hr := room h
  have e1 : cs.take (o + i) ++ [.d (.v (.int k v))] ++ cs.drop (o + i + 1) = cs.set (o + i) (.d (.v (.int k v))) := by
    rw [List.set_eq_take_append_cons_drop, if_pos (by omega), List.append_assoc]; rfl
  have hl : (cs.take o).length = o := by rw [List.length_take]; omega
  have hp : (pl k A).length = 16 := rfl
  have e2 : cs.set (o + i) (.d (.v (.int k v))) = cs.take o ++ ((pl k A).set i (.d (.v (.int k v))) ++ cs.drop (o + 16)) := by
    conv => lhs; rw [parts h]
    rw [List.set_append_right _ _ (by omega), hl, show o + i - o = i by omega, List.set_append_left _ _ (by omega)]
  rw [e1, e2, ← List.append_assoc]
  congr 2
  unfold pl
  rw [l_set, List.map_set]
end AR
section
variable {P : Program} {ctx : Ctx} {Q : PQ} {s : PState}
variable {dst : Option Tmp} {ty : TypeId} {pos : String} {after : Array Edge} {gd : Option (Nat × Bool)}
theorem run_indexArr {t e : TypeId} {n k : Nat} (hu : P.underlying t = some (.array n e)) (h2 : 1 < n) (hs : ∀ w, (sizeOf e).run P w = .ok k w) (b off : Nat) (ki : IntKind) (i : Int) (hi : 0 ≤ i ∧ i < (n : Int)) (w : World) :
    (Instr.indexAt t (.pointer (some ⟨b, off, none⟩)) (.int ki i)).run P w = .ok (.pointer (some ⟨b, off + i.toNat * k, none⟩)) w := by
  simp [Instr.indexAt, asIntOf, run_underlying hu, hi.1, hi.2, hs, Addr.add_lit, Result.andThen, Instr.sureAddr]
theorem LR.idxArr {x ix : Operand} {id o n : Nat} {ki : IntKind} {i : Int} {t e : TypeId} (hu : P.underlying t = some (.array n e)) (h2 : Nat.blt 1 n = true) (hs : ∀ w, (sizeOf e).run P w = .ok 1 w)
    (hx : s.ev x = some (.ref id o)) (hix : s.ev ix = some (.d (.v (.int ki i)))) (hi : 0 ≤ i ∧ i < (n : Int)) :
    Local P ctx ⟨dst, .indexAddr t x ix, ty, pos, after, gd⟩ s (s.putD dst (.ref id (aIx o i))) :=
  local_pure (o := ⟨dst, .indexAddr t x ix, ty, pos, after, gd⟩) fun a w g hg => by
    have h := hg.ev hx
    generalize hv : a.eval x = v at h
    cases h with
    | ref _ _ blk m hgi =>
      refine ⟨.pointer (some ⟨blk, aIx o i, none⟩), ?_, .ref id _ blk m hgi⟩
      have := run_indexArr (P := P) hu (by simpa [Nat.blt_eq] using h2) hs blk o ki i hi w
      rw [Nat.mul_one] at this
      simp [execOp, hv, ev_int hg hix, this, Result.andThen, aIx]
theorem LR.idxArrRow {x ix : Operand} {id n : Nat} {ki : IntKind} {i : Int} {t e : TypeId} (hu : P.underlying t = some (.array n e)) (h2 : Nat.blt 1 n = true) (hs : ∀ w, (sizeOf e).run P w = .ok 1 w)
    (hx : s.ev x = some (.rp id 0 0 1)) (hix : s.ev ix = some (.d (.v (.int ki i)))) (hi : 0 ≤ i ∧ i < (n : Int)) :
    Local P ctx ⟨dst, .indexAddr t x ix, ty, pos, after, gd⟩ s (s.putD dst (.rp id i.toNat 0 1)) :=
  local_pure (o := ⟨dst, .indexAddr t x ix, ty, pos, after, gd⟩) fun a w g hg => by
    have h := hg.ev hx
    generalize hv : a.eval x = v at h
    cases h with
    | rp _ _ _ _ blk cap hgi =>
      refine ⟨.pointer (some ⟨blk, i.toNat * 1 + 0, none⟩), ?_, .rp id _ 0 1 blk cap hgi⟩
      have := run_indexArr (P := P) hu (by simpa [Nat.blt_eq] using h2) hs blk (0 * 1 + 0) ki i hi w
      simp [execOp, hv, ev_int hg hix, Result.andThen] at this ⊢
      simp [this]
theorem LR.loadArr {x : Operand} {id o : Nat} {i : Int} {T T0 : TypeId} {cs : List PV} (k : IntKind) (A : A16) (ha : ∀ w, (isAgg T).run P w = .ok false w) (hx : s.ev x = some (.ref id (aIx o i))) (hl : look s.objs id = some (.cells T0 cs))
    (hi : 0 ≤ i ∧ i < ((16 : Nat) : Int)) (hA : (cs.drop o).take 16 = AR.pl k A) :
    Local P ctx ⟨dst, .load T x, ty, pos, after, gd⟩ s (s.putD dst (.d (.v (.int k (AR.get A i.toNat))))) := LR.loadRef ha hx hl (AR.at_ hA (AR.lt hi))
theorem LR.storeArr {x y : Operand} {id o : Nat} {i v : Int} {T T0 : TypeId} {cs ns : List PV} (k : IntKind) (A : A16) (hs : ∀ w, (sizeOf T).run P w = .ok 1 w) (hx : s.ev x = some (.ref id (aIx o i))) (hy : s.ev y = some (.d (.v (.int k v)))) (hl : look s.objs id = some (.cells T0 cs))
    (hi : 0 ≤ i ∧ i < ((16 : Nat) : Int)) (hA : (cs.drop o).take 16 = AR.pl k A) (hns : cs.take o ++ AR.pl k (AR.set A i.toNat v) ++ cs.drop (o + 16) = ns) :
    Local P ctx ⟨none, .store T x y, ty, pos, after, gd⟩ s (s.setO id (.cells T0 ns)) := by
  have h16 := AR.lt hi
  have hr := AR.room hA
  exact LR.store (ps := [.d (.v (.int k v))]) hs hx hy rfl rfl hl (by unfold aIx; omega) (by rw [← hns, ← AR.put hA h16]; rfl)
/-- A big array: a variable taken as a row. -/
theorem LR.allocRow {id n : Nat} {T : TypeId} {z zc : Value} (hz : ∀ w, (zeroValue T).run P w = .ok z w) (hzs : z.cells = (List.replicate n zc).toArray) (h1 : zc.oneCell' = true) (hzd : zdv zc = .v zc) (hn : n ≤ maxLen) (hf : s.fresh id = true) :
    Local P ctx ⟨some id, .alloc T, ty, pos, after, gd⟩ s (s.newO id (.row T 1 (List.replicate n [.v zc])) (.rp id 0 0 1)) := by
  refine local_value (o := ⟨some id, .alloc T, ty, pos, after, gd⟩) fun a w g hg => ?_
  refine ⟨.pointer (some ⟨w.heap.size, 0, none⟩), w.alloc (.cells (List.replicate n zc).toArray T), ?_, upd g id (some (w.heap.size, n)), ?_⟩
  · simp [execOp, Instr.alloc, hz, newVar, newRow, hzs, Result.andThen]
  · have hb := Below.alloc1 w (.cells (List.replicate n zc).toArray T)
    have hnew := hg.new hb hf (some (w.heap.size, n)) (fun b n e => by cases e; simp) (.row T 1 (List.replicate n [.v zc]))
      (.row T 1 _ w.heap.size n (List.replicate n zc) (upd_same _ _ _) (heap_alloc_new w _) (by simp) hn (by simp) (fun i cs hi => by
        rw [List.getElem?_replicate] at hi
        split at hi
        · simp only [Option.some.injEq] at hi; subst hi; rfl
        · cases hi) (fun i cs j x hi hx => by
        rw [List.getElem?_replicate] at hi
        split at hi
        · rename_i hin
          simp only [Option.some.injEq] at hi; subst hi
          cases j with
          | zero => simp at hx; subst hx; exact ⟨zc, by simp [hin], .v _ h1⟩
          | succ j => simp at hx
        · cases hi))
    exact hnew.put (some id) (.rp id 0 0 1 w.heap.size n (upd_same _ _ _))
theorem LR.allocRowT {α : Type} {enc : α → List DV} {y : α} {id n : Nat} {T : TypeId} {z zc : Value} (hz : ∀ w, (zeroValue T).run P w = .ok z w) (hzs : z.cells = (List.replicate n zc).toArray) (h1 : zc.oneCell' = true) (hzd : zdv zc = .v zc) (hn : n ≤ maxLen) (hy : enc y = [.v zc]) (hf : s.fresh id = true) :
    Local P ctx ⟨some id, .alloc T, ty, pos, after, gd⟩ s (s.newO id (.row T 1 (List.map enc (List.replicate n y))) (.rp id 0 0 1)) := by
  rw [List.map_replicate, hy]
  exact LR.allocRow hz hzs h1 hzd hn hf
end
section
variable {P : Program} {ctx : Ctx} {Q : PQ} {s : PState}
variable {dst : Option Tmp} {ty : TypeId} {pos : String} {after : Array Edge} {gd : Option (Nat × Bool)}
variable {κ ν : Type} [DecidableEq κ] {eK : κ → List Int} {eV : ν → List DV} {m : List (κ × ν)} {q : κ} (inj : ∀ a b, eK a = eK b → a = b)
variable {x kx : Operand} {t kt et : TypeId} {ks : List IntKind} {ag : Bool} {kp : PV} {id : Nat} {nl : Bool}
include inj in
theorem LR.setH {vx : Operand} {v : ν} {pv : PV} (hu : P.underlying t = some (.map kt et)) (K : KeyOK P kt ks) (hx : s.ev x = some (.mp id)) (hl : look s.objs id = some (.mapH nl ks ag (encM eK eV m)))
    (hk : s.ev kx = some kp) (hkp : kp = keyP ks (eK q)) (hn : (eK q).length = ks.length) (hv : s.ev vx = some pv) (hq : elP ag (eV v) = pv) (h1 : ag = false → (eV v).length = 1) (hnl : nl = false) :
    Local P ctx ⟨none, .mapUpdate t x kx vx, ty, pos, after, gd⟩ s (s.setO id (.mapH nl ks ag (encM eK eV (AL.set m q v)))) := by
  subst hnl
  refine Local.openH hl fun bs ck => Local.pre (Sub.trans (Sub.mapF (id := id) (by show look (putO id _ _) id = _; rw [look_putO, if_pos rfl]) rfl) (Sub.same (t := { s with objs := putO id (.map ks ag (encM eK eV m) bs ck) s.objs }) rfl rfl fun i => by
    show look (putO id _ (putO id _ _)) i = look (putO id _ _) i
    rw [look_put2])) ((LR.setM (m := m) (bs := bs) (ck := ck) (id := id) inj hu K (by rw [ev_objs]; exact hx) (by show look (putO id _ _) id = _; rw [look_putO, if_pos rfl]) (by rw [ev_objs]; exact hk) hkp hn (by rw [ev_objs]; exact hv) hq h1).post
    (Sub.trans (Sub.toH (id := id) (by show look (putO id _ _) id = _; rw [look_putO, if_pos rfl])) (Sub.same rfl rfl fun i => by
      show look (putO id _ (putO id _ (putO id _ _))) i = look (putO id _ _) i
      rw [look_put2, look_putO, look_putO, look_putO]
      by_cases h : i = id <;> simp [h])))
end
def isF : Value → Bool | .bool false => true | _ => false
def repF (l : List Value) (n : Nat) : Bool := l.foldr (fun a k n => match n with | 0 => false | n + 1 => bif isF a then k n else false) (fun n => match n with | 0 => true | _ => false) n
theorem repF_eq : ∀ {l : List Value} {n : Nat}, repF l n = true → l = List.replicate n (.bool false)
  | [], 0, _ => rfl
  | [], n + 1, h => by cases h
  | a :: r, 0, h => by cases h
  | a :: r, n + 1, h => by
    have h2 : (bif isF a then repF r n else false) = true := h
    cases ha : isF a with
    | false => rw [ha] at h2; cases h2
    | true =>
      rw [ha] at h2
      rw [List.replicate_succ, ← repF_eq h2]
      congr 1
      unfold isF at ha
      split at ha
      · rfl
      · cases ha
def zfit (z : Option Value) (n : Nat) : Bool := match z with | some (.agg a) => repF a.toList n | _ => false
theorem zfit_eq {z : Option Value} {n : Nat} (h : zfit z n = true) : z = some (.agg (List.replicate n (.bool false)).toArray) := by
  unfold zfit at h
  split at h
  · rename_i a
    rw [← repF_eq h]
  · cases h
theorem run_zeroF {P : Program} {t n : Nat} {i : TypeInfo} (hi : ∀ w, (typeInfo t).run P w = .ok i w) (h : zfit i.zero n = true) : ∀ w, (zeroValue t).run P w = .ok (.agg (List.replicate n (.bool false)).toArray) w := by
  intro w
  have hz := zfit_eq h
  simp [zeroValue, hi, hz, Result.andThen]
end Go.Ep

namespace Go.Ep
def L26Act.e (x : L26Act) : List DV := [.v (.int .u8 x.kind), .v (.int .u8 x.slot), .v (.int .u64 x.try_), .v (.int .u16 x.dev), .v (.int .u64 x.epoch)]
def L26Act.v (x : L26Act) : List Value := [(.int .u8 x.kind), (.int .u8 x.slot), (.int .u64 x.try_), (.int .u16 x.dev), (.int .u64 x.epoch)]
theorem L26Act.v1 (x : L26Act) : ∀ u ∈ x.v, u.oneCell' = true := by
  intro u hu
  simp only [L26Act.v, List.mem_cons, List.not_mem_nil, or_false] at hu
  rcases hu with rfl | rfl | rfl | rfl | rfl <;> rfl
def L26Act.k (x : L26Act) : List Int := [x.kind, x.slot, x.try_, x.dev, x.epoch]
def TMember.e (x : TMember) : List DV := [.v (.int .u16 x.dev), .v (.int .u8 x.slot), .v (.int .u64 x.try_)]
def TMember.v (x : TMember) : List Value := [(.int .u16 x.dev), (.int .u8 x.slot), (.int .u64 x.try_)]
theorem TMember.v1 (x : TMember) : ∀ u ∈ x.v, u.oneCell' = true := by
  intro u hu
  simp only [TMember.v, List.mem_cons, List.not_mem_nil, or_false] at hu
  rcases hu with rfl | rfl | rfl <;> rfl
def TMember.k (x : TMember) : List Int := [x.dev, x.slot, x.try_]
def R26Roster.e (x : R26Roster) : List DV := [.v (.int .u64 x.epoch), .v (.int .u16 x.last), .sl (List.map TMember.e x.l), .v (.int .u64 x.tries.1), .v (.int .u64 x.tries.2.1), .v (.int .u64 x.tries.2.2.1), .v (.int .u64 x.tries.2.2.2.1), .v (.int .u64 x.tries.2.2.2.2.1), .v (.int .u64 x.tries.2.2.2.2.2.1), .v (.int .u64 x.tries.2.2.2.2.2.2.1), .v (.int .u64 x.tries.2.2.2.2.2.2.2.1), .v (.int .u64 x.tries.2.2.2.2.2.2.2.2.1), .v (.int .u64 x.tries.2.2.2.2.2.2.2.2.2.1), .v (.int .u64 x.tries.2.2.2.2.2.2.2.2.2.2.1), .v (.int .u64 x.tries.2.2.2.2.2.2.2.2.2.2.2.1), .v (.int .u64 x.tries.2.2.2.2.2.2.2.2.2.2.2.2.1), .v (.int .u64 x.tries.2.2.2.2.2.2.2.2.2.2.2.2.2.1), .v (.int .u64 x.tries.2.2.2.2.2.2.2.2.2.2.2.2.2.2.1), .v (.int .u64 x.tries.2.2.2.2.2.2.2.2.2.2.2.2.2.2.2)]
end Go.Ep

namespace Go.Proofs
open Go.Ep
set_option linter.unusedSimpArgs false

theorem elem32 : ElemOK Try.prog 32 35 3 16 := ElemOK.mk' (z := .agg #[.int .u16 0, .int .u8 0, .int .u64 0]) Try.underlying32 (by kernel_rfl) rfl
theorem build35 : BuildOK Try.prog 35 [(0, 1), (1, 1), (2, 1)] [.int .u16 0, .int .u8 0, .int .u64 0] := fun parts => by kernel_rfl
theorem build55 : BuildOK Try.prog 55 [(0, 1), (1, 1), (2, 1), (3, 16)] [.int .u64 0, .int .u16 0, .map none, .int .u64 0, .int .u64 0, .int .u64 0, .int .u64 0, .int .u64 0, .int .u64 0, .int .u64 0, .int .u64 0, .int .u64 0, .int .u64 0, .int .u64 0, .int .u64 0, .int .u64 0, .int .u64 0, .int .u64 0, .int .u64 0] := fun parts => by kernel_rfl
theorem eq35 {a0 b0 : Int} {a1 b1 : Int} {a2 b2 : Int} : AggEq Try.prog 35 [.int .u16 a0, .int .u8 a1, .int .u64 a2] [.int .u16 b0, .int .u8 b1, .int .u64 b2] ((decide (a0 = b0) && (decide (a1 = b1) && decide (a2 = b2)))) := by
  refine ⟨by kernel_rfl, fun w => ?_⟩
  have hu : Try.prog.underlying 35 = some (.struct (Try.prog.fieldsOf 35)) := by simp only [Program.fieldsOf, Try.underlying35]
  rw [run_equalIn_agg w 9999 35 _ _ hu (by kernel_rfl)]
  simp [Program.fieldsOf, Try.underlying35, Op.eqFields, part, Try.isAgg5, Try.isAgg27, Try.isAgg28, run_equalIn_int _ 9998 5 _ _ _ _ Try.underlying5, run_equalIn_int _ 9998 27 _ _ _ _ Try.underlying27, run_equalIn_int _ 9998 28 _ _ _ _ Try.underlying28, Result.andThen, beq_bytes]
  all_goals (repeat' split) <;> simp_all
theorem key53 : KeyOK Try.prog 27 [.u16] := KeyOK.int Try.underlying27
theorem zero26 : ∀ w, (zeroValue 26).run Try.prog w = .ok (.agg (List.replicate 65536 (.bool false)).toArray) w := run_zeroF Try.typeInfo26 (by kernel_rfl)
end Go.Proofs

namespace Go.Ep
def ltMember (x y : TMember) : Bool := decide (x.dev < y.dev)
end Go.Ep

namespace Go.Ep
open Go

/-- epitaph/roster.New -/
def roster_New_o  : M (Int × Int × A16 × Bool × (List (Int × TMember))) :=
  M.pure ((1, 0, (0, 0, 0, 0, 0, 0, 0, 0, 0, 0, 0, 0, 0, 0, 0, 0), false, ([] : List (Int × TMember))))

/-- (*epitaph/roster.Roster).none -/
def roster_Roster_none_o (epoch_1 : Int) (last_2 : Int) (c3 : A16) (nl4 : Bool) (m5 : List (Int × TMember)) : M Bool :=
  M.pure (decide (epoch_1 = 0))

def roster_Roster_Members_o_l0 (m5 : List (Int × TMember)) : List Nat × List TMember → M (M.Step (List Nat × List TMember) (List TMember)) := fun ⟨seen29, out30⟩ =>
  M.need (∀ i ∈ seen29, i < List.length m5) <| M.bind (M.nxt (List.length m5) seen29) fun o => match o with
  | none =>
    M.pure (.done out30)
  | some j31 =>
    M.bind (M.idx m5 (Int.ofNat j31)) fun kv35 =>
    M.need ((List.length out30 + List.length ([kv35.2])) * 16 ≤ 140737488355328) <|
    M.pure (.next ((seen29 ++ [j31]), (out30 ++ [kv35.2])))
/-- (*epitaph/roster.Roster).Members -/
def roster_Roster_Members_o (epoch_1 : Int) (last_2 : Int) (c3 : A16) (nl4 : Bool) (m5 : List (Int × TMember)) : M (List TMember) :=
  M.bind (M.det (roster_Roster_none_o epoch_1 last_2 c3 nl4 m5)) fun y6 =>
  cond y6
    (M.pure ([] : List TMember))
    (M.bind (M.loop (roster_Roster_Members_o_l0 m5) ([], ([] : List TMember))) (fun out10 =>
    M.need (List.length out10 < 4611686018427387904) <| M.bind (M.srt ltMember out10) fun s39 =>
    M.pure s39))

def roster_Roster_Of_o_l0 (y7 : List TMember) (slot1 : Int) : Int → M (M.Step Int (M.Ex Unit (TMember × Bool))) := fun v18 =>
  cond ((decide (v18 < (List.length y7 : Int))))
    (M.bind (M.idx y7 v18) fun x20 =>
    cond (decide (x20.slot = slot1))
      (M.pure (.done (.ret (x20, true))))
      (M.pure (.next (IntKind.i64.wrap (v18 + 1)))))
    (M.pure (.done (.brk ())))
/-- (*epitaph/roster.Roster).Of -/
def roster_Roster_Of_o (slot1 : Int) (epoch_2 : Int) (last_3 : Int) (c4 : A16) (nl5 : Bool) (m6 : List (Int × TMember)) : M (TMember × Bool) :=
  M.bind (M.det (roster_Roster_Members_o epoch_2 last_3 c4 nl5 m6)) fun y7 =>
  M.bind (M.loop (roster_Roster_Of_o_l0 y7 slot1) 0) (M.exk (fun _ =>
  M.pure ((⟨0, 0, 0⟩ : TMember), false)))

/-- (*epitaph/roster.Roster).Join -/
def roster_Roster_Join_o (slot1 : Int) (try2 : Int) (epoch_3 : Int) (last_4 : Int) (c5 : A16) (nl6 : Bool) (m7 : List (Int × TMember)) : M (TMember × Int × Int × Int × Int × A16 × Bool × (List (Int × TMember))) :=
  M.bind (M.bind (M.det (roster_Roster_none_o epoch_3 last_4 c5 nl6 m7)) fun y9 =>
  cond y9
    (M.pure true)
    (cond (decide (16 ≤ slot1))
      (M.pure true)
      (M.pure (decide (try2 = 0))))) (fun v8 =>
  cond v8
    (M.pure ((⟨0, 0, 0⟩ : TMember), 0, 1, epoch_3, last_4, c5, nl6, m7))
    (M.bind (M.det (roster_Roster_Of_o slot1 epoch_3 last_4 c5 nl6 m7)) fun y14 =>
    M.need ((0 : Int) ≤ slot1 ∧ slot1 < ((16 : Nat) : Int)) <|
    M.bind (cond ((decide (try2 < (AR.get c5 (Int.toNat slot1)))))
      (M.pure true)
      (cond ((decide (try2 = (AR.get c5 (Int.toNat slot1)))))
        (M.pure (!y14.2))
        (M.pure false))) (fun v17 =>
    cond v17
      (M.pure ((⟨0, 0, 0⟩ : TMember), 0, 11, epoch_3, last_4, c5, nl6, m7))
      (cond ((decide (try2 = (AR.get c5 (Int.toNat slot1)))))
        (M.pure (y14.1, 0, 0, epoch_3, last_4, c5, nl6, m7))
        (cond (decide (last_4 = 65535))
          (M.pure ((⟨0, 0, 0⟩ : TMember), 0, 8, epoch_3, last_4, c5, nl6, m7))
          (M.need ((0 : Int) ≤ slot1 ∧ slot1 < ((16 : Nat) : Int)) <|
          M.need (nl6 = false) <|
          M.pure (((⟨(IntKind.u16.wrap (last_4 + 1)), slot1, try2⟩ : TMember), y14.1.dev, 0, (IntKind.u64.wrap (epoch_3 + 1)), (IntKind.u16.wrap (last_4 + 1)), (AR.set c5 (Int.toNat slot1) try2), nl6, (AL.set (AL.del m7 y14.1.dev) (IntKind.u16.wrap (last_4 + 1)) ((⟨(IntKind.u16.wrap (last_4 + 1)), slot1, try2⟩ : TMember)))))))))))

/-- (*epitaph/roster.Roster).Epoch -/
def roster_Roster_Epoch_o (epoch_1 : Int) (last_2 : Int) (c3 : A16) (nl4 : Bool) (m5 : List (Int × TMember)) : M Int :=
  M.bind (M.det (roster_Roster_none_o epoch_1 last_2 c3 nl4 m5)) fun y6 =>
  cond y6
    (M.pure 0)
    (M.pure epoch_1)

/-- epitaph/epitaphlaw26.works -/
def l26_works  : M Bool :=
  M.bind (M.det (roster_New_o)) fun y1 =>
  M.bind (M.det (roster_Roster_Join_o 3 1 y1.1 y1.2.1 y1.2.2.1 y1.2.2.2.1 y1.2.2.2.2)) fun y3 =>
  M.bind (M.det (roster_Roster_Join_o 3 1 y3.2.2.2.1 y3.2.2.2.2.1 y3.2.2.2.2.2.1 y3.2.2.2.2.2.2.1 y3.2.2.2.2.2.2.2)) fun y5 =>
  M.bind (M.det (roster_Roster_Join_o 3 2 y5.2.2.2.1 y5.2.2.2.2.1 y5.2.2.2.2.2.1 y5.2.2.2.2.2.2.1 y5.2.2.2.2.2.2.2)) fun y7 =>
  M.bind (cond (decide (y3.2.2.1 = 0))
    (cond (decide (y5.2.2.1 = 0))
      (cond (decide (y7.2.2.1 = 0))
        (cond (decide (y3.1.dev = 1))
          (cond (((decide (y5.1.dev = y3.1.dev) && (decide (y5.1.slot = y3.1.slot) && decide (y5.1.try_ = y3.1.try_)))))
            (cond (decide (y7.1.dev = 2))
              (cond (decide (y7.2.1 = 1))
                (M.bind (M.det (roster_Roster_Epoch_o y7.2.2.2.1 y7.2.2.2.2.1 y7.2.2.2.2.2.1 y7.2.2.2.2.2.2.1 y7.2.2.2.2.2.2.2)) fun y17 =>
                M.pure (decide (y17 = 3)))
                (M.pure false))
              (M.pure false))
            (M.pure false))
          (M.pure false))
        (M.pure false))
      (M.pure false))
    (M.pure false)) (fun v9 =>
  M.pure v9)

/-- (*epitaph/roster.Roster).Remove -/
def roster_Roster_Remove_o (dev1 : Int) (epoch_2 : Int) (last_3 : Int) (c4 : A16) (nl5 : Bool) (m6 : List (Int × TMember)) : M (Int × Int × Int × A16 × Bool × (List (Int × TMember))) :=
  M.bind (M.det (roster_Roster_none_o epoch_2 last_3 c4 nl5 m6)) fun y7 =>
  cond y7
    (M.pure (1, epoch_2, last_3, c4, nl5, m6))
    (cond (!(AL.has m6 dev1))
      (M.pure (6, epoch_2, last_3, c4, nl5, m6))
      (M.pure ((0, (IntKind.u64.wrap (epoch_2 + 1)), last_3, c4, nl5, (AL.del m6 dev1)))))

/-- (*epitaph/roster.Roster).Check -/
def roster_Roster_Check_o (dev1 : Int) (epoch2 : Int) (epoch_3 : Int) (last_4 : Int) (c5 : A16) (nl6 : Bool) (m7 : List (Int × TMember)) : M Int :=
  M.bind (M.det (roster_Roster_none_o epoch_3 last_4 c5 nl6 m7)) fun y8 =>
  cond y8
    (M.pure 1)
    (cond (!(AL.has m7 dev1))
      (M.pure 11)
      (cond (!decide (epoch2 = epoch_3))
        (M.pure 10)
        (M.pure 0)))

/-- (*epitaph/roster.Roster).Last -/
def roster_Roster_Last_o (epoch_1 : Int) (last_2 : Int) (c3 : A16) (nl4 : Bool) (m5 : List (Int × TMember)) : M Int :=
  M.bind (M.det (roster_Roster_none_o epoch_1 last_2 c3 nl4 m5)) fun y6 =>
  cond y6
    (M.pure 0)
    (M.pure last_2)

def l26_RosterOnce_l0 (y397 : List TMember) (gone338 : List Bool) (top337 : Int) (v339 : Int) (v340 : Int) (ar341 : A16) (nl342 : Bool) (v343 : List (Int × TMember)) (y333 : Int) : Int → M (M.Step Int (M.Ex (Int × List Bool × Int × Int × A16 × Bool × (List (Int × TMember))) (M.Step (Int × Int × List Bool × Int × Int × A16 × Bool × (List (Int × TMember))) (M.Ex (Int × Int × Int × A16 × Bool × (List (Int × TMember))) Bool)))) := fun k446 =>
  cond ((decide (k446 < (List.length y397 : Int))))
    (M.bind (M.bind (M.idx y397 k446) fun x449 =>
    M.need ((0 : Int) ≤ x449.dev ∧ x449.dev < ((65536 : Nat) : Int)) <| M.bind (M.idx gone338 x449.dev) fun x452 =>
    cond x452
      (M.pure true)
      (M.bind (M.idx y397 k446) fun x455 =>
      cond (decide (top337 < x455.dev))
        (M.pure true)
        (M.bind (M.idx y397 k446) fun x458 =>
        M.bind (M.det (roster_Roster_Epoch_o v339 v340 ar341 nl342 v343)) fun y460 =>
        M.bind (M.det (roster_Roster_Check_o x458.dev y460 v339 v340 ar341 nl342 v343)) fun y462 =>
        cond (!decide (y462 = 0))
          (M.pure true)
          (M.bind (M.idx y397 k446) fun x465 =>
          M.bind (M.det (roster_Roster_Check_o x465.dev (IntKind.u64.wrap (y333 - 1)) v339 v340 ar341 nl342 v343)) fun y467 =>
          M.pure (!decide (y467 = 10)))))) (fun v448 =>
    cond v448
      (M.pure (.done ((.ret (.done (.ret false))))))
      (M.pure (.next (IntKind.i64.wrap (k446 + 1))))))
    (M.pure (.done (.brk (top337, gone338, v339, v340, ar341, nl342, v343))))
def l26_RosterOnce_l1 (l1 : List L26Act) : Int × Int × List Bool × Int × Int × A16 × Bool × (List (Int × TMember)) → M (M.Step (Int × Int × List Bool × Int × Int × A16 × Bool × (List (Int × TMember))) (M.Ex (Int × Int × Int × A16 × Bool × (List (Int × TMember))) Bool)) := fun ⟨top315, i316, gone317, v318, v319, ar320, nl321, v322⟩ =>
  cond ((decide (i316 < (List.length l1 : Int))))
    (M.bind (M.bind (M.idx l1 i316) fun x331 =>
    M.bind (M.det (roster_Roster_Epoch_o v318 v319 ar320 nl321 v322)) fun y333 =>
    M.bind (M.det (roster_Roster_Members_o v318 v319 ar320 nl321 v322)) fun y335 =>
    M.bind (cond (decide (x331.kind ≤ 1))
      (M.bind (M.det (roster_Roster_Join_o x331.slot x331.try_ v318 v319 ar320 nl321 v322)) fun y345 =>
      M.bind (cond (decide (y345.2.2.1 = 0))
        (M.bind (M.det (roster_Roster_Epoch_o y345.2.2.2.1 y345.2.2.2.2.1 y345.2.2.2.2.2.1 y345.2.2.2.2.2.2.1 y345.2.2.2.2.2.2.2)) fun y349 =>
        M.pure ((decide (y349 = (IntKind.u64.wrap (y333 + 1))))))
        (M.pure false)) (fun v347 =>
      cond v347
        (M.bind (cond ((!decide (y345.1.dev = (IntKind.u16.wrap (top315 + 1)))))
          (M.pure true)
          (cond (!decide (y345.2.1 = 0))
            (M.need ((0 : Int) ≤ y345.2.1 ∧ y345.2.1 < ((65536 : Nat) : Int)) <| M.bind (M.idx gone317 y345.2.1) fun x356 =>
            M.pure x356)
            (M.pure false))) (fun v352 =>
        cond v352
          (M.pure (.ret ((.ret (.done (.ret false))))))
          (cond (!decide (y345.2.1 = 0))
            (M.need ((0 : Int) ≤ y345.2.1 ∧ y345.2.1 < ((65536 : Nat) : Int)) <| M.bind (M.idx gone317 y345.2.1) fun x361 =>
            M.pure (.brk ((y345.1.dev, (List.set gone317 (Int.toNat y345.2.1) true), y345.2.2.2.1, y345.2.2.2.2.1, y345.2.2.2.2.2.1, y345.2.2.2.2.2.2.1, y345.2.2.2.2.2.2.2))))
            (M.pure (.brk (y345.1.dev, gone317, y345.2.2.2.1, y345.2.2.2.2.1, y345.2.2.2.2.2.1, y345.2.2.2.2.2.2.1, y345.2.2.2.2.2.2.2))))))
        (M.bind (M.bind (M.det (roster_Roster_Epoch_o y345.2.2.2.1 y345.2.2.2.2.1 y345.2.2.2.2.2.1 y345.2.2.2.2.2.2.1 y345.2.2.2.2.2.2.2)) fun y364 =>
        cond (!decide (y364 = y333))
          (M.pure true)
          (M.bind (M.det (roster_Roster_Members_o y345.2.2.2.1 y345.2.2.2.2.1 y345.2.2.2.2.2.1 y345.2.2.2.2.2.2.1 y345.2.2.2.2.2.2.2)) fun y367 =>
          cond ((!decide ((List.length y367 : Int) = (List.length y335 : Int))))
            (M.pure true)
            (cond (decide (y345.2.2.1 = 0))
              (cond (!decide (y345.2.1 = 0))
                (M.pure true)
                (M.need ((0 : Int) ≤ y345.1.dev ∧ y345.1.dev < ((65536 : Nat) : Int)) <| M.bind (M.idx gone317 y345.1.dev) fun x373 =>
                cond x373
                  (M.pure true)
                  (M.pure (decide (top315 < y345.1.dev)))))
              (M.pure false)))) (fun v363 =>
        cond v363
          (M.pure (.ret ((.ret (.done (.ret false))))))
          (M.pure (.brk (top315, gone317, y345.2.2.2.1, y345.2.2.2.2.1, y345.2.2.2.2.2.1, y345.2.2.2.2.2.2.1, y345.2.2.2.2.2.2.2)))))))
      (M.bind (M.det (roster_Roster_Remove_o x331.dev v318 v319 ar320 nl321 v322)) fun y377 =>
      cond (decide (y377.1 = 0))
        (M.bind (M.need ((0 : Int) ≤ x331.dev ∧ x331.dev < ((65536 : Nat) : Int)) <| M.bind (M.idx gone317 x331.dev) fun x382 =>
        cond x382
          (M.pure true)
          (M.bind (M.det (roster_Roster_Epoch_o y377.2.1 y377.2.2.1 y377.2.2.2.1 y377.2.2.2.2.1 y377.2.2.2.2.2)) fun y385 =>
          cond ((!decide (y385 = (IntKind.u64.wrap (y333 + 1)))))
            (M.pure true)
            (M.bind (M.det (roster_Roster_Members_o y377.2.1 y377.2.2.1 y377.2.2.2.1 y377.2.2.2.2.1 y377.2.2.2.2.2)) fun y388 =>
            M.pure ((!decide ((List.length y388 : Int) = ((IntKind.i64.wrap ((List.length y335 : Int) - 1))))))))) (fun v380 =>
        cond v380
          (M.pure (.ret ((.ret (.done (.ret false))))))
          (M.need ((0 : Int) ≤ x331.dev ∧ x331.dev < ((65536 : Nat) : Int)) <| M.bind (M.idx gone317 x331.dev) fun x392 =>
          M.pure (.brk ((top315, (List.set gone317 (Int.toNat x331.dev) true), y377.2.1, y377.2.2.1, y377.2.2.2.1, y377.2.2.2.2.1, y377.2.2.2.2.2))))))
        (M.bind (M.det (roster_Roster_Epoch_o y377.2.1 y377.2.2.1 y377.2.2.2.1 y377.2.2.2.2.1 y377.2.2.2.2.2)) fun y394 =>
        cond (!decide (y394 = y333))
          (M.pure (.ret ((.ret (.done (.ret false))))))
          (M.pure (.brk (top315, gone317, y377.2.1, y377.2.2.1, y377.2.2.2.1, y377.2.2.2.2.1, y377.2.2.2.2.2)))))) (M.exk (fun ⟨top337, gone338, v339, v340, ar341, nl342, v343⟩ =>
    M.bind (M.det (roster_Roster_Members_o v339 v340 ar341 nl342 v343)) fun y397 =>
    M.loop (l26_RosterOnce_l0 y397 gone338 top337 v339 v340 ar341 nl342 v343 y333) 0))) (M.exk (fun ⟨top324, gone325, v326, v327, ar328, nl329, v330⟩ =>
    M.pure (.next ((top324, (IntKind.i64.wrap (i316 + 1)), gone325, v326, v327, ar328, nl329, v330))))))
    (M.pure (.done (.brk (top315, v318, v319, ar320, nl321, v322))))
/-- epitaph/epitaphlaw26.RosterOnce -/
def l26_RosterOnce (l1 : List L26Act) : M Bool :=
  cond ((decide (60 < (List.length l1 : Int))))
    (M.bind (M.det (l26_works)) fun v3 =>
    M.pure v3)
    (M.bind (M.det (roster_New_o)) fun y5 =>
    M.bind (M.loop (l26_RosterOnce_l1 l1) (0, 0, (List.replicate 65536 false), y5.1, y5.2.1, y5.2.2.1, y5.2.2.2.1, y5.2.2.2.2)) (M.exk (fun ⟨top7, v8, v9, ar10, nl11, v12⟩ =>
    M.bind (M.bind (M.det (roster_Roster_Last_o v8 v9 ar10 nl11 v12)) fun y471 =>
    cond (decide (y471 = top7))
      (M.bind (M.det (l26_works)) fun v474 =>
      M.pure v474)
      (M.pure false)) (fun v470 =>
    M.pure v470))))

end Go.Ep

namespace Go.Proofs
open Go.Shelf
def Try.pdq33_ren : Go.Shelf.Ren := ⟨fun | 14 => 33 | 20 => 36 | 21 => 37 | 22 => 38 | 23 => 39 | 24 => 40 | 25 => 41 | 26 => 42 | 27 => 43 | 46 => 46 | 47 => 47 | 48 => 48 | 49 => 49 | 50 => 50 | 15 => 34 | 57 => 51 | 28 => 44 | 29 => 45 | n => n, fun | 24 => 35 | 22 => 32 | 3 => 3 | 25 => 72 | 4 => 4 | 0 => 0 | 46 => 82 | 45 => 81 | 50 => 86 | 66 => 91 | 39 => 78 | 55 => 28 | 70 => 94 | 76 => 96 | 77 => 97 | 53 => 89 | 5 => 5 | 9 => 9 | n => n, fun | n => n⟩
theorem Try.pdq33 : Go.Proofs.SlLaysF0.n14 Try.prog Try.pdq33_ren := {
  mixed := by kernel_rfl
  f14 := ⟨Try.f33.name, by decide, Try.func33.trans (congrArg some (by kernel_rfl))⟩
  f15 := Try.func34.trans (congrArg some (by kernel_rfl))
  f20 := ⟨Try.f36.name, by decide, Try.func36.trans (congrArg some (by kernel_rfl))⟩
  f21 := ⟨Try.f37.name, by decide, Try.func37.trans (congrArg some (by kernel_rfl))⟩
  f22 := ⟨Try.f38.name, by decide, Try.func38.trans (congrArg some (by kernel_rfl))⟩
  f23 := ⟨Try.f39.name, by decide, Try.func39.trans (congrArg some (by kernel_rfl))⟩
  f24 := ⟨Try.f40.name, by decide, Try.func40.trans (congrArg some (by kernel_rfl))⟩
  f25 := ⟨Try.f41.name, by decide, Try.func41.trans (congrArg some (by kernel_rfl))⟩
  f26 := ⟨Try.f42.name, by decide, Try.func42.trans (congrArg some (by kernel_rfl))⟩
  f27 := ⟨Try.f43.name, by decide, Try.func43.trans (congrArg some (by kernel_rfl))⟩
  f28 := Try.func44.trans (congrArg some (by kernel_rfl))
  f29 := Try.func45.trans (congrArg some (by kernel_rfl))
  f46 := ⟨Try.f46.name, by decide, Try.func46.trans (congrArg some (by kernel_rfl))⟩
  f47 := Try.func47.trans (congrArg some (by kernel_rfl))
  f48 := Try.func48.trans (congrArg some (by kernel_rfl))
  f49 := ⟨Try.f49.name, by decide, Try.func49.trans (congrArg some (by kernel_rfl))⟩
  f50 := ⟨Try.f50.name, by decide, Try.func50.trans (congrArg some (by kernel_rfl))⟩
  f57 := ⟨Try.f51.name, by decide, Try.func51.trans (congrArg some (by kernel_rfl))⟩
  t0 := Try.underlying0
  a0 := Try.isAgg0
  z0 := Try.sizeOf0
  v0 := Try.zeroValue0
  t3 := Try.underlying3
  a3 := Try.isAgg3
  z3 := Try.sizeOf3
  v3 := Try.zeroValue3
  t4 := Try.underlying4
  a4 := Try.isAgg4
  z4 := Try.sizeOf4
  v4 := Try.zeroValue4
  t5 := Try.underlying5
  a5 := Try.isAgg5
  z5 := Try.sizeOf5
  v5 := Try.zeroValue5
  t9 := Try.underlying9
  a9 := Try.isAgg9
  z9 := Try.sizeOf9
  v9 := Try.zeroValue9
  t22 := Try.underlying32
  a22 := Try.isAgg32
  z22 := Try.sizeOf32
  v22 := Try.zeroValue32
  t25 := Try.underlying72
  a25 := Try.isAgg72
  z25 := Try.sizeOf72
  v25 := Try.zeroValue72
  t39 := Try.underlying78
  a39 := Try.isAgg78
  z39 := Try.sizeOf78
  v39 := Try.zeroValue78
  t45 := Try.underlying81
  a45 := Try.isAgg81
  z45 := Try.sizeOf81
  v45 := Try.zeroValue81
  t46 := Try.underlying82
  a46 := Try.isAgg82
  z46 := Try.sizeOf82
  v46 := Try.zeroValue82
  t50 := Try.underlying86
  a50 := Try.isAgg86
  z50 := Try.sizeOf86
  v50 := Try.zeroValue86
  t53 := Try.underlying89
  a53 := Try.isAgg89
  z53 := Try.sizeOf89
  v53 := Try.zeroValue89
  t55 := Try.underlying28
  a55 := Try.isAgg28
  z55 := Try.sizeOf28
  v55 := Try.zeroValue28
  t66 := Try.underlying91
  a66 := Try.isAgg91
  z66 := Try.sizeOf91
  v66 := Try.zeroValue91
  t70 := Try.underlying94
  a70 := Try.isAgg94
  z70 := Try.sizeOf94
  v70 := Try.zeroValue94
  t76 := Try.underlying96
  a76 := Try.isAgg96
  z76 := Try.sizeOf96
  v76 := Try.zeroValue96
  t77 := Try.underlying97
  a77 := Try.isAgg97
  z77 := Try.sizeOf97
  v77 := Try.zeroValue97 }
def Try.bits34_ren : Go.Shelf.Ren := ⟨fun | 15 => 34 | 28 => 44 | 29 => 45 | n => n, fun | 39 => 78 | 3 => 3 | 53 => 89 | 55 => 28 | 4 => 4 | 5 => 5 | 9 => 9 | n => n, fun | n => n⟩
theorem Try.bits34 : Go.Proofs.SlLaysF0.n15 Try.prog Try.bits34_ren := {
  mixed := by kernel_rfl
  f15 := Try.func34.trans (congrArg some (by kernel_rfl))
  f28 := Try.func44.trans (congrArg some (by kernel_rfl))
  f29 := Try.func45.trans (congrArg some (by kernel_rfl))
  t3 := Try.underlying3
  a3 := Try.isAgg3
  z3 := Try.sizeOf3
  v3 := Try.zeroValue3
  t4 := Try.underlying4
  a4 := Try.isAgg4
  z4 := Try.sizeOf4
  v4 := Try.zeroValue4
  t5 := Try.underlying5
  a5 := Try.isAgg5
  z5 := Try.sizeOf5
  v5 := Try.zeroValue5
  t9 := Try.underlying9
  a9 := Try.isAgg9
  z9 := Try.sizeOf9
  v9 := Try.zeroValue9
  t39 := Try.underlying78
  a39 := Try.isAgg78
  z39 := Try.sizeOf78
  v39 := Try.zeroValue78
  t53 := Try.underlying89
  a53 := Try.isAgg89
  z53 := Try.sizeOf89
  v53 := Try.zeroValue89
  t55 := Try.underlying28
  a55 := Try.isAgg28
  z55 := Try.sizeOf28
  v55 := Try.zeroValue28 }
end Go.Proofs

namespace Go.Ep
open Go.Shelf Go.RowKit Go.Lib Go.Sort Go.Proofs

theorem SortLaw.of {α : Type} [Inhabited α] {P : Program} {f g : FuncId} {k : Nat} {enc : α → List Value} {lt : α → α → Bool} {cf : α → α → Int} (hO : SWO (ltOf cf)) (hlt : ∀ x y, ltOf cf x y = lt x y) (hk : ∀ x, (enc x).length = k)
    (hnil : ∀ w : World, Calls P f #[.slice none 0 0, .func (.func g) #[] #[]] w fun e w' => e = .returned (.tuple #[]) ∧ Go.RowKit.Below w.heap.size w w')
    (hrow : ∀ (blk off cap : Nat) (d : Array α) (w : World), HoldsK enc k w blk off d → blk < w.heap.size → d.size < 4611686018427387904 →
      Calls P f #[.slice (some ⟨blk, off, none⟩) d.size cap, .func (.func g) #[] #[]] w fun e w' => e = .returned (.tuple #[]) ∧ ∃ n os, w' = sortWorldK enc k w blk off n (pdq (ltOf cf) d 0 d.size (Lib.bitLen d.size) true true) os) : SortLaw P f g k enc lt := by
  refine ⟨hnil, fun w blk cap l T cur hh hlc hcs hlen hcells => ?_⟩
  have hblk : blk < w.heap.size := (Array.getElem?_eq_some_iff.1 hh).1
  have hH : HoldsK enc k w blk 0 l.toArray := by
    intro j hj
    rw [size_flatK] at hj
    have hj' : j < l.length * k := by simpa using hj
    obtain ⟨hk0, h1, h2, h3⟩ := idx_split hj'
    constructor
    · rw [Nat.zero_add, cell_of_heap hh]
      show _ = some ((flatK enc k l.toArray)[j]!)
      rw [get_flatK _ _ _ _ hj]
      have hx : l[j / k]? = some l[j / k] := List.getElem?_eq_getElem h1
      have hlk : (enc l[j / k]).length = k := hk _
      have hu : (enc l[j / k])[j % k]? = some ((enc l[j / k])[j % k]'(by omega)) := List.getElem?_eq_getElem (by omega)
      have := hcells (j / k) _ (j % k) _ hx hu
      rw [h3] at this
      rw [this]
      have e1 : (l.toArray)[j / k]! = l[j / k] := by simp [h1]
      rw [e1]
      simp [hu]
    · simp [World.frozen?, hh]
  have hd : l.toArray.size = l.length := by simp
  have hcall := hrow blk 0 cap l.toArray w hH hblk (by simpa using hlen)
  rw [hd] at hcall
  refine hcall.mono fun e w' ⟨he, n, os, hw⟩ => ⟨he, ?_⟩
  have hp := pdq_sorts (ltOf cf) hO l.toArray 0 l.toArray.size (Lib.bitLen l.toArray.size) true true (Nat.zero_le _) (Nat.le_refl _) (Or.inl rfl)
  rw [hd] at hp
  generalize pdq (ltOf cf) l.toArray 0 l.length (Lib.bitLen l.length) true true = d' at hp hw
  obtain ⟨⟨hsz, _, hperm⟩, hsort⟩ := hp
  have hsz' : d'.size = l.length := by simpa using hsz
  have hp' : d'.toList.Perm l := by
    have e1 : (d'.extract 0 l.length).toList = d'.toList := by rw [← hsz']; simp
    have e2 : (l.toArray.extract 0 l.length).toList = l := by simp
    rw [e1, e2] at hperm
    exact hperm
  have hmod : ∀ b, b < w.heap.size → (sortWorldK enc k w blk 0 n d' os).heap[b]? = if blk = b then (w.heap[b]?).map (onCells (putCells id 0 (flatK enc k d'))) else w.heap[b]? := by
    intro b hb
    have hb2 : b < (putRowK enc k (Sort.ahead w n) blk 0 d').heap.size := by simpa [putRowK, Sort.ahead] using hb
    show (grow (putRowK enc k (Sort.ahead w n) blk 0 d') os).heap[b]? = _
    rw [Sort.heap_grow_old _ _ hb2]
    show ((w.heap.modify blk (onCells (putCells id 0 (flatK enc k d')))))[b]? = _
    rw [Array.getElem?_modify]
  subst hw
  refine ⟨d'.toList, (putCells id 0 (flatK enc k d') cur.toArray).toList, hp', ?_, ?_, ?_, ?_, rfl, rfl, rfl, ?_, ?_⟩
  · rw [List.pairwise_iff_getElem]
    intro i j hi hj hij
    have := hsort i j (Nat.zero_le _) hij (by simpa [hsz'] using hj)
    rw [hlt] at this
    have hi' : i < d'.size := by simpa using hi
    have hj' : j < d'.size := by simpa using hj
    simpa [hi', hj'] using this
  · rw [hmod blk hblk, if_pos rfl, hh]
    simp [onCells]
  · simp [putCells]
  · intro i x j u hi hu
    have hi' : i < l.length := by rw [← hsz']; have := (List.getElem?_eq_some_iff.1 hi).1; simpa using this
    have hj : j < k := by rw [← hk x]; exact (List.getElem?_eq_some_iff.1 hu).1
    have hlt2 : i * k + j < l.length * k := idx_lt hi' hj
    have hcl : l.length * k ≤ cur.length := by rw [hcs]; exact Nat.mul_le_mul_right k hlc
    have hin : i * k + j < d'.size * k := by rw [hsz']; exact hlt2
    have hget : (flatK enc k d')[i * k + j]! = u := by
      rw [get_flatK _ _ _ _ hin]
      have hk0 : 0 < k := by omega
      have e1 : (i * k + j) / k = i := by rw [Nat.mul_comm, Nat.mul_add_div hk0, Nat.div_eq_of_lt hj]; omega
      have e2 : (i * k + j) % k = j := by rw [Nat.mul_comm, Nat.mul_add_mod, Nat.mod_eq_of_lt hj]
      rw [e1, e2]
      have e3 : d'[i]! = x := by
        obtain ⟨h1, h2⟩ := List.getElem?_eq_some_iff.1 hi
        have h1' : i < d'.size := by simpa using h1
        rw [getElem!_pos d' i h1']
        simpa using h2
      rw [e3]
      simp [hu]
    have hc2 : i * k + j < cur.length := by omega
    simp only [putCells, Array.toList_mapIdx, List.getElem?_mapIdx]
    rw [List.getElem?_eq_getElem hc2]
    simp only [Option.map_some, id]
    rw [if_pos ⟨Nat.zero_le _, by rw [size_flatK]; omega⟩, Nat.sub_zero, hget]
  · show w.heap.size ≤ (grow (putRowK enc k (Sort.ahead w n) blk 0 d') os).heap.size
    simp [grow, putRowK, Sort.ahead]
  · intro b hb hne
    rw [hmod b hb, if_neg (Ne.symm hne)]
end Go.Ep

namespace Go.Proofs
set_option linter.unusedSimpArgs false
set_option linter.unusedVariables false
open Go.Shelf Go.RowKit Go.Lib Go.Sort Go.Ep
theorem nanu16 (a : Int) (W : World) : Calls Try.prog 35 #[.int .u16 a] W fun e w' => e = .returned (.bool false) ∧ w' = W := by
  go_enter Try.func35, Try.ntmps35
  go_wp2
  go_ret
  exact ⟨by simp, rfl⟩
theorem cmpu16 (a b : Int) (W : World) : Calls Try.prog 29 #[.int .u16 a, .int .u16 b] W fun e w' => e = .returned (.int .i64 (Lib.compareInt a b)) ∧ w' = W := by
  unfold Lib.compareInt
  by_cases h1 : a < b
  · go_enter Try.func29, Try.ntmps29
    go_wp2_with (go_at_call 35; refine (nanu16 _ _).mono ?_; rintro e w' ⟨rfl, rfl⟩)
    go_ret
    exact ⟨by simp [h1], rfl⟩
  · by_cases h2 : b < a
    · go_enter Try.func29, Try.ntmps29
      go_wp2_with (go_at_call 35; refine (nanu16 _ _).mono ?_; rintro e w' ⟨rfl, rfl⟩)
      go_ret
      exact ⟨by simp [h1, h2], rfl⟩
    · go_enter Try.func29, Try.ntmps29
      go_wp2_with (go_at_call 35; refine (nanu16 _ _).mono ?_; rintro e w' ⟨rfl, rfl⟩)
      go_ret
      exact ⟨by simp [h1, h2], rfl⟩
def cf27 (x y : TMember) : Int := Lib.compareInt x.dev y.dev
theorem callcf27 (x y : TMember) (W : World) : Calls Try.prog 28 #[.agg #[.int .u16 x.dev, .int .u8 x.slot, .int .u64 x.try_], .agg #[.int .u16 y.dev, .int .u8 y.slot, .int .u64 y.try_]] W fun e w' => e = .returned (.int .i64 (cf27 x y)) ∧ ∃ q os', w' = grow (W.drewN q) os' := by
  have c1 := fun W' => cmpu16 x.dev y.dev W'
  unfold cf27
  generalize Lib.compareInt x.dev y.dev = r1 at c1 ⊢
  go_enter Try.func28, Try.ntmps28
  go_wp2_with (go_at_call 29; refine (c1 _).mono ?_; rintro e w' ⟨rfl, rfl⟩)
  go_ret
  exact ⟨rfl, 0, _, by rw [alloc_eq_grow, alloc_eq_grow, grow_grow]; rfl⟩
theorem ltcf27 (x y : TMember) : ltOf cf27 x y = ltMember x y := by
  unfold ltOf cf27 Lib.compareInt ltMember
  rw [Bool.eq_iff_iff]
  simp only [decide_eq_true_eq, Bool.or_eq_true, Bool.and_eq_true]
  split <;> (repeat' split) <;> omega
theorem swocf27 : SWO (ltOf cf27) where
  irrefl x := by rw [ltcf27]; simp [ltMember]
  trans x y z h1 h2 := by rw [ltcf27] at *; simp [ltMember] at *; omega
  ntrans x y z h1 h2 := by rw [ltcf27] at *; simp [ltMember] at *; omega
instance inhcf27 : Inhabited TMember := ⟨⟨0, 0, 0⟩⟩
theorem layscf27 (blk off size : Nat) (w : World) : CmpLays Try.prog 28 #[] TMember.v 3 cf27 blk off size w := fun _ _ _ _ x y => callcf27 x y _
set_option maxHeartbeats 2000000 in
set_option maxRecDepth 100000 in
theorem sort27_eq (blk off cap : Nat) (d : Array TMember) (w : World) (hH : HoldsK TMember.v 3 w blk off d) (hblk : blk < w.heap.size) (hsz : d.size < 4611686018427387904) :
    Calls Try.prog 27 #[.slice (some ⟨blk, off, none⟩) d.size cap, .func (.func 28) #[] #[]] w fun e w' => e = .returned (.tuple #[]) ∧ ∃ n os, w' = sortWorldK TMember.v 3 w blk off n (pdq (ltOf cf27) d 0 d.size (Lib.bitLen d.size) true true) os := by
  have eg : ∀ args w, (callFunc 28 args).run Try.prog w = .ok (.enter 28 args) w := Try.call28
  have e14 := Try.call33
  have e15 := Try.call34
  have hlim : Lib.bitLen d.size < 4611686018427387904 := Nat.lt_of_le_of_lt (Lib.bitLen_le d.size 62 (by omega) (by omega)) (by omega)
  have hp := AnyQ.pdqsortCmpFunc_all Try.pdq33 3 Try.isAgg35 Try.sizeOf35 TMember.v cf27 28 #[] swocf27 blk off cap d w eg (layscf27 blk off d.size w) ⟨fun _ => rfl, TMember.v1, hH, hblk⟩ (d.size + 1) 0 d.size (Lib.bitLen d.size) d w (by omega) rfl (SWK.start hH) (Nat.zero_le _) (Nat.le_refl _) hsz hlim (Or.inl rfl)
  change Calls Try.prog 33 _ _ _ at hp
  have hl : Calls Try.prog 34 #[.int .u64 (d.size : Int)] w fun e w' => e = .returned (.int .i64 (Lib.bitLen d.size : Nat)) ∧ w' = w := by
    have h := Any.bits_Len (SlLaysF0.n15.bits Try.bits34) (d.size : Int) w (by omega) (by omega)
    rwa [Int.toNat_natCast] at h
  have wr : IntKind.u64.wrap (d.size : Int) = d.size := by simp [IntKind.wrap, IntKind.bits, IntKind.signed]; omega
  clear hH
  go_enter Try.func27, Try.ntmps27
  go_wp2_with (first | (go_at_call 34; refine hl.mono ?_; rintro e w' ⟨rfl, rfl⟩) | (go_at_call 33; refine hp.mono ?_; rintro e w' ⟨rfl, n, os, rfl⟩))
  go_end0
  exact ⟨rfl, n, os, rfl⟩
theorem sort27_nil (w : World) : Calls Try.prog 27 #[.slice none 0 0, .func (.func 28) #[] #[]] w fun e w' => e = .returned (.tuple #[]) ∧ Go.RowKit.Below w.heap.size w w' := by
  have e14 := Try.call33
  have e15 := Try.call34
  have hp := fun lim W => AnyF.pdqsortCmpFunc_none Try.pdq33 none 0 lim (.func (.func 28) #[] #[]) W
  have hl : ∀ W, Calls Try.prog 34 #[.int .u64 0] W fun e w' => e = .returned (.int .i64 (Lib.bitLen 0 : Nat)) ∧ w' = W := fun W => by
    have h := Any.bits_Len (SlLaysF0.n15.bits Try.bits34) 0 W (by omega) (by omega)
    exact h
  go_enter Try.func27, Try.ntmps27
  go_wp2_with (first | (go_at_call 34; refine (hl _).mono ?_; rintro e w' ⟨rfl, rfl⟩) | (go_at_call 33; refine (hp _ _).mono ?_; rintro e w' ⟨rfl, rfl⟩))
  go_end0
  exact ⟨rfl, Go.RowKit.Below.refl _ _⟩
theorem srt27_28 : SortLaw Try.prog 27 28 3 TMember.v ltMember := SortLaw.of swocf27 ltcf27 (fun _ => rfl) sort27_nil (fun blk off cap d w hH hblk hsz => sort27_eq blk off cap d w hH hblk hsz)
end Go.Proofs

namespace Go.Ep
open Go.RowKit
section
variable {P : Program} {ctx : Ctx} {s : PState}
variable {dst : Option Tmp} {ty : TypeId} {pos : String} {after : Array Edge} {gd : Option (Nat × Bool)}
/-- A struct built, what is left out as it lies. -/
theorem LR.buildR {t : TypeId} {places : List (Nat × Nat)} {zs : List Value} {parts : Array (Nat × Operand)} {ps : List (Nat × PV)} {ns : List PV} (hB : BuildOK P t places zs) (hz1 : (zs.all Value.oneCell') = true) (hps : s.evp parts.toList = some ps) (hns : pfill places (zs.map fun z => PV.d (.v z)) ps = some ns) :
    Local P ctx ⟨dst, .build t parts, ty, pos, after, gd⟩ s (s.putD dst (.agg ns)) :=
  local_pure (o := ⟨dst, .build t parts, ty, pos, after, gd⟩) fun a w g hg => by
    have hz1' : ∀ u ∈ zs, u.oneCell' = true := by simpa using hz1
    obtain ⟨vs, h1, h2, h3, h4⟩ := fill_rd (w := w) (g := g) (S := Free ctx g s.objs) ps (parts.toList.map fun x => (x.1, a.eval x.2)) (zs.map fun z => PV.d (.v z)) zs ns (by simpa using evp_len hps) (by
      intro j p r hp hr
      rw [List.getElem?_map] at hr
      cases hx : parts.toList[j]? with
      | none => simp [hx] at hr
      | some x =>
        simp [hx] at hr
        subst hr
        obtain ⟨e1, e2⟩ := evp_get hps hp hx
        exact ⟨e1, hg.ev e2⟩) (by simp) (by
      intro i p u hp hu
      simp [hu] at hp
      subst hp
      exact .d (.v u (hz1' u (List.mem_of_getElem? hu)))) hz1' hns
    refine ⟨.agg vs.toArray, ?_, .agg ns vs h2 h3 h4⟩
    have hb : P.built t (parts.map fun (i, x) => (i, a.eval x)).toList = some vs.toArray := by
      rw [hB]; simpa using h1
    have hrun := run_build w t (parts.map fun (i, x) => (i, a.eval x)) vs.toArray hb
    simp only [execOp, Sem.run_bind, hrun, Result.andThen_ok, Sem.run_pure]
end
section
variable {P : Program} {ctx : Ctx} {ops : Array Oper} {Q : PState → Prop} {s : PState}
variable {dst : Option Tmp} {ty : TypeId} {pos : String} {after : Array Edge} {gd : Option (Nat × Bool)}
variable {α : Type} {enc : α → List DV} {L R : List α} {x y : Operand} {id oid m k bs' j : Nat} {t t' e e' T : TypeId} {cs : List PV}
end
end Go.Ep
namespace Go.Ep
/-- An end whose results lie in variables of the call's own. -/
theorem EndsO.mkX {G : Type} {P : Program} {ctx : Ctx} {fn : Func} {pl ex : List (Nat × Ob)} {r : PV} {os' : G → List (Nat × Ob)} {e : Exit} {s : PState} (gh : G) {n : Nat} {sl : List (Nat × PV)} {ps : List PV} (he : e = .normal ∨ e = .ret) (hsub : Sub ctx s ⟨n, sl, (os' gh ++ pl) ++ ex⟩)
    (hres : ResLO P ⟨n, sl, (os' gh ++ pl) ++ ex⟩ fn.results.toList ps) (hq : tupOf ps = r) (hd : (pl.all fun x => !inL ((os' gh).map (·.1)) x.1) = true) : EndsO P ctx fn pl r os' e s := by
  refine ⟨he, gh, ps, _, hsub, hres, hq, fun id o h => look_left (look_left h), fun id o h => look_left ?_⟩
  rw [look_append]
  cases hl : look (os' gh) id with
  | none => rw [Option.none_or]; exact h
  | some q =>
    have h1 := List.all_eq_true.1 hd _ (look_mem h)
    have h2 := inL_iff.2 (look_key hl)
    rw [h2] at h1; cases h1
end Go.Ep

