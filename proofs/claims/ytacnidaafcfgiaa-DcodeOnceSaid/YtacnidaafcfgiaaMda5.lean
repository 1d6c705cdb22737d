/- Texts that the walks and laws lean on, side by side. -/
import Derived.Laws.BytesString
import Derived.Laws.IdiomStrings
import Derived.Test.YtacnidaafcfgiaaMda2
import Derived.Test.YtacnidaafcfgiaaMda3
import Derived.Test.YtacnidaafcfgiaaMda4
namespace Go.Ep
open Go.RowKit
section
variable {P : Program} {ctx : Ctx} {s : PState}
variable {dst : Option Tmp} {ty : TypeId} {pos : String} {after : Array Edge} {gd : Option (Nat × Bool)}
/-- A struct built, what is left out as it lies. -/
theorem LR.buildR {t : TypeId} {places : List (Nat × Nat)} {zs : List Value} {parts : Array (Nat × Operand)} {ps : List (Nat × PV)} {ns : List PV} (hB : BuildOK P t places zs) (hz1 : (zs.all Value.oneCell') = true) (hps : s.evp parts.toList = some ps) (hns : pfill places (zs.map fun z => PV.d (.v z)) ps = some ns) :
    Local P ctx ⟨dst, .build t parts, ty, pos, after, gd⟩ s (s.putD dst (.agg ns)) :=
  local_pure (o := ⟨dst, .build t parts, ty, pos, after, gd⟩) fun a w g hg => by
    have hz1' : ∀ u ∈ zs, u.oneCell' = true := by simpa using hz1
    obtain ⟨vs, h1, h2, h3, h4⟩ := fill_rd (w := w) (g := g) (S := Free ctx g s.objs) ps (parts.toList.map fun x => (x.1, a.eval x.2)) (zs.map fun z => PV.d (.v z)) zs ns (by simpa using evp_len hps) (by
      intro j p r hp hr
      rw [List.getElem?_map] at hr
      cases hx : parts.toList[j]? with
      | none => simp [hx] at hr
      | some x =>
        simp [hx] at hr
        subst hr
        obtain ⟨e1, e2⟩ := evp_get hps hp hx
        exact ⟨e1, hg.ev e2⟩) (by simp) (by
      intro i p u hp hu
      simp [hu] at hp
      subst hp
      exact .d (.v u (hz1' u (List.mem_of_getElem? hu)))) hz1' hns
    refine ⟨.agg vs.toArray, ?_, .agg ns vs h2 h3 h4⟩
    have hb : P.built t (parts.map fun (i, x) => (i, a.eval x)).toList = some vs.toArray := by
      rw [hB]; simpa using h1
    have hrun := run_build w t (parts.map fun (i, x) => (i, a.eval x)) vs.toArray hb
    simp only [execOp, Sem.run_bind, hrun, Result.andThen_ok, Sem.run_pure]
/-- A row of one's own becomes data, in slots and in a cell. -/
theorem Sub.frzC {id oid j n k : Nat} {e T : TypeId} {l : List (List DV)} {cs : List PV} (js : List Nat) (hK : ∀ b, ctx.K b → ctx.S b) (hl : look s.objs id = some (.row e k l)) (hn : l.length = n) (hjs : ∀ j ∈ js, s.at j = some (.row id n))
    (ho : look s.objs oid = some (.cells T cs)) (hj : cs[j]? = some (.row id n)) (hne : Nat.beq oid id = false) :
    Sub ctx s { n := s.n, sl := (s.sets (.d (.sl l)) js).sl, objs := putO oid (.cells T (cs.set j (.d (.sl l)))) (delO id s.objs) } := by
  have hne' : oid ≠ id := fun e => by rw [e] at hne; simp at hne
  rintro a w ⟨g, h⟩
  have hlk : ∀ {q : Nat} {o : Ob}, look (putO oid (.cells T (cs.set j (.d (.sl l)))) (delO id s.objs)) q = some o → q ≠ id ∧ ∃ o', look s.objs q = some o' ∧ ((q = oid ∧ o' = .cells T cs ∧ o = .cells T (cs.set j (.d (.sl l)))) ∨ (q ≠ oid ∧ o' = o)) := fun {q o} hq => by
    rw [look_putO] at hq
    by_cases e : q = oid
    · subst e; rw [if_pos rfl] at hq; cases hq; exact ⟨hne', _, ho, .inl ⟨rfl, rfl, rfl⟩⟩
    · rw [if_neg e, look_delO] at hq
      split at hq
      · cases hq
      · rename_i h2; exact ⟨h2, _, hq, .inr ⟨e, rfl⟩⟩
  have hF : ∀ b, Free ctx g s.objs b → Free ctx g (putO oid (.cells T (cs.set j (.d (.sl l)))) (delO id s.objs)) b := fun b ⟨h1, h2⟩ => ⟨h1, fun q o m hq hg => by
    obtain ⟨_, o', h3, _⟩ := hlk hq
    exact h2 q o' m h3 hg⟩
  have hst : Stays w w (Free ctx g s.objs) := ⟨Nat.le_refl _, fun _ _ _ => rfl⟩
  have frozen : ∀ u, Rd w g (Free ctx g s.objs) (.row id n) u → Rd w g (Free ctx g (putO oid (.cells T (cs.set j (.d (.sl l)))) (delO id s.objs))) (.d (.sl l)) u := by
    intro u hr
    have hob := h.objs id _ hl
    cases hob with
    | rowNil _ _ hgn =>
      cases hr with
      | row _ _ blk cap hgi => rw [hgn] at hgi; cases hgi
      | rowNil => exact .d (.nil none 0 (Nat.zero_le _) (fun _ => rfl))
    | row _ _ _ blk' cap' cur hgi hh hlc hcap hcs hkk hr' =>
      cases hr with
      | rowNil _ hgn => rw [hgn] at hgi; cases hgi
      | row _ _ blk cap hgi' =>
        rw [hgi] at hgi'
        cases hgi'
        subst hn
        have hown := h.own id _ blk' cap' hl hgi
        have hfree : Free ctx g (putO oid (.cells T (cs.set j (.d (.sl l)))) (delO id s.objs)) blk' := ⟨hown.2.elim .inr fun hh => .inl (hK _ hh), fun q o m hq hgj => by
          obtain ⟨hne, o', hq', _⟩ := hlk hq
          exact hne (h.inj q id _ _ blk' m cap' hq' hl hgj hgi)⟩
        refine .d (.sl l blk' 0 cap' k (fun i j => cur.getD (i * k + j) undef) hlc hcap hfree hown.1 hkk ?_ ?_)
        · intro i j hi hj
          have hlt : i * k + j < cur.length := by rw [hcs]; exact idx_lt (by omega) hj
          rw [cell_of_heap hh]
          simp [hlt]
        · intro i cs j x hi hx
          obtain ⟨u, hu, hd⟩ := hr' i cs j x hi hx
          have e : cur.getD (i * k + j) undef = u := by simp [List.getD, hu]
          show DRd w _ x (cur.getD (i * k + j) undef)
          rw [e]
          exact hd.keep hst (fun b hb _ => hF b hb)
  refine ⟨g, ⟨h.defers, h.size, ?_, ?_, ?_, ?_, h.os, h.tape, h.output, h.grows, h.keep⟩⟩
  · intro i p hp
    have hp' : (s.sets (.d (.sl l)) js).at i = some p := at_of (by rw [sets_len]; exact at_lt (s := { n := s.n, sl := (s.sets (.d (.sl l)) js).sl, objs := putO oid (.cells T (cs.set j (.d (.sl l)))) (delO id s.objs) }) hp) (at_get (s := { n := s.n, sl := (s.sets (.d (.sl l)) js).sl, objs := putO oid (.cells T (cs.set j (.d (.sl l)))) (delO id s.objs) }) hp)
    rcases sets_get _ js s i p hp' with ⟨h1, rfl⟩ | h2
    · exact frozen _ (h.slots i _ (hjs i h1))
    · exact (h.slots i p h2).keep hst (fun b hb _ => hF b hb) (fun _ _ => rfl)
  · intro q o hq
    obtain ⟨hqi, o', hq', hcase⟩ := hlk hq
    rcases hcase with ⟨rfl, rfl, rfl⟩ | ⟨hqo, rfl⟩
    · cases h.objs q _ ho with
      | cells _ _ blk n' us hgi hh hlen hr h1' =>
        refine .cells T _ blk n' us hgi hh (by simpa using hlen) (fun i p u hp hu => ?_) h1'
        rw [List.getElem?_set] at hp
        split at hp
        · rename_i e
          subst e
          split at hp
          · simp only [Option.some.injEq] at hp
            subst hp
            exact frozen u (hr j _ u hj hu)
          · cases hp
        · exact (hr i p u hp hu).keep hst (fun b hb _ => hF b hb) (fun _ _ => rfl)
    · exact (h.objs q _ hq').keep hst (fun b hb _ => hF b hb) (fun _ _ _ => rfl) rfl (fun _ _ => rfl)
  · intro i j oi oj b n m hi hj
    obtain ⟨_, _, h1, _⟩ := hlk hi
    obtain ⟨_, _, h2, _⟩ := hlk hj
    exact h.inj i j _ _ b n m h1 h2
  · intro q o b n hq
    obtain ⟨_, _, h1, _⟩ := hlk hq
    exact h.own q _ b n h1
theorem PWl.frzC {Q : PQ} {ops : Array Oper} {rest : List Oper} {id oid j n k : Nat} {e T : TypeId} {l : List (List DV)} {cs : List PV} (js : List Nat) (hK : ∀ b, ctx.K b → ctx.S b) (hjs : AllRow s id n js) (hl : look s.objs id = some (.row e k l)) (hn : l.length = n)
    (ho : look s.objs oid = some (.cells T cs)) (hj : cs[j]? = some (.row id n)) (hne : Nat.beq oid id = false)
    (h : PWl P ctx ops Q rest { n := s.n, sl := (s.sets (.d (.sl l)) js).sl, objs := putO oid (.cells T (cs.set j (.d (.sl l)))) (delO id s.objs) }) : PWl P ctx ops Q rest s := PWl.sub (Sub.frzC js hK hl hn hjs.get ho hj hne) h
theorem PWc.frzC {Q : PQ} {c : Code} {id oid j n k : Nat} {e T : TypeId} {l : List (List DV)} {cs : List PV} (js : List Nat) (hK : ∀ b, ctx.K b → ctx.S b) (hjs : AllRow s id n js) (hl : look s.objs id = some (.row e k l)) (hn : l.length = n)
    (ho : look s.objs oid = some (.cells T cs)) (hj : cs[j]? = some (.row id n)) (hne : Nat.beq oid id = false)
    (h : PWc P ctx c Q { n := s.n, sl := (s.sets (.d (.sl l)) js).sl, objs := putO oid (.cells T (cs.set j (.d (.sl l)))) (delO id s.objs) }) : PWc P ctx c Q s := PWc.sub (Sub.frzC js hK hl hn hjs.get ho hj hne) h
end
section
variable {P : Program} {ctx : Ctx} {ops : Array Oper} {Q : PState → Prop} {s : PState}
variable {dst : Option Tmp} {ty : TypeId} {pos : String} {after : Array Edge} {gd : Option (Nat × Bool)}
variable {α : Type} {enc : α → List DV} {L R : List α} {x y : Operand} {id oid m k bs' j : Nat} {t t' e e' T : TypeId} {cs : List PV}
/-- 'append' to the row that a cell names, which forgets it. -/
theorem LR.appC (js : List Nat) (hE : ElemOK P t e k bs') (hu' : P.underlying t' = some (.slice e')) (hx : s.ev x = some (.row id m)) (hm : m = L.length) (hl : look s.objs id = some (.row e k (L.map enc)))
    (hlm : look s.objs oid = some (.cells T cs)) (hall : PV.has.hasL id (cs.set j .junk) = false) (hne : Nat.beq id oid = false)
    (hy : ∀ s' : PState, s'.n = s.n → s'.sl = s.sl → Src ctx s' y (R.map enc) k) (hk : ∀ x, (enc x).length = k) (hb : (L.length + R.length) * bs' ≤ 140737488355328) (h1 : Nat.ble 1 bs' = true) (ha : (s.junks js).aloneX id [oid] = true) :
    Local P ctx ⟨dst, .call ⟨.builtin .append, #[x, y], #[t, t']⟩, ty, pos, after, gd⟩ s ((((s.junks js).setO oid (.cells T (cs.set j .junk))).setO id (.row e k ((L ++ R).map enc))).putD dst (.row id (L ++ R).length)) := by
  have hne' : id ≠ oid := fun e => by rw [e] at hne; simp at hne
  let s2 : PState := { s with objs := putO oid (.cells T (cs.set j .junk)) (delO oid s.objs) }
  have hsub : Sub ctx s s2 := Sub.trans (Sub.junkCell (j := j) hlm) (Sub.drop rfl (fun i q hq => hq) (fun i o ho => by
    rw [look_putdel] at ho
    rw [look_putO]; exact ho))
  have hj2 : ∀ js, (s2.junks js).sl = (s.junks js).sl := fun js => by rw [junks_sl, junks_sl]
  have ha2 : (s2.junks js).alone id = true := by
    unfold PState.aloneX at ha
    unfold PState.alone
    rw [hj2 js]
    rw [Bool.and_eq_true] at ha ⊢
    refine ⟨ha.1, List.all_eq_true.2 fun q hq => ?_⟩
    rw [junks_objs] at hq
    have h2 := List.all_eq_true.1 ha.2
    obtain ⟨qk, qo⟩ := q
    rcases putO_mem hq with h3 | h3
    · cases h3; simpa [Ob.has] using hall
    · have h4 := delO_mem h3
      have h5 := h2 (qk, qo) (by rw [junks_objs]; exact h4.2)
      have h6 : inL [oid] qk = false := by
        rw [inL_false]; simpa using h4.1
      simpa [h6] using h5
  have hl2 : look s2.objs id = some (.row e k (L.map enc)) := by
    show look (putO _ _ _) _ = _
    rw [look_putdel, if_neg hne']; exact hl
  refine Local.pre hsub ((LR.appT (enc := enc) (L := L) (R := R) (s := s2) js hE hu' (by cases x <;> exact hx) hm hl2 (hy s2 rfl rfl) hk hb h1 ha2).post ?_)
  refine Sub.drop ?_ (fun i q hq => ?_) (fun i o ho => ?_)
  · simp only [putD_len]
    show (s2.junks js).n = (s.junks js).n
    rw [junks_n, junks_n]
  · have hsl : (((s2.junks js).setO id (.row e k ((L ++ R).map enc))).putD dst (.row id (L ++ R).length)).sl = ((((s.junks js).setO oid (.cells T (cs.set j .junk))).setO id (.row e k ((L ++ R).map enc))).putD dst (.row id (L ++ R).length)).sl := by
      cases dst <;> simp [PState.putD, PState.put, PState.setO, hj2]
    have hn : (((s2.junks js).setO id (.row e k ((L ++ R).map enc))).putD dst (.row id (L ++ R).length)).n = ((((s.junks js).setO oid (.cells T (cs.set j .junk))).setO id (.row e k ((L ++ R).map enc))).putD dst (.row id (L ++ R).length)).n := by
      simp only [putD_len]
      show (s2.junks js).n = (s.junks js).n
      rw [junks_n, junks_n]
    rw [at_eq] at hq ⊢
    rw [hsl, hn]; exact hq
  · rw [putD_objs] at ho ⊢
    simp only [PState.setO, junks_objs] at ho ⊢
    rw [look_putO] at ho ⊢
    by_cases hi : i = id
    · rw [if_pos hi] at ho ⊢; exact ho
    · rw [if_neg hi] at ho ⊢
      rw [look_putO] at ho
      show look (putO _ _ (delO _ _)) _ = _
      rw [look_putdel]; exact ho
end
end Go.Ep
namespace Go.Ep
/-- An end whose results lie in variables of the call's own. -/
theorem EndsO.mkX {G : Type} {P : Program} {ctx : Ctx} {fn : Func} {pl ex : List (Nat × Ob)} {r : PV} {os' : G → List (Nat × Ob)} {e : Exit} {s : PState} (gh : G) {n : Nat} {sl : List (Nat × PV)} {ps : List PV} (he : e = .normal ∨ e = .ret) (hsub : Sub ctx s ⟨n, sl, (os' gh ++ pl) ++ ex⟩)
    (hres : ResLO P ⟨n, sl, (os' gh ++ pl) ++ ex⟩ fn.results.toList ps) (hq : tupOf ps = r) (hd : (pl.all fun x => !inL ((os' gh).map (·.1)) x.1) = true) : EndsO P ctx fn pl r os' e s := by
  refine ⟨he, gh, ps, _, hsub, hres, hq, fun id o h => look_left (look_left h), fun id o h => look_left ?_⟩
  rw [look_append]
  cases hl : look (os' gh) id with
  | none => rw [Option.none_or]; exact h
  | some q =>
    have h1 := List.all_eq_true.1 hd _ (look_mem h)
    have h2 := inL_iff.2 (look_key hl)
    rw [h2] at h1; cases h1
end Go.Ep

namespace Go.Ep
open Go.RowKit
section
variable {P : Program} {ctx : Ctx} {Q : PQ} {s : PState}
variable {dst : Option Tmp} {ty : TypeId} {pos : String} {after : Array Edge} {gd : Option (Nat × Bool)}
theorem LR.bytesStr {x : Operand} {src dt e : TypeId} {l : List Int} (hs : P.underlying src = some (.slice e)) (he : P.underlying e = some (.int .u8)) (hd : P.underlying dt = some .string) (hx : s.ev x = some (.d (.sl (l.map (eK .u8))))) :
    Local P ctx ⟨dst, .convert src dt x, ty, pos, after, gd⟩ s (s.putD dst (.d (.v (.string (strL l))))) :=
  local_pure (o := ⟨dst, .convert src dt x, ty, pos, after, gd⟩) fun a w g hg => by
    have h := hg.ev hx
    generalize hv : a.eval x = v at h
    refine ⟨.string (strL l), ?_, .d (.v _ rfl)⟩
    generalize hq : l.map (eK .u8) = q at h
    cases h with
    | d h =>
      cases h with
      | nil ao cap =>
        have hl : l = [] := by simpa using hq
        subst hl
        simp only [execOp, hv, Sem.run_bind, run_convert_bytes_string w src dt e ao 0 cap hs he hd]
        cases ao with
        | none => simp [Conv.bytesToString, strL, Result.andThen]
        | some ad =>
          have := run_bytesToString (P := P) w ad 0 cap [] (by simp [loadCells, loadCellsFrom])
          rw [this]
          rfl
      | sl _ b off cap k c hl hcap hS hb hk hc hr =>
        subst hq
        simp only [execOp, hv, Sem.run_bind, run_convert_bytes_string w src dt e _ _ cap hs he hd, List.length_map]
        have hload := run_loadCells_list (P := P) w ⟨b, off, none⟩ (l.map (Value.int .u8)) (fun j v hj => by
          rw [List.getElem?_map] at hj
          cases hlj : l[j]? with
          | none => rw [hlj] at hj; cases hj
          | some n =>
            rw [hlj] at hj
            simp only [Option.map_some, Option.some.injEq] at hj
            subst hj
            have hjl : j < l.length := (List.getElem?_eq_some_iff.1 hlj).1
            have hkk := hk j (eK .u8 n) (by simp [hlj])
            have hk1 : k = 1 := by simpa [eK] using hkk.symm
            subst hk1
            have h1 := hc j 0 (by simpa using hjl) (by omega)
            have h2 := hr j (eK .u8 n) 0 (.v (.int .u8 n)) (by simp [hlj]) rfl
            generalize c j 0 = q at h1 h2
            cases h2
            simp only [Nat.mul_one, Nat.add_zero] at h1
            by_cases hj0 : j = 0
            · subst hj0; simpa [Addr.add] using h1
            · simpa [Addr.add, hj0] using h1)
        rw [List.length_map] at hload
        rw [run_bytesToString w _ l.length cap l hload]
        rfl
end
end Go.Ep
namespace Go.Ep
open Go.RowKit
section
variable {P : Program} {ctx : Ctx} {s : PState}
variable {dst : Option Tmp} {ty : TypeId} {pos : String} {after : Array Edge} {gd : Option (Nat × Bool)}
end
end Go.Ep

namespace Go.Proofs
open Go.Ep
set_option maxHeartbeats 1000000
set_option maxRecDepth 100000
set_option linter.unusedVariables false
set_option linter.unusedSimpArgs false


theorem ctx_told_ok (c1 : List TPart) (r0 : List (Int × List TRun)) (h : (ctx_told c1).wp (· = r0)) : PMap Try.prog 130 [.d (.sl (List.map TPart.e c1))] [.u16] false (encM kI (eL TRun.e) r0) := by
  refine PMap.intro (sl := [(0, _)]) Try.func130 rfl Try.ntmps130 rfl rfl ?_
  intro ctx hK
  refine PWc.seq ?_
  refine PWc.region ?_
  refine PWl.step (LR.assign rfl) rfl ?_
  refine PWl.nil ?_
  refine PWc.seq ?_
  refine PWc.region ?_
  refine PWl.step (LR.makeMap [.u16] false rfl) rfl ?_
  refine PWl.step (LR.assign rfl) rfl ?_
  refine PWl.nil ?_
  refine PWc.seq ?_
  refine PWc.seq ?_
  refine PWc.region ?_
  refine PWl.step (LR.move rfl) rfl ?_
  refine PWl.step (LR.lenMap (enc := TPart.e) (L := c1) Try.underlying24 rfl) rfl ?_
  refine PWl.step (LR.move rfl) rfl ?_
  refine PWl.nil ?_
  refine PWc.block ?_
  replace h := iNeed h
  obtain ⟨hy10, h⟩ := h
  have hN := hy10.1
  refine PWc.loopRows (bid := 0) (N := List.length c1) (mid := 6) (n := 28) (ks := [.u16]) (e := 114) (k := 2) (fun i => [(3, .mp 6), (7, .d (.sl (List.map TPart.e c1))), (8, .d (.v (.int .i64 (List.length c1 : Int)))), (9, .d (.v (.int .i64 (i : Int))))]) (fun i => rowsOf kI TRun.e (AL.grow [] ((List.take i c1).filterMap ctx_toldF))) [(3, .mp 6)] [] 0 hK (by decide) (fun i x hx id h => by simp only [List.mem_cons, List.not_mem_nil, or_false] at hx; rcases hx with rfl | rfl | rfl | rfl <;> first | (simp [PV.has] at h; done) | (simp [PV.has] at h; exact h.symm) | (simp [PV.has] at h; omega)) rfl (fun i => rowsOf_plain (fun x d hd => by simp only [TRun.e, List.mem_cons, List.not_mem_nil, or_false] at hd; rcases hd with rfl | rfl <;> exact ⟨_, rfl⟩) _) (Sub.of rfl (.cons rfl rfl <| .cons rfl rfl <| .cons rfl rfl <| .cons rfl rfl <| .nil) (.cons rfl rfl <| .nil)) (fun i hi => ?_) (encM kI (eL TRun.e) (AL.grow ([] : List (Int × List TRun)) (List.filterMap ctx_toldF c1))) (by simp only [List.take_length]; exact rowsM_of _) (fun ctx vm bs ck => ?_) (fun bs ck => ?_)
  · obtain ⟨p, hp⟩ : ∃ p, c1[i]? = some p := ⟨_, List.getElem?_eq_getElem hi⟩
    have hidx : (0 : Int) ≤ (i : Int) ∧ c1[(i : Int).toNat]? = some p := ⟨by omega, by simpa using hp⟩
    have htk := AL.grow_take hp ctx_toldF
    have hwi := wrapNat (i := i) (by omega)
    by_cases hd : 0 < p.dev
    · have hf : ctx_toldF p = some (p.dev, p.runs) := by simp [ctx_toldF, hd]
      have hbd := AL.grow_bound hy10 hp hf
      rw [hf] at htk
      rcases pfind_rows (eK := kI) (enc := TRun.e) kI_inj (p.dev) (AL.grow [] ((List.take i c1).filterMap ctx_toldF)) with ⟨j, l, h1, h2, h3, h4⟩ | ⟨h1, h2, h3⟩
      · simp only [h3] at hbd
        refine .found (nl := List.length l) (nl' := (List.length (l ++ p.runs))) (l := (List.map TRun.e l)) (l' := (List.map TRun.e (l ++ p.runs))) (by simp) (by simp) h2 (by rw [htk]; simp only [AL.grow, Option.toList, List.foldl] at h3 h4 ⊢; rw [h3]; exact h4 _) fun ctx vm bs ck hvm => ?_
        have hpf : pfind (kI (p.dev)) (keysP vm) 0 = some j := by rw [keysP_fst hvm]; exact h1
        have h : (M.bind (M.idx c1 (i : Int)) fun x2 => M.need ((List.length l + List.length x2.runs) * 16 ≤ 140737488355328) <| M.pure ()).wp (fun _ => True) := ⟨p, hidx, hbd, trivial⟩
        refine PWc.seq ?_
        refine PWc.region ?_
        refine PWl.step (LR.lss rfl rfl) rfl ?_
        refine PWl.nil ?_
        refine PWc.seq ?_
        refine PWc.condT (congrArg (fun b => some (PV.d (.v (.bool b)))) (decide_eq_true (Int.ofNat_lt.2 hi))) ?_
        refine PWc.skip ?_
        refine PWc.seq ?_
        refine PWc.block ?_
        refine PWc.seq ?_
        refine PWc.region ?_
        replace h := iIdx h
        obtain ⟨x2, hy3, h⟩ := h
        have hE := idxU hy3 hidx
        subst hE
        refine PWl.step (LR.idxT (enc := TPart.e) (L := c1) (y := x2) Try.underlying24 Try.sizeOf101 rfl rfl hy3 (fun _ => rfl)) rfl ?_
        refine PWl.step (LR.loadEpAgg (ys := [_, _]) Try.isAgg101 Try.sizeOf101 rfl rfl rfl) rfl ?_
        refine PWl.step (LR.allocZ (cs := [_, _]) Try.zeroValue101 rfl rfl rfl rfl) rfl ?_
        refine PWl.step (LR.storeB (ns := [_, _]) Try.sizeOf101 rfl rfl rfl rfl rfl rfl rfl) rfl ?_
        refine PWl.nil ?_
        refine PWc.seq ?_
        refine PWc.region ?_
        refine PWl.step (LR.fieldRef Try.underlying101 rfl Try.sizeOf28 (by decide) rfl rfl) rfl ?_
        refine PWl.step (LR.loadRef Try.isAgg28 rfl rfl rfl) rfl ?_
        refine PWl.step (LR.gtr rfl rfl) rfl ?_
        refine PWl.nil ?_
        refine PWc.condT (congrArg (fun b => some (PV.d (.v (.bool b)))) (decide_eq_true hd)) ?_
        refine PWc.re (tl := [(3, _), (5, _), (7, _), (8, _), (9, _)]) (to := [(5, _), (6, _), (50, _)]) rfl (.cons rfl rfl <| .cons rfl rfl <| .cons rfl rfl <| .cons rfl rfl <| .cons rfl rfl <| .nil) (.cons rfl rfl <| .cons rfl rfl <| .cons rfl rfl <| .nil) ?_
        refine PWc.regionE [⟨[16], [], [], [], [], [6], [], []⟩, ⟨[17], [], [], [], [], [5], [], []⟩, ⟨[18], [], [5], [], [], [], [], []⟩, ⟨[19], [], [], [], [], [6], [], []⟩, ⟨[20], [], [], [], [], [5], [], []⟩, ⟨[21], [], [5], [], [], [], [], []⟩, ⟨[22], [], [6], [], [], [50], [], []⟩, ⟨[23], [], [], [], [], [5], [], []⟩, ⟨[24], [], [5], [], [], [], [], []⟩, ⟨[22, 25], [6, 50], [6, 50], [], [(50, [22])], [50], [], [6]⟩, ⟨[], [6], [6, 50], [], [], [], [50], []⟩] (by kernel_rfl) (by kernel_rfl) rfl ?_
        refine PQe.stepP (fun _ he ho => LR.move (he rfl rfl)) (.inl rfl) rfl ?_
        refine PQe.stepP (fun _ he ho => LR.fieldRef Try.underlying101 rfl Try.sizeOf28 (by decide) rfl (he rfl rfl)) (.inl rfl) rfl ?_
        refine PQe.stepP (fun _ he ho => LR.loadRef Try.isAgg28 (he rfl rfl) (ho rfl rfl) rfl) (.inl rfl) rfl ?_
        refine PQe.stepP (fun _ he ho => LR.move (he rfl rfl)) (.inl rfl) rfl ?_
        refine PQe.stepP (fun _ he ho => LR.fieldRef Try.underlying101 rfl Try.sizeOf28 (by decide) rfl (he rfl rfl)) (.inl rfl) rfl ?_
        refine PQe.stepP (fun _ he ho => LR.loadRef Try.isAgg28 (he rfl rfl) (ho rfl rfl) rfl) (.inl rfl) rfl ?_
        refine PQe.stepP (fun _ he ho => LR.lookupP Try.underlying126 key126 (he rfl rfl) (ho rfl rfl) (he rfl rfl) rfl hpf rfl) (.inl rfl) rfl ?_
        refine PQe.stepP (fun _ he ho => LR.fieldRef Try.underlying101 rfl Try.sizeOf34 (by decide) rfl (he rfl rfl)) (.inl rfl) rfl ?_
        refine PQe.stepP (fun _ he ho => LR.loadRef Try.isAgg34 (he rfl rfl) (ho rfl rfl) rfl) (.inl rfl) rfl ?_
        replace h := iNeed h
        obtain ⟨hy4, h⟩ := h
        refine PQe.stepX [22] (fun _ he ho ha => LR.appP (enc := TRun.e) (L := l) (R := x2.runs) [22] elem34 Try.underlying34 (he rfl rfl) rfl (ho rfl rfl) (ho rfl rfl) rfl (fun _ h1 h2 => Src.slT (enc := TRun.e) (R := x2.runs) (evSame h1 h2 (he rfl rfl)) (fun _ => rfl)) (fun _ => rfl) hy4 rfl ha) rfl rfl (.inl rfl) rfl ?_
        refine PQe.stepS (fun _ he ho => LR.mapUpdateP Try.underlying126 key126 (he rfl rfl) (ho rfl rfl) (he rfl rfl) rfl rfl (he rfl rfl) hpf) (.inl rfl) rfl ?_
        refine PQe.nil ?_
        refine PWc.region ?_
        refine PWl.step (LR.addW rfl rfl) rfl ?_
        refine PWl.step (LR.move rfl) rfl ?_
        refine PWl.nil ?_
        exact ⟨rfl, Sub.of rfl (.cons rfl rfl <| .cons rfl rfl <| .cons rfl rfl <| .cons rfl (congrArg (fun z => PV.d (.v (.int .i64 z))) hwi) <| .nil) (.cons rfl rfl <| .cons rfl rfl <| .nil)⟩
      · simp only [h2, List.length_nil, Nat.zero_add] at hbd
        refine .fresh (q := 25) (nl' := (List.length p.runs)) (l' := (List.map TRun.e p.runs)) (by simp) (by decide) (by rw [htk]; simp only [AL.grow, Option.toList, List.foldl] at h2 h3 ⊢; rw [h2]; exact h3 _) fun ctx vm bs ck hvm => ?_
        have hpf : pfind (kI (p.dev)) (keysP vm) 0 = none := by rw [keysP_fst hvm]; exact h1
        have h : (M.bind (M.idx c1 (i : Int)) fun x5 => M.need (List.length x5.runs * 16 ≤ 140737488355328) <| M.pure ()).wp (fun _ => True) := ⟨p, hidx, hbd, trivial⟩
        refine PWc.seq ?_
        refine PWc.region ?_
        refine PWl.step (LR.lss rfl rfl) rfl ?_
        refine PWl.nil ?_
        refine PWc.seq ?_
        refine PWc.condT (congrArg (fun b => some (PV.d (.v (.bool b)))) (decide_eq_true (Int.ofNat_lt.2 hi))) ?_
        refine PWc.skip ?_
        refine PWc.seq ?_
        refine PWc.block ?_
        refine PWc.seq ?_
        refine PWc.region ?_
        replace h := iIdx h
        obtain ⟨x5, hy6, h⟩ := h
        have hE := idxU hy6 hidx
        subst hE
        refine PWl.step (LR.idxT (enc := TPart.e) (L := c1) (y := x5) Try.underlying24 Try.sizeOf101 rfl rfl hy6 (fun _ => rfl)) rfl ?_
        refine PWl.step (LR.loadEpAgg (ys := [_, _]) Try.isAgg101 Try.sizeOf101 rfl rfl rfl) rfl ?_
        refine PWl.step (LR.allocZ (cs := [_, _]) Try.zeroValue101 rfl rfl rfl rfl) rfl ?_
        refine PWl.step (LR.storeB (ns := [_, _]) Try.sizeOf101 rfl rfl rfl rfl rfl rfl rfl) rfl ?_
        refine PWl.nil ?_
        refine PWc.seq ?_
        refine PWc.region ?_
        refine PWl.step (LR.fieldRef Try.underlying101 rfl Try.sizeOf28 (by decide) rfl rfl) rfl ?_
        refine PWl.step (LR.loadRef Try.isAgg28 rfl rfl rfl) rfl ?_
        refine PWl.step (LR.gtr rfl rfl) rfl ?_
        refine PWl.nil ?_
        refine PWc.condT (congrArg (fun b => some (PV.d (.v (.bool b)))) (decide_eq_true hd)) ?_
        refine PWc.re (tl := [(3, _), (5, _), (7, _), (8, _), (9, _)]) (to := [(5, _), (6, _)]) rfl (.cons rfl rfl <| .cons rfl rfl <| .cons rfl rfl <| .cons rfl rfl <| .cons rfl rfl <| .nil) (.cons rfl rfl <| .cons rfl rfl <| .nil) ?_
        refine PWc.regionE [⟨[16], [], [], [], [], [6], [], []⟩, ⟨[17], [], [], [], [], [5], [], []⟩, ⟨[18], [], [5], [], [], [], [], []⟩, ⟨[19], [], [], [], [], [6], [], []⟩, ⟨[20], [], [], [], [], [5], [], []⟩, ⟨[21], [], [5], [], [], [], [], []⟩, ⟨[22], [], [6], [], [], [], [], []⟩, ⟨[23], [], [], [], [], [5], [], []⟩, ⟨[24], [], [5], [], [], [], [], []⟩, ⟨[25], [25], [], [25], [], [25], [], []⟩, ⟨[], [6], [6, 25], [], [], [], [25], []⟩] (by kernel_rfl) (by kernel_rfl) rfl ?_
        refine PQe.stepP (fun _ he ho => LR.move (he rfl rfl)) (.inl rfl) rfl ?_
        refine PQe.stepP (fun _ he ho => LR.fieldRef Try.underlying101 rfl Try.sizeOf28 (by decide) rfl (he rfl rfl)) (.inl rfl) rfl ?_
        refine PQe.stepP (fun _ he ho => LR.loadRef Try.isAgg28 (he rfl rfl) (ho rfl rfl) rfl) (.inl rfl) rfl ?_
        refine PQe.stepP (fun _ he ho => LR.move (he rfl rfl)) (.inl rfl) rfl ?_
        refine PQe.stepP (fun _ he ho => LR.fieldRef Try.underlying101 rfl Try.sizeOf28 (by decide) rfl (he rfl rfl)) (.inl rfl) rfl ?_
        refine PQe.stepP (fun _ he ho => LR.loadRef Try.isAgg28 (he rfl rfl) (ho rfl rfl) rfl) (.inl rfl) rfl ?_
        refine PQe.stepP (fun _ he ho => LR.lookupPN Try.underlying126 key126 (he rfl rfl) (ho rfl rfl) (he rfl rfl) rfl Try.zeroValue34 rfl hpf) (.inl rfl) rfl ?_
        refine PQe.stepP (fun _ he ho => LR.fieldRef Try.underlying101 rfl Try.sizeOf34 (by decide) rfl (he rfl rfl)) (.inl rfl) rfl ?_
        refine PQe.stepP (fun _ he ho => LR.loadRef Try.isAgg34 (he rfl rfl) (ho rfl rfl) rfl) (.inl rfl) rfl ?_
        replace h := iNeed h
        obtain ⟨hy7, h⟩ := h
        refine PQe.stepN (fun _ he ho hf => LR.appNilX (enc := TRun.e) (R := x5.runs) elem34 Try.underlying34 (he rfl rfl) hf (Src.slT (enc := TRun.e) (R := x5.runs) (evObjs (he rfl rfl)) (fun _ => rfl)) (fun _ => rfl) hy7 rfl (fresh_alone hf)) rfl (.inl rfl) rfl ?_
        refine PQe.stepS (fun _ he ho => LR.mapUpdatePN Try.underlying126 key126 (he rfl rfl) (ho rfl rfl) (he rfl rfl) rfl rfl (he rfl rfl) hpf) (.inl rfl) rfl ?_
        refine PQe.nil ?_
        refine PWc.region ?_
        refine PWl.step (LR.addW rfl rfl) rfl ?_
        refine PWl.step (LR.move rfl) rfl ?_
        refine PWl.nil ?_
        exact ⟨rfl, Sub.of rfl (.cons rfl rfl <| .cons rfl rfl <| .cons rfl rfl <| .cons rfl (congrArg (fun z => PV.d (.v (.int .i64 z))) hwi) <| .nil) (.cons rfl rfl <| .cons rfl rfl <| .nil)⟩
    · have hf : ctx_toldF p = none := by simp [ctx_toldF, hd]
      rw [hf] at htk
      refine .skip (by rw [htk]; rfl) fun ctx vm bs ck => ?_
      have h : (M.bind (M.idx c1 (i : Int)) fun x8 => M.pure ()).wp (fun _ => True) := ⟨p, hidx, trivial⟩
      refine PWc.seq ?_
      refine PWc.region ?_
      refine PWl.step (LR.lss rfl rfl) rfl ?_
      refine PWl.nil ?_
      refine PWc.seq ?_
      refine PWc.condT (congrArg (fun b => some (PV.d (.v (.bool b)))) (decide_eq_true (Int.ofNat_lt.2 hi))) ?_
      refine PWc.skip ?_
      refine PWc.seq ?_
      refine PWc.block ?_
      refine PWc.seq ?_
      refine PWc.region ?_
      replace h := iIdx h
      obtain ⟨x8, hy9, h⟩ := h
      have hE := idxU hy9 hidx
      subst hE
      refine PWl.step (LR.idxT (enc := TPart.e) (L := c1) (y := x8) Try.underlying24 Try.sizeOf101 rfl rfl hy9 (fun _ => rfl)) rfl ?_
      refine PWl.step (LR.loadEpAgg (ys := [_, _]) Try.isAgg101 Try.sizeOf101 rfl rfl rfl) rfl ?_
      refine PWl.step (LR.allocZ (cs := [_, _]) Try.zeroValue101 rfl rfl rfl rfl) rfl ?_
      refine PWl.step (LR.storeB (ns := [_, _]) Try.sizeOf101 rfl rfl rfl rfl rfl rfl rfl) rfl ?_
      refine PWl.nil ?_
      refine PWc.seq ?_
      refine PWc.region ?_
      refine PWl.step (LR.fieldRef Try.underlying101 rfl Try.sizeOf28 (by decide) rfl rfl) rfl ?_
      refine PWl.step (LR.loadRef Try.isAgg28 rfl rfl rfl) rfl ?_
      refine PWl.step (LR.gtr rfl rfl) rfl ?_
      refine PWl.nil ?_
      refine PWc.condF (congrArg (fun b => some (PV.d (.v (.bool b)))) (decide_eq_false hd)) ?_
      refine PWc.skip ?_
      refine PWc.region ?_
      refine PWl.step (LR.addW rfl rfl) rfl ?_
      refine PWl.step (LR.move rfl) rfl ?_
      refine PWl.nil ?_
      exact ⟨rfl, Sub.of rfl (.cons rfl rfl <| .cons rfl rfl <| .cons rfl rfl <| .cons rfl (congrArg (fun z => PV.d (.v (.int .i64 z))) hwi) <| .nil) (.cons rfl rfl <| .nil)⟩
  · have h : (M.pure ()).wp (fun _ => True) := trivial
    refine PWc.seq ?_
    refine PWc.region ?_
    refine PWl.step (LR.lss rfl rfl) rfl ?_
    refine PWl.nil ?_
    refine PWc.seq ?_
    refine PWc.condF (congrArg (fun b => some (PV.d (.v (.bool b)))) (decide_eq_false (by omega))) ?_
    refine PWc.exit ?_
    exact ⟨rfl, Sub.of rfl (.cons rfl rfl <| .nil) (.cons rfl rfl <| .nil)⟩
  · refine PWc.seq ?_
    refine PWc.region ?_
    refine PWl.step (LR.move rfl) rfl ?_
    refine PWl.step (LR.assign rfl) rfl ?_
    refine PWl.nil ?_
    refine PWc.ret ?_
    replace h : _ = r0 := h
    subst h
    exact ⟨.inr rfl, 2, 6, _, _, rfl, rfl, rfl⟩

theorem runs_Norm_ok (l1 : List TRun) (r0 : List TRun) (h : (runs_Norm l1).wp (· = r0)) : PRow Try.prog 138 [.d (.sl (List.map TRun.e l1))] 114 2 (List.map TRun.e r0) := by
  refine PRow.intro (sl := [(0, _)]) Try.func138 rfl Try.ntmps138 rfl rfl ?_
  intro ctx hK
  refine PWc.seq ?_
  refine PWc.region ?_
  refine PWl.step (LR.assignNilRow 114 2 rfl) rfl ?_
  refine PWl.nil ?_
  refine PWc.seq ?_
  refine PWc.region ?_
  refine PWl.step (LR.assignNilRow 114 2 rfl) rfl ?_
  refine PWl.nil ?_
  refine PWc.seq ?_
  refine PWc.seq ?_
  refine PWc.region ?_
  refine PWl.step (LR.move rfl) rfl ?_
  refine PWl.step (LR.lenMap (enc := TRun.e) (L := l1) Try.underlying34 rfl) rfl ?_
  refine PWl.step (LR.move rfl) rfl ?_
  refine PWl.nil ?_
  refine PWc.jn (iBind h) (fun (some2 : List TRun) (_ : Unit) => ⟨78, [(3, .row 3 (List.length some2))], [(3, .row 114 2 (List.map TRun.e some2))]⟩) (fun h => ?_) ?_
  · refine PWc.block ?_
    refine PWc.loopM (fun (⟨v23, some24⟩ : Int × List TRun) (_ : Unit) => ⟨78, [(3, .row 3 (List.length some24)), (10, .d (.sl (List.map TRun.e l1))), (11, .d (.v (.int .i64 (List.length l1 : Int)))), (12, .d (.v (.int .i64 v23)))], [(3, .row 114 2 (List.map TRun.e some24))]⟩) () h (Sub.of rfl (.cons rfl rfl <| .cons rfl rfl <| .cons rfl rfl <| .cons rfl rfl <| .nil) (.cons rfl rfl <| .nil)) ?_
    rintro N ⟨v23, some24⟩ _ h
    refine PWc.seq ?_
    refine PWc.region ?_
    refine PWl.step (LR.lss rfl rfl) rfl ?_
    refine PWl.nil ?_
    refine PWc.seq ?_
    refine PWc.cond rfl (fun hc25 => ?_) (fun hc25 => ?_)
    · replace h := iT hc25 h
      refine PWc.skip ?_
      refine PWc.seq ?_
      refine PWc.jn (iBind h) (fun (some26 : List TRun) (_ : Unit) => ⟨78, [(3, .row 3 (List.length some26)), (10, .d (.sl (List.map TRun.e l1))), (11, .d (.v (.int .i64 (List.length l1 : Int)))), (12, .d (.v (.int .i64 v23)))], [(3, .row 114 2 (List.map TRun.e some26))]⟩) (fun h => ?_) ?_
      · refine PWc.block ?_
        refine PWc.seq ?_
        refine PWc.region ?_
        replace h := iIdx h
        obtain ⟨x27, hy28, h⟩ := h
        refine PWl.step (LR.idxT (enc := TRun.e) (L := l1) (y := x27) Try.underlying34 Try.sizeOf114 rfl rfl hy28 (fun _ => rfl)) rfl ?_
        refine PWl.step (LR.loadEpAgg (ys := [_, _]) Try.isAgg114 Try.sizeOf114 rfl rfl rfl) rfl ?_
        refine PWl.step (LR.allocZ (cs := [_, _]) Try.zeroValue114 rfl rfl rfl rfl) rfl ?_
        refine PWl.step (LR.storeB (ns := [_, _]) Try.sizeOf114 rfl rfl rfl rfl rfl rfl rfl) rfl ?_
        refine PWl.nil ?_
        refine PWc.seq ?_
        refine PWc.jn (iBind h) (fun (v29 : Bool) (_ : Unit) => ⟨78, [(3, .row 3 (List.length some24)), (5, .ref 5 0), (10, .d (.sl (List.map TRun.e l1))), (11, .d (.v (.int .i64 (List.length l1 : Int)))), (12, .d (.v (.int .i64 v23))), (30, .d (.v (.bool v29)))], [(3, .row 114 2 (List.map TRun.e some24)), (5, .cells 114 [.d (.v (.int .u64 x27.lo)), .d (.v (.int .u64 x27.hi))])]⟩) (fun h => ?_) ?_
        · refine PWc.region ?_
          refine PWl.step (LR.fieldRef Try.underlying114 rfl Try.sizeOf36 (by decide) rfl rfl) rfl ?_
          refine PWl.step (LR.loadRef Try.isAgg36 rfl rfl rfl) rfl ?_
          refine PWl.step (LR.gtr rfl rfl) rfl ?_
          refine PWl.step (LR.move rfl) rfl ?_
          refine PWl.split (d := 19) rfl (fun hg30 => ?_) (fun hg30 => ?_)
          · replace h := iT hg30 h
            refine PWl.guardT (LR.fieldRef Try.underlying114 rfl Try.sizeOf36 (by decide) rfl rfl) rfl rfl rfl ?_
            refine PWl.guardT (LR.loadRef Try.isAgg36 rfl rfl rfl) rfl rfl rfl ?_
            refine PWl.guardT (LR.fieldRef Try.underlying114 rfl Try.sizeOf36 (by decide) rfl rfl) rfl rfl rfl ?_
            refine PWl.guardT (LR.loadRef Try.isAgg36 rfl rfl rfl) rfl rfl rfl ?_
            refine PWl.guardT (LR.leq rfl rfl) rfl rfl rfl ?_
            refine PWl.step (LR.pickT rfl rfl) rfl ?_
            refine PWl.step (LR.move rfl) rfl ?_
            refine PWl.split (d := 26) rfl (fun hg31 => ?_) (fun hg31 => ?_)
            · replace h := iT hg31 h
              refine PWl.re (tl := [(3, _), (5, _), (10, _), (11, _), (12, _), (20, _), (21, _), (22, _), (23, _), (24, _), (26, _)]) (to := [(3, _), (5, _)]) rfl (.cons rfl rfl <| .cons rfl rfl <| .cons rfl rfl <| .cons rfl rfl <| .cons rfl rfl <| .cons rfl rfl <| .cons rfl rfl <| .cons rfl rfl <| .cons rfl rfl <| .cons rfl rfl <| .cons rfl rfl <| .nil) (.cons rfl rfl <| .cons rfl rfl <| .nil) ?_
              refine PWl.guardT (LR.fieldRef Try.underlying114 rfl Try.sizeOf36 (by decide) rfl rfl) rfl rfl rfl ?_
              refine PWl.guardT (LR.loadRef Try.isAgg36 rfl rfl rfl) rfl rfl rfl ?_
              refine PWl.guardT (LR.leq rfl rfl) rfl rfl rfl ?_
              refine PWl.step (LR.pickT rfl rfl) rfl ?_
              refine PWl.nil ?_
              exact ⟨(decide (x27.hi ≤ 281474976710655)), (), h, Sub.of rfl (.cons rfl rfl <| .cons rfl rfl <| .cons rfl rfl <| .cons rfl rfl <| .cons rfl rfl <| .cons rfl rfl <| .nil) (.cons rfl rfl <| .cons rfl rfl <| .nil)⟩
            · replace h := iF hg31 h
              refine PWl.re (tl := [(3, _), (5, _), (10, _), (11, _), (12, _), (20, _), (21, _), (22, _), (23, _), (24, _), (26, _)]) (to := [(3, _), (5, _)]) rfl (.cons rfl rfl <| .cons rfl rfl <| .cons rfl rfl <| .cons rfl rfl <| .cons rfl rfl <| .cons rfl rfl <| .cons rfl rfl <| .cons rfl rfl <| .cons rfl rfl <| .cons rfl rfl <| .cons rfl rfl <| .nil) (.cons rfl rfl <| .cons rfl rfl <| .nil) ?_
              refine PWl.guardF rfl rfl rfl (by decide) ?_
              refine PWl.guardF rfl rfl rfl (by decide) ?_
              refine PWl.guardF rfl rfl rfl (by decide) ?_
              refine PWl.step (LR.pickF rfl rfl) rfl ?_
              refine PWl.nil ?_
              exact ⟨false, (), h, Sub.of rfl (.cons rfl rfl <| .cons rfl rfl <| .cons rfl rfl <| .cons rfl rfl <| .cons rfl rfl <| .cons rfl rfl <| .nil) (.cons rfl rfl <| .cons rfl rfl <| .nil)⟩
          · replace h := iF hg30 h
            refine PWl.guardF rfl rfl rfl (by decide) ?_
            refine PWl.guardF rfl rfl rfl (by decide) ?_
            refine PWl.guardF rfl rfl rfl (by decide) ?_
            refine PWl.guardF rfl rfl rfl (by decide) ?_
            refine PWl.guardF rfl rfl rfl (by decide) ?_
            refine PWl.step (LR.pickF rfl rfl) rfl ?_
            refine PWl.step (LR.move rfl) rfl ?_
            refine PWl.guardF rfl rfl rfl (by decide) ?_
            refine PWl.re (tl := [(3, _), (5, _), (10, _), (11, _), (12, _), (20, _), (21, _), (22, _), (23, _), (24, _), (26, _), (27, _)]) (to := [(3, _), (5, _)]) rfl (.cons rfl rfl <| .cons rfl rfl <| .cons rfl rfl <| .cons rfl rfl <| .cons rfl rfl <| .cons rfl rfl <| .cons rfl rfl <| .cons rfl rfl <| .cons rfl rfl <| .cons rfl rfl <| .cons rfl rfl <| .cons rfl rfl <| .nil) (.cons rfl rfl <| .cons rfl rfl <| .nil) ?_
            refine PWl.guardF rfl rfl rfl (by decide) ?_
            refine PWl.guardF rfl rfl rfl (by decide) ?_
            refine PWl.step (LR.pickF rfl rfl) rfl ?_
            refine PWl.nil ?_
            exact ⟨false, (), h, Sub.of rfl (.cons rfl rfl <| .cons rfl rfl <| .cons rfl rfl <| .cons rfl rfl <| .cons rfl rfl <| .cons rfl rfl <| .nil) (.cons rfl rfl <| .cons rfl rfl <| .nil)⟩
        · rintro v29 _ h
          refine PWc.cond rfl (fun hc32 => ?_) (fun hc32 => ?_)
          · replace h := iT hc32 h
            refine PWc.region ?_
            refine PWl.step (LR.move rfl) rfl ?_
            refine PWl.step (LR.loadRefAgg (ps := [_, _]) Try.isAgg114 Try.sizeOf114 rfl rfl rfl rfl) rfl ?_
            refine PWl.step (LR.buildSliceD [.tmp 32] elem34 rfl rfl (.cons rfl rfl rfl <| .nil) (by decide) (by decide)) rfl ?_
            replace h := iNeed h
            obtain ⟨hy33, h⟩ := h
            refine PWl.step (LR.appT (enc := TRun.e) (L := some24) (R := [x27]) [3, 31] elem34 Try.underlying34 rfl rfl rfl (Src.slT (enc := TRun.e) (R := [x27]) rfl (fun _ => rfl)) (fun _ => rfl) hy33 rfl rfl) rfl ?_
            refine PWl.step (LR.assign rfl) rfl ?_
            refine PWl.nil ?_
            exact ⟨(some24 ++ [x27]), (), h, Sub.of rfl (.cons rfl rfl <| .cons rfl rfl <| .cons rfl rfl <| .cons rfl rfl <| .nil) (.cons rfl rfl <| .nil)⟩
          · replace h := iF hc32 h
            refine PWc.skip ?_
            exact ⟨some24, (), h, Sub.of rfl (.cons rfl rfl <| .cons rfl rfl <| .cons rfl rfl <| .cons rfl rfl <| .nil) (.cons rfl rfl <| .nil)⟩
      · rintro some26 _ h
        refine PWc.region ?_
        refine PWl.step (LR.addW rfl rfl) rfl ?_
        refine PWl.step (LR.move rfl) rfl ?_
        refine PWl.nil ?_
        exact ⟨((IntKind.i64.wrap (v23 + 1)), some26), (), h, Sub.of rfl (.cons rfl rfl <| .cons rfl rfl <| .cons rfl rfl <| .cons rfl rfl <| .nil) (.cons rfl rfl <| .nil)⟩
    · replace h := iF hc25 h
      refine PWc.exit ?_
      exact ⟨some24, (), h, Sub.of rfl (.cons rfl rfl <| .nil) (.cons rfl rfl <| .nil)⟩
  · rintro some2 _ h
    refine PWc.seq ?_
    refine PWc.region ?_
    refine PWl.step (LR.move rfl) rfl ?_
    replace h := iNeed h
    obtain ⟨hy35, h⟩ := h
    refine PWl.sortFn (encD := TRun.e) (enc := TRun.v) (l := some2) srt169_170 (fun _ => rfl) TRun.v1 (fun _ => rfl) rfl Try.call169 rfl rfl rfl (by simp) hy35 rfl (fun s34 hy36 hy37 => ?_)
    replace h := iSrt h s34 hy36 hy37
    have hy36l := hy36.length_eq
    refine PWl.nil ?_
    refine PWc.seq ?_
    refine PWc.region ?_
    refine PWl.step (LR.assignNilRow 114 2 rfl) rfl ?_
    refine PWl.nil ?_
    refine PWc.seq ?_
    refine PWc.seq ?_
    refine PWc.region ?_
    refine PWl.step (LR.move rfl) rfl ?_
    refine PWl.step (LR.lenRow Try.underlying34 rfl) rfl ?_
    refine PWl.step (LR.move rfl) rfl ?_
    refine PWl.nil ?_
    refine PWc.jn (iBind h) (fun (out38 : List TRun) (_ : Unit) => ⟨78, [(6, .row 6 (List.length out38))], [(6, .row 114 2 (List.map TRun.e out38))]⟩) (fun h => ?_) ?_
    · refine PWc.block ?_
      refine PWc.loopM (fun (⟨v69, out70⟩ : Int × List TRun) (_ : Unit) => ⟨78, [(6, .row 6 (List.length out70)), (38, .row 3 (List.length some2)), (39, .d (.v (.int .i64 ((List.length some2) : Int)))), (40, .d (.v (.int .i64 v69)))], [(3, .row 114 2 (List.map TRun.e s34)), (6, .row 114 2 (List.map TRun.e out70))]⟩) () h (Sub.of rfl (.cons rfl rfl <| .cons rfl (by first | rfl | (simp; done) | (congr 1; first | (simp; done) | (simp; omega))) <| .cons rfl rfl <| .cons rfl rfl <| .nil) (.cons rfl rfl <| .cons rfl rfl <| .nil)) ?_
      rintro N ⟨v69, out70⟩ _ h
      refine PWc.seq ?_
      refine PWc.region ?_
      refine PWl.step (LR.lss rfl rfl) rfl ?_
      refine PWl.nil ?_
      refine PWc.seq ?_
      refine PWc.cond rfl (fun hc71 => ?_) (fun hc71 => ?_)
      · replace h := iT hc71 h
        refine PWc.skip ?_
        refine PWc.seq ?_
        refine PWc.jn (iBind h) (fun (out72 : List TRun) (_ : Unit) => ⟨78, [(6, .row 6 (List.length out72)), (38, .row 3 (List.length some2)), (39, .d (.v (.int .i64 ((List.length some2) : Int)))), (40, .d (.v (.int .i64 v69)))], [(3, .row 114 2 (List.map TRun.e s34)), (6, .row 114 2 (List.map TRun.e out72))]⟩) (fun h => ?_) ?_
        · refine PWc.block ?_
          refine PWc.seq ?_
          refine PWc.region ?_
          replace h := iIdx h
          obtain ⟨x73, hy74, h⟩ := h
          refine PWl.step (LR.idxRowT (L := s34) (y := x73) Try.underlying34 Try.sizeOf114 rfl (by first | (simp; done) | (simp; omega) | omega) rfl hy74) rfl ?_
          refine PWl.step (LR.loadRpT (enc := TRun.e) (L := s34) (y := x73) Try.isAgg114 Try.sizeOf114 rfl rfl hy74.2) rfl ?_
          refine PWl.step (LR.allocZ (cs := [_, _]) Try.zeroValue114 rfl rfl rfl rfl) rfl ?_
          refine PWl.step (LR.storeB (ns := [_, _]) Try.sizeOf114 rfl rfl rfl rfl rfl rfl rfl) rfl ?_
          refine PWl.nil ?_
          refine PWc.seq ?_
          refine PWc.seq ?_
          refine PWc.region ?_
          refine PWl.step (LR.move rfl) rfl ?_
          refine PWl.step (LR.lenRow Try.underlying34 rfl) rfl ?_
          refine PWl.step (LR.subW rfl rfl) rfl ?_
          refine PWl.step (LR.assign rfl) rfl ?_
          refine PWl.nil ?_
          refine PWc.seq ?_
          refine PWc.jn (iBind h) (fun (v75 : Bool) (_ : Unit) => ⟨78, [(6, .row 6 (List.length out70)), (8, .ref 8 0), (9, .d (.v (.int .i64 ((IntKind.i64.wrap (((List.length out70) : Int) - 1)))))), (38, .row 3 (List.length some2)), (39, .d (.v (.int .i64 ((List.length some2) : Int)))), (40, .d (.v (.int .i64 v69))), (59, .d (.v (.bool v75)))], [(3, .row 114 2 (List.map TRun.e s34)), (6, .row 114 2 (List.map TRun.e out70)), (8, .cells 114 [.d (.v (.int .u64 x73.lo)), .d (.v (.int .u64 x73.hi))])]⟩) (fun h => ?_) ?_
          · refine PWc.regionD (by kernel_rfl) (by kernel_rfl) ?_
            refine PQl.step (fun _ he ho => LR.move (he rfl rfl)) rfl ?_
            refine PQl.step (fun _ he ho => LR.geq (he rfl rfl) (he rfl rfl)) rfl ?_
            refine PQl.step (fun _ he ho => LR.move (he rfl rfl)) rfl ?_
            refine PQl.split (d := 49) rfl (fun hg76 => ?_) (fun hg76 => ?_)
            · replace h := iT hg76 h
              refine PQl.guardT (fun _ he ho => LR.fieldRef Try.underlying114 rfl Try.sizeOf36 (by decide) rfl (he rfl rfl)) rfl rfl rfl ?_
              refine PQl.guardT (fun _ he ho => LR.loadRef Try.isAgg36 (he rfl rfl) (ho rfl) rfl) rfl rfl rfl ?_
              refine PQl.guardT (fun _ he ho => LR.move (he rfl rfl)) rfl rfl rfl ?_
              refine PQl.guardT (fun _ he ho => LR.move (he rfl rfl)) rfl rfl rfl ?_
              replace h := iIdx h
              obtain ⟨x77, hy78, h⟩ := h
              refine PQl.guardT (fun _ he ho => LR.idxRowT (L := out70) (y := x77) Try.underlying34 Try.sizeOf114 (he rfl rfl) rfl (he rfl rfl) hy78) rfl rfl rfl ?_
              refine PQl.guardT (fun _ he ho => LR.fieldRp Try.underlying114 rfl Try.sizeOf36 (by decide) rfl (he rfl rfl)) rfl rfl rfl ?_
              refine PQl.guardT (fun _ he ho => LR.loadRpF (enc := TRun.e) (L := out70) (y := x77) Try.isAgg36 (he rfl rfl) (ho rfl) hy78.2 rfl) rfl rfl rfl ?_
              refine PQl.guardT (fun _ he ho => LR.addW (he rfl rfl) (he rfl rfl)) rfl rfl rfl ?_
              refine PQl.guardT (fun _ he ho => LR.leq (he rfl rfl) (he rfl rfl)) rfl rfl rfl ?_
              refine PQl.step (fun _ he ho => LR.pickT (he rfl rfl) (he rfl rfl)) rfl ?_
              refine PQl.nil ?_
              exact ⟨(decide (x73.lo ≤ (IntKind.u64.wrap (x77.hi + 1)))), (), h, Sub.of rfl (.cons rfl rfl <| .cons rfl rfl <| .cons rfl rfl <| .cons rfl (by first | rfl | (simp; done) | (congr 1; first | (simp; done) | (simp; omega))) <| .cons rfl rfl <| .cons rfl rfl <| .cons rfl rfl <| .nil) (.cons rfl rfl <| .cons rfl rfl <| .cons rfl rfl <| .nil)⟩
            · replace h := iF hg76 h
              refine PQl.guardF rfl rfl rfl (by decide) ?_
              refine PQl.guardF rfl rfl rfl (by decide) ?_
              refine PQl.guardF rfl rfl rfl (by decide) ?_
              refine PQl.guardF rfl rfl rfl (by decide) ?_
              refine PQl.guardF rfl rfl rfl (by decide) ?_
              refine PQl.guardF rfl rfl rfl (by decide) ?_
              refine PQl.guardF rfl rfl rfl (by decide) ?_
              refine PQl.guardF rfl rfl rfl (by decide) ?_
              refine PQl.guardF rfl rfl rfl (by decide) ?_
              refine PQl.step (fun _ he ho => LR.pickF (he rfl rfl) (he rfl rfl)) rfl ?_
              refine PQl.nil ?_
              exact ⟨false, (), h, Sub.of rfl (.cons rfl rfl <| .cons rfl rfl <| .cons rfl rfl <| .cons rfl (by first | rfl | (simp; done) | (congr 1; first | (simp; done) | (simp; omega))) <| .cons rfl rfl <| .cons rfl rfl <| .cons rfl rfl <| .nil) (.cons rfl rfl <| .cons rfl rfl <| .cons rfl rfl <| .nil)⟩
          · rintro v75 _ h
            refine PWc.cond rfl (fun hc79 => ?_) (fun hc79 => ?_)
            · replace h := iT hc79 h
              refine PWc.seq ?_
              refine PWc.re (tl := [(6, _), (8, _), (9, _), (38, _), (39, _), (40, _)]) (to := [(3, _), (6, _), (8, _)]) rfl (.cons rfl rfl <| .cons rfl rfl <| .cons rfl rfl <| .cons rfl rfl <| .cons rfl rfl <| .cons rfl rfl <| .nil) (.cons rfl rfl <| .cons rfl rfl <| .cons rfl rfl <| .nil) ?_
              refine PWc.regionE [⟨[60], [], [], [], [], [6], [], []⟩, ⟨[61], [], [], [], [], [], [], []⟩, ⟨[62], [], [], [], [], [6], [], []⟩, ⟨[63], [], [], [], [], [], [], []⟩, ⟨[64], [], [], [], [], [6], [], []⟩, ⟨[65], [], [], [], [], [6], [], []⟩, ⟨[66], [], [6], [], [], [], [], []⟩, ⟨[67], [], [], [], [], [8], [], []⟩, ⟨[68], [], [8], [], [], [], [], []⟩, ⟨[69], [], [], [], [], [], [], []⟩, ⟨[70], [], [], [], [], [6], [], []⟩, ⟨[71], [], [], [], [], [6], [], []⟩, ⟨[], [6], [6], [], [], [], [], []⟩] (by kernel_rfl) (by kernel_rfl) rfl ?_
              refine PQe.stepP (fun _ he ho => LR.move (he rfl rfl)) (.inl rfl) rfl ?_
              refine PQe.stepP (fun _ he ho => LR.move (he rfl rfl)) (.inl rfl) rfl ?_
              refine PQe.stepP (fun _ he ho => LR.move (he rfl rfl)) (.inl rfl) rfl ?_
              refine PQe.stepP (fun _ he ho => LR.move (he rfl rfl)) (.inl rfl) rfl ?_
              replace h := iIdx h
              obtain ⟨x80, hy81, h⟩ := h
              refine PQe.stepP (fun _ he ho => LR.idxRowT (L := out70) (y := x80) Try.underlying34 Try.sizeOf114 (he rfl rfl) rfl (he rfl rfl) hy81) (.inl rfl) rfl ?_
              refine PQe.stepP (fun _ he ho => LR.fieldRp Try.underlying114 rfl Try.sizeOf36 (by decide) rfl (he rfl rfl)) (.inl rfl) rfl ?_
              refine PQe.stepP (fun _ he ho => LR.loadRpF (enc := TRun.e) (L := out70) (y := x80) Try.isAgg36 (he rfl rfl) (ho rfl rfl) hy81.2 rfl) (.inl rfl) rfl ?_
              refine PQe.stepP (fun _ he ho => LR.fieldRef Try.underlying114 rfl Try.sizeOf36 (by decide) rfl (he rfl rfl)) (.inl rfl) rfl ?_
              refine PQe.stepP (fun _ he ho => LR.loadRef Try.isAgg36 (he rfl rfl) (ho rfl rfl) rfl) (.inl rfl) rfl ?_
              refine PQe.stepP (fun _ he ho => LR.maxI (he rfl rfl) (he rfl rfl)) (.inl rfl) rfl ?_
              replace h := iIdx h
              obtain ⟨x82, hy83, h⟩ := h
              refine PQe.stepP (fun _ he ho => LR.idxRowT (L := out70) (y := x82) Try.underlying34 Try.sizeOf114 (he rfl rfl) rfl (he rfl rfl) hy83) (.inl rfl) rfl ?_
              refine PQe.stepP (fun _ he ho => LR.fieldRp Try.underlying114 rfl Try.sizeOf36 (by decide) rfl (he rfl rfl)) (.inl rfl) rfl ?_
              refine PQe.stepS (fun _ he ho => LR.storeRpT (enc := TRun.e) (L := out70) (a := x82) (b := (⟨x82.lo, (max x80.hi x73.hi)⟩ : TRun)) Try.sizeOf36 (he rfl rfl) (he rfl rfl) rfl rfl (ho rfl rfl) hy83.2 rfl rfl) (.inl rfl) rfl ?_
              refine PQe.nil ?_
              refine PWc.exit ?_
              exact ⟨(List.set out70 ((Int.toNat ((IntKind.i64.wrap (((List.length out70) : Int) - 1))))) (⟨x82.lo, (max x80.hi x73.hi)⟩ : TRun)), (), h, Sub.of rfl (.cons rfl (by first | rfl | (simp; done) | (congr 1; first | (simp; done) | (simp; omega))) <| .cons rfl (by first | rfl | (simp; done) | (congr 1; first | (simp; done) | (simp; omega))) <| .cons rfl rfl <| .cons rfl rfl <| .nil) (.cons rfl rfl <| .cons rfl rfl <| .nil)⟩
            · replace h := iF hc79 h
              refine PWc.skip ?_
              refine PWc.region ?_
              refine PWl.step (LR.move rfl) rfl ?_
              refine PWl.step (LR.loadRefAgg (ps := [_, _]) Try.isAgg114 Try.sizeOf114 rfl rfl rfl rfl) rfl ?_
              refine PWl.step (LR.buildSliceD [.tmp 73] elem34 rfl rfl (.cons rfl rfl rfl <| .nil) (by decide) (by decide)) rfl ?_
              replace h := iNeed h
              obtain ⟨hy84, h⟩ := h
              refine PWl.step (LR.appT (enc := TRun.e) (L := out70) (R := [x73]) [6, 72] elem34 Try.underlying34 rfl rfl rfl (Src.slT (enc := TRun.e) (R := [x73]) rfl (fun _ => rfl)) (fun _ => rfl) hy84 rfl rfl) rfl ?_
              refine PWl.step (LR.assign rfl) rfl ?_
              refine PWl.nil ?_
              exact ⟨(out70 ++ [x73]), (), h, Sub.of rfl (.cons rfl rfl <| .cons rfl (by first | rfl | (simp; done) | (congr 1; first | (simp; done) | (simp; omega))) <| .cons rfl rfl <| .cons rfl rfl <| .nil) (.cons rfl rfl <| .cons rfl rfl <| .nil)⟩
        · rintro out72 _ h
          refine PWc.region ?_
          refine PWl.step (LR.addW rfl rfl) rfl ?_
          refine PWl.step (LR.move rfl) rfl ?_
          refine PWl.nil ?_
          exact ⟨((IntKind.i64.wrap (v69 + 1)), out72), (), h, Sub.of rfl (.cons rfl rfl <| .cons rfl (by first | rfl | (simp; done) | (congr 1; first | (simp; done) | (simp; omega))) <| .cons rfl rfl <| .cons rfl rfl <| .nil) (.cons rfl rfl <| .cons rfl rfl <| .nil)⟩
      · replace h := iF hc71 h
        refine PWc.exit ?_
        exact ⟨out70, (), h, Sub.of rfl (.cons rfl rfl <| .nil) (.cons rfl rfl <| .nil)⟩
    · rintro out38 _ h
      refine PWc.seq ?_
      refine PWc.region ?_
      refine PWl.step (LR.move rfl) rfl ?_
      refine PWl.step (LR.assign rfl) rfl ?_
      refine PWl.nil ?_
      refine PWc.ret ?_
      replace h : _ = r0 := h
      subst h
      exact ⟨.inr rfl, 2, rfl, .inr ⟨6, _, rfl, (by simp), rfl⟩⟩

end Go.Proofs

namespace Go.Proofs
open Go.Ep
set_option maxHeartbeats 1000000
set_option maxRecDepth 100000
set_option linter.unusedVariables false
set_option linter.unusedSimpArgs false


theorem l15_equal_ok (a1 : List Int) (b2 : List Int) (r0 : Bool) (h : (l15_equal a1 b2).wp (· = r0)) : PFun Try.prog 29 [.d (.sl (List.map (eK .u8) a1)), .d (.sl (List.map (eK .u8) b2))] (.d (.v (.bool r0))) := by
  refine PFun.intro (sl := [(0, _), (1, _)]) Try.func29 rfl Try.ntmps29 rfl rfl ?_
  intro ctx hK
  refine PWc.seq ?_
  refine PWc.region ?_
  refine PWl.step (LR.assign rfl) rfl ?_
  refine PWl.nil ?_
  refine PWc.seq ?_
  refine PWc.region ?_
  refine PWl.step (LR.move rfl) rfl ?_
  refine PWl.step (LR.bytesStr Try.underlying45 Try.underlying5 Try.underlying9 rfl) rfl ?_
  refine PWl.step (LR.move rfl) rfl ?_
  refine PWl.step (LR.bytesStr Try.underlying45 Try.underlying5 Try.underlying9 rfl) rfl ?_
  refine PWl.step (LR.eqlStr rfl rfl) rfl ?_
  refine PWl.step (LR.assign rfl) rfl ?_
  refine PWl.nil ?_
  refine PWc.ret ?_
  replace h : _ = r0 := h
  subst h
  exact ⟨.inr rfl, _, .cons (.tmp rfl rfl) <| .nil, rfl⟩

theorem shift_Len_ok (v1 : Int) (r0 : Int) (h : (shift_Len v1).wp (· = r0)) : PFun Try.prog 161 [.d (.v (.int .u64 v1))] (.d (.v (.int .i64 r0))) := by
  refine PFun.intro (sl := [(0, _)]) Try.func161 rfl Try.ntmps161 rfl rfl ?_
  intro ctx hK
  refine PWc.seq ?_
  refine PWc.region ?_
  refine PWl.step (LR.assign rfl) rfl ?_
  refine PWl.nil ?_
  refine PWc.seq ?_
  refine PWc.region ?_
  refine PWl.step (LR.assign rfl) rfl ?_
  refine PWl.nil ?_
  refine PWc.seq ?_
  refine PWc.jn (iBind h) (fun (n2 : Int) (_ : Unit) => ⟨11, [(3, .d (.v (.int .i64 n2)))], []⟩) (fun h => ?_) ?_
  · refine PWc.block ?_
    refine PWc.loopM (fun (⟨v7, n8⟩ : Int × Int) (_ : Unit) => ⟨11, [(0, .d (.v (.int .u64 v7))), (3, .d (.v (.int .i64 n8)))], []⟩) () h (Sub.of rfl (.cons rfl rfl <| .cons rfl rfl <| .nil) (.nil)) ?_
    rintro N ⟨v7, n8⟩ _ h
    refine PWc.seq ?_
    refine PWc.seq ?_
    refine PWc.region ?_
    refine PWl.step (LR.move rfl) rfl ?_
    refine PWl.step (LR.gtr rfl rfl) rfl ?_
    refine PWl.nil ?_
    refine PWc.cond rfl (fun hc9 => ?_) (fun hc9 => ?_)
    · replace h := iT hc9 h
      refine PWc.skip ?_
      refine PWc.seq ?_
      refine PWc.block ?_
      refine PWc.region ?_
      refine PWl.step (LR.move rfl) rfl ?_
      refine PWl.step (LR.addW rfl rfl) rfl ?_
      refine PWl.step (LR.assign rfl) rfl ?_
      refine PWl.nil ?_
      refine PWc.region ?_
      refine PWl.step (LR.move rfl) rfl ?_
      refine PWl.step (LR.shr rfl rfl (by decide) rfl) rfl ?_
      refine PWl.step (LR.assign rfl) rfl ?_
      refine PWl.nil ?_
      exact ⟨((Int.fdiv v7 (2 ^ 8)), (IntKind.i64.wrap (n8 + 1))), (), h, Sub.of rfl (.cons rfl rfl <| .cons rfl rfl <| .nil) (.nil)⟩
    · replace h := iF hc9 h
      refine PWc.exit ?_
      exact ⟨n8, (), h, Sub.of rfl (.cons rfl rfl <| .nil) (.nil)⟩
  · rintro n2 _ h
    refine PWc.seq ?_
    refine PWc.region ?_
    refine PWl.step (LR.move rfl) rfl ?_
    refine PWl.step (LR.assign rfl) rfl ?_
    refine PWl.nil ?_
    refine PWc.ret ?_
    replace h : _ = r0 := h
    subst h
    exact ⟨.inr rfl, _, .cons (.tmp rfl rfl) <| .nil, rfl⟩

theorem shift_Byte_ok (v1 : Int) (i2 : Int) (r0 : Int) (h : (shift_Byte v1 i2).wp (· = r0)) : PFun Try.prog 162 [.d (.v (.int .u64 v1)), .d (.v (.int .i64 i2))] (.d (.v (.int .u8 r0))) := by
  refine PFun.intro (sl := [(0, _), (1, _)]) Try.func162 rfl Try.ntmps162 rfl rfl ?_
  intro ctx hK
  refine PWc.seq ?_
  refine PWc.region ?_
  refine PWl.step (LR.assign rfl) rfl ?_
  refine PWl.nil ?_
  refine PWc.seq ?_
  refine PWc.seq ?_
  refine PWc.region ?_
  refine PWl.step (LR.move rfl) rfl ?_
  refine PWl.step (LR.convInt Try.underlying184 (by rw [Try.underlying3]; rfl) rfl rfl) rfl ?_
  refine PWl.step (LR.gtr rfl rfl) rfl ?_
  refine PWl.nil ?_
  refine PWc.cond rfl (fun hc3 => ?_) (fun hc3 => ?_)
  · replace h := iT hc3 h
    refine PWc.seq ?_
    refine PWc.region ?_
    refine PWl.step (LR.assign rfl) rfl ?_
    refine PWl.nil ?_
    refine PWc.ret ?_
    replace h : _ = r0 := h
    subst h
    exact ⟨.inr rfl, _, .cons (.tmp rfl rfl) <| .nil, rfl⟩
  · replace h := iF hc3 h
    refine PWc.skip ?_
    refine PWc.seq ?_
    refine PWc.region ?_
    refine PWl.step (LR.move rfl) rfl ?_
    refine PWl.step (LR.move rfl) rfl ?_
    refine PWl.step (LR.convInt Try.underlying184 (by rw [Try.underlying3]; rfl) rfl rfl) rfl ?_
    refine PWl.step (LR.mulW rfl rfl) rfl ?_
    replace h := iNeed h
    obtain ⟨hy4, h⟩ := h
    refine PWl.step (LR.shr rfl rfl hy4 rfl) rfl ?_
    refine PWl.step (LR.convInt Try.underlying5 (by rw [Try.underlying36]; rfl) rfl rfl) rfl ?_
    refine PWl.step (LR.assign rfl) rfl ?_
    refine PWl.nil ?_
    refine PWc.ret ?_
    replace h : _ = r0 := h
    subst h
    exact ⟨.inr rfl, _, .cons (.tmp rfl rfl) <| .nil, rfl⟩

theorem num_Append_ok (b1 : List Int) (v2 : Int) (r0 : List Int) (h : (num_Append b1 v2).wp (· = r0)) : PRow Try.prog 127 [.d (.sl (List.map (eK .u8) b1)), .d (.v (.int .u64 v2))] 5 1 (List.map (eK .u8) r0) := by
  refine PRow.intro (sl := [(0, _), (1, _)]) Try.func127 rfl Try.ntmps127 rfl rfl ?_
  intro ctx hK
  refine PWc.seq ?_
  refine PWc.region ?_
  refine PWl.step (LR.assignNilRow 5 1 rfl) rfl ?_
  refine PWl.nil ?_
  refine PWc.seq ?_
  refine PWc.region ?_
  refine PWl.step (LR.move rfl) rfl ?_
  replace h := iDet h
  obtain ⟨v3, hy4, h⟩ := h
  refine PWl.step (LR.callN (shift_Len_ok v2 v3 hy4) rfl Try.call161 rfl rfl rfl rfl) rfl ?_
  refine PWl.step (LR.assign rfl) rfl ?_
  refine PWl.nil ?_
  refine PWc.seq ?_
  refine PWc.region ?_
  refine PWl.step (LR.move rfl) rfl ?_
  refine PWl.step (LR.lenMap (enc := (eK .u8)) (L := b1) Try.underlying45 rfl) rfl ?_
  refine PWl.step (LR.move rfl) rfl ?_
  refine PWl.step (LR.addW rfl rfl) rfl ?_
  refine PWl.step (LR.addW rfl rfl) rfl ?_
  replace h := iNeed h
  obtain ⟨hy5, h⟩ := h
  refine PWl.step (LR.make0 (n := Int.toNat ((IntKind.i64.wrap (((IntKind.i64.wrap ((List.length b1 : Int) + v3))) + 1)))) elem45 rfl rfl (by omega) (by omega) (by omega) rfl) rfl ?_
  refine PWl.step (LR.assign rfl) rfl ?_
  refine PWl.nil ?_
  refine PWc.seq ?_
  refine PWc.region ?_
  refine PWl.step (LR.move rfl) rfl ?_
  refine PWl.step (LR.move rfl) rfl ?_
  replace h := iNeed h
  obtain ⟨hy6, h⟩ := h
  refine PWl.step (LR.appT (enc := (eK .u8)) (L := ([] : List Int)) (R := b1) [6, 15, 16] elem45 Try.underlying45 rfl (by first | (simp; done) | (simp; omega) | omega) rfl (Src.slT (enc := (eK .u8)) (R := b1) rfl (fun _ => rfl)) (fun _ => rfl) hy6 rfl rfl) rfl ?_
  refine PWl.step (LR.move rfl) rfl ?_
  refine PWl.step (LR.convInt Try.underlying5 (by rw [Try.underlying3]; rfl) rfl rfl) rfl ?_
  refine PWl.step (LR.buildSliceD [.tmp 20] elem45 rfl rfl (.cons rfl rfl rfl <| .nil) (by decide) (by decide)) rfl ?_
  replace h := iNeed h
  obtain ⟨hy7, h⟩ := h
  refine PWl.step (LR.appT (enc := (eK .u8)) (L := (([] : List Int) ++ b1)) (R := [(IntKind.u8.wrap v3)]) [18] elem45 Try.underlying45 rfl rfl rfl (Src.slT (enc := (eK .u8)) (R := [(IntKind.u8.wrap v3)]) rfl (fun _ => rfl)) (fun _ => rfl) hy7 rfl rfl) rfl ?_
  refine PWl.step (LR.assign rfl) rfl ?_
  refine PWl.nil ?_
  refine PWc.seq ?_
  refine PWc.seq ?_
  refine PWc.region ?_
  refine PWl.re (tl := [(1, _), (5, _), (6, _)]) (to := [(15, _)]) rfl (.cons rfl rfl <| .cons rfl rfl <| .cons rfl rfl <| .nil) (.cons rfl rfl <| .nil) ?_
  refine PWl.step (LR.move rfl) rfl ?_
  refine PWl.step (LR.subW rfl rfl) rfl ?_
  refine PWl.step (LR.assign rfl) rfl ?_
  refine PWl.nil ?_
  refine PWc.jn (iBind h) (fun (v8 : List Int) (_ : Unit) => ⟨36, [(6, .row 15 (List.length v8))], [(15, .row 5 1 (List.map (eK .u8) v8))]⟩) (fun h => ?_) ?_
  · refine PWc.block ?_
    refine PWc.loopM (fun (⟨i19, v20⟩ : Int × List Int) (_ : Unit) => ⟨36, [(1, .d (.v (.int .u64 v2))), (6, .row 15 (List.length v20)), (7, .d (.v (.int .i64 i19)))], [(15, .row 5 1 (List.map (eK .u8) v20))]⟩) () h (Sub.of rfl (.cons rfl rfl <| .cons rfl (by first | rfl | (simp; done) | (congr 1; first | (simp; done) | (simp; omega))) <| .cons rfl rfl <| .nil) (.cons rfl rfl <| .nil)) ?_
    rintro N ⟨i19, v20⟩ _ h
    refine PWc.seq ?_
    refine PWc.seq ?_
    refine PWc.region ?_
    refine PWl.step (LR.move rfl) rfl ?_
    refine PWl.step (LR.geq rfl rfl) rfl ?_
    refine PWl.nil ?_
    refine PWc.cond rfl (fun hc21 => ?_) (fun hc21 => ?_)
    · replace h := iT hc21 h
      refine PWc.skip ?_
      refine PWc.seq ?_
      refine PWc.block ?_
      refine PWc.region ?_
      refine PWl.step (LR.move rfl) rfl ?_
      refine PWl.step (LR.move rfl) rfl ?_
      refine PWl.step (LR.move rfl) rfl ?_
      replace h := iDet h
      obtain ⟨v22, hy23, h⟩ := h
      refine PWl.step (LR.callN (shift_Byte_ok v2 i19 v22 hy23) rfl Try.call162 rfl rfl rfl rfl) rfl ?_
      refine PWl.step (LR.buildSliceD [.tmp 32] elem45 rfl rfl (.cons rfl rfl rfl <| .nil) (by decide) (by decide)) rfl ?_
      replace h := iNeed h
      obtain ⟨hy24, h⟩ := h
      refine PWl.step (LR.appT (enc := (eK .u8)) (L := v20) (R := [v22]) [6, 29] elem45 Try.underlying45 rfl rfl rfl (Src.slT (enc := (eK .u8)) (R := [v22]) rfl (fun _ => rfl)) (fun _ => rfl) hy24 rfl rfl) rfl ?_
      refine PWl.step (LR.assign rfl) rfl ?_
      refine PWl.nil ?_
      refine PWc.region ?_
      refine PWl.step (LR.move rfl) rfl ?_
      refine PWl.step (LR.subW rfl rfl) rfl ?_
      refine PWl.step (LR.assign rfl) rfl ?_
      refine PWl.nil ?_
      exact ⟨((IntKind.i64.wrap (i19 - 1)), (v20 ++ [v22])), (), h, Sub.of rfl (.cons rfl rfl <| .cons rfl rfl <| .cons rfl rfl <| .nil) (.cons rfl rfl <| .nil)⟩
    · replace h := iF hc21 h
      refine PWc.exit ?_
      exact ⟨v20, (), h, Sub.of rfl (.cons rfl rfl <| .nil) (.cons rfl rfl <| .nil)⟩
  · rintro v8 _ h
    refine PWc.seq ?_
    refine PWc.region ?_
    refine PWl.step (LR.move rfl) rfl ?_
    refine PWl.step (LR.assign rfl) rfl ?_
    refine PWl.nil ?_
    refine PWc.ret ?_
    replace h : _ = r0 := h
    subst h
    exact ⟨.inr rfl, 4, rfl, .inr ⟨15, _, rfl, (by simp), rfl⟩⟩
end Go.Proofs

namespace Go.Proofs
open Go.Ep
set_option maxHeartbeats 1000000
set_option maxRecDepth 100000
set_option linter.unusedVariables false
set_option linter.unusedSimpArgs false


theorem ctx_order_ok (m1 : List (Int × List TRun)) (r0 : List TPart) (h : (ctx_order m1).wp (· = r0)) : PRow Try.prog 97 [.md [.u16] false (encM kI (eL TRun.e) m1)] 101 2 (List.map TPart.e r0) := by
  refine PRow.intro (sl := [(0, _)]) Try.func97 rfl Try.ntmps97 rfl rfl ?_
  intro ctx hK
  refine PWc.seq ?_
  refine PWc.region ?_
  refine PWl.step (LR.assignNilRow 101 2 rfl) rfl ?_
  refine PWl.nil ?_
  refine PWc.seq ?_
  refine PWc.region ?_
  refine PWl.step (LR.assignNilRow 101 2 rfl) rfl ?_
  refine PWl.nil ?_
  refine PWc.seq ?_
  refine PWc.seq ?_
  refine PWc.region ?_
  refine PWl.step (LR.move rfl) rfl ?_
  refine PWl.rangeD Try.underlying126 rfl rfl rfl (fun bs2 ck2 hbl2 hbn2 => ?_)
  refine PWl.nil ?_
  refine PWc.jn (iBind h) (fun (c3 : List TPart) (_ : Unit) => ⟨27, [(3, .row 3 (List.length c3))], [(3, .row 101 2 (List.map TPart.e c3))]⟩) (fun h => ?_) ?_
  · refine PWc.block ?_
    refine PWc.loopM (fun (⟨seen28, c29⟩ : List Nat × List TPart) (_ : Unit) => ⟨27, [(3, .row 3 (List.length c29)), (7, .ref 7 0)], [(3, .row 101 2 (List.map TPart.e c29)), (7, .iterD [.u16] false (encM kI (eL TRun.e) m1) bs2 ck2 seen28)]⟩) () h (Sub.of rfl (.cons rfl rfl <| .cons rfl rfl <| .nil) (.cons rfl rfl <| .cons rfl rfl <| .nil)) ?_
    rintro N ⟨seen28, c29⟩ _ h
    refine PWc.seq ?_
    refine PWc.region ?_
    replace h := iNeed h
    obtain ⟨hy40, h⟩ := h
    replace h := iNxt h
    refine PWl.nextD rfl rfl (nxtD hy40) rfl (fun hy31 => ?_) (fun j30 hy32 hy33 => ?_)
    · replace h := h.1 (nxtA hy31)
      refine PWl.step (LR.extract rfl rfl) rfl ?_
      refine PWl.nil ?_
      refine PWc.seq ?_
      refine PWc.condF rfl ?_
      refine PWc.exit ?_
      exact ⟨c29, (), h, Sub.of rfl (.cons rfl rfl <| .nil) (.cons rfl rfl <| .nil)⟩
    · replace h := h.2 j30 (nxtB hy32) hy33
      refine PWl.step (LR.extract rfl rfl) rfl ?_
      refine PWl.nil ?_
      refine PWc.seq ?_
      refine PWc.condT rfl ?_
      refine PWc.skip ?_
      refine PWc.block ?_
      refine PWc.seq ?_
      refine PWc.region ?_
      replace h := iIdx h
      obtain ⟨kv34, hy35, h⟩ := h
      refine PWl.step (LR.entryD rfl rfl (entGet hy35) rfl rfl) rfl ?_
      refine PWl.step (LR.extract rfl rfl) rfl ?_
      refine PWl.step (LR.extract rfl rfl) rfl ?_
      refine PWl.step (LR.assign rfl) rfl ?_
      refine PWl.step (LR.assign rfl) rfl ?_
      refine PWl.nil ?_
      refine PWc.seq ?_
      refine PWc.region ?_
      refine PWl.step (LR.move rfl) rfl ?_
      replace h := iDet h
      obtain ⟨v36, hy37, h⟩ := h
      refine PWl.step (LR.rowN (runs_Norm_ok kv34.2 v36 hy37) rfl Try.call138 rfl rfl rfl rfl) rfl ?_
      refine PWl.step (LR.assign rfl) rfl ?_
      refine PWl.nil ?_
      refine PWc.seq ?_
      refine PWc.region ?_
      refine PWl.step (LR.move rfl) rfl ?_
      refine PWl.step (LR.lenRow Try.underlying34 rfl) rfl ?_
      refine PWl.step (LR.gtr rfl rfl) rfl ?_
      refine PWl.nil ?_
      refine PWc.cond rfl (fun hc38 => ?_) (fun hc38 => ?_)
      · replace h := iT hc38 h
        refine PWc.region ?_
        refine PWl.step (LR.move rfl) rfl ?_
        refine PWl.step (LR.move rfl) rfl ?_
        refine PWl.step (LR.move rfl) rfl ?_
        refine PWl.frz [5, 14, 15, 20] hK (.cons rfl <| .cons rfl <| .cons rfl <| .cons rfl <| .nil) rfl (by simp) ?_
        refine PWl.step (LR.build (ns := [_, _]) build101 rfl rfl rfl) rfl ?_
        refine PWl.step (LR.buildSliceD [.tmp 21] elem24 rfl rfl (.cons rfl rfl rfl <| .nil) (by decide) (by decide)) rfl ?_
        replace h := iNeed h
        obtain ⟨hy39, h⟩ := h
        refine PWl.step (LR.appT (enc := TPart.e) (L := c29) (R := [(⟨kv34.1, v36⟩ : TPart)]) [3, 18] elem24 Try.underlying24 rfl rfl rfl (Src.slT (enc := TPart.e) (R := [(⟨kv34.1, v36⟩ : TPart)]) rfl (fun _ => rfl)) (fun _ => rfl) hy39 rfl rfl) rfl ?_
        refine PWl.re (tl := [(7, _), (23, _)]) (to := [(3, _), (7, _)]) rfl (.cons rfl rfl <| .cons rfl rfl <| .nil) (.cons rfl rfl <| .cons rfl rfl <| .nil) ?_
        refine PWl.step (LR.assign rfl) rfl ?_
        refine PWl.nil ?_
        exact ⟨((seen28 ++ [j30]), (c29 ++ [(⟨kv34.1, v36⟩ : TPart)])), (), h, Sub.of rfl (.cons rfl rfl <| .cons rfl rfl <| .nil) (.cons rfl rfl <| .cons rfl rfl <| .nil)⟩
      · replace h := iF hc38 h
        refine PWc.skip ?_
        exact ⟨((seen28 ++ [j30]), c29), (), h, Sub.of rfl (.cons rfl rfl <| .cons rfl rfl <| .nil) (.cons rfl rfl <| .cons rfl rfl <| .nil)⟩
  · rintro c3 _ h
    refine PWc.seq ?_
    refine PWc.region ?_
    refine PWl.step (LR.move rfl) rfl ?_
    replace h := iNeed h
    obtain ⟨hy42, h⟩ := h
    refine PWl.sortFnR (encD := TPart.e) (enc := RawTPart.v) (lt := ltPart) (R := RawTPart.R) (l := c3) srt144_145 RawTPart.raw rlt144 (fun _ => rfl) (fun _ => rfl) rfl Try.call144 rfl rfl rfl (by simp) hy42 rfl (fun s41 hy43 hy44 => ?_)
    replace h := iSrt h s41 hy43 hy44
    have hy43l := hy43.length_eq
    refine PWl.nil ?_
    refine PWc.seq ?_
    refine PWc.region ?_
    refine PWl.step (LR.move rfl) rfl ?_
    refine PWl.step (LR.assign rfl) rfl ?_
    refine PWl.nil ?_
    refine PWc.ret ?_
    replace h : _ = r0 := h
    subst h
    exact ⟨.inr rfl, 2, rfl, .inr ⟨3, _, rfl, (by first | (simp; done) | (simp; omega) | omega), rfl⟩⟩

theorem ctx_Norm_ok (c1 : List TPart) (r0 : List TPart) (h : (ctx_Norm c1).wp (· = r0)) : PRow Try.prog 84 [.d (.sl (List.map TPart.e c1))] 101 2 (List.map TPart.e r0) := by
  refine PRow.intro (sl := [(0, _)]) Try.func84 rfl Try.ntmps84 rfl rfl ?_
  intro ctx hK
  refine PWc.seq ?_
  refine PWc.region ?_
  refine PWl.step (LR.assignNilRow 101 2 rfl) rfl ?_
  refine PWl.nil ?_
  refine PWc.seq ?_
  refine PWc.region ?_
  refine PWl.step (LR.move rfl) rfl ?_
  replace h := iDet h
  obtain ⟨v2, hy3, h⟩ := h
  refine PWl.mapN (ctx_told_ok c1 v2 hy3) rfl Try.call130 rfl rfl rfl rfl rfl (fun bs4 ck4 _ => ?_)
  replace h := iDet h
  obtain ⟨v5, hy6, h⟩ := h
  refine PWl.frzM [4] hK (.cons rfl <| .nil) rfl ?_
  refine PWl.step (LR.rowN (ctx_order_ok v2 v5 hy6) rfl Try.call97 rfl rfl rfl rfl) rfl ?_
  refine PWl.re (tl := [(0, _), (3, _), (4, _), (5, _)]) (to := [(5, _)]) rfl (.cons rfl rfl <| .cons rfl rfl <| .cons rfl rfl <| .cons rfl rfl <| .nil) (.cons rfl rfl <| .nil) ?_
  refine PWl.step (LR.assign rfl) rfl ?_
  refine PWl.nil ?_
  refine PWc.ret ?_
  replace h : _ = r0 := h
  subst h
  exact ⟨.inr rfl, 2, rfl, .inr ⟨5, _, rfl, (by simp), rfl⟩⟩

theorem pack_Writer_put_o_ok (b1 : List Int) (row2 : List Int) (r0 : List Int) (h : (pack_Writer_put_o b1 row2).wp (· = r0)) : PObj Try.prog 126 [.ref 100 0, .d (.sl (List.map (eK .u8) b1))] [(100, .cells 47 [.row 101 (List.length row2)]), (101, .row 5 1 (List.map (eK .u8) row2))] [100] (.tup []) (fun _ : Unit => [(100, .cells 47 [.row 101 (List.length r0)]), (101, .row 5 1 (List.map (eK .u8) r0))]) := by
  refine PObj.intro (sl := [(0, _), (1, _)]) Try.func126 rfl Try.ntmps126 rfl rfl rfl ?_
  intro ctx hK pv
  refine PWc.seq ?_
  refine PWc.region ?_
  refine PWl.step (LR.move rfl) rfl ?_
  refine PWl.step (LR.neqPtr Try.underlying49 rfl) rfl ?_
  refine PWl.nil ?_
  refine PWc.condT rfl ?_
  refine PWc.region ?_
  refine PWl.step (LR.move rfl) rfl ?_
  refine PWl.step (LR.move rfl) rfl ?_
  refine PWl.step (LR.nilCheckRef rfl) rfl ?_
  refine PWl.step (LR.fieldRef Try.underlying47 rfl Try.sizeOf45 (by decide) rfl rfl) rfl ?_
  refine PWl.step (LR.loadRef Try.isAgg45 rfl rfl rfl) rfl ?_
  refine PWl.step (LR.move rfl) rfl ?_
  replace h := iNeed h
  obtain ⟨hy3, h⟩ := h
  refine PWl.sub (Sub.junkCell (id := 100) (j := 0) rfl) ?_
  refine PWl.step (LR.appT (enc := (eK .u8)) (L := row2) (R := b1) [10] elem45 Try.underlying45 rfl rfl rfl (Src.slT (enc := (eK .u8)) (R := b1) rfl (fun _ => rfl)) (fun _ => rfl) hy3 rfl rfl) rfl ?_
  refine PWl.step (LR.nilCheckRef rfl) rfl ?_
  refine PWl.step (LR.fieldRef Try.underlying47 rfl Try.sizeOf45 (by decide) rfl rfl) rfl ?_
  refine PWl.step (LR.storeB (ns := [_]) Try.sizeOf45 rfl rfl rfl rfl rfl rfl rfl) rfl ?_
  refine PWl.nil ?_
  replace h : _ = r0 := h
  subst h
  exact EndsO.mk () (.inl rfl) (Sub.of (tl := []) (to := [(100, _), (101, _), (1100, _)]) rfl (.nil) (.cons rfl (by first | rfl | (congr 1; congr 2; first | (simp; done) | (simp; omega))) <| .cons rfl rfl <| .cons rfl rfl <| .nil)) (.nil) rfl rfl

theorem pack_Writer_Num_o_ok (v1 : Int) (row2 : List Int) (r0 : List Int) (h : (pack_Writer_Num_o v1 row2).wp (· = r0)) : PObj Try.prog 81 [.ref 100 0, .d (.v (.int .u64 v1))] [(100, .cells 47 [.row 101 (List.length row2)]), (101, .row 5 1 (List.map (eK .u8) row2))] [100] (.tup []) (fun _ : Unit => [(100, .cells 47 [.row 101 (List.length r0)]), (101, .row 5 1 (List.map (eK .u8) r0))]) := by
  refine PObj.intro (sl := [(0, _), (1, _)]) Try.func81 rfl Try.ntmps81 rfl rfl rfl ?_
  intro ctx hK pv
  refine PWc.region ?_
  refine PWl.step (LR.move rfl) rfl ?_
  refine PWl.step (LR.move rfl) rfl ?_
  replace h := iDet h
  obtain ⟨v3, hy4, h⟩ := h
  refine PWl.step (LR.rowN (num_Append_ok ([] : List Int) v1 v3 hy4) rfl Try.call127 rfl rfl rfl rfl) rfl ?_
  replace h := iDet h
  obtain ⟨y5, hy6, h⟩ := h
  refine PWl.frz [6] hK (.cons rfl <| .nil) rfl (by simp) ?_
  refine PWl.step (LR.callObj [(100, 100), (101, 101)] [] [100, 101] (pack_Writer_put_o_ok v3 row2 y5 hy6) hK rfl Try.call126 rfl (by first | rfl | (simp; done) | (simp [PV.nilD, PV.ren, rn]; omega)) (.cons (by first | rfl | (congr 1; first | (simp; done) | (simp; omega))) <| .cons (by first | rfl | (congr 1; first | (simp; done) | (simp; omega))) <| .nil) rfl rfl rfl rfl) rfl ?_
  refine PWl.nil ?_
  replace h : _ = r0 := h
  subst h
  exact EndsO.mk () (.inl rfl) (Sub.of (tl := []) (to := [(100, _), (101, _), (1100, _)]) rfl (.nil) (.cons rfl (by first | rfl | (congr 1; congr 2; first | (simp; done) | (simp; omega))) <| .cons rfl rfl <| .cons rfl rfl <| .nil)) (.nil) rfl rfl

theorem dcode_PutCtx_o_ok (c1 : List TPart) (row2 : List Int) (r0 : List Int) (h : (dcode_PutCtx_o c1 row2).wp (· = r0)) : PObj Try.prog 28 [.ref 100 0, .d (.sl (List.map TPart.e c1))] [(100, .cells 47 [.row 101 (List.length row2)]), (101, .row 5 1 (List.map (eK .u8) row2))] [100] (.tup []) (fun _ : Unit => [(100, .cells 47 [.row 101 (List.length r0)]), (101, .row 5 1 (List.map (eK .u8) r0))]) := by
  refine PObj.intro (sl := [(0, _), (1, _)]) Try.func28 rfl Try.ntmps28 rfl rfl rfl ?_
  intro ctx hK pv
  refine PWc.seq ?_
  refine PWc.region ?_
  refine PWl.step (LR.move rfl) rfl ?_
  replace h := iDet h
  obtain ⟨v3, hy4, h⟩ := h
  refine PWl.step (LR.rowN (ctx_Norm_ok c1 v3 hy4) rfl Try.call84 rfl rfl rfl rfl) rfl ?_
  refine PWl.step (LR.assign rfl) rfl ?_
  refine PWl.nil ?_
  refine PWc.seq ?_
  refine PWc.region ?_
  refine PWl.step (LR.move rfl) rfl ?_
  refine PWl.step (LR.move rfl) rfl ?_
  refine PWl.step (LR.lenRow Try.underlying24 rfl) rfl ?_
  refine PWl.step (LR.convInt Try.underlying36 (by rw [Try.underlying3]; rfl) rfl rfl) rfl ?_
  replace h := iDet h
  obtain ⟨y5, hy6, h⟩ := h
  refine PWl.step (LR.callObj [(100, 100), (101, 101)] [] [100, 101] (pack_Writer_Num_o_ok ((IntKind.u64.wrap ((List.length v3) : Int))) row2 y5 hy6) hK rfl Try.call81 rfl (by first | rfl | (simp; done) | (simp [PV.nilD, PV.ren, rn]; omega)) (.cons (by first | rfl | (congr 1; first | (simp; done) | (simp; omega))) <| .cons (by first | rfl | (congr 1; first | (simp; done) | (simp; omega))) <| .nil) rfl rfl rfl rfl) rfl ?_
  refine PWl.nil ?_
  refine PWc.seq ?_
  refine PWc.re (tl := [(0, _), (1, _)]) (to := [(9, _), (100, _), (101, _), (1100, _)]) rfl (.cons rfl rfl <| .cons rfl rfl <| .nil) (.cons rfl rfl <| .cons rfl rfl <| .cons rfl rfl <| .cons rfl rfl <| .nil) ?_
  refine PWc.region ?_
  refine PWl.step (LR.move rfl) rfl ?_
  refine PWl.step (LR.lenRow Try.underlying24 rfl) rfl ?_
  refine PWl.step (LR.move rfl) rfl ?_
  refine PWl.nil ?_
  refine PWc.block ?_
  refine PWc.loopM (fun (⟨v75, v76⟩ : Int × List Int) (_ : Unit) => ⟨49, [(0, .ref 100 0), (15, .row 9 (List.length v3)), (16, .d (.v (.int .i64 ((List.length v3) : Int)))), (17, .d (.v (.int .i64 v75)))], [(9, .row 101 2 (List.map TPart.e v3)), (100, .cells 47 [.row 101 (List.length v76)]), (101, .row 5 1 (List.map (eK .u8) v76)), (1100, .pin 100 (pv 100).1 (pv 100).2)]⟩) () h (Sub.of rfl (.cons rfl rfl <| .cons rfl rfl <| .cons rfl rfl <| .cons rfl rfl <| .nil) (.cons rfl rfl <| .cons rfl rfl <| .cons rfl rfl <| .cons rfl rfl <| .nil)) ?_
  rintro N ⟨v75, v76⟩ _ h
  refine PWc.seq ?_
  refine PWc.region ?_
  refine PWl.step (LR.lss rfl rfl) rfl ?_
  refine PWl.nil ?_
  refine PWc.seq ?_
  refine PWc.cond rfl (fun hc77 => ?_) (fun hc77 => ?_)
  · replace h := iT hc77 h
    refine PWc.skip ?_
    refine PWc.seq ?_
    refine PWc.jn (iBind h) (fun (v78 : List Int) (_ : Unit) => ⟨49, [(0, .ref 100 0), (15, .row 9 (List.length v3)), (16, .d (.v (.int .i64 ((List.length v3) : Int)))), (17, .d (.v (.int .i64 v75)))], [(9, .row 101 2 (List.map TPart.e v3)), (100, .cells 47 [.row 101 (List.length v78)]), (101, .row 5 1 (List.map (eK .u8) v78)), (1100, .pin 100 (pv 100).1 (pv 100).2)]⟩) (fun h => ?_) ?_
    · refine PWc.block ?_
      refine PWc.seq ?_
      refine PWc.region ?_
      replace h := iIdx h
      obtain ⟨x79, hy80, h⟩ := h
      refine PWl.step (LR.idxRowT (L := v3) (y := x79) Try.underlying24 Try.sizeOf101 rfl rfl rfl hy80) rfl ?_
      refine PWl.step (LR.loadRpT (enc := TPart.e) (L := v3) (y := x79) Try.isAgg101 Try.sizeOf101 rfl rfl hy80.2) rfl ?_
      refine PWl.step (LR.allocZ (cs := [_, _]) Try.zeroValue101 rfl rfl rfl rfl) rfl ?_
      refine PWl.step (LR.storeB (ns := [_, _]) Try.sizeOf101 rfl rfl rfl rfl rfl rfl rfl) rfl ?_
      refine PWl.nil ?_
      refine PWc.seq ?_
      refine PWc.region ?_
      refine PWl.step (LR.move rfl) rfl ?_
      refine PWl.step (LR.fieldRef Try.underlying101 rfl Try.sizeOf28 (by decide) rfl rfl) rfl ?_
      refine PWl.step (LR.loadRef Try.isAgg28 rfl rfl rfl) rfl ?_
      refine PWl.step (LR.convInt Try.underlying36 (by rw [Try.underlying28]; rfl) rfl rfl) rfl ?_
      replace h := iDet h
      obtain ⟨y81, hy82, h⟩ := h
      refine PWl.step (LR.callObj [(100, 100), (101, 101)] [] [100, 101] (pack_Writer_Num_o_ok (IntKind.u64.wrap x79.dev) v76 y81 hy82) hK rfl Try.call81 rfl (by first | rfl | (simp; done) | (simp [PV.nilD, PV.ren, rn]; omega)) (.cons (by first | rfl | (congr 1; first | (simp; done) | (simp; omega))) <| .cons (by first | rfl | (congr 1; first | (simp; done) | (simp; omega))) <| .nil) rfl rfl rfl rfl) rfl ?_
      refine PWl.nil ?_
      refine PWc.seq ?_
      refine PWc.re (tl := [(0, _), (5, _), (15, _), (16, _), (17, _)]) (to := [(5, _), (9, _), (100, _), (101, _), (1100, _)]) rfl (.cons rfl rfl <| .cons rfl rfl <| .cons rfl rfl <| .cons rfl rfl <| .cons rfl rfl <| .nil) (.cons rfl rfl <| .cons rfl rfl <| .cons rfl rfl <| .cons rfl rfl <| .cons rfl rfl <| .nil) ?_
      refine PWc.region ?_
      refine PWl.step (LR.move rfl) rfl ?_
      refine PWl.step (LR.fieldRef Try.underlying101 rfl Try.sizeOf34 (by decide) rfl rfl) rfl ?_
      refine PWl.step (LR.loadRef Try.isAgg34 rfl rfl rfl) rfl ?_
      refine PWl.step (LR.lenMap (enc := TRun.e) (L := x79.runs) Try.underlying34 rfl) rfl ?_
      refine PWl.step (LR.convInt Try.underlying36 (by rw [Try.underlying3]; rfl) rfl rfl) rfl ?_
      replace h := iDet h
      obtain ⟨y83, hy84, h⟩ := h
      refine PWl.step (LR.callObj [(100, 100), (101, 101)] [] [100, 101] (pack_Writer_Num_o_ok (IntKind.u64.wrap (List.length x79.runs : Int)) y81 y83 hy84) hK rfl Try.call81 rfl (by first | rfl | (simp; done) | (simp [PV.nilD, PV.ren, rn]; omega)) (.cons (by first | rfl | (congr 1; first | (simp; done) | (simp; omega))) <| .cons (by first | rfl | (congr 1; first | (simp; done) | (simp; omega))) <| .nil) rfl rfl rfl rfl) rfl ?_
      refine PWl.nil ?_
      refine PWc.seq ?_
      refine PWc.re (tl := [(0, _), (5, _), (15, _), (16, _), (17, _)]) (to := [(5, _), (9, _), (100, _), (101, _), (1100, _)]) rfl (.cons rfl rfl <| .cons rfl rfl <| .cons rfl rfl <| .cons rfl rfl <| .cons rfl rfl <| .nil) (.cons rfl rfl <| .cons rfl rfl <| .cons rfl rfl <| .cons rfl rfl <| .cons rfl rfl <| .nil) ?_
      refine PWc.region ?_
      refine PWl.step (LR.fieldRef Try.underlying101 rfl Try.sizeOf34 (by decide) rfl rfl) rfl ?_
      refine PWl.step (LR.loadRef Try.isAgg34 rfl rfl rfl) rfl ?_
      refine PWl.step (LR.lenMap (enc := TRun.e) (L := x79.runs) Try.underlying34 rfl) rfl ?_
      refine PWl.step (LR.move rfl) rfl ?_
      refine PWl.nil ?_
      refine PWc.block ?_
      refine PWc.loopM (fun (⟨v101, v102⟩ : Int × List Int) (_ : Unit) => ⟨49, [(0, .ref 100 0), (15, .row 9 (List.length v3)), (16, .d (.v (.int .i64 ((List.length v3) : Int)))), (17, .d (.v (.int .i64 v75))), (33, .d (.sl (List.map TRun.e x79.runs))), (34, .d (.v (.int .i64 (List.length x79.runs : Int)))), (35, .d (.v (.int .i64 v101)))], [(9, .row 101 2 (List.map TPart.e v3)), (100, .cells 47 [.row 101 (List.length v102)]), (101, .row 5 1 (List.map (eK .u8) v102)), (1100, .pin 100 (pv 100).1 (pv 100).2)]⟩) () h (Sub.of rfl (.cons rfl rfl <| .cons rfl rfl <| .cons rfl rfl <| .cons rfl rfl <| .cons rfl rfl <| .cons rfl rfl <| .cons rfl rfl <| .nil) (.cons rfl rfl <| .cons rfl rfl <| .cons rfl rfl <| .cons rfl rfl <| .nil)) ?_
      rintro N ⟨v101, v102⟩ _ h
      refine PWc.seq ?_
      refine PWc.region ?_
      refine PWl.step (LR.lss rfl rfl) rfl ?_
      refine PWl.nil ?_
      refine PWc.seq ?_
      refine PWc.cond rfl (fun hc103 => ?_) (fun hc103 => ?_)
      · replace h := iT hc103 h
        refine PWc.skip ?_
        refine PWc.seq ?_
        refine PWc.block ?_
        refine PWc.seq ?_
        refine PWc.region ?_
        replace h := iIdx h
        obtain ⟨x104, hy105, h⟩ := h
        refine PWl.step (LR.idxT (enc := TRun.e) (L := x79.runs) (y := x104) Try.underlying34 Try.sizeOf114 rfl rfl hy105 (fun _ => rfl)) rfl ?_
        refine PWl.step (LR.loadEpAgg (ys := [_, _]) Try.isAgg114 Try.sizeOf114 rfl rfl rfl) rfl ?_
        refine PWl.step (LR.allocZ (cs := [_, _]) Try.zeroValue114 rfl rfl rfl rfl) rfl ?_
        refine PWl.step (LR.storeB (ns := [_, _]) Try.sizeOf114 rfl rfl rfl rfl rfl rfl rfl) rfl ?_
        refine PWl.nil ?_
        refine PWc.seq ?_
        refine PWc.region ?_
        refine PWl.step (LR.move rfl) rfl ?_
        refine PWl.step (LR.fieldRef Try.underlying114 rfl Try.sizeOf36 (by decide) rfl rfl) rfl ?_
        refine PWl.step (LR.loadRef Try.isAgg36 rfl rfl rfl) rfl ?_
        replace h := iDet h
        obtain ⟨y106, hy107, h⟩ := h
        refine PWl.step (LR.callObj [(100, 100), (101, 101)] [] [100, 101] (pack_Writer_Num_o_ok x104.lo v102 y106 hy107) hK rfl Try.call81 rfl (by first | rfl | (simp; done) | (simp [PV.nilD, PV.ren, rn]; omega)) (.cons (by first | rfl | (congr 1; first | (simp; done) | (simp; omega))) <| .cons (by first | rfl | (congr 1; first | (simp; done) | (simp; omega))) <| .nil) rfl rfl rfl rfl) rfl ?_
        refine PWl.nil ?_
        refine PWc.re (tl := [(0, _), (7, _), (15, _), (16, _), (17, _), (33, _), (34, _), (35, _)]) (to := [(7, _), (9, _), (100, _), (101, _), (1100, _)]) rfl (.cons rfl rfl <| .cons rfl rfl <| .cons rfl rfl <| .cons rfl rfl <| .cons rfl rfl <| .cons rfl rfl <| .cons rfl rfl <| .cons rfl rfl <| .nil) (.cons rfl rfl <| .cons rfl rfl <| .cons rfl rfl <| .cons rfl rfl <| .cons rfl rfl <| .nil) ?_
        refine PWc.region ?_
        refine PWl.step (LR.move rfl) rfl ?_
        refine PWl.step (LR.fieldRef Try.underlying114 rfl Try.sizeOf36 (by decide) rfl rfl) rfl ?_
        refine PWl.step (LR.loadRef Try.isAgg36 rfl rfl rfl) rfl ?_
        replace h := iDet h
        obtain ⟨y108, hy109, h⟩ := h
        refine PWl.step (LR.callObj [(100, 100), (101, 101)] [] [100, 101] (pack_Writer_Num_o_ok x104.hi y106 y108 hy109) hK rfl Try.call81 rfl (by first | rfl | (simp; done) | (simp [PV.nilD, PV.ren, rn]; omega)) (.cons (by first | rfl | (congr 1; first | (simp; done) | (simp; omega))) <| .cons (by first | rfl | (congr 1; first | (simp; done) | (simp; omega))) <| .nil) rfl rfl rfl rfl) rfl ?_
        refine PWl.nil ?_
        refine PWc.re (tl := [(0, _), (15, _), (16, _), (17, _), (33, _), (34, _), (35, _)]) (to := [(9, _), (100, _), (101, _), (1100, _)]) rfl (.cons rfl rfl <| .cons rfl rfl <| .cons rfl rfl <| .cons rfl rfl <| .cons rfl rfl <| .cons rfl rfl <| .cons rfl rfl <| .nil) (.cons rfl rfl <| .cons rfl rfl <| .cons rfl rfl <| .cons rfl rfl <| .nil) ?_
        refine PWc.region ?_
        refine PWl.step (LR.addW rfl rfl) rfl ?_
        refine PWl.step (LR.move rfl) rfl ?_
        refine PWl.nil ?_
        exact ⟨((IntKind.i64.wrap (v101 + 1)), y108), (), h, Sub.of rfl (.cons rfl rfl <| .cons rfl rfl <| .cons rfl rfl <| .cons rfl rfl <| .cons rfl rfl <| .cons rfl rfl <| .cons rfl rfl <| .nil) (.cons rfl rfl <| .cons rfl rfl <| .cons rfl rfl <| .cons rfl rfl <| .nil)⟩
      · replace h := iF hc103 h
        refine PWc.exit ?_
        exact ⟨v102, (), h, Sub.of rfl (.cons rfl rfl <| .cons rfl rfl <| .cons rfl rfl <| .cons rfl rfl <| .nil) (.cons rfl rfl <| .cons rfl rfl <| .cons rfl rfl <| .cons rfl rfl <| .nil)⟩
    · rintro v78 _ h
      refine PWc.region ?_
      refine PWl.step (LR.addW rfl rfl) rfl ?_
      refine PWl.step (LR.move rfl) rfl ?_
      refine PWl.nil ?_
      exact ⟨((IntKind.i64.wrap (v75 + 1)), v78), (), h, Sub.of rfl (.cons rfl rfl <| .cons rfl rfl <| .cons rfl rfl <| .cons rfl rfl <| .nil) (.cons rfl rfl <| .cons rfl rfl <| .cons rfl rfl <| .cons rfl rfl <| .nil)⟩
  · replace h := iF hc77 h
    refine PWc.exit ?_
    replace h : _ = r0 := h
    subst h
    exact EndsO.mk () (.inl rfl) (Sub.of (tl := []) (to := [(100, _), (101, _), (1100, _)]) rfl (.nil) (.cons rfl (by first | rfl | (congr 1; congr 2; first | (simp; done) | (simp; omega))) <| .cons rfl rfl <| .cons rfl rfl <| .nil)) (.nil) rfl rfl
end Go.Proofs

namespace Go.Proofs
open Go.Ep
set_option maxHeartbeats 1000000
set_option maxRecDepth 100000
set_option linter.unusedVariables false
set_option linter.unusedSimpArgs false


theorem pack_Writer_Bytes_o_ok (row1 : List Int) (r0 : List Int × List Int) (h : (pack_Writer_Bytes_o row1).wp (· = r0)) : PObj Try.prog 30 [.ref 100 0] [(100, .cells 47 [.row 101 (List.length row1)]), (101, .row 5 1 (List.map (eK .u8) row1))] [100] (.d (.sl (List.map (eK .u8) r0.1))) (fun _ : Unit => [(100, .cells 47 [.row 101 (List.length r0.2)]), (101, .row 5 1 (List.map (eK .u8) r0.2))]) := by
  refine PObj.intro (sl := [(0, _)]) Try.func30 rfl Try.ntmps30 rfl rfl rfl ?_
  intro ctx hK pv
  refine PWc.seq ?_
  refine PWc.region ?_
  refine PWl.step (LR.assignNilRow 5 1 rfl) rfl ?_
  refine PWl.nil ?_
  refine PWc.seq ?_
  refine PWc.seq ?_
  refine PWc.region ?_
  refine PWl.step (LR.move rfl) rfl ?_
  refine PWl.step (LR.eqlPtr Try.underlying49 rfl) rfl ?_
  refine PWl.nil ?_
  refine PWc.condF rfl ?_
  refine PWc.skip ?_
  refine PWc.seq ?_
  refine PWc.region ?_
  refine PWl.step (LR.move rfl) rfl ?_
  refine PWl.step (LR.nilCheckRef rfl) rfl ?_
  refine PWl.step (LR.fieldRef Try.underlying47 rfl Try.sizeOf45 (by decide) rfl rfl) rfl ?_
  refine PWl.step (LR.loadRef Try.isAgg45 rfl rfl rfl) rfl ?_
  replace h := iNeed h
  obtain ⟨hy2, h⟩ := h
  refine PWl.step (LR.appNilT (enc := (eK .u8)) (R := row1) elem45 Try.underlying45 rfl (Src.rowT (enc := (eK .u8)) (R := row1) rfl rfl rfl) (fun _ => rfl) hy2 rfl rfl) rfl ?_
  refine PWl.re (tl := [(0, _), (3, _), (4, _), (5, _), (6, _), (7, _), (8, _), (9, _)]) (to := [(9, _), (100, _), (101, _), (1100, _)]) rfl (.cons rfl rfl <| .cons rfl rfl <| .cons rfl rfl <| .cons rfl rfl <| .cons rfl rfl <| .cons rfl rfl <| .cons rfl rfl <| .cons rfl rfl <| .nil) (.cons rfl rfl <| .cons rfl rfl <| .cons rfl rfl <| .cons rfl rfl <| .nil) ?_
  refine PWl.step (LR.assign rfl) rfl ?_
  refine PWl.nil ?_
  refine PWc.ret ?_
  replace h : _ = r0 := h
  subst h
  exact EndsO.mk () (.inr rfl) (Sub.trans (Sub.frz [2, 9] hK rfl (by simp) (AllRow.get (.cons rfl <| .cons rfl <| .nil))) <| Sub.of (tl := [(2, _)]) (to := [(100, _), (101, _), (1100, _)]) rfl (.cons rfl rfl <| .nil) (.cons rfl (by first | rfl | (congr 1; congr 2; first | (simp; done) | (simp; omega))) <| .cons rfl rfl <| .cons rfl rfl <| .nil)) (.cons (.tmp rfl) <| .nil) rfl rfl

theorem dcode_Encode_ok (c1 : List TPart) (r0 : List Int) (h : (dcode_Encode c1).wp (· = r0)) : PFun Try.prog 34 [.d (.sl (List.map TPart.e c1))] (.d (.sl (List.map (eK .u8) r0))) := by
  refine PFun.intro (sl := [(0, _)]) Try.func34 rfl Try.ntmps34 rfl rfl ?_
  intro ctx hK
  refine PWc.seq ?_
  refine PWc.region ?_
  refine PWl.step (LR.assignNilRow 5 1 rfl) rfl ?_
  refine PWl.nil ?_
  refine PWc.seq ?_
  refine PWc.region ?_
  refine PWl.step (LR.allocR (cs := [_]) Try.zeroValue47 rfl rfl rfl rfl) rfl ?_
  refine PWl.sub (Sub.ownNil (id := 3) (j := 0) (id' := 30060) (e := 5) (k := 1) rfl rfl rfl rfl) ?_
  refine PWl.nil ?_
  refine PWc.seq ?_
  refine PWc.re (tl := [(0, _), (3, _)]) (to := [(3, _), (30060, _)]) rfl (.cons rfl rfl <| .cons rfl rfl <| .nil) (.cons rfl rfl <| .cons rfl rfl <| .nil) ?_
  refine PWc.region ?_
  refine PWl.step (LR.move rfl) rfl ?_
  replace h := iDet h
  obtain ⟨y2, hy3, h⟩ := h
  refine PWl.step (LR.callObj [(100, 3), (101, 30060)] [] [100, 101] (dcode_PutCtx_o_ok c1 ([] : List Int) y2 hy3) hK rfl Try.call28 rfl (by first | rfl | (simp; done) | (simp [PV.nilD, PV.ren, rn]; omega)) (.cons (by first | rfl | (congr 1; first | (simp; done) | (simp; omega))) <| .cons (by first | rfl | (congr 1; first | (simp; done) | (simp; omega))) <| .nil) rfl rfl rfl rfl) rfl ?_
  refine PWl.nil ?_
  refine PWc.seq ?_
  refine PWc.re (tl := [(3, _)]) (to := [(3, _), (30060, _)]) rfl (.cons rfl rfl <| .nil) (.cons rfl rfl <| .cons rfl rfl <| .nil) ?_
  refine PWc.region ?_
  replace h := iDet h
  obtain ⟨y4, hy5, h⟩ := h
  refine PWl.step (LR.callObj [(100, 3), (101, 30060)] [] [100, 101] (pack_Writer_Bytes_o_ok y2 y4 hy5) hK rfl Try.call30 rfl (by first | rfl | (simp; done) | (simp [PV.nilD, PV.ren, rn]; omega)) (.cons (by first | rfl | (congr 1; first | (simp; done) | (simp; omega))) <| .cons (by first | rfl | (congr 1; first | (simp; done) | (simp; omega))) <| .nil) rfl rfl rfl rfl) rfl ?_
  refine PWl.step (LR.assign rfl) rfl ?_
  refine PWl.nil ?_
  refine PWc.ret ?_
  replace h : _ = r0 := h
  subst h
  exact ⟨.inr rfl, _, .cons (.tmp rfl rfl) <| .nil, rfl⟩

theorem l15_works_ok  (r0 : Bool) (h : (l15_works ).wp (· = r0)) : PFun Try.prog 25 [] (.d (.v (.bool r0))) := by
  refine PFun.intro (sl := []) Try.func25 rfl Try.ntmps25 rfl rfl ?_
  intro ctx hK
  refine PWc.seq ?_
  refine PWc.region ?_
  refine PWl.step (LR.assign rfl) rfl ?_
  refine PWl.nil ?_
  refine PWc.seq ?_
  refine PWc.region ?_
  refine PWl.step (LR.build (ns := [_, _]) build114 rfl rfl rfl) rfl ?_
  refine PWl.step (LR.buildSliceD [.tmp 1] elem34 rfl rfl (.cons rfl rfl rfl <| .nil) (by decide) (by decide)) rfl ?_
  refine PWl.step (LR.build (ns := [_, _]) build101 rfl rfl rfl) rfl ?_
  refine PWl.step (LR.buildSliceD [.tmp 3] elem24 rfl rfl (.cons rfl rfl rfl <| .nil) (by decide) (by decide)) rfl ?_
  replace h := iDet h
  obtain ⟨v1, hy2, h⟩ := h
  refine PWl.step (LR.callN (dcode_Encode_ok ([(⟨1, [(⟨1, 2⟩ : TRun)]⟩ : TPart)]) v1 hy2) rfl Try.call34 rfl rfl rfl rfl) rfl ?_
  refine PWl.step (LR.buildSliceD [.const (.int .u8 1), .const (.int .u8 1), .const (.int .u8 1), .const (.int .u8 1), .const (.int .u8 1), .const (.int .u8 1), .const (.int .u8 1), .const (.int .u8 1), .const (.int .u8 1), .const (.int .u8 2)] elem45 rfl rfl (.cons rfl rfl rfl <| .cons rfl rfl rfl <| .cons rfl rfl rfl <| .cons rfl rfl rfl <| .cons rfl rfl rfl <| .cons rfl rfl rfl <| .cons rfl rfl rfl <| .cons rfl rfl rfl <| .cons rfl rfl rfl <| .cons rfl rfl rfl <| .nil) (by decide) (by decide)) rfl ?_
  replace h := iDet h
  obtain ⟨v3, hy4, h⟩ := h
  refine PWl.step (LR.callN (l15_equal_ok v1 ([1, 1, 1, 1, 1, 1, 1, 1, 1, 2]) v3 hy4) rfl Try.call29 rfl rfl rfl rfl) rfl ?_
  refine PWl.step (LR.assign rfl) rfl ?_
  refine PWl.nil ?_
  refine PWc.ret ?_
  replace h : _ = r0 := h
  subst h
  exact ⟨.inr rfl, _, .cons (.tmp rfl rfl) <| .nil, rfl⟩

end Go.Proofs

