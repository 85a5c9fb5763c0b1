/- The machine: calls, code, functions. -/
import Derived.Test.YtngikpapepnkaaaGreatDoorAM1
set_option linter.unusedSimpArgs false
set_option linter.unusedVariables false
namespace Go.AM
open Go.RowKit

theorem pfree_rep {S S' : Nat → Prop} {w w' : World} {x : PV} {v : Value} (h : pfree x = true) (hx : PRep S w x v) : PRep S' w' x v := by
  cases hx with
  | im => exact .im _
  | ag cs vs hl h1 hc =>
    refine .ag cs vs hl h1 fun i c v hi hv => ?_
    have hm := List.mem_of_getElem? hi
    have := List.all_eq_true.1 h c hm
    have hcv := hc i c v hi hv
    cases c with
    | im y => cases hcv; exact .im _
    | _ => cases this
  | nil => cases h
  | sl => cases h
  | ip => cases h
  | fn => cases h

/-- the world grows -/
theorem Sim.grow {A : Amb} {V L S : Nat → Prop} {rho : Nat → Value} {s : AS} {a : Act} {w : World} (sim : Sim A V L S rho s a w) (hC : CtxOK A.C) (w' : World) (hf : Fr (fun _ => False) w w') : Sim A V L S rho s a w' := by
  have keepS : ∀ b, S b → w'.heap[b]? = w.heap[b]? := fun k hk => hf.block k (sim.st k hk) (fun h => h)
  have T : Turn S S w w' L L rho rho s.h s.h := ⟨fun b h => h, keepS, fun j hj => ⟨hj, fun hl => ⟨hl, rfl⟩⟩, fun j e' hj => hj⟩
  exact
  { tm := fun j hj => (sim.tm j hj).turn T
    sz := sim.sz, df := sim.df, nb := sim.nb, pn := sim.pn
    ev := hC.env _ _ _ _ sim.ev (fun b h => h) keepS hf.size
    s0 := sim.s0
    st := fun b hb => Nat.lt_of_lt_of_le (sim.st b hb) hf.size
    sb := sim.sb
    hp := fun j hj => (sim.hp j hj).turn T (fun li g hg => hf.block g (sim.lv j g hj li hg).1 (fun h => h)) (fun _ => rfl)
    dj := fun i j g hi hj li lj hgi hgj => sim.dj i j g hi hj li lj (hasB_turn (fun k hk => hf.block k (sim.lvb i k hi li hk).1 (fun h => h)) hgi) (hasB_turn (fun k hk => hf.block k (sim.lvb j k hj lj hk).1 (fun h => h)) hgj)
    lv := fun i g hi li hg => by obtain ⟨h1, h2⟩ := sim.lv i g hi li (hasB_turn (fun k hk => hf.block k (sim.lvb i k hi li hk).1 (fun h => h)) hg); exact ⟨Nat.lt_of_lt_of_le h1 hf.size, h2⟩
    fr := sim.fr.next hf.os hf.tape hf.output hf.size fun k hk _ => hf.block k (Nat.lt_of_lt_of_le hk sim.fr.size) (fun h => h) }

/-- the handed arguments with their objects -/
inductive HArgs (L : Nat → Prop) (rho : Nat → Value) (h : Nat → AB) : List Arg → List Value → List (Nat × AB) → Prop
  | nil : HArgs L rho h [] [] []
  | pv (x : PV) (v : Value) {xs : List Arg} {vs : List Value} {ids : List (Nat × AB)} (hr : HArgs L rho h xs vs ids) : HArgs L rho h (.pv x :: xs) (v :: vs) ids
  | row (id : Nat) (e : TypeId) (es : List (List PV)) {xs : List Arg} {vs : List Value} {ids : List (Nat × AB)} (hL : L id) (hid : h id = .row e es) (hr : HArgs L rho h xs vs ids) : HArgs L rho h (.row e es :: xs) (rho id :: vs) ((id, .row e es) :: ids)
  | box (id : Nat) (cs : List AV) (ys : List PV) {xs : List Arg} {vs : List Value} {ids : List (Nat × AB)} (hL : L id) (hid : h id = .box cs) (hy : cellsPV cs = some ys) (hr : HArgs L rho h xs vs ids) : HArgs L rho h (.box ys :: xs) (rho id :: vs) ((id, .box cs) :: ids)
  | hbox (id : Nat) (cs : List HC) {xs : List Arg} {vs : List Value} {ids : List (Nat × AB)} (hL : L id) (hid : h id = .hbox cs) (hr : HArgs L rho h xs vs ids) : HArgs L rho h (.hbox cs :: xs) (rho id :: vs) ((id, .hbox cs) :: ids)

theorem aargs_sim {A : Amb} (hC : CtxOK A.C) {V L : Nat → Prop} {rho : Nat → Value} {t : Nat → AV} {a : Act} {w : World} {h : Nat → AB} {md : Nat → Bool} :
    ∀ (avs : List AV) (vs : List Value) (j : Nat) (h' : Nat → AB) (S : Nat → Prop) (K : List Arg → List (Nat × AB) → List (Nat × AB) → Prop), avs.length = vs.length → Sim A V L S rho ⟨t, h'⟩ a w → Frz h h' →
      (∀ (S2 : Nat → Prop) (h2 : Nat → AB), Sim A V L S2 rho ⟨t, h2⟩ a w → ∀ (i : Nat) x v, avs[i]? = some x → vs[i]? = some v → LRep S2 w A.C.P L rho h2 x v) →
      (∀ id, (h' id).there → (h id).there) → aargs md h j avs K →
    ∃ xs ids fz S', K xs ids fz ∧ Sim A V L S' rho ⟨t, app h' fz⟩ a w ∧ (∀ b, S b → S' b) ∧ Frz h (app h' fz) ∧ (∀ p ∈ fz, L p.1) ∧ xs.length = vs.length ∧ HArgs L rho h xs vs ids ∧ (∀ (i : Nat) x v, xs[i]? = some (.pv x) → vs[i]? = some v → PRep S' w x v) := by
  intro avs
  induction avs with
  | nil =>
    intro vs j h' S K hl sim hF hrep _ hq
    have : vs = [] := List.eq_nil_of_length_eq_zero hl.symm
    subst this
    exact ⟨[], [], [], S, hq, sim, fun _ h => h, hF, by simp, rfl, .nil, by simp⟩
  | cons x avs ih =>
    intro vs j h' S K hl sim hF hrep hth hq
    cases vs with
    | nil => simp at hl
    | cons v vs =>
      simp only [List.length_cons, Nat.add_right_cancel_iff] at hl
      have hx : LRep S w A.C.P L rho h' x v := hrep S h' sim 0 x v rfl rfl
      have hrep' : ∀ (S2 : Nat → Prop) (h2 : Nat → AB), Sim A V L S2 rho ⟨t, h2⟩ a w → ∀ (i : Nat) x v, avs[i]? = some x → vs[i]? = some v → LRep S2 w A.C.P L rho h2 x v := fun S2 h2 s2 i x v h3 h4 => hrep S2 h2 s2 (i + 1) x v (by simpa using h3) (by simpa using h4)
      unfold aargs at hq
      split at hq
      · obtain ⟨y, fz, S2, hq, sim2, hp, hSS, hF2, hfz⟩ := toPV_sim hC sim hF hx hq
        have hth2 : ∀ id, (app h' fz id).there → (h id).there := fun id ht => by
          rcases hF2 id with h1 | ⟨e', xs, h1, h2⟩ | ⟨cs, xs, h1, _, h2⟩
          · rw [h1] at ht; exact ht
          · rw [h1]; trivial
          · rw [h1]; trivial
        obtain ⟨xs, ids, fz', S', k1, k2, k3, k4, k5, k6, k7, k8⟩ := ih vs (j + 1) (app h' fz) S2 _ hl sim2 hF2 hrep' hth2 hq
        refine ⟨.pv y :: xs, ids, fz ++ fz', S', k1, by rw [app_append]; exact k2, fun b hb => k3 b (hSS b hb), by rw [app_append]; exact k4, fun p hp => (List.mem_append.1 hp).elim (hfz p) (k5 p), by simp [k6], .pv y v k7, fun i x u h3 h4 => ?_⟩
        cases i with
        | zero => simp at h3 h4; subst h3 h4; exact hp.mono k3 (fun _ _ => rfl)
        | succ i => exact k8 i x u (by simpa using h3) (by simpa using h4)
      · split at hq
        · rename_i id
          split at hq
          · rename_i e es hrow
            obtain ⟨xs, ids, fz', S', k1, k2, k3, k4, k5, k6, k7, k8⟩ := ih vs (j + 1) h' S _ hl sim hF hrep' hth hq
            have ht : (h' id).there := by
              rcases hF id with h1 | ⟨e', xs, h1, h2⟩ | ⟨cs, xs, h1, _, h2⟩
              · rw [h1, hrow]; trivial
              · rw [h2]; trivial
              · rw [h2]; trivial
            obtain ⟨hL, rfl⟩ := hx.ow_inv ht
            refine ⟨.row e es :: xs, (id, .row e es) :: ids, fz', S', k1, k2, k3, k4, k5, by simp [k6], .row id e es hL hrow k7, fun i x u h3 h4 => ?_⟩
            cases i with
            | zero => simp at h3
            | succ i => exact k8 i x u (by simpa using h3) (by simpa using h4)
          · rename_i es hfr
            obtain ⟨xs, ids, fz', S', k1, k2, k3, k4, k5, k6, k7, k8⟩ := ih vs (j + 1) h' S _ hl sim hF hrep' hth hq
            have he : h' id = .frz es := by
              rcases hF id with h1 | ⟨e', xs, h1, h2⟩ | ⟨cs, xs, h1, _, h2⟩
              · rw [h1, hfr]
              · rw [hfr] at h1; cases h1
              · rw [hfr] at h1; cases h1
            obtain ⟨hL, rfl⟩ := hx.ow_inv (by rw [he]; trivial)
            have hh := sim.hp id hL
            have hh : HRep S w A.C.P L rho h' id (h' id) := hh
            rw [he] at hh
            refine ⟨.pv (.sl es) :: xs, ids, fz', S', k1, k2, k3, k4, k5, by simp [k6], .pv _ _ k7, fun i x u h3 h4 => ?_⟩
            cases i with
            | zero => simp at h3 h4; subst h3 h4; exact PRep.mono hh k3 (fun _ _ => rfl)
            | succ i => exact k8 i x u (by simpa using h3) (by simpa using h4)
          · exact hq.elim
        · obtain ⟨xs, ids, fz', S', k1, k2, k3, k4, k5, k6, k7, k8⟩ := ih vs (j + 1) h' S _ hl sim hF hrep' hth hq
          refine ⟨.pv _ :: xs, ids, fz', S', k1, k2, k3, k4, k5, by simp [k6], .pv _ _ k7, fun i x u h3 h4 => ?_⟩
          cases i with
          | zero => simp at h3 h4; subst h3 h4; exact hx.p_inv.mono k3 (fun _ _ => rfl)
          | succ i => exact k8 i x u (by simpa using h3) (by simpa using h4)
        · rename_i id
          split at hq
          · rename_i cs hbox
            split at hq
            · rename_i ys hys
              obtain ⟨xs, ids, fz', S', k1, k2, k3, k4, k5, k6, k7, k8⟩ := ih vs (j + 1) h' S _ hl sim hF hrep' hth hq
              have ht : (h' id).there := by
                rcases hF id with h1 | ⟨e', xs, h1, h2⟩ | ⟨cs, xs, h1, _, h2⟩
                · rw [h1, hbox]; trivial
                · rw [h2]; trivial
                · rw [h2]; trivial
              obtain ⟨hL, g, hg, hv⟩ := hx.bx_inv ht
              have hv' : v = rho id := by rw [hv, hg]
              subst hv'
              refine ⟨.box ys :: xs, (id, .box cs) :: ids, fz', S', k1, k2, k3, k4, k5, by simp [k6], .box id cs ys hL hbox hys k7, fun i x u h3 h4 => ?_⟩
              cases i with
              | zero => simp at h3
              | succ i => exact k8 i x u (by simpa using h3) (by simpa using h4)
            · exact hq.elim
          · rename_i cs hbox
            obtain ⟨xs, ids, fz', S', k1, k2, k3, k4, k5, k6, k7, k8⟩ := ih vs (j + 1) h' S _ hl sim hF hrep' hth hq
            have ht : (h' id).there := by
              rcases hF id with h1 | ⟨e', xs, h1, h2⟩ | ⟨cs, xs, h1, _, h2⟩
              · rw [h1, hbox]; trivial
              · rw [h2]; trivial
              · rw [h2]; trivial
            obtain ⟨hL, g, hg, hv⟩ := hx.bx_inv ht
            have hv' : v = rho id := by rw [hv, hg]
            subst hv'
            refine ⟨.hbox cs :: xs, (id, .hbox cs) :: ids, fz', S', k1, k2, k3, k4, k5, by simp [k6], .hbox id cs hL hbox k7, fun i x u h3 h4 => ?_⟩
            cases i with
            | zero => simp at h3
            | succ i => exact k8 i x u (by simpa using h3) (by simpa using h4)
          · exact hq.elim
        · exact hq.elim

theorem HArgs.at {L : Nat → Prop} {rho : Nat → Value} {h : Nat → AB} {xs : List Arg} {vs : List Value} {ids : List (Nat × AB)} (H : HArgs L rho h xs vs ids) : ∀ (j : Nat) x v, xs[j]? = some x → vs[j]? = some v → x.handed = true → ∃ id b, (id, b) ∈ ids ∧ L id ∧ h id = b ∧ v = rho id ∧ ((∃ e es, x = .row e es ∧ b = .row e es) ∨ (∃ cs ys, x = .box ys ∧ b = .box cs ∧ cellsPV cs = some ys) ∨ ∃ cs, x = .hbox cs ∧ b = .hbox cs) := by
  induction H with
  | nil => intro j x v h1; simp at h1
  | pv y u hr ih =>
    intro j x v h1 h2 h3
    cases j with
    | zero => simp at h1; subst h1; cases h3
    | succ j => exact ih j x v (by simpa using h1) (by simpa using h2) h3
  | row id e es hL hid hr ih =>
    intro j x v h1 h2 h3
    cases j with
    | zero => simp at h1 h2; subst h1 h2; exact ⟨id, _, by simp, hL, hid, rfl, .inl ⟨e, es, rfl, rfl⟩⟩
    | succ j => obtain ⟨i, b, m, r⟩ := ih j x v (by simpa using h1) (by simpa using h2) h3; exact ⟨i, b, by simp [m], r⟩
  | box id cs ys hL hid hy hr ih =>
    intro j x v h1 h2 h3
    cases j with
    | zero => simp at h1 h2; subst h1 h2; exact ⟨id, _, by simp, hL, hid, rfl, .inr (.inl ⟨cs, ys, rfl, rfl, hy⟩)⟩
    | succ j => obtain ⟨i, b, m, r⟩ := ih j x v (by simpa using h1) (by simpa using h2) h3; exact ⟨i, b, by simp [m], r⟩
  | hbox id cs hL hid hr ih =>
    intro j x v h1 h2 h3
    cases j with
    | zero => simp at h1 h2; subst h1 h2; exact ⟨id, _, by simp, hL, hid, rfl, .inr (.inr ⟨cs, rfl, rfl⟩)⟩
    | succ j => obtain ⟨i, b, m, r⟩ := ih j x v (by simpa using h1) (by simpa using h2) h3; exact ⟨i, b, by simp [m], r⟩
theorem HArgs.back {L : Nat → Prop} {rho : Nat → Value} {h : Nat → AB} {xs : List Arg} {vs : List Value} {ids : List (Nat × AB)} (H : HArgs L rho h xs vs ids) : ∀ id b, (id, b) ∈ ids → L id ∧ h id = b ∧ b.live ∧ ∃ (j : Nat) (x : Arg), xs[j]? = some x ∧ vs[j]? = some (rho id) ∧ x.handed = true := by
  induction H with
  | nil => intro id b h; cases h
  | pv y u hr ih => intro id b h; obtain ⟨h1, h2, h3, j, x, h4⟩ := ih id b h; exact ⟨h1, h2, h3, j + 1, x, by simpa using h4⟩
  | row i e es hL hid hr ih =>
    intro id b h
    rcases List.mem_cons.1 h with h | h
    · injection h with h1 h2; subst h1 h2; exact ⟨hL, hid, trivial, 0, _, rfl, rfl, rfl⟩
    · obtain ⟨h1, h2, h3, j, x, h4⟩ := ih id b h; exact ⟨h1, h2, h3, j + 1, x, by simpa using h4⟩
  | box i cs ys hL hid hy hr ih =>
    intro id b h
    rcases List.mem_cons.1 h with h | h
    · injection h with h1 h2; subst h1 h2; exact ⟨hL, hid, trivial, 0, _, rfl, rfl, rfl⟩
    · obtain ⟨h1, h2, h3, j, x, h4⟩ := ih id b h; exact ⟨h1, h2, h3, j + 1, x, by simpa using h4⟩
  | hbox i cs hL hid hr ih =>
    intro id b h
    rcases List.mem_cons.1 h with h | h
    · injection h with h1 h2; subst h1 h2; exact ⟨hL, hid, trivial, 0, _, rfl, rfl, rfl⟩
    · obtain ⟨h1, h2, h3, j, x, h4⟩ := ih id b h; exact ⟨h1, h2, h3, j + 1, x, by simpa using h4⟩
theorem HArgs.inj {L : Nat → Prop} {rho : Nat → Value} {h : Nat → AB} {xs : List Arg} {vs : List Value} {ids : List (Nat × AB)} (H : HArgs L rho h xs vs ids) (hn : (ids.map (·.1)).Nodup) : ∀ (i j : Nat) x y v u, xs[i]? = some x → xs[j]? = some y → vs[i]? = some v → vs[j]? = some u → x.handed = true → y.handed = true → i ≠ j →
    ∃ id1 id2 b1 b2, id1 ≠ id2 ∧ (id1, b1) ∈ ids ∧ (id2, b2) ∈ ids ∧ v = rho id1 ∧ u = rho id2 ∧ ((∃ e es, x = .row e es ∧ b1 = .row e es) ∨ (∃ cs ys, x = .box ys ∧ b1 = .box cs ∧ cellsPV cs = some ys) ∨ ∃ cs, x = .hbox cs ∧ b1 = .hbox cs) ∧ ((∃ e es, y = .row e es ∧ b2 = .row e es) ∨ (∃ cs ys, y = .box ys ∧ b2 = .box cs ∧ cellsPV cs = some ys) ∨ ∃ cs, y = .hbox cs ∧ b2 = .hbox cs) := by
  have step : ∀ (i0 : Nat) (b0 : AB) {xs : List Arg} {vs : List Value} {ids : List (Nat × AB)} (H : HArgs L rho h xs vs ids) (hn : (((i0, b0) :: ids).map (·.1)).Nodup) (j : Nat) (y : Arg) (u : Value), xs[j]? = some y → vs[j]? = some u → y.handed = true → ∃ id b, id ≠ i0 ∧ (id, b) ∈ ids ∧ u = rho id ∧ ((∃ e es, y = .row e es ∧ b = .row e es) ∨ (∃ cs ys, y = .box ys ∧ b = .box cs ∧ cellsPV cs = some ys) ∨ ∃ cs, y = .hbox cs ∧ b = .hbox cs) := by
    intro i0 b0 xs vs ids H hn j y u h1 h2 h3
    obtain ⟨id, b, h4, _, _, h5, hf⟩ := H.at j y u h1 h2 h3
    simp only [List.map_cons, List.nodup_cons] at hn
    exact ⟨id, b, fun e => hn.1 (List.mem_map.2 ⟨(id, b), h4, e⟩), h4, h5, hf⟩
  induction H with
  | nil => intro i j x y v u h1; simp at h1
  | pv z v0 hr ih =>
    intro i j x y v u h1 h2 h3 h4 h5 h6 h7
    cases i with
    | zero => simp at h1; subst h1; cases h5
    | succ i =>
      cases j with
      | zero => simp at h2; subst h2; cases h6
      | succ j => exact ih hn i j x y v u (by simpa using h1) (by simpa using h2) (by simpa using h3) (by simpa using h4) h5 h6 (by omega)
  | row id e es hL hid hr ih =>
    intro i j x y v u h1 h2 h3 h4 h5 h6 h7
    have hn' := hn
    simp only [List.map_cons, List.nodup_cons] at hn'
    cases i with
    | zero =>
      cases j with
      | zero => exact absurd rfl h7
      | succ j =>
        obtain ⟨id2, b2, k1, k2, k3, hf⟩ := step id (.row e es) hr hn j y u (by simpa using h2) (by simpa using h4) h6
        simp at h1 h3
        exact ⟨id, id2, .row e es, b2, k1.symm, by simp, by simp [k2], h3.symm, k3, h1 ▸ .inl ⟨e, es, rfl, rfl⟩, hf⟩
    | succ i =>
      cases j with
      | zero =>
        obtain ⟨id2, b2, k1, k2, k3, hf⟩ := step id (.row e es) hr hn i x v (by simpa using h1) (by simpa using h3) h5
        simp at h2 h4
        exact ⟨id2, id, b2, .row e es, k1, by simp [k2], by simp, k3, h4.symm, hf, h2 ▸ .inl ⟨e, es, rfl, rfl⟩⟩
      | succ j =>
        obtain ⟨id1, id2, b1, b2, k1, k2, k3, k4, k5⟩ := ih hn'.2 i j x y v u (by simpa using h1) (by simpa using h2) (by simpa using h3) (by simpa using h4) h5 h6 (by omega)
        exact ⟨id1, id2, b1, b2, k1, by simp [k2], by simp [k3], k4, k5⟩
  | box id cs ys hL hid hy hr ih =>
    intro i j x y v u h1 h2 h3 h4 h5 h6 h7
    have hn' := hn
    simp only [List.map_cons, List.nodup_cons] at hn'
    cases i with
    | zero =>
      cases j with
      | zero => exact absurd rfl h7
      | succ j =>
        obtain ⟨id2, b2, k1, k2, k3, hf⟩ := step id (.box cs) hr hn j y u (by simpa using h2) (by simpa using h4) h6
        simp at h1 h3
        exact ⟨id, id2, .box cs, b2, k1.symm, by simp, by simp [k2], h3.symm, k3, h1 ▸ .inr (.inl ⟨cs, ys, rfl, rfl, hy⟩), hf⟩
    | succ i =>
      cases j with
      | zero =>
        obtain ⟨id2, b2, k1, k2, k3, hf⟩ := step id (.box cs) hr hn i x v (by simpa using h1) (by simpa using h3) h5
        simp at h2 h4
        exact ⟨id2, id, b2, .box cs, k1, by simp [k2], by simp, k3, h4.symm, hf, h2 ▸ .inr (.inl ⟨cs, ys, rfl, rfl, hy⟩)⟩
      | succ j =>
        obtain ⟨id1, id2, b1, b2, k1, k2, k3, k4, k5⟩ := ih hn'.2 i j x y v u (by simpa using h1) (by simpa using h2) (by simpa using h3) (by simpa using h4) h5 h6 (by omega)
        exact ⟨id1, id2, b1, b2, k1, by simp [k2], by simp [k3], k4, k5⟩
  | hbox id cs hL hid hr ih =>
    intro i j x y v u h1 h2 h3 h4 h5 h6 h7
    have hn' := hn
    simp only [List.map_cons, List.nodup_cons] at hn'
    cases i with
    | zero =>
      cases j with
      | zero => exact absurd rfl h7
      | succ j =>
        obtain ⟨id2, b2, k1, k2, k3, hf⟩ := step id (.hbox cs) hr hn j y u (by simpa using h2) (by simpa using h4) h6
        simp at h1 h3
        exact ⟨id, id2, .hbox cs, b2, k1.symm, by simp, by simp [k2], h3.symm, k3, h1 ▸ .inr (.inr ⟨cs, rfl, rfl⟩), hf⟩
    | succ i =>
      cases j with
      | zero =>
        obtain ⟨id2, b2, k1, k2, k3, hf⟩ := step id (.hbox cs) hr hn i x v (by simpa using h1) (by simpa using h3) h5
        simp at h2 h4
        exact ⟨id2, id, b2, .hbox cs, k1, by simp [k2], by simp, k3, h4.symm, hf, h2 ▸ .inr (.inr ⟨cs, rfl, rfl⟩)⟩
      | succ j =>
        obtain ⟨id1, id2, b1, b2, k1, k2, k3, k4, k5⟩ := ih hn'.2 i j x y v u (by simpa using h1) (by simpa using h2) (by simpa using h3) (by simpa using h4) h5 h6 (by omega)
        exact ⟨id1, id2, b1, b2, k1, by simp [k2], by simp [k3], k4, k5⟩
theorem noId_out {id : Nat} : ∀ {fz : List (Nat × AB)}, noId id fz = true → ∀ p ∈ fz, p.1 ≠ id := by
  intro fz
  induction fz with
  | nil => intro _ p hp; cases hp
  | cons x fz ih =>
    intro hn p hp
    unfold noId at hn
    split at hn
    · cases hn
    · rename_i hne
      rcases List.mem_cons.1 hp with h | h
      · subst h; intro e; rw [e] at hne; simp at hne
      · exact ih hn p h
theorem okIds_spec : ∀ {ids fz : List (Nat × AB)}, okIds ids fz = true → (∀ p ∈ ids, noId p.1 fz = true) ∧ (ids.map (·.1)).Nodup := by
  intro ids
  induction ids with
  | nil => intro fz _; simp
  | cons x ids ih =>
    intro fz h
    obtain ⟨i, b⟩ := x
    simp only [okIds, Bool.and_eq_true] at h
    obtain ⟨⟨h1, h2⟩, h3⟩ := h
    obtain ⟨h4, h5⟩ := ih h3
    refine ⟨fun p hp => ?_, ?_⟩
    · rcases List.mem_cons.1 hp with h | h
      · subst h; exact h1
      · exact h4 p h
    · simp only [List.map_cons, List.nodup_cons]
      refine ⟨fun hm => ?_, h5⟩
      obtain ⟨p, hp, he⟩ := List.mem_map.1 hm
      exact noId_out h2 p hp he
theorem app_mem {id : Nat} {b : AB} : ∀ {fe : List (Nat × AB)} {h : Nat → AB}, (fe.map (·.1)).Nodup → (id, b) ∈ fe → app h fe id = b := by
  intro fe
  induction fe with
  | nil => intro h _ hm; cases hm
  | cons x fe ih =>
    intro h hn hm
    simp only [List.map_cons, List.nodup_cons] at hn
    rcases List.mem_cons.1 hm with e | e
    · subst e
      show app (upd h id b) fe id = b
      rw [app_out (fun p hp he => hn.1 (List.mem_map.2 ⟨p, hp, he⟩)), upd_same]
    · exact ih hn.2 e

/-- which place of the arguments an object is handed at -/
def HPos : List Arg → List (Nat × AB) → Nat → Nat → Prop
  | x :: xs, ids, i, id => match x.handed with
    | false => match i with
      | 0 => False
      | i + 1 => HPos xs ids i id
    | true => match ids with
      | (id0, _) :: ids => match i with
        | 0 => id = id0
        | i + 1 => HPos xs ids i id
      | [] => False
  | _, _, _, _ => False
theorem HPos.uniq : ∀ {xs : List Arg} {ids : List (Nat × AB)} {i a b : Nat}, HPos xs ids i a → HPos xs ids i b → a = b
  | [], _, _, _, _, h, _ => h.elim
  | x :: xs, ids, i, a, b, h, k => by
    unfold HPos at h k
    split at h
    · rename_i hx
      simp only [hx] at k
      cases i with
      | zero => exact h.elim
      | succ i => exact HPos.uniq h k
    · rename_i hx
      simp only [hx] at k
      cases ids with
      | nil => exact h.elim
      | cons p ids =>
        cases i with
        | zero => exact h.trans k.symm
        | succ i => exact HPos.uniq (xs := xs) (ids := ids) h k
/-- what a handed object is behind the call -/
def Back (S : Nat → Prop) (w : World) (P : Program) (args : List Arg) (fin : List Fin) (vs : List Value) (i : Nat) (v : Value) (orig new : AB) : Prop :=
  new = .none ∨ ((∃ e es es', orig = .row e es ∧ new = .row e es' ∧ RowRep P w (PRep S w) e es' v) ∨ (∃ (cs : List AV) (xs : List PV) (g : Nat) (ty : TypeId) (c : Array Value), orig = .box cs ∧ new = .box (xs.map .p) ∧ v = .pointer (some ⟨g, 0, none⟩) ∧ w.heap[g]? = some (.cells c ty (0, 0)) ∧ c.size = xs.length ∧ ∀ (j : Nat) x u, xs[j]? = some x → c[j]? = some u → u.oneCell' = true ∧ PRep S w x u) ∨
    (∃ (cs cs' : List HC) (g : Nat) (ty : TypeId) (c : Array Value), orig = .hbox cs ∧ new = .hbox cs' ∧ v = .pointer (some ⟨g, 0, none⟩) ∧ HBox S w P cs' g ty c)) ∧
    (∀ g, hasB w new v g → ¬ S g ∧ finOwn w args fin vs i g)
theorem Back.lift {S : Nat → Prop} {w : World} {P : Program} {xs : List Arg} {fin : List Fin} {vs : List Value} {i : Nat} {v : Value} {orig new : AB} {xs' : List Arg} {fin' : List Fin} {vs' : List Value} {i' : Nat} (h : ∀ g, finOwn w xs fin vs i g → finOwn w xs' fin' vs' i' g) (hb : Back S w P xs fin vs i v orig new) : Back S w P xs' fin' vs' i' v orig new :=
  hb.imp id fun hb => ⟨hb.1, fun g hg => ⟨(hb.2 g hg).1, h g (hb.2 g hg).2⟩⟩
theorem fin_back {S : Nat → Prop} {w : World} {P : Program} {L : Nat → Prop} {rho : Nat → Value} {h : Nat → AB} {xs : List Arg} {vs : List Value} {ids : List (Nat × AB)} (H : HArgs L rho h xs vs ids) :
    ∀ (fin : List Fin) fe, FinAll S w P xs fin vs → finEff ids fin = some fe → fe.map (·.1) = ids.map (·.1) ∧ ∀ id new, (id, new) ∈ fe → ∃ orig i, (id, orig) ∈ ids ∧ HPos xs ids i id ∧ Back S w P xs fin vs i (rho id) orig new := by
  induction H with
  | nil =>
    intro fin fe hfin hfe
    cases fin with
    | nil => simp [finEff] at hfe; subst hfe; exact ⟨rfl, by simp⟩
    | cons f fin => simp [finEff] at hfe
  | pv x v hr ih =>
    intro fin fe hfin hfe
    obtain ⟨h2, h3⟩ := ih fin fe hfin hfe
    refine ⟨h2, fun id new hm => ?_⟩
    obtain ⟨orig, i, h4, h6, h5⟩ := h3 id new hm
    exact ⟨orig, i + 1, h4, h6, h5.lift fun g h => h⟩
  | @row i e es xs vs ids hL hid hr ih =>
    intro fin fe hfin hfe
    cases fin with
    | nil => exact hfin.elim
    | cons f fin =>
      obtain ⟨hf, hfin2⟩ := (show FinRep S w P (.row e es) f (rho i) ∧ FinAll S w P xs fin vs from hfin)
      cases f with
      | gone =>
        simp only [finEff] at hfe
        obtain ⟨fe', h1, rfl⟩ := Option.map_eq_some_iff.1 hfe
        obtain ⟨h2, h3⟩ := ih fin fe' hfin2 h1
        refine ⟨by simp [h2], fun id new hm => ?_⟩
        rcases List.mem_cons.1 hm with e' | e'
        · injection e' with e1 e2; subst e1 e2; exact ⟨.row e es, 0, by simp, rfl, .inl rfl⟩
        · obtain ⟨orig, k, h4, h6, h5⟩ := h3 id new e'; exact ⟨orig, k + 1, by simp [h4], h6, h5.lift fun g h => h⟩
      | row es' =>
        simp only [finEff] at hfe
        obtain ⟨fe', h1, rfl⟩ := Option.map_eq_some_iff.1 hfe
        obtain ⟨h2, h3⟩ := ih fin fe' hfin2 h1
        refine ⟨by simp [h2], fun id new hm => ?_⟩
        rcases List.mem_cons.1 hm with e' | e'
        · injection e' with e1 e2
          subst e1 e2
          exact ⟨_, 0, by simp, rfl, .inr ⟨.inl ⟨e, es, es', rfl, rfl, hf.1⟩, fun g hg => ⟨hf.2 g (hasB_plain rfl hg), rfl, .inl (hasB_plain rfl hg)⟩⟩⟩
        · obtain ⟨orig, k, h4, h6, h5⟩ := h3 id new e'; exact ⟨orig, k + 1, by simp [h4], h6, h5.lift fun g h => h⟩
      | box cs => exact hf.elim
      | hbox cs => exact hf.elim
  | @box i cs ys xs vs ids hL hid hy hr ih =>
    intro fin fe hfin hfe
    cases fin with
    | nil => exact hfin.elim
    | cons f fin =>
      obtain ⟨hf, hfin2⟩ := (show FinRep S w P (.box ys) f (rho i) ∧ FinAll S w P xs fin vs from hfin)
      cases f with
      | gone =>
        simp only [finEff] at hfe
        obtain ⟨fe', h1, rfl⟩ := Option.map_eq_some_iff.1 hfe
        obtain ⟨h2, h3⟩ := ih fin fe' hfin2 h1
        refine ⟨by simp [h2], fun id new hm => ?_⟩
        rcases List.mem_cons.1 hm with e' | e'
        · injection e' with e1 e2; subst e1 e2; exact ⟨.box cs, 0, by simp, rfl, .inl rfl⟩
        · obtain ⟨orig, k, h4, h6, h5⟩ := h3 id new e'; exact ⟨orig, k + 1, by simp [h4], h6, h5.lift fun g h => h⟩
      | row es => exact hf.elim
      | hbox es => exact hf.elim
      | box xs' =>
        simp only [finEff] at hfe
        obtain ⟨fe', h1, rfl⟩ := Option.map_eq_some_iff.1 hfe
        obtain ⟨h2, h3⟩ := ih fin fe' hfin2 h1
        refine ⟨by simp [h2], fun id new hm => ?_⟩
        rcases List.mem_cons.1 hm with e' | e'
        · injection e' with e1 e2
          subst e1 e2
          obtain ⟨g, ty, c, m1, m2, m3, m4, m5⟩ := hf
          refine ⟨_, 0, by simp, rfl, .inr ⟨.inr (.inl ⟨cs, xs', g, ty, c, rfl, rfl, m1, m2, m3, m5⟩), fun g' hg => ?_⟩⟩
          have hg := hasB_plain rfl hg
          refine ⟨?_, rfl, .inl hg⟩
          rw [m1] at hg
          injection hg with hg
          exact hg ▸ m4
        · obtain ⟨orig, k, h4, h6, h5⟩ := h3 id new e'; exact ⟨orig, k + 1, by simp [h4], h6, h5.lift fun g h => h⟩
  | @hbox i cs xs vs ids hL hid hr ih =>
    intro fin fe hfin hfe
    cases fin with
    | nil => exact hfin.elim
    | cons f fin =>
      obtain ⟨hf, hfin2⟩ := (show FinRep S w P (.hbox cs) f (rho i) ∧ FinAll S w P xs fin vs from hfin)
      cases f with
      | gone =>
        simp only [finEff] at hfe
        obtain ⟨fe', h1, rfl⟩ := Option.map_eq_some_iff.1 hfe
        obtain ⟨h2, h3⟩ := ih fin fe' hfin2 h1
        refine ⟨by simp [h2], fun id new hm => ?_⟩
        rcases List.mem_cons.1 hm with e' | e'
        · injection e' with e1 e2; subst e1 e2; exact ⟨.hbox cs, 0, by simp, rfl, .inl rfl⟩
        · obtain ⟨orig, k, h4, h6, h5⟩ := h3 id new e'; exact ⟨orig, k + 1, by simp [h4], h6, h5.lift fun g h => h⟩
      | row es => exact hf.elim
      | box es => exact hf.elim
      | hbox cs' =>
        simp only [finEff] at hfe
        obtain ⟨fe', h1, rfl⟩ := Option.map_eq_some_iff.1 hfe
        obtain ⟨h2, h3⟩ := ih fin fe' hfin2 h1
        refine ⟨by simp [h2], fun id new hm => ?_⟩
        rcases List.mem_cons.1 hm with e' | e'
        · injection e' with e1 e2
          subst e1 e2
          obtain ⟨g, ty, c, m1, m2, m3⟩ := hf
          exact ⟨_, 0, by simp, rfl, .inr ⟨.inr (.inr ⟨cs, cs', g, ty, c, rfl, rfl, m1, m2⟩), fun g' hg => ⟨m3 g' hg, rfl, hg⟩⟩⟩
        · obtain ⟨orig, k, h4, h6, h5⟩ := h3 id new e'; exact ⟨orig, k + 1, by simp [h4], h6, h5.lift fun g h => h⟩

theorem app_cases (fe : List (Nat × AB)) (h : Nat → AB) (id : Nat) : (∃ b, (id, b) ∈ fe ∧ app h fe id = b) ∨ ((∀ p ∈ fe, p.1 ≠ id) ∧ app h fe id = h id) := by
  induction fe generalizing h with
  | nil => exact .inr ⟨by simp, rfl⟩
  | cons x fe ih =>
    rcases ih (upd h x.1 x.2) with ⟨b, h1, h2⟩ | ⟨h1, h2⟩
    · exact .inl ⟨b, by simp [h1], h2⟩
    · by_cases e : x.1 = id
      · refine .inl ⟨x.2, by rw [← e]; simp, ?_⟩
        show app (upd h x.1 x.2) fe id = x.2
        rw [h2, e, upd_same]
      · refine .inr ⟨fun p hp => ?_, ?_⟩
        · rcases List.mem_cons.1 hp with h | h
          · rw [h]; exact e
          · exact h1 p h
        · show app (upd h x.1 x.2) fe id = h id
          rw [h2, upd_ne _ _ (fun e' => e e'.symm)]

theorem argB_row {w : World} {b : AB} {v : Value} {g : Nat} {x : Arg} (h : (∃ e es, x = .row e es ∧ b = .row e es) ∨ (∃ cs ys, x = .box ys ∧ b = .box cs ∧ cellsPV cs = some ys) ∨ ∃ cs, x = .hbox cs ∧ b = .hbox cs) : hasB w (argB x) v g ↔ hasB w b v g := by
  rcases h with ⟨e, es, rfl, rfl⟩ | ⟨cs, ys, rfl, rfl, _⟩ | ⟨cs, rfl, rfl⟩
  · exact ⟨fun h => .inl (hasB_plain rfl h), fun h => .inl (hasB_plain rfl h)⟩
  · exact ⟨fun h => .inl (hasB_plain rfl h), fun h => .inl (hasB_plain rfl h)⟩
  · exact Iff.rfl
theorem HArgs.form {L : Nat → Prop} {rho : Nat → Value} {h : Nat → AB} {xs : List Arg} {vs : List Value} {ids : List (Nat × AB)} (H : HArgs L rho h xs vs ids) : ∀ id b, (id, b) ∈ ids → ∃ (j : Nat) (x : Arg), xs[j]? = some x ∧ vs[j]? = some (rho id) ∧ x.handed = true ∧ ((∃ e es, x = .row e es ∧ b = .row e es) ∨ (∃ cs ys, x = .box ys ∧ b = .box cs ∧ cellsPV cs = some ys) ∨ ∃ cs, x = .hbox cs ∧ b = .hbox cs) := by
  induction H with
  | nil => intro id b h; cases h
  | pv y u hr ih => intro id b h; obtain ⟨j, x, h4⟩ := ih id b h; exact ⟨j + 1, x, by simpa using h4⟩
  | row i e es hL hid hr ih =>
    intro id b h
    rcases List.mem_cons.1 h with h | h
    · injection h with h1 h2; subst h1 h2; exact ⟨0, _, rfl, rfl, rfl, .inl ⟨e, es, rfl, rfl⟩⟩
    · obtain ⟨j, x, h4⟩ := ih id b h; exact ⟨j + 1, x, by simpa using h4⟩
  | box i cs ys hL hid hy hr ih =>
    intro id b h
    rcases List.mem_cons.1 h with h | h
    · injection h with h1 h2; subst h1 h2; exact ⟨0, _, rfl, rfl, rfl, .inr (.inl ⟨cs, ys, rfl, rfl, hy⟩)⟩
    · obtain ⟨j, x, h4⟩ := ih id b h; exact ⟨j + 1, x, by simpa using h4⟩
  | hbox i cs hL hid hr ih =>
    intro id b h
    rcases List.mem_cons.1 h with h | h
    · injection h with h1 h2; subst h1 h2; exact ⟨0, _, rfl, rfl, rfl, .inr (.inr ⟨cs, rfl, rfl⟩)⟩
    · obtain ⟨j, x, h4⟩ := ih id b h; exact ⟨j + 1, x, by simpa using h4⟩
theorem HArgs.mv {L : Nat → Prop} {rho : Nat → Value} {h : Nat → AB} {w : World} {xs : List Arg} {vs : Array Value} {ids : List (Nat × AB)} (H : HArgs L rho h xs vs.toList ids) (g : Nat) : Mv w xs vs g ↔ ∃ id b, (id, b) ∈ ids ∧ hasB w b (rho id) g := by
  constructor
  · rintro ⟨j, x, v, h1, h2, h3, h4⟩
    obtain ⟨id, b, h5, _, _, h6, h7⟩ := H.at j x v h1 (by simpa using h2) h3
    exact ⟨id, b, h5, by rw [← h6]; exact (argB_row h7).1 h4⟩
  · rintro ⟨id, b, h1, h2⟩
    obtain ⟨j, x, h3, h4, h5, h6⟩ := H.form id b h1
    exact ⟨j, x, _, h3, by simpa using h4, h5, (argB_row h6).2 h2⟩

theorem Sim.handed {A : Amb} {V L S2 S' : Nat → Prop} {rho : Nat → Value} {t : Nat → AV} {a : Act} {w w' : World} {h h2 : Nat → AB} (hC : CtxOK A.C) (sim : Sim A V L S2 rho ⟨t, h2⟩ a w) {xs : List Arg} {vs : Array Value} {ids fe : List (Nat × AB)} {fin : List Fin} (H : HArgs L rho h xs vs.toList ids) (hh : ∀ id b, (id, b) ∈ ids → h2 id = h id)
    (hf : Fr (Mv w xs vs) w w') (hS : ∀ b, S2 b → S' b) (hst : ∀ b, S' b → b < w'.heap.size) (hsb : ∀ b, S' b → S2 b ∨ w.heap.size ≤ b ∨ Mv w xs vs b) (hfin : FinAll S' w' A.C.P xs fin vs.toList) (hok : FinOK w w' xs fin vs) (hfe : finEff ids fin = some fe) :
    Sim A V L S' rho ⟨t, app h2 fe⟩ a w' := by
  obtain ⟨hk, hb⟩ := fin_back H fin fe hfin hfe
  have inIds : ∀ id, (∃ b, (id, b) ∈ ids) ↔ ∃ b, (id, b) ∈ fe := by
    intro id
    have : id ∈ ids.map (·.1) ↔ id ∈ fe.map (·.1) := by rw [hk]
    simpa using this
  have own : ∀ id b, (id, b) ∈ ids → L id ∧ (h2 id).live ∧ h2 id = b := fun id b hm => by
    obtain ⟨h1, h3, h4, _⟩ := H.back id b hm
    have := hh id b hm
    exact ⟨h1, by rw [this, h3]; exact h4, by rw [this, h3]⟩
  have mvS : ∀ g, Mv w xs vs g → ¬ S2 g ∧ (A.mv g ∨ A.w0.heap.size ≤ g) := fun g hg => by
    obtain ⟨id, b, h1, h3⟩ := H.mv g |>.1 hg
    obtain ⟨h4, h5, h6⟩ := own id b h1
    exact (sim.lv id g h4 h5 (by show hasB w (h2 id) _ _; rw [h6]; exact h3)).2
  have keepS : ∀ b, S2 b → w'.heap[b]? = w.heap[b]? := fun k hk => hf.block k (sim.st k hk) fun hm => (mvS k hm).1 hk
  have T : Turn S2 S' w w' L L rho rho h2 (app h2 fe) := by
    refine ⟨hS, keepS, fun id ht => ⟨?_, fun hl => ⟨hl, rfl⟩⟩, fun id e he => ?_⟩
    · rcases app_cases fe h2 id with ⟨b, h1, h3⟩ | ⟨_, h3⟩
      · obtain ⟨b', hb'⟩ := (inIds id).2 ⟨b, h1⟩
        obtain ⟨_, h4, _⟩ := own id b' hb'
        cases hx : h2 id <;> rw [hx] at h4 <;> first | trivial | exact h4.elim
      · rw [h3] at ht; exact ht
    · rcases app_cases fe h2 id with ⟨b, h1, h3⟩ | ⟨_, h3⟩
      · rw [h3] at he
        obtain ⟨orig, i, h4, _, h5⟩ := hb id b h1
        obtain ⟨_, _, h6⟩ := own id orig h4
        rcases h5 with h5 | ⟨h5 | h5 | h5, _⟩
        · rw [h5] at he; cases he
        · obtain ⟨e', es1, es2, h7, h8, _⟩ := h5
          rw [h8] at he
          injection he with he
          rw [h6, h7, he]; rfl
        · obtain ⟨cs, ys, g, ty, c, h7, h8, _⟩ := h5
          rw [h8] at he; cases he
        · obtain ⟨cs, ys, g, ty, c, h7, h8, _⟩ := h5
          rw [h8] at he; cases he
      · rw [h3] at he; exact he
  have live' : ∀ id, (app h2 fe id).live → (h2 id).live := by
    intro id hl
    rcases app_cases fe h2 id with ⟨b, h1, h3⟩ | ⟨_, h3⟩
    · obtain ⟨b', hb'⟩ := (inIds id).2 ⟨b, h1⟩
      exact (own id b' hb').2.1
    · rw [h3] at hl; exact hl
  -- objects that are not handed stay
  have same : ∀ id g, L id → (h2 id).live → (∀ p ∈ fe, p.1 ≠ id) → hasB w (h2 id) (rho id) g → ¬ Mv w xs vs g := fun id g hl li h1 hg hm => by
    obtain ⟨id', b', h4, h5⟩ := H.mv g |>.1 hm
    obtain ⟨h6, h7, h8⟩ := own id' b' h4
    have := sim.dj id id' g hl h6 li h7 hg (by show hasB w (h2 id') _ _; rw [h8]; exact h5)
    subst this
    obtain ⟨b2, hb2⟩ := (inIds id).1 ⟨b', h4⟩
    exact h1 _ hb2 rfl
  have old : ∀ id g, L id → (h2 id).live → (∀ p ∈ fe, p.1 ≠ id) → hasB w' (h2 id) (rho id) g → hasB w (h2 id) (rho id) g := fun id g hl li h1 hg =>
    hasB_turn (fun k hk => hf.block k (sim.lvb id k hl li hk).1 (same id k hl li h1 (.inl hk))) hg
  -- what is handed back
  have back : ∀ id b, (id, b) ∈ fe → (app h2 fe id).live → app h2 fe id = b → ∃ i, HPos xs ids i id ∧ ∀ g, hasB w' b (rho id) g → ¬ S' g ∧ finOwn w' xs fin vs.toList i g := fun id b hm hl he => by
    obtain ⟨orig, i, _, h2', h3⟩ := hb id b hm
    rcases h3 with h3 | ⟨_, h3⟩
    · rw [he, h3] at hl; exact hl.elim
    · exact ⟨i, h2', h3⟩
  exact
  { tm := fun j hj => (sim.tm j hj).turn T
    sz := sim.sz, df := sim.df, nb := sim.nb, pn := sim.pn
    ev := hC.env _ _ _ _ sim.ev hS keepS hf.size
    s0 := fun b hb => hS b (sim.s0 b hb)
    st := hst
    sb := fun b hb => by
      rcases hsb b hb with h | h | h
      · exact sim.sb b h
      · exact .inr (.inr (Nat.le_trans sim.fr.size h))
      · exact .inr (mvS b h).2
    hp := fun id hl => by
      show HRep _ _ _ _ _ _ _ (app h2 fe id)
      rcases app_cases fe h2 id with ⟨b, h1, h3⟩ | ⟨h1, h3⟩
      · rw [h3]
        obtain ⟨orig, i, h4, _, h5⟩ := hb id b h1
        rcases h5 with h5 | ⟨h5 | h5 | h5, _⟩
        · rw [h5]; trivial
        · obtain ⟨e', es1, es2, h7, h8, h9⟩ := h5
          rw [h8]; exact h9
        · obtain ⟨cs, ys, g, ty, c, h7, h8, h9, h10, h11, h12⟩ := h5
          rw [h8]
          refine ⟨g, ty, c, h9, h10, by simpa using h11, fun j x u hj hu => ?_⟩
          rw [List.getElem?_map] at hj
          obtain ⟨z, hz, rfl⟩ := Option.map_eq_some_iff.1 hj
          exact ⟨(h12 j z u hz hu).1, .p _ _ (h12 j z u hz hu).2⟩
        · obtain ⟨cs, cs', g, ty, c, h7, h8, h9, h10⟩ := h5
          rw [h8]
          exact ⟨g, ty, c, h9, h10⟩
      · rw [h3]
        exact (sim.hp id hl).turn T (fun li g hg => hf.block g (sim.lv id g hl li hg).1 (same id g hl li h1 hg)) (fun _ => rfl)
    dj := fun i j g hi hj li lj hgi hgj => by
      have one : ∀ i j, L i → L j → (app h2 fe i).live → (app h2 fe j).live → hasB w' (app h2 fe i) (rho i) g → hasB w' (app h2 fe j) (rho j) g → (∃ b, (i, b) ∈ fe ∧ app h2 fe i = b) → ((∀ p ∈ fe, p.1 ≠ j) ∧ app h2 fe j = h2 j) → False := by
        rintro i j hi hj li lj hgi hgj ⟨b, m1, m2⟩ ⟨n1, n2⟩
        rw [n2] at hgj lj
        have hgj := old j g hj lj n1 hgj
        obtain ⟨k, _, hk2⟩ := back i b m1 li m2
        rw [m2] at hgi
        rcases (hok.1 k g (hk2 g hgi).2).2 with h | h
        · have := (sim.lv j g hj lj hgj).1
          exact absurd this (by omega)
        · exact same j g hj lj n1 hgj h
      rcases app_cases fe h2 i with ci | ci
      · rcases app_cases fe h2 j with cj | cj
        · obtain ⟨b, m1, m2⟩ := ci
          obtain ⟨c, n1, n2⟩ := cj
          obtain ⟨k1, p1, q1⟩ := back i b m1 li m2
          obtain ⟨k2, p2, q2⟩ := back j c n1 lj n2
          have hgi : hasB w' (app h2 fe i) (rho i) g := hgi
          have hgj : hasB w' (app h2 fe j) (rho j) g := hgj
          rw [m2] at hgi
          rw [n2] at hgj
          have := hok.2 k1 k2 g (q1 g hgi).2 (q2 g hgj).2
          subst this
          exact p1.uniq p2
        · exact (one i j hi hj li lj hgi hgj ci cj).elim
      · rcases app_cases fe h2 j with cj | cj
        · exact (one j i hj hi lj li hgj hgi cj ci).elim
        · have hgi : hasB w' (app h2 fe i) (rho i) g := hgi
          have hgj : hasB w' (app h2 fe j) (rho j) g := hgj
          have li : (app h2 fe i).live := li
          have lj : (app h2 fe j).live := lj
          rw [ci.2] at hgi li
          rw [cj.2] at hgj lj
          exact sim.dj i j g hi hj li lj (old i g hi li ci.1 hgi) (old j g hj lj cj.1 hgj)
    lv := fun id g hl li hg => by
      have hg : hasB w' (app h2 fe id) (rho id) g := hg
      have li : (app h2 fe id).live := li
      rcases app_cases fe h2 id with ⟨b, h1, h3⟩ | ⟨h1, h3⟩
      · obtain ⟨k, _, q⟩ := back id b h1 li h3
        rw [h3] at hg
        obtain ⟨q1, q2⟩ := q g hg
        obtain ⟨r1, r2⟩ := hok.1 k g q2
        refine ⟨r1, q1, ?_⟩
        rcases r2 with h | h
        · exact .inr (Nat.le_trans sim.fr.size h)
        · exact (mvS g h).2
      · rw [h3] at hg li
        have hg := old id g hl li h1 hg
        obtain ⟨h4, h5, h6⟩ := sim.lv id g hl li hg
        refine ⟨Nat.lt_of_lt_of_le h4 hf.size, fun hs => ?_, h6⟩
        rcases hsb g hs with h | h | h
        · exact h5 h
        · omega
        · exact same id g hl li h1 hg h
    fr := sim.fr.next hf.os hf.tape hf.output hf.size fun k hk hn => hf.block k (Nat.lt_of_lt_of_le hk sim.fr.size) fun hm => by
      rcases (mvS k hm).2 with h | h
      · exact hn h
      · omega }

theorem wp_enter {P : Program} {o : Oper} {a : Act} {w : World} {f : FuncId} {vs : Array Value} {next : Act → World → Prop} {Q : Exit → Act → World → Prop} {R : Ending → World → Prop} (h : (execOp a.eval o).run P w = .ok (.enter f vs) w) (hc : Calls P f vs w R)
    (hn : ∀ e w', R e w' → ∃ v, e = .returned v ∧ next (a.put o.dst v) w') : o.wp P a w next Q := by
  unfold Oper.wp
  rw [h]
  refine hc.mono fun e w' hr => ?_
  obtain ⟨v, rfl, h2⟩ := hn e w' hr
  exact h2

theorem acall0_sim {A : Amb} (hC : CtxOK A.C) {o : Oper} {V L S : Nat → Prop} {rho : Nat → Value} {s : AS} {a : Act} {w : World} {K : KK} {next : Act → World → Prop} {Q : Exit → Act → World → Prop} (sim : Sim A V L S rho s a w) (hd : ∀ d, o.dst = some d → d < A.n)
    (hn : ∀ v eff b, K v eff (some b) → ¬ L (o.dst.getD 0) ∧ s.h (o.dst.getD 0) = b)
    (hnext : ∀ v eff new S' rho' a' w', K v eff new → Sim A (addV V o.dst) (addL L new (o.dst.getD 0)) S' rho' ⟨putT s.t o.dst v, app s.h eff⟩ a' w' → next a' w')
    (f : FuncId) (avs : List AV) (vs : Array Value) (hl : avs.length = vs.size)
    (hrep : ∀ (S2 : Nat → Prop) (h2 : Nat → AB), Sim A V L S2 rho ⟨s.t, h2⟩ a w → ∀ (i : Nat) x v, avs[i]? = some x → vs.toList[i]? = some v → LRep S2 w A.C.P L rho h2 x v)
    (hrun : (∃ fn : Func, A.C.P.funcs[f]? = some fn ∧ (fn.name == "runtime.NumGoroutine") = false ∧ fn.body.isNone = false) → (execOp a.eval o).run A.C.P w = .ok (.enter f vs) w) (hq : acall0 A.C s.h (o.dst.getD 0) f avs K) : o.wp A.C.P a w next Q := by
  unfold acall0 at hq
  obtain ⟨xs, ids, fz, S2, ⟨r, fin, hcall, hq⟩, sim2, hSS, hF, hfz, hlen, H, hpv⟩ := aargs_sim hC avs vs.toList 0 s.h S _ (by simpa using hl) sim (Frz.refl _) hrep (fun _ h => h) hq
  split at hq
  · rename_i fe hfe
    split at hq
    · rename_i hok
      obtain ⟨hnf, hnd⟩ := okIds_spec hok
      have hh : ∀ id b, (id, b) ∈ ids → (app s.h fz) id = s.h id := fun id b hm => app_noId (hnf (id, b) hm)
      have own : ∀ id b, (id, b) ∈ ids → L id ∧ (app s.h fz id).live ∧ app s.h fz id = b := fun id b hm => by
        obtain ⟨h1, h3, h4, _⟩ := H.back id b hm
        have := hh id b hm
        exact ⟨h1, by rw [this, h3]; exact h4, by rw [this, h3]⟩
      have key := hcall.2 S2 w vs sim2.ev sim2.st (by simpa using hlen) (fun j x v hj hv => by
          have hv' : vs.toList[j]? = some v := by simpa using hv
          cases hx : x.handed with
          | false =>
            cases x with
            | pv y => exact hpv j y v hj hv'
            | row => cases hx
            | box => cases hx
            | hbox => cases hx
          | true =>
            obtain ⟨id, b, h1, h2, h3, h4, h5⟩ := H.at j x v hj hv' hx
            obtain ⟨h6, h7, h8⟩ := own id b h1
            have hp := sim2.hp id h6
            have hp : HRep S2 w A.C.P L rho (app s.h fz) id (app s.h fz id) := hp
            rw [h8] at hp
            rcases h5 with ⟨e, es, rfl, rfl⟩ | ⟨cs, ys, rfl, rfl, hy⟩ | ⟨cs, rfl, rfl⟩
            · rw [h4]
              exact ⟨hp, fun g hg => (sim2.lvb id g h6 h7 hg).2.1⟩
            · obtain ⟨g, ty, c, k1, k2, k3, k4⟩ := hp
              obtain ⟨k5, k6⟩ := cellsPV_spec hy
              rw [h4]
              refine ⟨g, ty, c, k1, k2, by rw [k3, k5], (sim2.lvb id g h6 h7 (by rw [k1]; rfl)).2.1, fun i x u hi hu => ?_⟩
              obtain ⟨y, hy⟩ : ∃ y, cs[i]? = some y := ⟨_, List.getElem?_eq_getElem (by rw [k5]; exact lt_of_get hi)⟩
              obtain ⟨k7, k8⟩ := k4 i y u hy hu
              exact ⟨k7, k8.of_cell (k6 i y x hy hi)⟩
            · obtain ⟨g, ty, c, k1, k2⟩ := hp
              rw [h4]
              exact ⟨g, ty, c, k1, k2, fun k hk => by obtain ⟨q1, q2, _⟩ := sim2.lv id k h6 h7 (by show hasB w (app s.h fz id) _ _; rw [h8]; exact hk); exact ⟨q2, q1⟩⟩)
        (fun i j x y v u g hi hj hv hu hx hy hg hg' => by
          by_cases hij : i = j
          · exact hij
          · obtain ⟨id1, id2, b1, b2, k1, k2, k3, k4, k5, f1, f2⟩ := H.inj hnd i j x y v u hi hj (by simpa using hv) (by simpa using hu) hx hy hij
            obtain ⟨l1, v1, o1⟩ := own id1 b1 k2
            obtain ⟨l2, v2, o2⟩ := own id2 b2 k3
            exact absurd (sim2.dj id1 id2 g l1 l2 v1 v2 (by show hasB w (app s.h fz id1) _ _; rw [← k4, o1]; exact (argB_row f1).1 hg) (by show hasB w (app s.h fz id2) _ _; rw [← k5, o2]; exact (argB_row f2).1 hg')) k1)
      refine wp_enter (hrun hcall.1) key fun e w' hpost => ?_
      obtain ⟨v, S', rfl, hf, hS', hst, hsb, hr, hfin, hfok, hown⟩ := hpost
      refine ⟨v, rfl, ?_⟩
      split at hq
      · rename_i hfree
        simp only [Bool.and_eq_true] at hfree
        have hids : ids = [] := by cases ids with | nil => rfl | cons p ids => cases hfree.2
        subst hids
        have hf0 : Fr (fun _ => False) w w' := ⟨hf.os, hf.tape, hf.output, hf.size, fun k hk _ => hf.block k hk fun hm => by
          obtain ⟨id, b, h1, _⟩ := (H.mv k).1 hm
          cases h1⟩
        have sim3 := sim.grow hC w' hf0
        refine hnext _ _ _ S rho _ _ hq (sim3.value o.dst hd _ _ ?_)
        cases r with
        | p x => exact .p _ _ (pfree_rep hfree.1 hr)
        | own e es => cases hfree.1
        | hown cs => cases hfree.1
        | tu ys =>
          obtain ⟨us, rfl, h1, h2⟩ := hr
          refine .tu _ us (by simpa using h1) fun i c u hi hu => ?_
          rw [List.getElem?_map] at hi
          obtain ⟨z, hz, rfl⟩ := Option.map_eq_some_iff.1 hi
          exact .p _ _ (pfree_rep (List.all_eq_true.1 hfree.1 z (List.mem_of_getElem? hz)) (h2 i z u hz hu))
      · have sim3 := Sim.handed hC sim2 H hh hf hS' hst hsb hfin hfok hfe
        have sim3 : Sim A V L S' rho ⟨s.t, app s.h (fz ++ fe)⟩ a w' := by rw [app_append]; exact sim3
        cases r with
        | p x => exact hnext _ _ _ S' rho _ _ hq (sim3.value o.dst hd _ _ (.p _ _ hr))
        | tu ys =>
          refine hnext _ _ _ S' rho _ _ hq (sim3.value o.dst hd _ _ ?_)
          obtain ⟨us, rfl, h1, h2⟩ := hr
          refine .tu _ us (by simpa using h1) fun i c u hi hu => ?_
          rw [List.getElem?_map] at hi
          obtain ⟨z, hz, rfl⟩ := Option.map_eq_some_iff.1 hi
          exact .p _ _ (h2 i z u hz hu)
        | own e es =>
          obtain ⟨hL, hb⟩ := hn _ _ _ hq
          have hdn : app s.h (fz ++ fe) (o.dst.getD 0) = .row e es := by
            rw [app_out (fun p hp (e : p.1 = _) => ?_), hb]
            rcases List.mem_append.1 hp with h | h
            · exact hL (by rw [← e]; exact hfz p h)
            · obtain ⟨hk, _⟩ := fin_back H fin fe hfin hfe
              have : p.1 ∈ ids.map (·.1) := by rw [← hk]; exact List.mem_map.2 ⟨p, h, rfl⟩
              obtain ⟨q, hq', hqe⟩ := List.mem_map.1 this
              obtain ⟨hLq, _⟩ := own q.1 q.2 hq'
              exact hL (by rw [← e, ← hqe]; exact hLq)
          have sim4 := sim3.newH hC (o.dst.getD 0) (AB.row e es) (sim3.dstlt hd) hL hdn w' rfl rfl rfl (Nat.le_refl _) (fun k => hasB w' (AB.row e es) v k) (fun _ _ _ => rfl) (fun k hk => by
              have hk0 := hasB_plain rfl hk
              obtain ⟨h1, h2, h3⟩ := hown k rfl (.inl hk0)
              refine ⟨hr.2 k hk0, fun i hi li hgi => ?_, ?_⟩
              · -- a live object with that block
                have li' : (app s.h (fz ++ fe) i).live := li
                rw [app_append] at li'
                have hgi : hasB w' (app s.h (fz ++ fe) i) (rho i) k := hgi
                rw [app_append] at hgi
                rcases app_cases fe (app s.h fz) i with ⟨b, m1, m2⟩ | ⟨m1, m2⟩
                · obtain ⟨hk2, hb2⟩ := fin_back H fin fe hfin hfe
                  obtain ⟨orig, n, m3, _, m4⟩ := hb2 i b m1
                  rcases m4 with m4 | ⟨_, m4⟩
                  · rw [m2, m4] at li'; exact li'
                  · rw [m2] at hgi; exact h3 n (m4 k hgi).2
                · rw [m2] at li' hgi
                  have nmv : ∀ g, hasB w (app s.h fz i) (rho i) g → ¬ Mv w xs vs g := fun g hg hm => by
                    obtain ⟨id', b', m3, m4⟩ := (H.mv g).1 hm
                    obtain ⟨m5, m6, m7⟩ := own id' b' m3
                    have := sim2.dj i id' g hi m5 li' m6 hg (by show hasB w (app s.h fz id') _ _; rw [m7]; exact m4)
                    subst this
                    obtain ⟨hk2, _⟩ := fin_back H fin fe hfin hfe
                    have : i ∈ fe.map (·.1) := by rw [hk2]; exact List.mem_map.2 ⟨_, m3, rfl⟩
                    obtain ⟨p, hp, hpe⟩ := List.mem_map.1 this
                    exact m1 p hp hpe
                  have hgi := hasB_turn (fun g hg => hf.block g (sim2.lvb i g hi li' hg).1 (nmv g (.inl hg))) hgi
                  obtain ⟨q1, q2, q3⟩ := sim2.lv i k hi li' hgi
                  rcases h2 with h2 | h2
                  · omega
                  · exact nmv k hgi h2
              · rcases h2 with h2 | h2
                · exact .inr (Nat.le_trans sim2.fr.size h2)
                · obtain ⟨id', b', m3, m4⟩ := (H.mv k).1 h2
                  obtain ⟨m5, m6, m7⟩ := own id' b' m3
                  exact (sim2.lv id' k m5 m6 (by show hasB w (app s.h fz id') _ _; rw [m7]; exact m4)).2.2) v (fun g hg => ⟨(hown g rfl (.inl (hasB_plain rfl hg))).1, .inr hg⟩) (fun T => by
              show RowRep _ _ _ e es (upd rho (o.dst.getD 0) v (o.dst.getD 0))
              rw [upd_same]
              exact hr.1)
          exact hnext _ _ _ S' _ _ _ hq (sim4.value o.dst hd _ _ (.ow _ _ fun _ => ⟨.inr rfl, (upd_same _ _ _).symm⟩))
        | hown cs =>
          obtain ⟨hL, hb⟩ := hn _ _ _ hq
          obtain ⟨g0, ty0, c0, hr0, hr1, hr2⟩ := hr
          have hdn : app s.h (fz ++ fe) (o.dst.getD 0) = .hbox cs := by
            rw [app_out (fun p hp (e : p.1 = _) => ?_), hb]
            rcases List.mem_append.1 hp with h | h
            · exact hL (by rw [← e]; exact hfz p h)
            · obtain ⟨hk, _⟩ := fin_back H fin fe hfin hfe
              have : p.1 ∈ ids.map (·.1) := by rw [← hk]; exact List.mem_map.2 ⟨p, h, rfl⟩
              obtain ⟨q, hq', hqe⟩ := List.mem_map.1 this
              obtain ⟨hLq, _⟩ := own q.1 q.2 hq'
              exact hL (by rw [← e, ← hqe]; exact hLq)
          have sim4 := sim3.newH hC (o.dst.getD 0) (AB.hbox cs) (sim3.dstlt hd) hL hdn w' rfl rfl rfl (Nat.le_refl _) (fun k => hasB w' (AB.hbox cs) v k) (fun _ _ _ => rfl) (fun k hk => by
              obtain ⟨h1, h2, h3⟩ := hown k rfl hk
              refine ⟨hr2 k hk, fun i hi li hgi => ?_, ?_⟩
              · -- a live object with that block
                have li' : (app s.h (fz ++ fe) i).live := li
                rw [app_append] at li'
                have hgi : hasB w' (app s.h (fz ++ fe) i) (rho i) k := hgi
                rw [app_append] at hgi
                rcases app_cases fe (app s.h fz) i with ⟨b, m1, m2⟩ | ⟨m1, m2⟩
                · obtain ⟨hk2, hb2⟩ := fin_back H fin fe hfin hfe
                  obtain ⟨orig, n, m3, _, m4⟩ := hb2 i b m1
                  rcases m4 with m4 | ⟨_, m4⟩
                  · rw [m2, m4] at li'; exact li'
                  · rw [m2] at hgi; exact h3 n (m4 k hgi).2
                · rw [m2] at li' hgi
                  have nmv : ∀ g, hasB w (app s.h fz i) (rho i) g → ¬ Mv w xs vs g := fun g hg hm => by
                    obtain ⟨id', b', m3, m4⟩ := (H.mv g).1 hm
                    obtain ⟨m5, m6, m7⟩ := own id' b' m3
                    have := sim2.dj i id' g hi m5 li' m6 hg (by show hasB w (app s.h fz id') _ _; rw [m7]; exact m4)
                    subst this
                    obtain ⟨hk2, _⟩ := fin_back H fin fe hfin hfe
                    have : i ∈ fe.map (·.1) := by rw [hk2]; exact List.mem_map.2 ⟨_, m3, rfl⟩
                    obtain ⟨p, hp, hpe⟩ := List.mem_map.1 this
                    exact m1 p hp hpe
                  have hgi := hasB_turn (fun g hg => hf.block g (sim2.lvb i g hi li' hg).1 (nmv g (.inl hg))) hgi
                  obtain ⟨q1, q2, q3⟩ := sim2.lv i k hi li' hgi
                  rcases h2 with h2 | h2
                  · omega
                  · exact nmv k hgi h2
              · rcases h2 with h2 | h2
                · exact .inr (Nat.le_trans sim2.fr.size h2)
                · obtain ⟨id', b', m3, m4⟩ := (H.mv k).1 h2
                  obtain ⟨m5, m6, m7⟩ := own id' b' m3
                  exact (sim2.lv id' k m5 m6 (by show hasB w (app s.h fz id') _ _; rw [m7]; exact m4)).2.2) v (fun g hg => ⟨(hown g rfl hg).1, .inr hg⟩) (fun T => by
              exact ⟨g0, ty0, c0, by rw [upd_same]; exact hr0, hr1⟩)
          exact hnext _ _ _ S' _ _ _ hq (sim4.value o.dst hd _ _ (.bx _ _ _ fun _ => ⟨.inr rfl, g0, by rw [upd_same]; exact hr0, hr0⟩))
    · exact hq.elim
  · exact hq.elim

theorem View1.rep {A : Amb} (hC : CtxOK A.C) {V L S : Nat → Prop} {rho : Nat → Value} {s : AS} {a : Act} {w : World} (sim : Sim A V L S rho s a w) {x : AV} {y : PV} {v : Value} (hv : View1 s.h x y) (hx : LRep S w A.C.P L rho s.h x v) :
    PRep (fun b => S b ∨ ∃ id, L id ∧ (s.h id).live ∧ hasB w (s.h id) (rho id) b) w y v := by
  have hS : ∀ b, S b → S b ∨ ∃ id, L id ∧ (s.h id).live ∧ hasB w (s.h id) (rho id) b := fun b h => .inl h
  cases hv with
  | p => exact hx.p_inv.mono hS (fun _ _ => rfl)
  | nl => cases hx; exact .nil _ _
  | row id e es hr =>
    obtain ⟨hL, rfl⟩ := hx.ow_inv (by rw [hr]; trivial)
    have hh := sim.hp id hL
    rw [hr] at hh
    exact RowRep.prep hh hS fun g hg => .inr ⟨id, hL, by rw [hr]; trivial, .inl hg⟩
  | frz id es hr =>
    obtain ⟨hL, rfl⟩ := hx.ow_inv (by rw [hr]; trivial)
    have hh := sim.hp id hL
    rw [hr] at hh
    exact PRep.mono hh hS (fun _ _ => rfl)
  | hrow id e es ps hr hp =>
    obtain ⟨hL, rfl⟩ := hx.ow_inv (by rw [hr]; trivial)
    have hh := sim.hp id hL
    rw [hr] at hh
    obtain ⟨hR, _⟩ := hh
    have hlive : (s.h id).live := by rw [hr]; trivial
    have hR2 : RowRep A.C.P w (PRep (fun b => S b ∨ ∃ id, L id ∧ (s.h id).live ∧ hasB w (s.h id) (rho id) b) w) e ps (rho id) := by
      have hR' := hR
      obtain ⟨i, ws, h1, h2, h3, h4, h5, h6⟩ := hR'
      have old : ∀ {a : Nat} {q : List PV}, ps[a]? = some q → ∃ r, es[a]? = some r := fun {a q} ha => ⟨_, List.getElem?_eq_getElem (by rw [← hp.len]; exact lt_of_get ha)⟩
      refine ⟨i, ws, h1, h2, by rw [hp.len]; exact h3, fun q hq => ?_, h5, fun k q j y ha hj => ?_⟩
      · obtain ⟨k, hk⟩ := List.mem_iff_getElem?.1 hq
        obtain ⟨r, hr⟩ := old hk
        rw [(hp.row k r q hr hk).1]
        exact h4 r (List.mem_of_getElem? hr)
      · obtain ⟨r, hrr⟩ := old ha
        obtain ⟨hlen, hcell⟩ := hp.row k r q hrr ha
        obtain ⟨x, hx⟩ : ∃ x, r[j]? = some x := ⟨_, List.getElem?_eq_getElem (by rw [← hlen]; exact lt_of_get hj)⟩
        obtain ⟨u, hu, hru⟩ := h6 k r j x hrr hx
        refine ⟨u, hu, ?_⟩
        have := hcell j x y hx hj
        cases this with
        | p x => exact (LRep.p_inv hru).mono hS (fun _ _ => rfl)
        | nl =>
          have hru : LRep S w A.C.P L rho s.h .nl u := hru
          cases hru
          exact .nil _ _
        | row e' xs =>
          have hru : RowRep A.C.P w (PRep S w) e' xs u := hru
          refine RowRep.prep hru hS fun b hb => .inr ⟨id, hL, hlive, ?_⟩
          obtain ⟨g, u2, g1, g2, _⟩ := hR.cellB hrr hx
          have : u2 = u := by
            obtain ⟨_, _, _, _, _, q3⟩ := (hcell_own h3 h4 g1).1 g2
            rw [hu] at q3
            injection q3 with q3
            exact q3.symm
          subst this
          rw [hr]
          exact .inr (.inr ⟨_, _, _, _, _, _, rfl, g1, g2, hb⟩)
    exact RowRep.prep hR2 (fun _ h => h) fun g hg => .inr ⟨id, hL, hlive, .inl hg⟩
theorem Views1.at {h : Nat → AB} {as : List AV} {xs : List PV} (hv : Views1 h as xs) : as.length = xs.length ∧ ∀ (i : Nat) a x, as[i]? = some a → xs[i]? = some x → View1 h a x := by
  induction hv with
  | nil => exact ⟨rfl, fun i a x h => by simp at h⟩
  | cons h1 h2 ih =>
    refine ⟨by simp [ih.1], fun i a x ha hx => ?_⟩
    cases i with
    | zero => simp at ha hx; subst ha hx; exact h1
    | succ i => exact ih.2 i a x (by simpa using ha) (by simpa using hx)
theorem View.rep {A : Amb} (hC : CtxOK A.C) {V L S : Nat → Prop} {rho : Nat → Value} {s : AS} {a : Act} {w : World} (sim : Sim A V L S rho s a w) {x : AV} {y : PV} {v : Value} (hv : View s.h x y) (hx : LRep S w A.C.P L rho s.h x v) :
    PRep (fun b => S b ∨ ∃ id, L id ∧ (s.h id).live ∧ hasB w (s.h id) (rho id) b) w y v := by
  have hS : ∀ b, S b → S b ∨ ∃ id, L id ∧ (s.h id).live ∧ hasB w (s.h id) (rho id) b := fun b h => .inl h
  cases hv with
  | one h1 => exact h1.rep hC sim hx
  | box id off cs xs hb hxs =>
    obtain ⟨hL, g, hg, hv⟩ := hx.bx_inv (by rw [hb]; trivial)
    have hh := sim.hp id hL
    rw [hb] at hh
    obtain ⟨g', ty, c, k1, k2, k3, k4⟩ := hh
    rw [hg] at k1
    injection k1 with k1
    injection k1 with k1
    injection k1 with k1
    subst k1
    obtain ⟨hl, hsp⟩ := hxs.at
    have hU : ∀ (i : Nat) x, xs[i]? = some x → ∃ u, c[i]? = some u ∧ u.oneCell' = true ∧ PRep (fun b => S b ∨ ∃ id, L id ∧ (s.h id).live ∧ hasB w (s.h id) (rho id) b) w x u := by
      intro i x hi
      obtain ⟨y, hy⟩ : ∃ y, cs[i]? = some y := ⟨_, List.getElem?_eq_getElem (by rw [hl]; exact lt_of_get hi)⟩
      obtain ⟨u, hu⟩ := arr_at k3.symm (lt_of_get hy)
      obtain ⟨h5, h6⟩ := k4 _ _ _ hy hu
      exact ⟨u, hu, h5, (hsp i y x hy hi).rep hC sim h6⟩
    have : PRep (fun b => S b ∨ ∃ id, L id ∧ (s.h id).live ∧ hasB w (s.h id) (rho id) b) w (.ip xs) (.pointer (some ⟨g, 0, none⟩)) := by
      refine .ip xs g 0 (fun i => (c[i]?).getD undef) (.inr ⟨id, hL, by rw [hb]; trivial, .inl (by rw [hg]; rfl)⟩) (fun i x hi => ?_) fun i x hi => ?_
      · obtain ⟨u, h5, h6, h7⟩ := hU i x hi
        rw [Nat.zero_add, cell_of_row w g i c ty (0, 0) k2, h5]
        exact ⟨rfl, h6⟩
      · obtain ⟨u, h5, h6, h7⟩ := hU i x hi
        rw [h5]
        exact h7
    rw [hv]
    exact this.ip_drop rfl
  | fbx id off xs hb =>
    obtain ⟨hL, g, hg, hv⟩ := hx.bx_inv (by rw [hb]; trivial)
    have hh := sim.hp id hL
    rw [hb] at hh
    have hh2 : PRep _ w (.ip xs) (rho id) := hh
    rw [hv]
    exact (hh2.ip_drop hg).mono hS (fun _ _ => rfl)
theorem Views.at {h : Nat → AB} {as : List AV} {xs : List PV} (hv : Views h as xs) : as.length = xs.length ∧ ∀ (i : Nat) a x, as[i]? = some a → xs[i]? = some x → View h a x := by
  induction hv with
  | nil => exact ⟨rfl, fun i a x h => by simp at h⟩
  | cons h1 h2 ih =>
    refine ⟨by simp [ih.1], fun i a x ha hx => ?_⟩
    cases i with
    | zero => simp at ha hx; subst ha hx; exact h1
    | succ i => exact ih.2 i a x (by simpa using ha) (by simpa using hx)
theorem acall_sim {A : Amb} (hC : CtxOK A.C) {o : Oper} {V L S : Nat → Prop} {rho : Nat → Value} {s : AS} {a : Act} {w : World} {K : KK} {next : Act → World → Prop} {Q : Exit → Act → World → Prop} (sim : Sim A V L S rho s a w) (hd : ∀ d, o.dst = some d → d < A.n)
    (hn : ∀ v eff b, K v eff (some b) → ¬ L (o.dst.getD 0) ∧ s.h (o.dst.getD 0) = b)
    (hnext : ∀ v eff new S' rho' a' w', K v eff new → Sim A (addV V o.dst) (addL L new (o.dst.getD 0)) S' rho' ⟨putT s.t o.dst v, app s.h eff⟩ a' w' → next a' w')
    (f : FuncId) (avs : List AV) (vs : Array Value) (hl : avs.length = vs.size)
    (hrep : ∀ (S2 : Nat → Prop) (h2 : Nat → AB), Sim A V L S2 rho ⟨s.t, h2⟩ a w → ∀ (i : Nat) x v, avs[i]? = some x → vs.toList[i]? = some v → LRep S2 w A.C.P L rho h2 x v)
    (hrun : (∃ fn : Func, A.C.P.funcs[f]? = some fn ∧ (fn.name == "runtime.NumGoroutine") = false ∧ fn.body.isNone = false) → (execOp a.eval o).run A.C.P w = .ok (.enter f vs) w) (hq : acall A.C s.h (o.dst.getD 0) f avs K) : o.wp A.C.P a w next Q := by
  unfold acall at hq
  split at hq
  · exact acall0_sim hC sim hd hn hnext f avs vs hl hrep hrun hq
  · obtain ⟨xs, r, hvs, hcall, hfree, hq⟩ := hq
    obtain ⟨hvl, hva⟩ := hvs.at
    have key := hcall.2 (fun b => S b ∨ ∃ id, L id ∧ (s.h id).live ∧ hasB w (s.h id) (rho id) b) w vs (hC.env _ _ _ _ sim.ev (fun b h => .inl h) (fun _ _ => rfl) (Nat.le_refl _)) (fun b h => h.elim (sim.st b) fun ⟨id, h1, h2, h3⟩ => (sim.lv id b h1 h2 h3).1) (by simp [← hvl, hl]) (fun j x v hj hv => by
        rw [List.getElem?_map] at hj
        obtain ⟨y, hy, rfl⟩ := Option.map_eq_some_iff.1 hj
        obtain ⟨av, hav⟩ : ∃ av, avs[j]? = some av := ⟨_, List.getElem?_eq_getElem (by rw [hvl]; exact lt_of_get hy)⟩
        exact (hva j av y hav hy).rep hC sim (hrep S s.h sim j av v hav (by simpa using hv))) (fun i j x y v u g hi hj hv hu hx => by
        rw [List.getElem?_map] at hi
        obtain ⟨z, _, rfl⟩ := Option.map_eq_some_iff.1 hi
        cases hx)
    refine wp_enter (hrun hcall.1) key fun e w' hpost => ?_
    obtain ⟨v, S', rfl, hf, hS', hst, hsb, hr, hfin, hfok, hown⟩ := hpost
    refine ⟨v, rfl, ?_⟩
    have hf0 : Fr (fun _ => False) w w' := ⟨hf.os, hf.tape, hf.output, hf.size, fun k hk _ => hf.block k hk fun ⟨j, x, v, hj, _, hx, _⟩ => by
      rw [List.getElem?_map] at hj
      obtain ⟨z, _, rfl⟩ := Option.map_eq_some_iff.1 hj
      cases hx⟩
    have sim3 := sim.grow hC w' hf0
    refine hnext _ _ _ S rho _ _ hq (sim3.value o.dst hd _ _ ?_)
    cases r with
    | p x => exact .p _ _ (pfree_rep hfree hr)
    | own e es => cases hfree
    | hown cs => cases hfree
    | tu ys =>
      obtain ⟨us, rfl, h1, h2⟩ := hr
      refine .tu _ us (by simpa using h1) fun i c u hi hu => ?_
      rw [List.getElem?_map] at hi
      obtain ⟨z, hz, rfl⟩ := Option.map_eq_some_iff.1 hi
      exact .p _ _ (pfree_rep (List.all_eq_true.1 hfree z (List.mem_of_getElem? hz)) (h2 i z u hz hu))

theorem run_callFunc {P : Program} {w : World} {f : FuncId} {vs : Array Value} (h : ∃ fn : Func, P.funcs[f]? = some fn ∧ (fn.name == "runtime.NumGoroutine") = false ∧ fn.body.isNone = false) : (callFunc f vs).run P w = .ok (.enter f vs) w := by
  obtain ⟨fn, h1, h2, h3⟩ := h
  have h2' : ¬ fn.name = "runtime.NumGoroutine" := by simpa using h2
  cases hb : fn.body with
  | none => rw [hb] at h3; cases h3
  | some b => simp [callFunc, Sem.run, program, h1, h2', hb]
theorem isNil_eq {α : Type} {a : Array α} (h : isNil a.toList = true) : a = #[] := by
  obtain ⟨l⟩ := a
  cases l with
  | nil => rfl
  | cons y l => cases h
theorem calleeOf_spec {S : Nat → Prop} {w : World} {P : Program} {L : Nat → Prop} {rho : Nat → Value} {h : Nat → AB} {x : AV} {v : Value} {f : FuncId} {cap : List AV} (hc : calleeOf x = some (f, cap)) (hx : LRep S w P L rho h x v) : ∃ us : Array Value, v = .func (.func f) #[] us ∧ cap.length = us.size ∧ ∀ (i : Nat) c u, cap[i]? = some c → us[i]? = some u → LRep S w P L rho h c u := by
  cases x <;> simp only [calleeOf] at hc <;> try (cases hc; done)
  · rename_i y
    have hx := hx.p_inv
    cases y <;> simp only [calleeP] at hc <;> try (cases hc; done)
    · rename_i z
      obtain rfl := hx.im_inv
      unfold calleeV at hc
      split at hc
      · rename_i fn first cp
        split at hc
        · rename_i hn
          simp only [Bool.and_eq_true] at hn
          have e1 := isNil_eq hn.1
          have e2 := isNil_eq hn.2
          subst e1 e2
          cases fn <;> simp only [calleeF] at hc <;> try (cases hc; done)
          injection hc with hc
          injection hc with h1 h2
          subst h1 h2
          exact ⟨#[], rfl, rfl, by simp⟩
        · cases hc
      · cases hc
    · rename_i g cp
      injection hc with hc
      injection hc with h1 h2
      subst h1 h2
      cases hx
      rename_i us hl hr
      refine ⟨us, rfl, by simpa using hl, fun i c u hc hu => ?_⟩
      rw [List.getElem?_map] at hc
      obtain ⟨z, hz, rfl⟩ := Option.map_eq_some_iff.1 hc
      exact .p _ _ (hr i z u hz hu)
  · injection hc with hc
    injection hc with h1 h2
    subst h1 h2
    cases hx
    exact ⟨_, rfl, by assumption, by assumption⟩
/-- a world in which but blocks have turned that nothing holds -/
theorem Sim.loose {A : Amb} {V L S : Nat → Prop} {rho : Nat → Value} {s : AS} {a : Act} {w : World} (sim : Sim A V L S rho s a w) (hC : CtxOK A.C) (w' : World) (R : Nat → Prop) (hf : Fr R w w') (hR : ∀ k, R k → ¬ S k ∧ (∀ i, L i → (s.h i).live → ¬ hasB w (s.h i) (rho i) k) ∧ (A.mv k ∨ A.w0.heap.size ≤ k)) : Sim A V L S rho s a w' := by
  have keepS : ∀ b, S b → w'.heap[b]? = w.heap[b]? := fun k hk => hf.block k (sim.st k hk) (fun h => (hR k h).1 hk)
  have T : Turn S S w w' L L rho rho s.h s.h := ⟨fun b h => h, keepS, fun j hj => ⟨hj, fun hl => ⟨hl, rfl⟩⟩, fun j e' hj => hj⟩
  exact
  { tm := fun j hj => (sim.tm j hj).turn T
    sz := sim.sz, df := sim.df, nb := sim.nb, pn := sim.pn
    ev := hC.env _ _ _ _ sim.ev (fun b h => h) keepS hf.size
    s0 := sim.s0
    st := fun b hb => Nat.lt_of_lt_of_le (sim.st b hb) hf.size
    sb := sim.sb
    hp := fun j hj => (sim.hp j hj).turn T (fun li g hg => hf.block g (sim.lv j g hj li hg).1 (fun h => (hR g h).2.1 j hj li hg)) (fun _ => rfl)
    dj := fun i j g hi hj li lj hgi hgj => sim.dj i j g hi hj li lj (hasB_turn (fun k hk => hf.block k (sim.lvb i k hi li hk).1 (fun h => (hR k h).2.1 i hi li (.inl hk))) hgi) (hasB_turn (fun k hk => hf.block k (sim.lvb j k hj lj hk).1 (fun h => (hR k h).2.1 j hj lj (.inl hk))) hgj)
    lv := fun i g hi li hg => by obtain ⟨h1, h2⟩ := sim.lv i g hi li (hasB_turn (fun k hk => hf.block k (sim.lvb i k hi li hk).1 (fun h => (hR k h).2.1 i hi li (.inl hk))) hg); exact ⟨Nat.lt_of_lt_of_le h1 hf.size, h2⟩
    fr := sim.fr.next hf.os hf.tape hf.output hf.size fun k hk hn => hf.block k (Nat.lt_of_lt_of_le hk sim.fr.size) fun h => by
      rcases (hR k h).2.2 with h | h
      · exact hn h
      · omega }
theorem splitLast_spec : ∀ {l : List AV} {as : List AV} {z : AV}, splitLast l = some (as, z) → l = as ++ [z]
  | [], _, _, h => by cases h
  | [x], _, _, h => by cases h; rfl
  | x :: y :: r, as, z, h => by
    rw [splitLast] at h
    split at h
    · rename_i l z' h2
      cases h
      rw [splitLast_spec h2]
      rfl
    · cases h
theorem app_off {h : Nat → AB} {d : Nat} : ∀ {fz : List (Nat × AB)}, (∀ p ∈ fz, p.1 ≠ d) → app h fz d = h d := by
  intro fz
  induction fz generalizing h with
  | nil => intro _; rfl
  | cons p fz ih =>
    intro hp
    obtain ⟨i, b⟩ := p
    show app (upd h i b) fz d = h d
    rw [ih fun q hq => hp q (by simp [hq]), upd_ne _ _ (fun e => hp (i, b) (by simp) e.symm)]
theorem bcall_sim {A : Amb} (hC : CtxOK A.C) {o : Oper} {V L S : Nat → Prop} {rho : Nat → Value} {s : AS} {a : Act} {w : World} {K : KK} {next : Act → World → Prop} {Q : Exit → Act → World → Prop} (sim : Sim A V L S rho s a w) (hd : ∀ d, o.dst = some d → d < A.n)
    (hn : ∀ v eff b, K v eff (some b) → ¬ L (o.dst.getD 0) ∧ s.h (o.dst.getD 0) = b)
    (hnext : ∀ v eff new S' rho' a' w', K v eff new → Sim A (addV V o.dst) (addL L new (o.dst.getD 0)) S' rho' ⟨putT s.t o.dst v, app s.h eff⟩ a' w' → next a' w')
    (f : FuncId) (avs : List AV) (vs : Array Value) (hl : avs.length = vs.size)
    (hrep : ∀ (S2 : Nat → Prop) (h2 : Nat → AB), Sim A V L S2 rho ⟨s.t, h2⟩ a w → ∀ (i : Nat) x v, avs[i]? = some x → vs.toList[i]? = some v → LRep S2 w A.C.P L rho h2 x v)
    (hrun : (∃ fn : Func, A.C.P.funcs[f]? = some fn ∧ (fn.name == "runtime.NumGoroutine") = false ∧ fn.body.isNone = false) → (execOp a.eval o).run A.C.P w = .ok (.enter f vs) w) (hq : bcall A.C s.h (o.dst.getD 0) f avs K) : o.wp A.C.P a w next Q := by
  unfold bcall at hq
  split at hq
  case h_2 => exact hq.elim
  rename_i as id hsp
  have havs := splitLast_spec hsp
  split at hq
  case h_2 => exact hq.elim
  rename_i ty c rid hbox
  split at hq
  case h_2 => exact hq.elim
  rename_i hself
  split at hq
  case h_2 => exact hq.elim
  rename_i e es hrow
  obtain ⟨ws, vb, hvs, hwl⟩ : ∃ ws vb, vs.toList = ws ++ [vb] ∧ as.length = ws.length := by
    have hne : vs.toList ≠ [] := fun e => by
      have : vs.size = 0 := by simpa using congrArg List.length e
      rw [havs] at hl; simp at hl; omega
    refine ⟨vs.toList.dropLast, vs.toList.getLast hne, (List.dropLast_concat_getLast hne).symm, ?_⟩
    rw [havs] at hl
    simp at hl ⊢
    omega
  have hlast := hrep S s.h sim as.length (.bx id 0) vb (by rw [havs]; simp) (by rw [hvs, hwl]; simp)
  have hasv : ∀ (i : Nat) c v, as[i]? = some c → ws[i]? = some v → LRep S w A.C.P L rho s.h c v := fun i c v h1 h2 => hrep S s.h sim i c v (by rw [havs, List.getElem?_append_left (List.getElem?_eq_some_iff.1 h1).1]; exact h1) (by rw [hvs, List.getElem?_append_left (List.getElem?_eq_some_iff.1 h2).1]; exact h2)
  obtain ⟨hLid, g0, hrho, hvb⟩ : L id ∧ ∃ g, rho id = .pointer (some ⟨g, 0, none⟩) ∧ vb = .pointer (some ⟨g, 0, none⟩) := by
    cases hlast with
    | bx _ _ _ hv => exact hv (by rw [hbox]; trivial)
  obtain ⟨xs, fz, S2, ⟨r, ch, es', hcall, hq⟩, sim2, hpv, hSS, hF, hfz, hlen⟩ := toPVs_sim (t := s.t) hC as ws S s.h hwl sim (Frz.refl _) hasv hq
  split at hq
  case h_2 => exact hq.elim
  rename_i hok
  simp only [Bool.and_eq_true, Bool.not_eq_true'] at hok
  obtain ⟨hfree, hn1, hn2, hne⟩ := hok
  have hne : id ≠ rid := fun e => by rw [e] at hne; simp at hne
  have h2id : (app s.h fz) id = .tbox ty [c, .ow rid] := by rw [app_noId hn1, hbox]
  have h2rid : (app s.h fz) rid = .row e es := by rw [app_noId hn2, hrow]
  have hpb := sim2.hp id hLid
  have hpb : HRep S2 w A.C.P L rho (app s.h fz) id (app s.h fz id) := hpb
  rw [h2id] at hpb
  obtain ⟨g, cells, k1, k2, k3, k4⟩ := hpb
  rw [hrho] at k1
  obtain rfl : g0 = g := by injection k1 with k1; injection k1 with k1; injection k1
  obtain ⟨u0, u1, hcells⟩ : ∃ u0 u1, cells = #[u0, u1] := by
    obtain ⟨cl⟩ := cells
    match cl, k3 with
    | [x, y], _ => exact ⟨x, y, rfl⟩
  subst hcells
  obtain ⟨o0, l0⟩ := k4 0 c u0 rfl rfl
  obtain ⟨o1, l1⟩ := k4 1 (.ow rid) u1 rfl rfl
  obtain ⟨hLrid, hu1⟩ : L rid ∧ u1 = rho rid := by
    cases l1 with
    | ow _ _ hv => exact hv (by rw [h2rid]; trivial)
  have hu0 : u0 = .pointer none ∨ u0 = .pointer (some ⟨g0, 0, none⟩) := by
    unfold selfB at hself
    split at hself
    · cases l0 with
      | p _ _ hx => cases hx; exact .inl rfl
    · have hi := Nat.eq_of_beq_eq_true hself
      subst hi
      cases l0 with
      | bx _ _ _ hv =>
        obtain ⟨_, g', e1, e2⟩ := hv (by rw [h2id]; trivial)
        rw [hrho] at e1
        injection e1 with e1; injection e1 with e1; injection e1 with e1
        subst e1
        exact .inr e2
    · cases hself
  have hpr := sim2.hp rid hLrid
  have hpr : HRep S2 w A.C.P L rho (app s.h fz) rid (app s.h fz rid) := hpr
  rw [h2rid] at hpr
  have hpr : RowRep A.C.P w (PRep S2 w) e es (rho rid) := hpr
  rw [← hu1] at hpr
  have liveid : (app s.h fz id).live := by rw [h2id]; trivial
  have liverid : (app s.h fz rid).live := by rw [h2rid]; trivial
  have lvid := sim2.lvb id g0 hLid liveid (by rw [hrho]; rfl)
  have lvrid : ∀ k, blk u1 = some k → k < w.heap.size ∧ ¬ S2 k ∧ (A.mv k ∨ A.w0.heap.size ≤ k) ∧ k ≠ g0 := fun k hk => by
    obtain ⟨a1, a2, a3⟩ := sim2.lvb rid k hLrid liverid (by rw [← hu1]; exact hk)
    refine ⟨a1, a2, a3, fun e => hne ?_⟩
    subst e
    exact sim2.djb id rid k hLid hLrid liveid liverid (by rw [hrho]; rfl) (by rw [← hu1]; exact hk)
  have hva : vs = (ws ++ [Value.pointer (some ⟨g0, 0, none⟩)]).toArray := by
    rw [← hvb, ← hvs]
  have key := hcall.2 S2 w ws g0 u0 u1 sim2.ev sim2.st hlen hpv k2 hu0 hpr lvid.2.1 (fun k hk => ⟨(lvrid k hk).2.1, (lvrid k hk).2.2.2, (lvrid k hk).1⟩)
  rw [← hva] at key
  refine wp_enter (hrun hcall.1) key fun e' w' hpost => ?_
  obtain ⟨v, rfl, hf, hr, hpost⟩ := hpost
  refine ⟨v, rfl, ?_⟩
  have hval : ∀ {L' : Nat → Prop} {rho' : Nat → Value} {h' : Nat → AB}, LRep S2 w' A.C.P L' rho' h' (rAV (o.dst.getD 0) r) v := by
    intro L' rho' h'
    cases r with
    | p x => exact .p _ _ hr
    | own e es => cases hfree
    | hown cs => cases hfree
    | tu ys =>
      obtain ⟨us, rfl, q1, q2⟩ := hr
      refine .tu _ us (by simpa using q1) fun i c u hi hu => ?_
      rw [List.getElem?_map] at hi
      obtain ⟨z, hz, rfl⟩ := Option.map_eq_some_iff.1 hi
      exact .p _ _ (q2 i z u hz hu)
  split at hq
  case h_2 =>
    have sim3 := (sim2.kill rid).kill id
    have sim4 := sim3.loose hC w' (fun k => k = g0 ∨ blk u1 = some k) hf (fun k hk => by
      have dead : ∀ i, (upd (upd (app s.h fz) rid .none) id .none i).live → i ≠ id ∧ i ≠ rid ∧ (app s.h fz i).live := fun i li => by
        rcases upd_cases (upd (app s.h fz) rid .none) id .none i with ⟨rfl, h⟩ | ⟨h1, h⟩
        · rw [h] at li; exact li.elim
        · rw [h] at li
          rcases upd_cases (app s.h fz) rid .none i with ⟨rfl, h3⟩ | ⟨h2, h3⟩
          · rw [h3] at li; exact li.elim
          · rw [h3] at li; exact ⟨h1, h2, li⟩
      have deadB : ∀ i, (upd (upd (app s.h fz) rid .none) id .none i).live → hasB w (upd (upd (app s.h fz) rid .none) id .none i) (rho i) k → hasB w (app s.h fz i) (rho i) k := fun i li hg => hasB_upd (dead i li).2.1 (hasB_upd (dead i li).1 hg)
      rcases hk with rfl | hk
      · exact ⟨lvid.2.1, fun i hi li hgi => (dead i li).1 (sim2.dj i id k hi hLid (dead i li).2.2 liveid (deadB i li hgi) (.inl (by rw [hrho]; rfl))), lvid.2.2⟩
      · exact ⟨(lvrid k hk).2.1, fun i hi li hgi => (dead i li).2.1 (sim2.dj i rid k hi hLrid (dead i li).2.2 liverid (deadB i li hgi) (.inl (by rw [← hu1]; exact hk))), (lvrid k hk).2.2.1⟩)
    have e6 : upd (upd (app s.h fz) rid .none) id .none = app s.h (fz ++ [(rid, .none), (id, .none)]) := by rw [app_append]; rfl
    have sim4 : Sim A V L S2 rho ⟨s.t, upd (upd (app s.h fz) rid .none) id .none⟩ a w' := sim4
    rw [e6] at sim4
    exact hnext _ _ _ S2 rho _ w' hq (sim4.value o.dst hd _ _ hval)
  rename_i es'
  obtain ⟨u1', hheap, hrow', hb1⟩ := hpost
  obtain ⟨hL, hb⟩ := hn _ _ _ hq
  have hdid : o.dst.getD 0 ≠ id := fun e => hL (e ▸ hLid)
  have hdrid : o.dst.getD 0 ≠ rid := fun e => hL (e ▸ hLrid)
  have glt : g0 < w'.heap.size := Nat.lt_of_lt_of_le lvid.1 hf.size
  obtain ⟨w1, hw1⟩ : ∃ w1 : World, w1 = { w' with heap := w'.heap.setIfInBounds g0 (.cells #[u0, u1] ty (0, 0)) } := ⟨_, rfl⟩
  have w1g : w1.heap[g0]? = some (.cells #[u0, u1] ty (0, 0)) := by rw [hw1]; simp [glt]
  have w1k : ∀ k, k ≠ g0 → w1.heap[k]? = w'.heap[k]? := fun k hk => by rw [hw1]; simp [Array.getElem?_setIfInBounds, hk.symm]
  have w1s : w1.heap.size = w'.heap.size := by rw [hw1]; simp
  have gne : ∀ k, blk u1' = some k → k ≠ g0 := fun k hk => by
    rcases (hb1 k hk).2 with h | h
    · exact (lvrid k h).2.2.2
    · have := lvid.1; omega
  have sim3 := sim2.kill rid
  have sim4 := sim3.new hC (o.dst.getD 0) (.row e es') (sim2.dstlt hd) hL (by
      show upd (app s.h fz) rid .none (o.dst.getD 0) = _
      rw [upd_ne _ _ hdrid, app_off fun p hp e => hL (by rw [← e]; exact hfz p hp), hb]) w1 (by rw [hw1]; exact hf.os) (by rw [hw1]; exact hf.tape) (by rw [hw1]; exact hf.output) (by rw [w1s]; exact hf.size) (fun k => blk u1 = some k)
    (fun k hk hnk => by
      by_cases e : k = g0
      · subst e; rw [w1g, k2]
      · rw [w1k k e]; exact hf.block k hk (fun h => h.elim e hnk))
    (fun k hk => by
      refine ⟨(lvrid k hk).2.1, fun i hi li hgi => ?_, (lvrid k hk).2.2.1⟩
      have li' : (upd (app s.h fz) rid .none i).live := li
      rcases upd_cases (app s.h fz) rid .none i with ⟨rfl, h⟩ | ⟨hne2, h⟩
      · rw [h] at li'; exact li'.elim
      · rw [h] at li'
        exact hne2 (sim2.dj i rid k hi hLrid li' liverid (hasB_upd hne2 hgi) (.inl (by rw [← hu1]; exact hk))))
    u1' (fun k hk => by rw [w1s]; exact ⟨(hb1 k hk).1, (hb1 k hk).2.symm⟩)
    (fun T => by
      show RowRep A.C.P w1 (PRep S2 w1) e es' (upd rho (o.dst.getD 0) u1' (o.dst.getD 0))
      rw [upd_same]
      exact hrow'.turn (fun k hk => w1k k (gne k hk)) (fun x u hx => hx.mono (fun _ h => h) fun k hk => w1k k fun e => lvid.2.1 (e ▸ hk)))
  have h4id : (upd (app s.h fz) rid .none) id = .tbox ty [c, .ow rid] := by rw [upd_ne _ _ hne, h2id]
  have rid' : upd rho (o.dst.getD 0) u1' id = .pointer (some ⟨g0, 0, none⟩) := by rw [upd_ne _ _ hdid.symm, hrho]
  have sim5 := sim4.write hC id (.inl hLid) (by show ((upd (app s.h fz) rid .none) id).live; rw [h4id]; trivial) (.tbox ty [selfA ch id c, .ow (o.dst.getD 0)]) (fun _ h => by cases h) w' (by rw [hw1]) (by rw [hw1]) (by rw [hw1]) w1s.symm
    (fun k hk => (w1k k fun e => hk (by rw [rid', e]; rfl)).symm)
    (fun T => by
      refine ⟨g0, _, rid', hheap, rfl, fun j x u hj hu => ?_⟩
      match j, hj, hu with
      | 0, hj, hu =>
        cases hj
        cases ch with
        | true =>
          cases hu
          exact ⟨rfl, .bx id 0 _ fun _ => ⟨.inl hLid, g0, rid', rfl⟩⟩
        | false =>
          cases hu
          exact ⟨o0, (l0.turn (S' := S2) (w' := w') (L' := fun i => L i ∨ i = o.dst.getD 0) (rho' := upd rho (o.dst.getD 0) u1') (h' := upd (upd (app s.h fz) rid .none) id (.tbox ty [selfA false id c, .ow (o.dst.getD 0)])) ⟨fun _ h => h, fun k hk => hf.block k (sim2.st k hk) (fun h => h.elim (fun e => lvid.2.1 (e ▸ hk)) (fun h => (lvrid k h).2.1 hk)), fun j hj => by
              rcases upd_cases (upd (app s.h fz) rid .none) id (.tbox ty [selfA false id c, .ow (o.dst.getD 0)]) j with ⟨rfl, h⟩ | ⟨hj1, h⟩
              · exact ⟨by rw [h2id]; trivial, fun hl => ⟨.inl hl, upd_ne _ _ hdid.symm⟩⟩
              · rw [h] at hj
                rcases upd_cases (app s.h fz) rid .none j with ⟨rfl, h3⟩ | ⟨hj2, h3⟩
                · rw [h3] at hj; exact hj.elim
                · rw [h3] at hj
                  exact ⟨hj, fun hl => ⟨.inl hl, upd_ne _ _ fun e => hL (e ▸ hl)⟩⟩, fun j e2 hj => by
              rcases upd_cases (upd (app s.h fz) rid .none) id (.tbox ty [selfA false id c, .ow (o.dst.getD 0)]) j with ⟨rfl, h⟩ | ⟨hj1, h⟩
              · rw [h] at hj; cases hj
              · rw [h] at hj
                rcases upd_cases (app s.h fz) rid .none j with ⟨rfl, h3⟩ | ⟨hj2, h3⟩
                · rw [h3] at hj; cases hj
                · rw [h3] at hj; exact hj⟩)⟩
      | 1, hj, hu =>
        cases hj
        cases hu
        obtain ⟨i0, xs0, hi0, _, hown, _⟩ := hrow'
        refine ⟨?_, .ow _ _ fun _ => ⟨.inr rfl, (upd_same _ _ _).symm⟩⟩
        obtain ⟨a0, c0, hs0⟩ := ownsRow_slice hown
        rw [hs0]
        rfl
      | n + 2, hj, hu => cases hj)
  have e6 : upd (upd (app s.h fz) rid .none) id (.tbox ty [selfA ch id c, .ow (o.dst.getD 0)]) = app s.h (fz ++ [(rid, .none), (id, .tbox ty [selfA ch id c, .ow (o.dst.getD 0)])]) := by rw [app_append]; rfl
  have sim5 : Sim A V (fun i => L i ∨ i = o.dst.getD 0) S2 (upd rho (o.dst.getD 0) u1') ⟨s.t, upd (upd (app s.h fz) rid .none) id (.tbox ty [selfA ch id c, .ow (o.dst.getD 0)])⟩ a w' := sim5
  rw [e6] at sim5
  exact hnext _ _ _ S2 (upd rho (o.dst.getD 0) u1') _ w' hq (sim5.value o.dst hd _ _ hval)
/-- a call of a function, or of a value that is one -/
theorem ok_call {A : Amb} {o : Oper} (c : Call) (g : Operand) (hop : o.op = .call c) (hc : c.callee = .value g) : OpOK A o := by
  intro V L S rho s a w K next Q hC sim hV hd hq hn hnext
  obtain ⟨callee, args, argTypes⟩ := c
  simp only at hc
  subst hc
  simp only [qop, hop, calleeK] at hq
  have hg := ev_rep sim g fun j hj => hV j (by simp [hop, Op.operands, Call.operands, hj])
  have hargs : ∀ (S2 : Nat → Prop) (h2 : Nat → AB), Sim A V L S2 rho ⟨s.t, h2⟩ a w → ∀ x ∈ args.toList, LRep S2 w A.C.P L rho h2 (ev s.t x) (a.eval x) := fun S2 h2 sim2 x hx => ev_rep sim2 x fun j hj => hV j (by simp [hop, Op.operands, Call.operands]; rw [← hj]; exact .inr (Array.mem_toList_iff.1 hx))
  have hmap : ∀ (S2 : Nat → Prop) (h2 : Nat → AB), Sim A V L S2 rho ⟨s.t, h2⟩ a w → ∀ (i : Nat) x v, (args.toList.map (ev s.t))[i]? = some x → (args.map a.eval).toList[i]? = some v → LRep S2 w A.C.P L rho h2 x v := by
    intro S2 h2 sim2 i x v hx hv
    rw [List.getElem?_map] at hx
    obtain ⟨y, hy, rfl⟩ := Option.map_eq_some_iff.1 hx
    rw [Array.toList_map, List.getElem?_map, hy] at hv
    simp at hv
    rw [← hv]
    exact hargs S2 h2 sim2 y (List.mem_of_getElem? hy)
  split at hq
  case h_2 => exact hq.elim
  rename_i f cap hgv
  obtain ⟨us, he, hl, _⟩ := calleeOf_spec hgv hg
  have hboth : (∀ (S2 : Nat → Prop) (h2 : Nat → AB), Sim A V L S2 rho ⟨s.t, h2⟩ a w → ∀ (i : Nat) x v, (args.toList.map (ev s.t) ++ cap)[i]? = some x → (args.map a.eval ++ us).toList[i]? = some v → LRep S2 w A.C.P L rho h2 x v) ∧ ((∃ fn : Func, A.C.P.funcs[f]? = some fn ∧ (fn.name == "runtime.NumGoroutine") = false ∧ fn.body.isNone = false) → (execOp a.eval o).run A.C.P w = .ok (.enter f (args.map a.eval ++ us)) w) := by
    refine ⟨fun S2 h2 sim2 i x v hx hv => ?_, fun hfn => ?_⟩
    · rw [Array.toList_append] at hv
      by_cases hi : i < args.size
      · rw [List.getElem?_append_left (by simpa using hi)] at hx
        rw [List.getElem?_append_left (by simpa using hi)] at hv
        exact hmap S2 h2 sim2 i x v hx hv
      · rw [List.getElem?_append_right (by simp; omega)] at hx
        rw [List.getElem?_append_right (by simp; omega)] at hv
        simp only [List.length_map, Array.length_toList, Array.toList_map] at hx hv
        have hg2 := ev_rep sim2 g fun j hj => hV j (by simp [hop, Op.operands, Call.operands, hj])
        obtain ⟨us2, he2, _, hr2⟩ := calleeOf_spec hgv hg2
        rw [he] at he2
        injection he2 with _ _ he2
        subst he2
        exact hr2 _ x v hx (by simpa using hv)
    · simp [execOp, hop, resolve, he, Deferred.ofValue, invoke, run_callFunc hfn]
  split at hq
  · exact acall_sim hC sim hd hn hnext f _ (args.map a.eval ++ us) (by simp [hl]) hboth.1 hboth.2 hq
  · exact bcall_sim hC sim hd hn hnext f _ (args.map a.eval ++ us) (by simp [hl]) hboth.1 hboth.2 hq
end Go.AM
namespace Go.AM
open Go.RowKit

/-- more objects -/
def Ext (h h' : Nat → AB) : Prop := ∀ id, h id = .none ∨ h' id = h id
theorem Ext.row {h h' : Nat → AB} (H : Ext h h') {id : Nat} {e : TypeId} {es : List (List PV)} (hr : h id = .row e es) : h' id = .row e es := by
  rcases H id with h1 | h1
  · rw [h1] at hr; cases hr
  · rw [h1, hr]
theorem Ext.frz {h h' : Nat → AB} (H : Ext h h') {id : Nat} {es : List (List PV)} (hr : h id = .frz es) : h' id = .frz es := by
  rcases H id with h1 | h1
  · rw [h1] at hr; cases hr
  · rw [h1, hr]
theorem Ext.box {h h' : Nat → AB} (H : Ext h h') {id : Nat} {cs : List AV} (hr : h id = .box cs) : h' id = .box cs := by
  rcases H id with h1 | h1
  · rw [h1] at hr; cases hr
  · rw [h1, hr]
theorem Ext.hbox {h h' : Nat → AB} (H : Ext h h') {id : Nat} {cs : List HC} (hr : h id = .hbox cs) : h' id = .hbox cs := by
  rcases H id with h1 | h1
  · rw [h1] at hr; cases hr
  · rw [h1, hr]
theorem Ext.tbox {h h' : Nat → AB} (H : Ext h h') {id : Nat} {ty : TypeId} {cs : List AV} (hr : h id = .tbox ty cs) : h' id = .tbox ty cs := by
  rcases H id with h1 | h1
  · rw [h1] at hr; cases hr
  · rw [h1, hr]
theorem Ext.fbx {h h' : Nat → AB} (H : Ext h h') {id : Nat} {cs : List PV} (hr : h id = .fbx cs) : h' id = .fbx cs := by
  rcases H id with h1 | h1
  · rw [h1] at hr; cases hr
  · rw [h1, hr]

theorem Ext.map {h h' : Nat → AB} (H : Ext h h') {id : Nat} {mk : MK} {es : List (Value × PV)} (hr : h id = .map mk es) : h' id = .map mk es := by
  rcases H id with h1 | h1
  · rw [h1] at hr; cases hr
  · rw [h1, hr]

theorem Ext.hrow {h h' : Nat → AB} (H : Ext h h') {id : Nat} {e : TypeId} {es : List (List HX)} (hr : h id = .hrow e es) : h' id = .hrow e es := by
  rcases H id with h1 | h1
  · rw [h1] at hr; cases hr
  · rw [h1, hr]
theorem hlen_some {h h' : Nat → AB} (H : Ext h h') {a : AV} {n : Nat} (hq : hlen h a = some n) : hlen h' a = some n := by
  unfold hlen at hq ⊢
  split at hq
  · rename_i id
    split at hq
    · rename_i e es hr
      rw [H.hrow hr]
      exact hq
    · cases hq
  · cases hq
theorem hlen_none {h h' : Nat → AB} (H : Ext h h') {a : AV} {K : List (List PV) → Prop} (hq : aslice h a K) : hlen h' a = none := by
  unfold aslice at hq
  unfold hlen
  split at hq
  · rfl
  · rfl
  · rename_i id
    simp only
    split at hq
    · rename_i hr; rw [H.row hr]
    · rename_i hr; rw [H.frz hr]
    · exact hq.elim
  · exact hq.elim
theorem one1_ext {h h' : Nat → AB} (H : Ext h h') {a : AV} (h2 : one1 h a = true) : one1 h' a = true := by
  cases a with
  | p x => cases x <;> exact h2
  | nl => rfl
  | ow id =>
    unfold one1 at h2 ⊢
    simp only at h2 ⊢
    split at h2
    · rename_i hr; rw [H.row hr]
    · rename_i hr; rw [H.hrow hr]
    · rename_i hr; rw [H.frz hr]
    · cases h2
  | bx id off =>
    unfold one1 at h2 ⊢
    simp only at h2 ⊢
    split at h2
    · cases h2
    · rename_i hne
      rcases H id with h4 | h4
      · exact absurd h4 (by simpa using hne)
      · rw [h4]
        split
        · rename_i h5; exact absurd h5 (by simpa using hne)
        · rfl
  | vw id lo hi => exact h2
  | rp id i off =>
    unfold one1 at h2 ⊢
    simp only at h2 ⊢
    split at h2
    · rename_i hr; rw [H.row hr]
    · rename_i hr; rw [H.hrow hr]
    · cases h2
  | fn f cap => rfl
  | tu xs => exact h2
  | st xs => exact h2
  | junk => exact h2
theorem toPV1_lin {h h' : Nat → AB} (H : Ext h h') {a : AV} {K : PV → List (Nat × AB) → Prop} (hq : toPV1 h a K) : ∃ x fz, K x fz ∧ ∀ K' : PV → List (Nat × AB) → Prop, K' x fz → toPV1 h' a K' := by
  unfold toPV1 at hq
  split at hq
  · exact ⟨_, _, hq, fun K' h => h⟩
  · exact ⟨_, _, hq, fun K' h => h⟩
  · split at hq
    · rename_i hr
      exact ⟨_, _, hq, fun K' h => by simp only [toPV1, H.row hr]; exact h⟩
    · rename_i hr
      exact ⟨_, _, hq, fun K' h => by simp only [toPV1, H.frz hr]; exact h⟩
    · exact hq.elim
  · split at hq
    · rename_i hr
      split at hq
      · rename_i hx
        exact ⟨_, _, hq, fun K' h => by simp only [toPV1, H.box hr, hx]; exact h⟩
      · exact hq.elim
    · rename_i hr
      exact ⟨_, _, hq, fun K' h => by simp only [toPV1, H.fbx hr]; exact h⟩
    · exact hq.elim
  · exact hq.elim
theorem toPVs_lin {h h' : Nat → AB} (H : Ext h h') : ∀ {as : List AV} {K : List PV → List (Nat × AB) → Prop}, toPVs h as K → ∃ xs fz, K xs fz ∧ ∀ K' : List PV → List (Nat × AB) → Prop, K' xs fz → toPVs h' as K' := by
  intro as
  induction as with
  | nil => intro K hq; exact ⟨_, _, hq, fun K' h => h⟩
  | cons a as ih =>
    intro K hq
    unfold toPVs at hq
    obtain ⟨x, fz, hq, hK⟩ := toPV1_lin H hq
    obtain ⟨xs, fz', hq, hK'⟩ := ih hq
    refine ⟨_, _, hq, fun K' h => ?_⟩
    unfold toPVs
    exact hK _ (hK' _ h)
theorem toPV_lin {h h' : Nat → AB} (H : Ext h h') {a : AV} {K : PV → List (Nat × AB) → Prop} (hq : toPV h a K) : ∃ x fz, K x fz ∧ ∀ K' : PV → List (Nat × AB) → Prop, K' x fz → toPV h' a K' := by
  unfold toPV at hq
  split at hq
  · obtain ⟨xs, fz, hq, hK⟩ := toPVs_lin H hq
    exact ⟨_, _, hq, fun K' h => hK _ h⟩
  · rename_i hne
    obtain ⟨x, fz, hq, hK⟩ := toPV1_lin H hq
    refine ⟨x, fz, hq, fun K' h => ?_⟩
    unfold toPV
    split
    · exact absurd rfl (hne _ _)
    · exact hK _ h
theorem aslice_lin {h h' : Nat → AB} (H : Ext h h') {a : AV} {K : List (List PV) → Prop} (hq : aslice h a K) : ∃ es, K es ∧ ∀ K' : List (List PV) → Prop, K' es → aslice h' a K' := by
  unfold aslice at hq
  split at hq
  · exact ⟨_, hq, fun K' h => h⟩
  · exact ⟨_, hq, fun K' h => h⟩
  · split at hq
    · rename_i hr
      exact ⟨_, hq, fun K' h => by simp only [aslice, H.row hr]; exact h⟩
    · rename_i hr
      exact ⟨_, hq, fun K' h => by simp only [aslice, H.frz hr]; exact h⟩
    · exact hq.elim
  · exact hq.elim
theorem afill_lin {h h' : Nat → AB} (H : Ext h h') {fs : List (Nat × Nat × Bool)} {rho : Operand → AV} : ∀ {ps : List (Nat × Operand)} {cs : List PV} {K : List PV → List (Nat × AB) → Prop}, afill h fs rho ps cs K → ∃ x fz, K x fz ∧ ∀ K' : List PV → List (Nat × AB) → Prop, K' x fz → afill h' fs rho ps cs K' := by
  intro ps
  induction ps with
  | nil => intro cs K hq; exact ⟨_, _, hq, fun K' h => h⟩
  | cons p ps ih =>
    intro cs K hq
    obtain ⟨i, x⟩ := p
    unfold afill at hq
    split at hq
    · rename_i h1
      obtain ⟨y, fz, hq, hK⟩ := toPV_lin H hq
      split at hq
      · rename_i ys h2
        split at hq
        · rename_i h3
          obtain ⟨z, fz', hq, hK'⟩ := ih hq
          refine ⟨z, fz ++ fz', hq, fun K' h => ?_⟩
          simp only [afill, h1]
          refine hK _ ?_
          simp only [h2, h3]
          exact hK' _ h
        · exact hq.elim
      · exact hq.elim
    · exact hq.elim
theorem bfill_lin {h h' : Nat → AB} (H : Ext h h') {fs : List (Nat × Nat × Bool)} {rho : Operand → AV} : ∀ {ps : List (Nat × Operand)} {cs : List AV} {K : List AV → Prop}, bfill h fs rho ps cs K → ∃ z, K z ∧ ∀ K' : List AV → Prop, K' z → bfill h' fs rho ps cs K' := by
  intro ps
  induction ps with
  | nil => intro cs K hq; exact ⟨cs, hq, fun K' h => h⟩
  | cons p ps ih =>
    intro cs K hq
    obtain ⟨i, x⟩ := p
    unfold bfill at hq
    split at hq
    · rename_i h1
      split at hq
      · rename_i h2
        obtain ⟨z, h3, h4⟩ := ih hq
        refine ⟨z, h3, fun K' hk => ?_⟩
        unfold bfill
        simp only [Bool.and_eq_true] at h2
        simp only [h1, h2.1.1, h2.1.2, one1_ext H h2.2, Bool.and_self]
        exact h4 K' hk
      · exact hq.elim
    · exact hq.elim
theorem toPVn_lin {h h' : Nat → AB} (H : Ext h h') {b : Bool} {a : AV} {K : PV → List (Nat × AB) → Prop} (hq : toPVn b h a K) : ∃ x fz, K x fz ∧ ∀ K' : PV → List (Nat × AB) → Prop, K' x fz → toPVn b h' a K' := by
  unfold toPVn at hq
  split at hq
  · exact ⟨_, _, hq, fun K' h => h⟩
  · rename_i hne
    obtain ⟨x, fz, h1, h2⟩ := toPV_lin H hq
    refine ⟨x, fz, h1, fun K' h => ?_⟩
    unfold toPVn
    split
    · exact (hne rfl rfl).elim
    · exact h2 K' h
theorem aelems_lin {h h' : Nat → AB} (H : Ext h h') {b : Bool} {size : Nat} {rho : Operand → AV} : ∀ {ps : List (Nat × Operand)} {cs : List (List PV)} {K : List (List PV) → List (Nat × AB) → Prop}, aelems b h size rho ps cs K → ∃ x fz, K x fz ∧ ∀ K' : List (List PV) → List (Nat × AB) → Prop, K' x fz → aelems b h' size rho ps cs K' := by
  intro ps
  induction ps with
  | nil => intro cs K hq; exact ⟨_, _, hq, fun K' h => h⟩
  | cons p ps ih =>
    intro cs K hq
    obtain ⟨i, x⟩ := p
    unfold aelems at hq
    obtain ⟨y, fz, hq, hK⟩ := toPVn_lin H hq
    split at hq
    · rename_i ys h2
      split at hq
      · rename_i h3
        obtain ⟨z, fz', hq, hK'⟩ := ih hq
        refine ⟨z, fz ++ fz', hq, fun K' h => ?_⟩
        simp only [aelems]
        refine hK _ ?_
        simp only [h2, h3]
        exact hK' _ h
      · exact hq.elim
    · exact hq.elim
theorem aargs_lin {h h' : Nat → AB} (H : Ext h h') {md : Nat → Bool} : ∀ {as : List AV} {j : Nat} {K : List Arg → List (Nat × AB) → List (Nat × AB) → Prop}, aargs md h j as K → ∃ xs ids fz, K xs ids fz ∧ ∀ K' : List Arg → List (Nat × AB) → List (Nat × AB) → Prop, K' xs ids fz → aargs md h' j as K' := by
  intro as
  induction as with
  | nil => intro j K hq; exact ⟨_, _, _, hq, fun K' h => h⟩
  | cons a as ih =>
    intro j K hq
    unfold aargs at hq
    split at hq
    · rename_i hm
      obtain ⟨y, fz, hq, hK⟩ := toPV_lin H hq
      obtain ⟨xs, ids, fz', hq, hK'⟩ := ih hq
      refine ⟨_, _, _, hq, fun K' h => ?_⟩
      simp only [aargs, hm]
      exact hK _ (hK' _ h)
    · rename_i hm
      split at hq
      · split at hq
        · rename_i hr
          obtain ⟨xs, ids, fz', hq, hK'⟩ := ih hq
          refine ⟨_, _, _, hq, fun K' h => ?_⟩
          simp only [aargs, hm, H.row hr]
          exact hK' _ h
        · rename_i hr
          obtain ⟨xs, ids, fz', hq, hK'⟩ := ih hq
          refine ⟨_, _, _, hq, fun K' h => ?_⟩
          simp only [aargs, hm, H.frz hr]
          exact hK' _ h
        · exact hq.elim
      · obtain ⟨xs, ids, fz', hq, hK'⟩ := ih hq
        refine ⟨_, _, _, hq, fun K' h => ?_⟩
        simp only [aargs, hm]
        exact hK' _ h
      · split at hq
        · rename_i hr
          split at hq
          · rename_i hx
            obtain ⟨xs, ids, fz', hq, hK'⟩ := ih hq
            refine ⟨_, _, _, hq, fun K' h => ?_⟩
            simp only [aargs, hm, H.box hr, hx]
            exact hK' _ h
          · exact hq.elim
        · rename_i hr
          obtain ⟨xs, ids, fz', hq, hK'⟩ := ih hq
          refine ⟨_, _, _, hq, fun K' h => ?_⟩
          simp only [aargs, hm, H.hbox hr]
          exact hK' _ h
        · exact hq.elim
      · exact hq.elim
theorem acall0_lin {C : Ctx} {h h' : Nat → AB} (H : Ext h h') {d : Nat} {f : FuncId} {as : List AV} {K : KK} (hq : acall0 C h d f as K) : ∃ v e n, K v e n ∧ ∀ K' : KK, K' v e n → acall0 C h' d f as K' := by
  unfold acall0 at hq
  obtain ⟨xs, ids, fz, ⟨r, fin, hc, hq⟩, hK⟩ := aargs_lin H hq
  split at hq
  · rename_i h1
    split at hq
    · rename_i h2
      split at hq
      · rename_i h3
        refine ⟨_, _, _, hq, fun K' h => ?_⟩
        unfold acall0
        refine hK _ ⟨r, fin, hc, ?_⟩
        simp only [h1, h2, h3]
        exact h
      · rename_i h3
        refine ⟨_, _, _, hq, fun K' h => ?_⟩
        unfold acall0
        refine hK _ ⟨r, fin, hc, ?_⟩
        simp only [h1, h2, h3]
        exact h
    · exact hq.elim
  · exact hq.elim
theorem View1.ext {h h' : Nat → AB} (H : Ext h h') {a : AV} {x : PV} (hv : View1 h a x) : View1 h' a x := by
  cases hv with
  | p => exact .p _
  | nl => exact .nl
  | row id e es hr => exact .row id e es (H.row hr)
  | frz id es hr => exact .frz id es (H.frz hr)
  | hrow id e es ps hr hp => exact .hrow id e es ps (H.hrow hr) hp
theorem Views1.ext {h h' : Nat → AB} (H : Ext h h') {as : List AV} {xs : List PV} (hv : Views1 h as xs) : Views1 h' as xs := by
  induction hv with
  | nil => exact .nil
  | cons h1 _ ih => exact .cons (h1.ext H) ih
theorem View.ext {h h' : Nat → AB} (H : Ext h h') {a : AV} {x : PV} (hv : View h a x) : View h' a x := by
  cases hv with
  | one h1 => exact .one (h1.ext H)
  | box id off cs xs hb hx => exact .box id off cs xs (H.box hb) (hx.ext H)
  | fbx id off xs hb => exact .fbx id off xs (H.fbx hb)
theorem Views.ext {h h' : Nat → AB} (H : Ext h h') {as : List AV} {xs : List PV} (hv : Views h as xs) : Views h' as xs := by
  induction hv with
  | nil => exact .nil
  | cons h1 _ ih => exact .cons (h1.ext H) ih
theorem needs_some {h h' : Nat → AB} (H : Ext h h') : ∀ {as : List AV}, anyB (needsV1 h) as = true → anyB (needsV1 h') as = true := by
  intro as
  induction as with
  | nil => intro h; cases h
  | cons a as ih =>
    intro hq
    unfold anyB at hq ⊢
    split at hq
    · rename_i h1
      have : needsV1 h' a = true := by
        unfold needsV1 at h1 ⊢
        split at h1
        · split at h1
          · rename_i hb; simp only [H.box hb]; exact h1
          · cases h1
        · split at h1
          · rename_i hb; simp only [H.hrow hb]
          · cases h1
        · cases h1
      rw [this]
    · cases needsV1 h' a with
      | true => rfl
      | false => exact ih hq
theorem needs_arg {h h' : Nat → AB} (H : Ext h h') {a : AV} {K : PV → List (Nat × AB) → Prop} (h1 : needsV1 h a = false) (hq : toPV h a K) : needsV1 h' a = false := by
  cases a with
  | ow id =>
    simp only [toPV, toPV1] at hq
    simp only [needsV1] at h1 ⊢
    split at hq
    · rename_i hr; rw [H.row hr]
    · rename_i hr; rw [H.frz hr]
    · exact hq.elim
  | bx id off =>
    simp only [toPV, toPV1] at hq
    simp only [needsV1] at h1 ⊢
    split at hq
    · rename_i hr; rw [hr] at h1; rw [H.box hr]; exact h1
    · rename_i hr; rw [H.fbx hr]
    · exact hq.elim
  | _ => rfl
theorem needs_none {h h' : Nat → AB} (H : Ext h h') {md : Nat → Bool} : ∀ {as : List AV} {j : Nat} {K : List Arg → List (Nat × AB) → List (Nat × AB) → Prop}, aargs md h j as K → anyB (needsV1 h) as = false → anyB (needsV1 h') as = false := by
  intro as
  induction as with
  | nil => intro _ _ _ _; rfl
  | cons a as ih =>
    intro j K hq hn
    unfold anyB at hn ⊢
    split at hn
    · cases hn
    rename_i h1
    have : needsV1 h' a = false ∧ ∃ (j : Nat) (K : List Arg → List (Nat × AB) → List (Nat × AB) → Prop), aargs md h j as K := by
      unfold aargs at hq
      split at hq
      · obtain ⟨x, fz, hq2, _⟩ := toPV_lin (fun _ => .inr rfl) hq
        exact ⟨needs_arg H h1 hq, _, _, hq2⟩
      · split at hq
        · rename_i id
          split at hq
          · rename_i hr; exact ⟨by simp only [needsV1]; rw [H.row hr], _, _, hq⟩
          · rename_i hr; exact ⟨by simp only [needsV1]; rw [H.frz hr], _, _, hq⟩
          · exact hq.elim
        · exact ⟨rfl, _, _, hq⟩
        · rename_i id
          split at hq
          · rename_i hr
            split at hq
            · refine ⟨?_, _, _, hq⟩
              simp only [needsV1] at h1 ⊢
              rw [hr] at h1
              rw [H.box hr]
              exact h1
            · exact hq.elim
          · rename_i hr; exact ⟨by simp only [needsV1]; rw [H.hbox hr], _, _, hq⟩
          · exact hq.elim
        · exact hq.elim
    obtain ⟨h2, j', K', h3⟩ := this
    rw [h2]
    exact ih h3 hn
theorem acall_lin {C : Ctx} {h h' : Nat → AB} (H : Ext h h') {d : Nat} {f : FuncId} {as : List AV} {K : KK} (hq : acall C h d f as K) : ∃ v e n, K v e n ∧ ∀ K' : KK, K' v e n → acall C h' d f as K' := by
  unfold acall at hq
  split at hq
  · rename_i hn
    have hn' : anyB (needsV1 h') as = false := needs_none H (by unfold acall0 at hq; exact hq) hn
    obtain ⟨v, e, n, h1, h2⟩ := acall0_lin H hq
    exact ⟨v, e, n, h1, fun K' hk => by unfold acall; rw [hn']; exact h2 K' hk⟩
  · rename_i hn
    have hn' := needs_some H hn
    obtain ⟨xs, r, h1, h2, h3, h4⟩ := hq
    exact ⟨_, _, _, h4, fun K' hk => by unfold acall; rw [hn']; exact ⟨xs, r, h1.ext H, h2, h3, hk⟩⟩
theorem bcall_lin {C : Ctx} {h h' : Nat → AB} (H : Ext h h') {d : Nat} {f : FuncId} {as : List AV} {K : KK} (hq : bcall C h d f as K) : ∃ v e n, K v e n ∧ ∀ K' : KK, K' v e n → bcall C h' d f as K' := by
  unfold bcall at hq
  split at hq
  case h_2 => exact hq.elim
  rename_i h0
  split at hq
  case h_2 => exact hq.elim
  rename_i h1
  split at hq
  case h_2 => exact hq.elim
  rename_i h2
  split at hq
  case h_2 => exact hq.elim
  rename_i h3
  obtain ⟨xs, fz, ⟨r, ch, es', hc, hq⟩, hK⟩ := toPVs_lin H hq
  split at hq
  case h_2 => exact hq.elim
  rename_i h4
  split at hq
  · refine ⟨_, _, _, hq, fun K' h => ?_⟩
    unfold bcall
    simp only [h0, H.tbox h1, h2, H.row h3]
    refine hK _ ⟨r, ch, _, hc, ?_⟩
    simp only [h4]
    exact h
  · refine ⟨_, _, _, hq, fun K' h => ?_⟩
    unfold bcall
    simp only [h0, H.tbox h1, h2, H.row h3]
    refine hK _ ⟨r, ch, _, hc, ?_⟩
    simp only [h4]
    exact h
theorem numK_lin {k : IntKind} {n : Int} {K : Value → Prop} (hq : numK k n K) : ∃ v, K v ∧ ∀ K' : Value → Prop, K' v → numK k n K' := by
  unfold numK at hq
  split at hq
  · rename_i h
    exact ⟨_, hq.2, fun K' hk => by simp only [numK, h]; exact ⟨hq.1, hk⟩⟩
  · rename_i h
    exact ⟨_, hq, fun K' hk => by simp only [numK, h]; exact hk⟩
theorem anil_lin {T : TypeId → Option TI} {op : BinOp} {t : TypeId} {x : PV} {K : Value → Prop} (hq : anil T op t x K) : ∃ v, K v ∧ ∀ K' : Value → Prop, K' v → anil T op t x K' := by
  unfold anil at hq
  split at hq
  case h_2 => exact hq.elim
  split at hq
  case h_1 => exact hq.elim
  rename_i h1
  split at hq
  case h_2 => exact hq.elim
  rename_i h2
  split at hq <;> first
    | exact hq.elim
    | exact ⟨_, hq, fun K' h => by simp only [anil, h1, h2]; exact h⟩
theorem abin_lin {T : TypeId → Option TI} {op : BinOp} {t : TypeId} {x y : PV} {K : Value → Prop} (hq : abin T op t x y K) : ∃ v, K v ∧ ∀ K' : Value → Prop, K' v → abin T op t x y K' := by
  unfold abin at hq
  split at hq
  · split at hq
    · rename_i hs
      exact ⟨_, hq.2, fun K' h => by simp only [abin, hs]; exact ⟨hq.1, h⟩⟩
    rename_i hs
    split at hq
    · exact hq.elim
    · rename_i hk
      split at hq <;> first
        | exact hq.elim
        | (obtain ⟨v, h1, h2⟩ := numK_lin hq; exact ⟨v, h1, fun K' h => by simp only [abin, hk, hs]; exact h2 K' h⟩)
        | (obtain ⟨v, h1, h2⟩ := numK_lin hq.2; exact ⟨v, h1, fun K' h => by simp only [abin, hk, hs]; exact ⟨hq.1, h2 K' h⟩⟩)
        | exact ⟨_, hq, fun K' h => by simp only [abin, hk, hs]; exact h⟩
        | exact ⟨_, hq.2, fun K' h => by simp only [abin, hk, hs]; exact ⟨hq.1, h⟩⟩
  · split at hq <;> first
      | exact hq.elim
      | exact ⟨_, hq, fun K' h => by simp only [abin]; exact h⟩
      | exact ⟨_, hq.2, fun K' h => by simp only [abin]; exact ⟨hq.1, h⟩⟩
  · split at hq
    · rename_i hT
      split at hq <;> first
        | exact hq.elim
        | exact ⟨_, hq, fun K' h => by simp only [abin, hT]; exact h⟩
    · exact hq.elim
  · split at hq
    · rename_i hT
      split at hq
      · exact hq.elim
      rename_i hn
      split at hq
      · split at hq
        · rename_i he
          exact ⟨_, hq, fun K' h => by simp only [abin, hT, hn, he]; exact h⟩
        · exact hq.elim
      · split at hq
        · rename_i he
          exact ⟨_, hq, fun K' h => by simp only [abin, hT, hn, he]; exact h⟩
        · exact hq.elim
      · exact hq.elim
    · exact hq.elim
  · exact hq.elim

theorem qslice_lin {h h' : Nat → AB} (H : Ext h h') {C : Ctx} {rho : Operand → AV} {t : TypeId} {x : Operand} {lo hi : Option Operand} {K : KK} (hq : qslice C rho h t x lo hi K) : ∃ v e n, K v e n ∧ ∀ K' : KK, K' v e n → qslice C rho h' t x lo hi K' := by
  simp only [qslice] at hq
  split at hq
  · rename_i h0
    split at hq
    · rename_i h1
      split at hq
      · rename_i h2 h3; exact ⟨_, _, _, hq.2, fun K' h => by simp only [qslice, h0, h1, h2, h3]; exact ⟨hq.1, h⟩⟩
      · exact hq.elim
    · exact hq.elim
  · rename_i h0
    split at hq
    · exact hq.elim
    rename_i h1
    obtain ⟨z, fz, hq, hK⟩ := toPV_lin H hq
    split at hq
    · split at hq
      · rename_i h2 h3
        refine ⟨_, _, _, hq.2, fun K' h => ?_⟩
        simp only [qslice, h0, h1]
        refine hK _ ?_
        simp only [h2, h3]
        exact ⟨hq.1, h⟩
      · exact hq.elim
    · exact hq.elim
  · exact hq.elim
theorem qview_lin {C : Ctx} {rho : Operand → AV} {t : TypeId} {lo hi : Option Operand} {id : Nat} {e' : TypeId} {es : List (List PV)} {K : KK} (hq : qview C rho t lo hi id e' es K) : ∃ v e n, K v e n ∧ ∀ K' : KK, K' v e n → qview C rho t lo hi id e' es K' := by
  unfold qview at hq
  split at hq
  · rename_i h0
    split at hq
    · rename_i h1
      split at hq
      · rename_i h2 h3; exact ⟨_, _, _, hq.2, fun K' h => by simp only [qview, h0, h1, h2, h3]; exact ⟨hq.1, h⟩⟩
      · exact hq.elim
    · exact hq.elim
  · exact hq.elim
theorem qop_lin {C : Ctx} {o : Oper} {rho : Operand → AV} {h h' : Nat → AB} (H : Ext h h') {K : KK} (hq : qop C o rho h K) : ∃ v e n, K v e n ∧ ∀ K' : KK, K' v e n → qop C o rho h' K' := by
  cases hop : o.op <;> simp only [qop, hop] at hq
  case move x => exact ⟨_, _, _, hq, fun K' h => by simp only [qop, hop]; exact h⟩
  case assign x => exact ⟨_, _, _, hq, fun K' h => by simp only [qop, hop]; exact h⟩
  case pick c a b =>
    split at hq
    · rename_i h1
      split at hq
      · exact ⟨_, _, _, hq, fun K' h => by simp only [qop, hop, h1]; exact h⟩
      · exact ⟨_, _, _, hq, fun K' h => by simp only [qop, hop, h1]; exact h⟩
    · exact hq.elim
  case alloc e =>
    split at hq
    · rename_i h1
      split at hq
      · rename_i h2
        exact ⟨_, _, _, hq, fun K' h => by simp only [qop, hop, h1, h2]; exact h⟩
      · rename_i h2
        exact ⟨_, _, _, hq, fun K' h => by simp only [qop, hop, h1, h2]; exact h⟩
    · exact hq.elim
  case box e x =>
    split at hq
    · rename_i h1
      exact ⟨_, _, _, hq, fun K' h => by simp only [qop, hop, h1]; exact h⟩
    · rename_i h1
      exact ⟨_, _, _, hq, fun K' h => by simp only [qop, hop, h1]; exact h⟩
    · rename_i h1 h1'
      split at hq
      · rename_i h2
        have h3 := one1_ext H h2
        refine ⟨_, _, _, hq, fun K' h => ?_⟩
        simp only [qop, hop]
        cases hrx : rho x with
        | p y =>
          cases y with
          | ag cs => exact (h1 cs hrx).elim
          | _ => rw [hrx] at h3 h; simp only [h3]; exact h
        | st xs => exact (h1' xs hrx).elim
        | _ => rw [hrx] at h3 h; simp only [h3]; exact h
      · exact hq.elim
  case binOp op t x y t' =>
    split at hq
    · rename_i h1 h2
      obtain ⟨v, h3, h4⟩ := abin_lin hq
      exact ⟨_, _, _, h3, fun K' h => by simp only [qop, hop, h1, h2]; exact h4 _ h⟩
    · rename_i h1 h2
      obtain ⟨v, h3, h4⟩ := anil_lin hq
      exact ⟨_, _, _, h3, fun K' h => by simp only [qop, hop, h1, h2]; exact h4 _ h⟩
    · exact hq.elim
  case unOp op t x =>
    split at hq
    · rename_i h1
      exact ⟨_, _, _, hq, fun K' h => by simp only [qop, hop, h1]; exact h⟩
    · rename_i h1
      obtain ⟨v, h3, h4⟩ := numK_lin hq
      exact ⟨_, _, _, h3, fun K' h => by simp only [qop, hop, h1]; exact h4 _ h⟩
    · exact hq.elim
  case convert src dst x =>
    split at hq
    · rename_i h1 h2 h3
      obtain ⟨v, h5, h4⟩ := numK_lin hq
      exact ⟨_, _, _, h5, fun K' h => by simp only [qop, hop, h1, h2, h3]; exact h4 _ h⟩
    · rename_i h1 h2 h3
      exact ⟨_, _, _, hq, fun K' h => by simp only [qop, hop, h1, h2, h3]; exact h⟩
    · rename_i h1 h2 h3
      exact ⟨_, _, _, hq, fun K' h => by simp only [qop, hop, h1, h2, h3]; exact h⟩
    · exact hq.elim
  case nilCheck x =>
    split at hq
    · rename_i h1
      exact ⟨_, _, _, hq, fun K' h => by simp only [qop, hop, h1]; exact h⟩
    · rename_i h1
      split at hq
      · rename_i h2; exact ⟨_, _, _, hq, fun K' h => by simp only [qop, hop, h1, H.box h2]; exact h⟩
      · rename_i h2; exact ⟨_, _, _, hq, fun K' h => by simp only [qop, hop, h1, H.fbx h2]; exact h⟩
      · exact hq.elim
    · rename_i h1
      split at hq
      · rename_i h2; exact ⟨_, _, _, hq, fun K' h => by simp only [qop, hop, h1, H.row h2]; exact h⟩
      · rename_i h2; exact ⟨_, _, _, hq, fun K' h => by simp only [qop, hop, h1, H.hrow h2]; exact h⟩
      · exact hq.elim
    · exact hq.elim
  case extract x i =>
    split at hq
    · rename_i h1
      split at hq
      · rename_i h2; exact ⟨_, _, _, hq, fun K' h => by simp only [qop, hop, h1, h2]; exact h⟩
      · exact hq.elim
    · exact hq.elim
  case load t x =>
    split at hq
    · exact hq.elim
    rename_i h0
    split at hq
    · rename_i h1
      split at hq
      · rename_i h2
        split at hq
        · rename_i h3; exact ⟨_, _, _, hq, fun K' h => by simp only [qop, hop, h0, h1, h2, h3]; exact h⟩
        · exact hq.elim
      · rename_i h2
        split at hq
        · exact ⟨_, _, _, hq, fun K' h => by simp only [qop, hop, h0, h1, h2]; exact h⟩
        · exact hq.elim
    · rename_i h1
      split at hq
      · rename_i h2
        split at hq
        · rename_i h3
          split at hq
          · rename_i h4 h5; exact ⟨_, _, _, hq, fun K' h => by simp only [qop, hop, h0, h1, H.box h2, h3, h4, h5]; exact h⟩
          · exact hq.elim
        · rename_i h3
          split at hq
          · rename_i h4; exact ⟨_, _, _, hq, fun K' h => by simp only [qop, hop, h0, h1, H.box h2, h3, h4]; exact h⟩
          · exact hq.elim
      · rename_i h2
        split at hq
        · rename_i h3
          split at hq
          · rename_i h4; exact ⟨_, _, _, hq, fun K' h => by simp only [qop, hop, h0, h1, H.fbx h2, h3, h4]; exact h⟩
          · exact hq.elim
        · rename_i h3
          split at hq
          · rename_i h4; exact ⟨_, _, _, hq, fun K' h => by simp only [qop, hop, h0, h1, H.fbx h2, h3, h4]; exact h⟩
          · exact hq.elim
      · exact hq.elim
    · rename_i h1
      split at hq
      · rename_i h2
        obtain ⟨r, hr, hq⟩ := hq
        split at hq
        · rename_i h3
          split at hq
          · rename_i h4; exact ⟨_, _, _, hq, fun K' h => by simp only [qop, hop, h0, h1, H.row h2]; refine ⟨r, hr, ?_⟩; simp only [h3, h4]; exact h⟩
          · exact hq.elim
        · rename_i h3
          split at hq
          · rename_i h4; exact ⟨_, _, _, hq, fun K' h => by simp only [qop, hop, h0, h1, H.row h2]; refine ⟨r, hr, ?_⟩; simp only [h3, h4]; exact h⟩
          · exact hq.elim
      · rename_i h2
        obtain ⟨r, hr, hq⟩ := hq
        split at hq
        · exact hq.elim
        · rename_i h3
          split at hq
          · rename_i h4; exact ⟨_, _, _, hq, fun K' h => by simp only [qop, hop, h0, h1, H.hrow h2]; refine ⟨r, hr, ?_⟩; simp only [h3, h4]; exact h⟩
          · exact hq.elim
      · exact hq.elim
    · exact hq.elim
  case store t x y =>
    split at hq
    · exact hq.elim
    rename_i h0
    split at hq
    · rename_i h1
      split at hq
      · rename_i h2
        split at hq
        · rename_i h3
          obtain ⟨z, fz, hq, hK⟩ := toPV_lin H hq
          split at hq
          · split at hq
            · rename_i h4
              refine ⟨_, _, _, hq, fun K' h => ?_⟩
              simp only [qop, hop, h0, h1, H.box h2, h3]
              refine hK _ ?_
              simp only [h4]
              exact h
            · exact hq.elim
          · exact hq.elim
        · rename_i h3
          split at hq
          · rename_i h4
            simp only [Bool.and_eq_true] at h4
            have h5 := one1_ext H h4.2
            refine ⟨_, _, _, hq, fun K' h => ?_⟩
            simp only [qop, hop, h0, h1, H.box h2, h3, h4.1.1, h4.1.2, h5, Bool.and_self]
            exact h
          · exact hq.elim
      · exact hq.elim
    · rename_i h1
      split at hq
      · rename_i h2
        obtain ⟨r, hr, hq⟩ := hq
        obtain ⟨z, fz, hq, hK⟩ := toPV_lin H hq
        split at hq
        · rename_i h3
          split at hq
          · rename_i h4
            refine ⟨_, _, _, hq, fun K' h => ?_⟩
            simp only [qop, hop, h0, h1, H.row h2]
            refine ⟨r, hr, hK _ ?_⟩
            simp only [h3, h4]
            exact h
          · exact hq.elim
        · exact hq.elim
      · rename_i h2
        obtain ⟨r, hr, hq⟩ := hq
        split at hq
        · exact hq.elim
        · rename_i h3
          split at hq
          · rename_i h4
            simp only [Bool.and_eq_true] at h4
            have h5 := one1_ext H h4.2
            refine ⟨_, _, _, hq, fun K' h => ?_⟩
            simp only [qop, hop, h0, h1, H.hrow h2]
            refine ⟨r, hr, ?_⟩
            simp only [h3, h4.1.1, h4.1.2, h5, Bool.and_self]
            exact h
          · exact hq.elim
      · exact hq.elim
    · exact hq.elim
  case fieldAddr t x f =>
    split at hq
    · rename_i h0
      split at hq
      · rename_i h1
        split at hq
        · rename_i h2; exact ⟨_, _, _, hq, fun K' h => by simp only [qop, hop, h0, h1, h2]; exact h⟩
        · rename_i id o' h2
          split at hq
          · exact hq.elim
          · rename_i hne
            refine ⟨_, _, _, hq, fun K' h => ?_⟩
            simp only [qop, hop, h0, h1, h2]
            rcases H id with h4 | h4
            · exact absurd h4 (by simpa using hne)
            · rw [h4]
              split
              · rename_i h5; exact absurd h5 (by simpa using hne)
              · exact h
        · rename_i h2
          split at hq
          · rename_i h3; exact ⟨_, _, _, hq, fun K' h => by simp only [qop, hop, h0, h1, h2, H.row h3]; exact h⟩
          · rename_i h3; exact ⟨_, _, _, hq, fun K' h => by simp only [qop, hop, h0, h1, h2, H.hrow h3]; exact h⟩
          · exact hq.elim
        · exact hq.elim
      · exact hq.elim
    · exact hq.elim
  case field t x f =>
    split at hq
    · rename_i h0 h0'
      split at hq
      · rename_i h1
        split at hq
        · split at hq
          · rename_i h3; exact ⟨_, _, _, hq, fun K' h => by simp only [qop, hop, h0, h0', h1, h3]; exact h⟩
          · exact hq.elim
        · split at hq
          · rename_i h3; exact ⟨_, _, _, hq, fun K' h => by simp only [qop, hop, h0, h0', h1, h3]; exact h⟩
          · exact hq.elim
      · exact hq.elim
    · exact hq.elim
  case indexAddr t x ix =>
    split at hq
    · rename_i h0 h0'
      split at hq
      · exact hq.elim
      rename_i h1
      split at hq
      · rename_i h2
        obtain ⟨r, hr, hq⟩ := hq
        split at hq
        · rename_i h3; exact ⟨_, _, _, hq, fun K' h => by simp only [qop, hop, h0, h0', h1, h2]; refine ⟨r, hr, ?_⟩; simp only [h3]; exact h⟩
        · exact hq.elim
      · rename_i h2
        split at hq
        · rename_i h3
          split at hq
          · rename_i h4; exact ⟨_, _, _, hq.2, fun K' h => by simp only [qop, hop, h0, h0', h1, h2, H.row h3, h4]; exact ⟨hq.1, h⟩⟩
          · exact hq.elim
        · rename_i h3
          split at hq
          · rename_i h4; exact ⟨_, _, _, hq.2, fun K' h => by simp only [qop, hop, h0, h0', h1, h2, H.hrow h3, h4]; exact ⟨hq.1, h⟩⟩
          · exact hq.elim
        · rename_i h3
          obtain ⟨r, hr, hq⟩ := hq
          split at hq
          · rename_i h4; exact ⟨_, _, _, hq, fun K' h => by simp only [qop, hop, h0, h0', h1, h2, H.frz h3]; refine ⟨r, hr, ?_⟩; simp only [h4]; exact h⟩
          · exact hq.elim
        · exact hq.elim
      · exact hq.elim
    · exact hq.elim
  case index t x ix =>
    split at hq
    · rename_i h0 h1 h2
      obtain ⟨b, hb, hq⟩ := hq
      exact ⟨_, _, _, hq, fun K' h => by simp only [qop, hop, h0, h1, h2]; exact ⟨b, hb, h⟩⟩
    · exact hq.elim
  case slice t x lo hi mx =>
    cases mx with
    | some m => exact hq.elim
    | none =>
      simp only at hq
      split at hq
      · rename_i id hid
        split at hq
        · rename_i e' es hr
          rcases hq with hq | hq
          · obtain ⟨v, e, n, hq, hK⟩ := qview_lin hq
            exact ⟨v, e, n, hq, fun K' h => by simp only [qop, hop, hid, H.row hr]; exact .inl (hK _ h)⟩
          · obtain ⟨v, e, n, hq, hK⟩ := qslice_lin H hq
            exact ⟨v, e, n, hq, fun K' h => by simp only [qop, hop, hid, H.row hr]; exact .inr (hK _ h)⟩
        · rename_i hne
          obtain ⟨v, e, n, hq, hK⟩ := qslice_lin H hq
          refine ⟨v, e, n, hq, fun K' h => ?_⟩
          simp only [qop, hop, hid]
          split
          · exact .inr (hK _ h)
          · exact hK _ h
      · rename_i hne
        obtain ⟨v, e, n, hq, hK⟩ := qslice_lin H hq
        refine ⟨v, e, n, hq, fun K' h => ?_⟩
        simp only [qop, hop]
        first
          | exact hK _ h
          | (split
             · rename_i id hid; exact absurd hid (hne id)
             · exact hK _ h)
  case makeMap t r =>
    cases r with
    | some _ => exact hq.elim
    | none =>
      simp only at hq
      split at hq
      · rename_i h0
        split at hq
        · rename_i h1
          split at hq
          · rename_i h2; exact ⟨_, _, _, hq, fun K' h => by simp only [qop, hop, h0, h1, h2]; exact h⟩
          · exact hq.elim
        · exact hq.elim
      · exact hq.elim
  case lookup t x i ck =>
    split at hq
    case h_2 => exact hq.elim
    rename_i h0
    split at hq
    case h_2 => exact hq.elim
    rename_i h1 h2
    split at hq
    case h_2 => exact hq.elim
    rename_i h3
    split at hq
    case h_2 => exact hq.elim
    rename_i h4
    split at hq
    case h_2 => exact hq.elim
    rename_i h5
    split at hq
    case h_2 => exact hq.elim
    rename_i h6
    split at hq
    case h_2 => exact hq.elim
    rename_i h7
    obtain ⟨r, hr, hq⟩ := hq
    cases ck with
    | true => exact ⟨_, _, _, hq, fun K' h => by simp only [qop, hop, h0, h1, h2, h3, h4, H.map h5, h6, h7]; exact ⟨r, hr, h⟩⟩
    | false => exact ⟨_, _, _, hq, fun K' h => by simp only [qop, hop, h0, h1, h2, h3, h4, H.map h5, h6, h7]; exact ⟨r, hr, h⟩⟩
  case mapUpdate t x i y =>
    split at hq
    case h_2 => exact hq.elim
    rename_i h0
    split at hq
    case h_2 => exact hq.elim
    rename_i h1
    split at hq
    case h_2 => exact hq.elim
    rename_i h3
    split at hq
    case h_2 => exact hq.elim
    rename_i h4
    split at hq
    case h_2 => exact hq.elim
    rename_i h5
    split at hq
    case h_2 => exact hq.elim
    rename_i h6
    split at hq
    case h_2 => exact hq.elim
    rename_i h7
    obtain ⟨z, fz, hq, hK⟩ := toPV_lin H hq
    split at hq
    case h_2 => exact hq.elim
    rename_i h8
    refine ⟨_, _, _, hq, fun K' h => ?_⟩
    simp only [qop, hop, h0, h1, h3, h4, H.map h5, h6, h7]
    refine hK _ ?_
    simp only [h8]
    exact h
  case build t ps =>
    split at hq
    · rename_i h0
      split at hq
      · rename_i h1
        obtain ⟨z, fz, hq, hK⟩ := afill_lin H hq
        exact ⟨_, _, _, hq, fun K' h => by simp only [qop, hop, h0, h1]; exact hK _ h⟩
      · rename_i h1
        obtain ⟨z, hq, hK⟩ := bfill_lin H hq
        exact ⟨_, _, _, hq, fun K' h => by simp only [qop, hop, h0, h1]; exact hK _ h⟩
    · exact hq.elim
  case buildSlice t len ps =>
    split at hq
    · rename_i h0
      split at hq
      · rename_i h1
        split at hq
        · rename_i h2
          split at hq
          · rename_i h3
            obtain ⟨z, fz, hq, hK⟩ := aelems_lin H hq
            exact ⟨_, _, _, hq, fun K' h => by simp only [qop, hop, h0, h1, h2, h3]; exact hK _ h⟩
          · rename_i h3
            obtain ⟨z, fz, hq, hK⟩ := aelems_lin H hq
            exact ⟨_, _, _, hq, fun K' h => by simp only [qop, hop, h0, h1, h2, h3]; exact hK _ h⟩
        · exact hq.elim
      · exact hq.elim
    · exact hq.elim
  case makeSlice t n c =>
    split at hq
    · rename_i h0 h1 h2
      split at hq
      · rename_i h3
        split at hq
        · rename_i h4; exact ⟨_, _, _, hq.2, fun K' h => by simp only [qop, hop, h0, h1, h2, h3, h4]; exact ⟨hq.1, h⟩⟩
        · exact hq.elim
      · exact hq.elim
    · exact hq.elim
  case makeFunc fn first cap =>
    cases fn with
    | func f =>
      simp only at hq
      split at hq
      · rename_i h1; exact ⟨_, _, _, hq, fun K' h => by simp only [qop, hop, h1]; exact h⟩
      · exact hq.elim
    | _ => exact hq.elim
  case call c =>
    split at hq
    · rename_i h0
      split at hq
      · rename_i h1 h2
        split at hq
        · rename_i h3
          split at hq
          · rename_i h4; exact ⟨_, _, _, hq, fun K' h => by simp only [qop, hop, h0, h1, h2, h3, h4]; exact h⟩
          · exact hq.elim
        · rename_i h3
          split at hq
          · rename_i m hm
            exact ⟨_, _, _, hq, fun K' h => by simp only [qop, hop, h0, h1, h2, h3, hlen_some H hm]; exact h⟩
          · have hn := hlen_none H hq
            obtain ⟨es, hq, hK⟩ := aslice_lin H hq
            exact ⟨_, _, _, hq, fun K' h => by simp only [qop, hop, h0, h1, h2, h3, hn]; exact hK _ h⟩
        · rename_i h3
          split at hq
          · rename_i h4
            split at hq
            · rename_i h5; exact ⟨_, _, _, hq, fun K' h => by simp only [qop, hop, h0, h1, h2, h3, h4, H.map h5]; exact h⟩
            · exact hq.elim
          · exact hq.elim
        · exact hq.elim
      · exact hq.elim
    · rename_i h0
      split at hq
      case h_2 => exact hq.elim
      rename_i h1 h2
      split at hq
      case h_2 => exact hq.elim
      rename_i h3
      split at hq
      case h_2 => exact hq.elim
      rename_i h4
      split at hq
      case h_2 => exact hq.elim
      rename_i h5
      split at hq
      case h_2 => exact hq.elim
      rename_i h6
      split at hq
      case h_2 => exact hq.elim
      rename_i h7
      exact ⟨_, _, _, hq.2, fun K' h => by simp only [qop, hop, h0, h1, h2, h3, h4, h5, H.row h6, h7]; exact ⟨hq.1, h⟩⟩
    · rename_i h0
      split at hq
      · rename_i h1
        split at hq
        · rename_i h2 h3; exact ⟨_, _, _, hq, fun K' h => by simp only [qop, hop, h0, h1, h2, h3]; exact h⟩
        · exact hq.elim
      · exact hq.elim
    · rename_i h0
      split at hq
      · rename_i h1
        split at hq
        · rename_i h2 h3; exact ⟨_, _, _, hq, fun K' h => by simp only [qop, hop, h0, h1, h2, h3]; exact h⟩
        · exact hq.elim
      · rename_i h1
        split at hq
        · rename_i h2 h3 h4; exact ⟨_, _, _, hq, fun K' h => by simp only [qop, hop, h0, h1, h2, h3, h4]; exact h⟩
        · exact hq.elim
      · rename_i h1
        split at hq
        · rename_i h2 h3 h4 h5 h6; exact ⟨_, _, _, hq, fun K' h => by simp only [qop, hop, h0, h1, h2, h3, h4, h5, h6]; exact h⟩
        · exact hq.elim
      · exact hq.elim
    · rename_i h0
      split at hq
      · rename_i h1 h2
        split at hq
        · rename_i h3 h4
          split at hq
          · rename_i h5
            split at hq
            · rename_i h6
              obtain ⟨es, hq, hK⟩ := aslice_lin H hq
              split at hq
              · rename_i h7
                refine ⟨_, _, _, hq.2, fun K' h => ?_⟩
                simp only [qop, hop, h0, h1, h2, h3, h4, h5, h6]
                refine hK _ ?_
                simp only [h7]
                exact ⟨hq.1, h⟩
              · rename_i h7
                split at hq
                · rename_i h8
                  split at hq
                  · rename_i h9
                    refine ⟨_, _, _, hq.2, fun K' h => ?_⟩
                    simp only [qop, hop, h0, h1, h2, h3, h4, h5, h6]
                    refine hK _ ?_
                    simp only [h7, H.row h8, h9]
                    exact ⟨hq.1, h⟩
                  · exact hq.elim
                · rename_i h8
                  split at hq
                  · rename_i h9
                    refine ⟨_, _, _, hq.2, fun K' h => ?_⟩
                    simp only [qop, hop, h0, h1, h2, h3, h4, h5, h6]
                    refine hK _ ?_
                    simp only [h7, H.hrow h8, h9]
                    exact ⟨hq.1, h⟩
                  · exact hq.elim
                · exact hq.elim
              · exact hq.elim
            · exact hq.elim
          · exact hq.elim
        · exact hq.elim
      · exact hq.elim
    · rename_i h0
      split at hq
      · rename_i h1
        split at hq
        · rename_i h2
          obtain ⟨v, e, n, hq, hK⟩ := acall_lin H hq
          exact ⟨_, _, _, hq, fun K' h => by simp only [qop, hop, h0, h1, h2]; exact hK _ h⟩
        · rename_i h2
          obtain ⟨v, e, n, hq, hK⟩ := bcall_lin H hq
          exact ⟨_, _, _, hq, fun K' h => by simp only [qop, hop, h0, h1, h2]; exact hK _ h⟩
      · exact hq.elim
    · exact hq.elim
  all_goals exact hq.elim

/-- every operation is as the machine says -/
theorem op_ok (A : Amb) (o : Oper) : OpOK A o := by
  cases hop : o.op
  case move x => exact ok_move x hop
  case assign x => exact ok_assign x hop
  case pick c x y => exact ok_pick c x y hop
  case alloc e => exact ok_alloc e hop
  case box e x => exact ok_box e x hop
  case build t ps => exact ok_build t ps hop
  case buildSlice t n ps => exact ok_buildSlice t n ps hop
  case load t x => exact ok_load t x hop
  case store t x y => exact ok_store t x y hop
  case nilCheck x => exact ok_nilCheck x hop
  case binOp op t x y t' => exact ok_binOp op t x y t' hop
  case unOp op t x => exact ok_unOp op t x hop
  case convert s d x => exact ok_convert s d x hop
  case makeFunc fn first cap =>
    cases fn with
    | func f => exact ok_makeFunc f first cap hop
    | _ => intro V L S rho s a w K next Q hC sim hV hd hq; simp only [qop, hop] at hq
  case makeSlice t n c => exact ok_makeSlice t n c hop
  case makeMap t r =>
    cases r with
    | none => exact ok_makeMap t hop
    | some r => intro V L S rho s a w K next Q hC sim hV hd hq; simp only [qop, hop] at hq
  case lookup t x i ck => exact ok_lookup t x i ck hop
  case mapUpdate t x i y => exact ok_mapUpdate t x i y hop
  case slice t x lo hi mx =>
    cases mx with
    | none => exact ok_slice t x lo hi hop
    | some m => intro V L S rho s a w K next Q hC sim hV hd hq; simp only [qop, hop] at hq
  case fieldAddr t x f => exact ok_fieldAddr t x f hop
  case field t x f => exact ok_field t x f hop
  case indexAddr t x ix => exact ok_indexAddr t x ix hop
  case index t x ix => exact ok_index t x ix hop
  case extract x i => exact ok_extract x i hop
  case call c =>
    cases hc : c.callee with
    | value g => exact ok_call c g hop hc
    | invoke r m => intro V L S rho s a w K next Q hC sim hV hd hq; simp only [qop, hop, hc, calleeK, calleeB] at hq
    | builtin b =>
      cases b
      case len => exact ok_len c hop hc
      case min => exact ok_min c hop hc
      case max => exact ok_max c hop hc
      case append => exact ok_append c hop hc
      case clear => exact ok_clear c hop hc
      all_goals (intro V L S rho s a w K next Q hC sim hV hd hq; simp only [qop, hop, hc, calleeK, calleeB] at hq)
  all_goals (intro V L S rho s a w K next Q hC sim hV hd hq; simp only [qop, hop] at hq)
end Go.AM
namespace Go.AM
open Go.RowKit

def beqN (a b : Nat) : Bool := Nat.beq a b
theorem beqN_eq {a b : Nat} : beqN a b = true ↔ a = b := by unfold beqN; exact ⟨Nat.eq_of_beq_eq_true, fun h => by subst h; simp⟩
mutual
/-- does a value name an object -/
def men (d : Nat) : AV → Bool
  | .ow i => beqN i d
  | .rp i _ _ => beqN i d
  | .bx i _ => beqN i d
  | .vw i _ _ => beqN i d
  | .fn _ cap => anyMen d cap
  | .tu xs => anyMen d xs
  | .st xs => anyMen d xs
  | _ => false
def anyMen (d : Nat) : List AV → Bool
  | [] => false
  | x :: r => men d x || anyMen d r
end
/-- a value that names the object d no more; the name i becomes d -/
def rn (i d : Nat) : AV → AV
  | .ow k => match beqN k i with
    | true => .ow d
    | false => match beqN k d with
      | true => .junk
      | false => .ow k
  | .rp k a b => match beqN k i with
    | true => .rp d a b
    | false => match beqN k d with
      | true => .junk
      | false => .rp k a b
  | .bx k a => match beqN k i with
    | true => .bx d a
    | false => match beqN k d with
      | true => .junk
      | false => .bx k a
  | .vw k a b => match beqN k i with
    | true => .vw d a b
    | false => match beqN k d with
      | true => .junk
      | false => .vw k a b
  | .fn f cap => match anyMen i cap || anyMen d cap with
    | true => .junk
    | false => .fn f cap
  | .tu xs => match anyMen i xs || anyMen d xs with
    | true => .junk
    | false => .tu xs
  | .st xs => match anyMen i xs || anyMen d xs with
    | true => .junk
    | false => .st xs
  | x => x
def HX.mapAV (f : AV → AV) : HX → HX
  | .av x => .av (f x)
  | .row e es => .row e es
def rnB (i d : Nat) : AB → AB
  | .hrow e es => .hrow e (es.map fun r => r.map (HX.mapAV (rn i d)))
  | .box cs => .box (cs.map (rn i d))
  | .tbox ty cs => .tbox ty (cs.map (rn i d))
  | b => b
/-- the object i under the name d -/
def renS (i d : Nat) (s : AS) : AS := ⟨fun j => rn i d (s.t j), fun j => match beqN j d with
  | true => rnB i d (s.h i)
  | false => match beqN j i with
    | true => .none
    | false => rnB i d (s.h j)⟩
/-- a value that names the object d no more -/
def sc (d : Nat) : AV → AV
  | .p x => .p x
  | .nl => .nl
  | .ow i => match beqN i d with
    | true => .junk
    | false => .ow i
  | .rp i a b => match beqN i d with
    | true => .junk
    | false => .rp i a b
  | .bx i a => match beqN i d with
    | true => .junk
    | false => .bx i a
  | .vw i a b => match beqN i d with
    | true => .junk
    | false => .vw i a b
  | .fn f cap => match anyMen d cap with
    | true => .junk
    | false => .fn f cap
  | .tu xs => match anyMen d xs with
    | true => .junk
    | false => .tu xs
  | .st xs => match anyMen d xs with
    | true => .junk
    | false => .st xs
  | .junk => .junk
theorem sc_eq (d : Nat) (x : AV) : sc d x = match men d x with
    | true => .junk
    | false => x := by cases x <;> rfl
def scB (d : Nat) : AB → AB
  | .hrow e es => .hrow e (es.map fun r => r.map (HX.mapAV (sc d)))
  | .box cs => .box (cs.map (sc d))
  | .tbox ty cs => .tbox ty (cs.map (sc d))
  | b => b
/-- nothing names the object d any more, and it is gone -/
def scr (d : Nat) (s : AS) : AS := ⟨fun j => sc d (s.t j), upd (fun k => scB d (s.h k)) d .none⟩

def All : Nat → Prop := fun _ => True

theorem rnB_there (i d : Nat) (b : AB) : (rnB i d b).there ↔ b.there := by cases b <;> rfl
theorem rnB_live (i d : Nat) (b : AB) : (rnB i d b).live ↔ b.live := by cases b <;> rfl

/-- the turn of names -/
structure NTurn (L L' : Nat → Prop) (rho rho' : Nat → Value) (h h' : Nat → AB) (i d : Nat) : Prop where
  old : ∀ k, k ≠ i → k ≠ d → ((h' k).there → (h k).there) ∧ (L k → L' k) ∧ rho' k = rho k ∧ (∀ e, (h' k).rowE = some e → (h k).rowE = some e)
  new : i ≠ d → ((h' d).there → (h i).there) ∧ (L i → L' d) ∧ rho' d = rho i ∧ (∀ e, (h' d).rowE = some e → (h i).rowE = some e)
theorem anyMen_false {d : Nat} : ∀ {xs : List AV}, anyMen d xs = false → ∀ x ∈ xs, men d x = false := by
  intro xs
  induction xs with
  | nil => intro _ x hx; cases hx
  | cons y xs ih =>
    intro h x hx
    simp only [anyMen, Bool.or_eq_false_iff] at h
    rcases List.mem_cons.1 hx with e | e
    · rw [e]; exact h.1
    · exact ih h.2 x e
theorem LRep.of_men {S : Nat → Prop} {w : World} {P : Program} {L L' : Nat → Prop} {rho rho' : Nat → Value} {h h' : Nat → AB} {i d : Nat} (T : NTurn L L' rho rho' h h' i d) {x : AV} {v : Value} (hx : LRep S w P L rho h x v) (h1 : men i x = false) (h2 : men d x = false) : LRep S w P L' rho' h' x v := by
  induction hx with
  | p x v hx => exact .p x v hx
  | nl => exact .nl
  | ow k v hv =>
    have e1 : k ≠ i := fun e => by rw [men, beqN_eq.2 e] at h1; cases h1
    have e2 : k ≠ d := fun e => by rw [men, beqN_eq.2 e] at h2; cases h2
    obtain ⟨t1, t2, t3, t4⟩ := T.old k e1 e2
    exact .ow k v fun ht => ⟨t2 (hv (t1 ht)).1, by rw [t3]; exact (hv (t1 ht)).2⟩
  | rp k a b v hv =>
    have e1 : k ≠ i := fun e => by rw [men, beqN_eq.2 e] at h1; cases h1
    have e2 : k ≠ d := fun e => by rw [men, beqN_eq.2 e] at h2; cases h2
    obtain ⟨t1, t2, t3, t4⟩ := T.old k e1 e2
    exact .rp k a b v fun e he => by obtain ⟨q1, q2⟩ := hv e (t4 e he); exact ⟨t2 q1, by rw [t3]; exact q2⟩
  | bx k a v hv =>
    have e1 : k ≠ i := fun e => by rw [men, beqN_eq.2 e] at h1; cases h1
    have e2 : k ≠ d := fun e => by rw [men, beqN_eq.2 e] at h2; cases h2
    obtain ⟨t1, t2, t3, t4⟩ := T.old k e1 e2
    exact .bx k a v fun ht => ⟨t2 (hv (t1 ht)).1, by rw [t3]; exact (hv (t1 ht)).2⟩
  | vw k a b v hv =>
    have e1 : k ≠ i := fun e => by rw [men, beqN_eq.2 e] at h1; cases h1
    have e2 : k ≠ d := fun e => by rw [men, beqN_eq.2 e] at h2; cases h2
    obtain ⟨t1, t2, t3, t4⟩ := T.old k e1 e2
    exact .vw k a b v fun e he => by obtain ⟨q1, q2⟩ := hv e (t4 e he); exact ⟨t2 q1, by rw [t3]; exact q2⟩
  | fn f cap vs hl hc ih => exact .fn f cap vs hl fun j c u hj hu => ih j c u hj hu (anyMen_false h1 c (List.mem_of_getElem? hj)) (anyMen_false h2 c (List.mem_of_getElem? hj))
  | tu xs vs hl hc ih => exact .tu xs vs hl fun j c u hj hu => ih j c u hj hu (anyMen_false h1 c (List.mem_of_getElem? hj)) (anyMen_false h2 c (List.mem_of_getElem? hj))
  | st xs vs hl h0 hc ih => exact .st xs vs hl h0 fun j c u hj hu => ih j c u hj hu (anyMen_false h1 c (List.mem_of_getElem? hj)) (anyMen_false h2 c (List.mem_of_getElem? hj))
  | junk v => exact .junk v
theorem LRep.rn {S : Nat → Prop} {w : World} {P : Program} {L L' : Nat → Prop} {rho rho' : Nat → Value} {h h' : Nat → AB} {i d : Nat} (T : NTurn L L' rho rho' h h' i d) (hid : i ≠ d ∨ ∀ k, k = d → ¬ (h' k).there ) {x : AV} {v : Value} (hx : LRep S w P L rho h x v) : LRep S w P L' rho' h' (rn i d x) v := by
  have dead : i = d → ¬ (h' d).there := fun e => hid.resolve_left (fun h => h e) d rfl
  cases hx with
  | p x v hx => exact .p x v hx
  | nl => exact .nl
  | ow k v hv =>
    unfold AM.rn
    simp only
    split
    · rename_i hk
      have hk := beqN_eq.1 hk
      subst hk
      refine .ow d v fun ht => ?_
      by_cases e : k = d
      · exact absurd ht (dead e)
      · obtain ⟨t1, t2, t3, t4⟩ := T.new e
        exact ⟨t2 (hv (t1 ht)).1, by rw [t3]; exact (hv (t1 ht)).2⟩
    · rename_i hk
      split
      · exact .junk v
      · rename_i hk2
        exact LRep.of_men T (.ow k v hv) (by simpa [men] using hk) (by simpa [men] using hk2)
  | rp k a b v hv =>
    unfold AM.rn
    simp only
    split
    · rename_i hk
      have hk := beqN_eq.1 hk
      subst hk
      refine .rp d a b v fun e he => ?_
      by_cases e' : k = d
      · exact absurd (rowE_there he) (dead e')
      · obtain ⟨t1, t2, t3, t4⟩ := T.new e'
        obtain ⟨q1, q2⟩ := hv e (t4 e he)
        exact ⟨t2 q1, by rw [t3]; exact q2⟩
    · rename_i hk
      split
      · exact .junk v
      · rename_i hk2
        exact LRep.of_men T (.rp k a b v hv) (by simpa [men] using hk) (by simpa [men] using hk2)
  | vw k a b v hv =>
    unfold AM.rn
    simp only
    split
    · rename_i hk
      have hk := beqN_eq.1 hk
      subst hk
      refine .vw d a b v fun e he => ?_
      by_cases e' : k = d
      · exact absurd (rowE_there he) (dead e')
      · obtain ⟨t1, t2, t3, t4⟩ := T.new e'
        obtain ⟨q1, q2⟩ := hv e (t4 e he)
        exact ⟨t2 q1, by rw [t3]; exact q2⟩
    · rename_i hk
      split
      · exact .junk v
      · rename_i hk2
        exact LRep.of_men T (.vw k a b v hv) (by simpa [men] using hk) (by simpa [men] using hk2)
  | bx k a v hv =>
    unfold AM.rn
    simp only
    split
    · rename_i hk
      have hk := beqN_eq.1 hk
      subst hk
      refine .bx d a v fun ht => ?_
      by_cases e : k = d
      · exact absurd ht (dead e)
      · obtain ⟨t1, t2, t3, t4⟩ := T.new e
        exact ⟨t2 (hv (t1 ht)).1, by rw [t3]; exact (hv (t1 ht)).2⟩
    · rename_i hk
      split
      · exact .junk v
      · rename_i hk2
        exact LRep.of_men T (.bx k a v hv) (by simpa [men] using hk) (by simpa [men] using hk2)
  | fn f cap vs hl hc =>
    unfold AM.rn
    simp only
    split
    · exact .junk _
    · rename_i hm
      simp only [Bool.or_eq_false_iff] at hm
      exact .fn f cap vs hl fun j c u hj hu => (hc j c u hj hu).of_men T (anyMen_false hm.1 c (List.mem_of_getElem? hj)) (anyMen_false hm.2 c (List.mem_of_getElem? hj))
  | tu xs vs hl hc =>
    unfold AM.rn
    simp only
    split
    · exact .junk _
    · rename_i hm
      simp only [Bool.or_eq_false_iff] at hm
      exact .tu xs vs hl fun j c u hj hu => (hc j c u hj hu).of_men T (anyMen_false hm.1 c (List.mem_of_getElem? hj)) (anyMen_false hm.2 c (List.mem_of_getElem? hj))
  | st xs vs hl h0 hc =>
    unfold AM.rn
    simp only
    split
    · exact .junk _
    · rename_i hm
      simp only [Bool.or_eq_false_iff] at hm
      exact .st xs vs hl h0 fun j c u hj hu => (hc j c u hj hu).of_men T (anyMen_false hm.1 c (List.mem_of_getElem? hj)) (anyMen_false hm.2 c (List.mem_of_getElem? hj))
  | junk v => exact .junk v

theorem hcellB_map {w : World} {f : AV → AV} {es : List (List HX)} {g a j : Nat} {u : Value} : hcellB w (es.map fun r => r.map (HX.mapAV f)) g a j u ↔ hcellB w es g a j u := by
  constructor
  · rintro ⟨r, e, xs, c, ty, m, h1, h2, h3, h4⟩
    rw [List.getElem?_map] at h1
    obtain ⟨q, hq, rfl⟩ := Option.map_eq_some_iff.1 h1
    rw [List.getElem?_map] at h2
    obtain ⟨z, hz, hzz⟩ := Option.map_eq_some_iff.1 h2
    rw [List.length_map] at h4
    cases z with
    | av x => cases hzz
    | row e' xs' => exact ⟨q, e', xs', c, ty, m, hq, hz, h3, h4⟩
  · rintro ⟨r, e, xs, c, ty, m, h1, h2, h3, h4⟩
    exact ⟨r.map (HX.mapAV f), e, xs, c, ty, m, by rw [List.getElem?_map, h1]; rfl, by rw [List.getElem?_map, h2]; rfl, h3, by rw [List.length_map]; exact h4⟩
theorem HSep.map {w : World} {f : AV → AV} {es : List (List HX)} {v : Value} (h : HSep w es v) : HSep w (es.map fun r => r.map (HX.mapAV f)) v :=
  ⟨fun g a j u b h1 h2 h3 => h.top g a j u b h1 (hcellB_map.1 h2) h3, fun g a j a' j' u u' b h1 h2 h3 h4 h5 => h.dis g a j a' j' u u' b h1 (hcellB_map.1 h2) (hcellB_map.1 h3) h4 h5⟩
theorem RowRep.map {P : Program} {w : World} {R R' : HX → Value → Prop} {f : AV → AV} {e : TypeId} {es : List (List HX)} {v : Value} (h : RowRep P w R e es v) (hR : ∀ x u, R x u → R' (HX.mapAV f x) u) : RowRep P w R' e (es.map fun r => r.map (HX.mapAV f)) v := by
  obtain ⟨i, xs, h1, h2, h3, h4, h5, h6⟩ := h
  refine ⟨i, xs, h1, h2, by rw [List.length_map]; exact h3, fun r hr => ?_, h5, fun a r j x ha hj => ?_⟩
  · obtain ⟨q, hq, rfl⟩ := List.mem_map.1 hr
    rw [List.length_map]; exact h4 q hq
  · rw [List.getElem?_map] at ha
    obtain ⟨q, hq, rfl⟩ := Option.map_eq_some_iff.1 ha
    rw [List.getElem?_map] at hj
    obtain ⟨z, hz, rfl⟩ := Option.map_eq_some_iff.1 hj
    obtain ⟨u, hu, hr⟩ := h6 a q j z hq hz
    exact ⟨u, hu, hR _ _ hr⟩
theorem hasB_hrow' {w : World} {e : TypeId} {es : List (List HX)} {v : Value} {k : Nat} : hasB w (.hrow e es) v k ↔ blk v = some k ∨ ∃ g a j u, blk v = some g ∧ hcellB w es g a j u ∧ blk u = some k := by
  constructor
  · rintro (h | ⟨cs, g, h, _⟩ | ⟨e', es', g, a, j, u, h, h1, h2, h3⟩)
    · exact .inl h
    · cases h
    · injection h with h4 h5
      subst h4 h5
      exact .inr ⟨g, a, j, u, h1, h2, h3⟩
  · rintro (h | ⟨g, a, j, u, h1, h2, h3⟩)
    · exact .inl h
    · exact .inr (.inr ⟨_, _, _, _, _, _, rfl, h1, h2, h3⟩)
theorem hasB_hmap {w : World} {f : AV → AV} {e : TypeId} {es : List (List HX)} {v : Value} {k : Nat} : hasB w (.hrow e (es.map fun r => r.map (HX.mapAV f))) v k ↔ hasB w (.hrow e es) v k := by
  rw [hasB_hrow', hasB_hrow']
  simp only [hcellB_map]
theorem rnB_has {w : World} (i d : Nat) (b : AB) (v : Value) (g : Nat) : hasB w (rnB i d b) v g ↔ hasB w b v g := by
  cases b with
  | hrow e es => exact hasB_hmap
  | box cs => exact ⟨fun h => .inl (hasB_plain rfl h), fun h => .inl (hasB_plain rfl h)⟩
  | tbox ty cs => exact ⟨fun h => .inl (hasB_plain rfl h), fun h => .inl (hasB_plain rfl h)⟩
  | _ => exact Iff.rfl
theorem Sim.rename {A : Amb} {S : Nat → Prop} {rho : Nat → Value} {s : AS} {a : Act} {w : World} (sim : Sim A All All S rho s a w) (i d : Nat) (hid : i ≠ d) (hdb : d < 100000) : Sim A All All S (fun j => if j = d then rho i else rho j) (renS i d s) a w := by
  have hd : (renS i d s).h d = rnB i d (s.h i) := by simp [renS, beqN]
  have hi : (renS i d s).h i = .none := by
    have : beqN i d = false := by rw [Bool.eq_false_iff]; intro e; exact hid (beqN_eq.1 e)
    simp only [renS, this, beqN_eq.2 rfl]
  have ho : ∀ k, k ≠ i → k ≠ d → (renS i d s).h k = rnB i d (s.h k) := fun k h1 h2 => by
    have e1 : beqN k d = false := by rw [Bool.eq_false_iff]; intro e; exact h2 (beqN_eq.1 e)
    have e2 : beqN k i = false := by rw [Bool.eq_false_iff]; intro e; exact h1 (beqN_eq.1 e)
    simp [renS, e1, e2]
  have row : ∀ b e, (rnB i d b).rowE = some e → b.rowE = some e := fun b e h => by cases b <;> exact h
  have T : NTurn All All rho (fun j => if j = d then rho i else rho j) s.h (renS i d s).h i d :=
    ⟨fun k h1 h2 => by rw [ho k h1 h2]; exact ⟨(rnB_there _ _ _).1, fun h => h, if_neg h2, row _⟩, fun _ => by rw [hd]; exact ⟨(rnB_there _ _ _).1, fun h => h, if_pos rfl, row _⟩⟩
  have lv' : ∀ k, ((renS i d s).h k).live → ∃ k', (s.h k').live ∧ (if k = d then rho i else rho k) = rho k' ∧ (k' = if k = d then i else k) ∧ ∀ v g, hasB w ((renS i d s).h k) v g ↔ hasB w (s.h k') v g := by
    intro k hl
    by_cases e : k = d
    · subst e
      rw [hd, rnB_live] at hl
      exact ⟨i, hl, if_pos rfl, (if_pos rfl).symm, fun v g => by rw [hd, rnB_has]⟩
    · by_cases e' : k = i
      · subst e'; rw [hi] at hl; exact hl.elim
      · rw [ho k e' e, rnB_live] at hl
        exact ⟨k, hl, if_neg e, (if_neg e).symm, fun v g => by rw [ho k e' e, rnB_has]⟩
  have hrep : ∀ k b, HRep S w A.C.P All rho s.h k b → ∀ k', (if k' = d then rho i else rho k') = rho k → HRep S w A.C.P All (fun j => if j = d then rho i else rho j) (renS i d s).h k' (rnB i d b) := by
    intro k b hb k' hk
    cases b with
    | none => trivial
    | row e es => show RowRep _ _ _ _ _ (if k' = d then rho i else rho k'); rw [hk]; exact hb
    | frz es => show PRep _ _ _ (if k' = d then rho i else rho k'); rw [hk]; exact hb
    | fbx es => show PRep _ _ _ (if k' = d then rho i else rho k'); rw [hk]; exact hb
    | map mk es =>
      obtain ⟨g, ms, clock, h1, h2⟩ := hb
      exact ⟨g, ms, clock, by simp only; rw [hk]; exact h1, h2⟩
    | box cs =>
      obtain ⟨g, ty, c, h1, h2, h3, h4⟩ := hb
      refine ⟨g, ty, c, by simp only; rw [hk]; exact h1, h2, by simpa using h3, fun j x u hj hu => ?_⟩
      rw [List.getElem?_map] at hj
      obtain ⟨z, hz, rfl⟩ := Option.map_eq_some_iff.1 hj
      exact ⟨(h4 j z u hz hu).1, (h4 j z u hz hu).2.rn T (.inl hid)⟩
    | tbox ty cs =>
      obtain ⟨g, c, h1, h2, h3, h4⟩ := hb
      refine ⟨g, c, by simp only; rw [hk]; exact h1, h2, by simpa using h3, fun j x u hj hu => ?_⟩
      rw [List.getElem?_map] at hj
      obtain ⟨z, hz, rfl⟩ := Option.map_eq_some_iff.1 hj
      exact ⟨(h4 j z u hz hu).1, (h4 j z u hz hu).2.rn T (.inl hid)⟩
    | hbox cs =>
      obtain ⟨g, ty, c, h1, h2⟩ := hb
      exact ⟨g, ty, c, by simp only; rw [hk]; exact h1, h2⟩
    | hrow e es =>
      obtain ⟨h1, h2⟩ := hb
      show RowRep _ _ _ _ _ (if k' = d then rho i else rho k') ∧ HSep _ _ (if k' = d then rho i else rho k')
      rw [hk]
      refine ⟨RowRep.map h1 fun x u hx => ?_, h2.map⟩
      cases x with
      | av x => exact LRep.rn T (.inl hid) hx
      | row e' es' => exact hx
  exact
  { tm := fun j hj => (sim.tm j hj).rn T (.inl hid)
    sz := sim.sz, df := sim.df, nb := sim.nb, pn := fun id h => by show (if id = d then rho i else rho id) = _; rw [if_neg (by omega)]; exact sim.pn id h, ev := sim.ev, s0 := sim.s0, st := sim.st, sb := sim.sb
    hp := fun k _ => by
      by_cases e : k = d
      · subst e; rw [hd]; exact hrep i _ (sim.hp i trivial) k (if_pos rfl)
      · by_cases e' : k = i
        · subst e'; rw [hi]; trivial
        · rw [ho k e' e]; exact hrep k _ (sim.hp k trivial) k (if_neg e)
    dj := fun a b g _ _ la lb ha hb => by
      obtain ⟨a', h1, h2, h3, h7⟩ := lv' a la
      obtain ⟨b', h4, h5, h6, h8⟩ := lv' b lb
      have := sim.dj a' b' g trivial trivial h1 h4 (by rw [← h7, ← h2]; exact ha) (by rw [← h8, ← h5]; exact hb)
      rw [h3, h6] at this
      by_cases ea : a = d <;> by_cases eb : b = d
      · rw [ea, eb]
      · rw [if_pos ea, if_neg eb] at this
        rw [← this] at lb
        rw [hi] at lb; exact lb.elim
      · rw [if_neg ea, if_pos eb] at this
        rw [this] at la
        rw [hi] at la; exact la.elim
      · rwa [if_neg ea, if_neg eb] at this
    lv := fun k g _ lk hk => by
      obtain ⟨k', h1, h2, _, h3⟩ := lv' k lk
      exact sim.lv k' g trivial h1 (by rw [← h3, ← h2]; exact hk)
    fr := sim.fr }

theorem LRep.sc {S : Nat → Prop} {w : World} {P : Program} {L L' : Nat → Prop} {rho : Nat → Value} {h h' : Nat → AB} {d : Nat} (T : NTurn L L' rho rho h h' d d) {x : AV} {v : Value} (hx : LRep S w P L rho h x v) : LRep S w P L' rho h' (sc d x) v := by
  rw [sc_eq]
  split
  · exact .junk v
  · rename_i hm; exact hx.of_men T hm hm
theorem scB_there (d : Nat) (b : AB) : (scB d b).there ↔ b.there := by cases b <;> rfl
theorem scB_live (d : Nat) (b : AB) : (scB d b).live ↔ b.live := by cases b <;> rfl
theorem scB_has {w : World} (d : Nat) (b : AB) (v : Value) (g : Nat) : hasB w (scB d b) v g ↔ hasB w b v g := by
  cases b with
  | hrow e es => exact hasB_hmap
  | box cs => exact ⟨fun h => .inl (hasB_plain rfl h), fun h => .inl (hasB_plain rfl h)⟩
  | tbox ty cs => exact ⟨fun h => .inl (hasB_plain rfl h), fun h => .inl (hasB_plain rfl h)⟩
  | _ => exact Iff.rfl
/-- the name d is free: whatever is said of it -/
theorem Sim.freeL {A : Amb} {L S : Nat → Prop} {rho : Nat → Value} {s : AS} {a : Act} {w : World} (sim : Sim A All L S rho s a w) (d : Nat) (b : AB) : Sim A All (fun k => L k ∧ k ≠ d) S rho ⟨(scr d s).t, upd (scr d s).h d b⟩ a w := by
  have ho : ∀ k, k ≠ d → upd (scr d s).h d b k = scB d (s.h k) := fun k hk => by rw [upd_ne _ _ hk]; show upd (fun k => scB d (s.h k)) d AB.none k = _; rw [upd_ne _ _ hk]
  have row : ∀ x e, (scB d x).rowE = some e → x.rowE = some e := fun x e h => by cases x <;> exact h
  have T : NTurn L (fun k => L k ∧ k ≠ d) rho rho s.h (upd (scr d s).h d b) d d :=
    ⟨fun k h1 _ => by rw [ho k h1]; exact ⟨(scB_there _ _).1, fun h => ⟨h, h1⟩, rfl, row _⟩, fun h => absurd rfl h⟩
  exact
  { tm := fun j hj => (sim.tm j hj).sc T
    sz := sim.sz, df := sim.df, nb := sim.nb, pn := sim.pn, ev := sim.ev, s0 := sim.s0, st := sim.st, sb := sim.sb
    hp := fun k hk => by
      show HRep _ _ _ _ _ _ _ (upd (scr d s).h d b k)
      rw [ho k hk.2]
      have hh := sim.hp k hk.1
      cases hb : s.h k with
      | none => trivial
      | row e es => rw [hb] at hh; exact hh
      | frz es => rw [hb] at hh; exact hh
      | fbx es => rw [hb] at hh; exact hh
      | map mk es => rw [hb] at hh; exact hh
      | box cs =>
        rw [hb] at hh
        obtain ⟨g, ty, c, h1, h2, h3, h4⟩ := hh
        refine ⟨g, ty, c, h1, h2, by simpa using h3, fun j x u hj hu => ?_⟩
        rw [List.getElem?_map] at hj
        obtain ⟨z, hz, rfl⟩ := Option.map_eq_some_iff.1 hj
        exact ⟨(h4 j z u hz hu).1, (h4 j z u hz hu).2.sc T⟩
      | tbox ty cs =>
        rw [hb] at hh
        obtain ⟨g, c, h1, h2, h3, h4⟩ := hh
        refine ⟨g, c, h1, h2, by simpa using h3, fun j x u hj hu => ?_⟩
        rw [List.getElem?_map] at hj
        obtain ⟨z, hz, rfl⟩ := Option.map_eq_some_iff.1 hj
        exact ⟨(h4 j z u hz hu).1, (h4 j z u hz hu).2.sc T⟩
      | hbox cs => rw [hb] at hh; exact hh
      | hrow e es =>
        rw [hb] at hh
        obtain ⟨h1, h2⟩ := hh
        refine ⟨RowRep.map h1 fun x u hx => ?_, h2.map⟩
        cases x with
        | av x => exact LRep.sc T hx
        | row e' es' => exact hx
    dj := fun i j g hi hj li lj hgi hgj => by
      have li' : (upd (scr d s).h d b i).live := li
      have lj' : (upd (scr d s).h d b j).live := lj
      have hgi : hasB w (upd (scr d s).h d b i) (rho i) g := hgi
      have hgj : hasB w (upd (scr d s).h d b j) (rho j) g := hgj
      rw [ho i hi.2, scB_live] at li'
      rw [ho j hj.2, scB_live] at lj'
      rw [ho i hi.2, scB_has] at hgi
      rw [ho j hj.2, scB_has] at hgj
      exact sim.dj i j g hi.1 hj.1 li' lj' hgi hgj
    lv := fun i g hi li hg => by
      have li' : (upd (scr d s).h d b i).live := li
      have hg : hasB w (upd (scr d s).h d b i) (rho i) g := hg
      rw [ho i hi.2, scB_live] at li'
      rw [ho i hi.2, scB_has] at hg
      exact sim.lv i g hi.1 li' hg
    fr := sim.fr }
theorem Sim.weak {A : Amb} {V V' L L' S : Nat → Prop} {rho : Nat → Value} {s : AS} {a : Act} {w : World} (sim : Sim A V L S rho s a w) (hV : ∀ j, V' j → V j) (hL : ∀ i, L' i ↔ L i) : Sim A V' L' S rho s a w := by
  have e : L' = L := funext fun i => propext (hL i)
  subst e
  exact { sim with tm := fun j hj => sim.tm j (hV j hj) }

theorem Sim.addDead {A : Amb} {V S : Nat → Prop} {rho : Nat → Value} {s : AS} {a : Act} {w : World} (d : Nat) (sim : Sim A V (fun k => k ≠ d) S rho s a w) (hn : s.h d = .none) : Sim A V All S rho s a w := by
  have T : Turn S S w w (fun k => k ≠ d) All rho rho s.h s.h := ⟨fun b h => h, fun _ _ => rfl, fun k hk => ⟨hk, fun _ => ⟨trivial, rfl⟩⟩, fun k e h => h⟩
  have nl : ∀ k, (s.h k).live → k ≠ d := fun k hk e => by rw [e, hn] at hk; exact hk
  exact
  { tm := fun j hj => (sim.tm j hj).turn T
    sz := sim.sz, df := sim.df, nb := sim.nb, pn := sim.pn, ev := sim.ev, s0 := sim.s0, st := sim.st, sb := sim.sb
    hp := fun k _ => by
      by_cases e : k = d
      · subst e; rw [hn]; trivial
      · exact (sim.hp k e).turn T (fun _ _ _ => rfl) (fun _ => rfl)
    dj := fun i j g _ _ li lj => sim.dj i j g (nl i li) (nl j lj) li lj
    lv := fun i g _ li => sim.lv i g (nl i li) li
    fr := sim.fr }

theorem Sim.free {A : Amb} {S : Nat → Prop} {rho : Nat → Value} {s : AS} {a : Act} {w : World} (sim : Sim A All All S rho s a w) (d : Nat) (b : AB) : Sim A All (fun k => k ≠ d) S rho ⟨(scr d s).t, upd (scr d s).h d b⟩ a w :=
  (sim.freeL d b).weak (fun _ _ => trivial) (fun _ => ⟨fun h => ⟨trivial, h⟩, fun h => h.2⟩)
/-- does an operation make an object -/
def mayNew : Op → Bool
  | .box _ _ | .alloc _ | .buildSlice _ _ _ | .makeSlice _ _ _ | .makeMap _ _ => true
  | .call c => match c.callee with
    | .builtin .append => true
    | .value _ => true
    | _ => false
  | _ => false
def newH (h : Nat → AB) (d : Nat) : Option AB → Nat → AB
  | none => h
  | some b => upd h d b
/-- a slice without cells, held against nil: nobody can tell -/
def isEmptyP : AV → Bool
  | .p (.sl []) => true
  | _ => false
def isNl : AV → Bool
  | .nl => true
  | _ => false
def eqlB : BinOp → Bool
  | .eql => true
  | .neq => true
  | _ => false
def nilQ (C : Ctx) (o : Oper) (t : Nat → AV) : Bool := match o.op with
  | .binOp op ty x y _ => eqlB op && isNl (ev t y) && isEmptyP (ev t x) && (match C.T ty with
    | some { ud := .sl _, .. } => true
    | _ => false)
  | _ => false
def step0 (C : Ctx) (o : Oper) (K : AS → Prop) (s : AS) : Prop :=
  match mayNew o.op with
  | true => qop C o (ev (scr (o.dst.getD 0) s).t) (scr (o.dst.getD 0) s).h fun v eff new => K ⟨putT (scr (o.dst.getD 0) s).t o.dst v, match new with
      | none => upd (app (scr (o.dst.getD 0) s).h eff) (o.dst.getD 0) .none
      | some b => app (upd (scr (o.dst.getD 0) s).h (o.dst.getD 0) b) eff⟩
  | false => match o.op, o.dst with
    | .assign x, some d => match ev s.t x with
      | .ow i => match s.h i with
        | .row _ _ => match beqN i d with
          | true => K ⟨upd s.t d (.ow i), s.h⟩
          | false => K ⟨upd (renS i d s).t d (.ow d), (renS i d s).h⟩
        | .hrow _ _ => match beqN i d with
          | true => K ⟨upd s.t d (.ow i), s.h⟩
          | false => K ⟨upd (renS i d s).t d (.ow d), (renS i d s).h⟩
        | _ => K ⟨upd s.t d (.ow i), s.h⟩
      | v => K ⟨upd s.t d v, s.h⟩
    | _, _ => qop C o (ev s.t) s.h fun v eff new => match new with
      | none => K ⟨putT s.t o.dst v, app s.h eff⟩
      | some _ => False
/-- an operation in its place -/
def step (C : Ctx) (o : Oper) (K : AS → Prop) (s : AS) : Prop := match nilQ C o s.t with
  | true => K ⟨putT s.t o.dst (.p (.im (.bool true))), s.h⟩ ∧ K ⟨putT s.t o.dst (.p (.im (.bool false))), s.h⟩
  | false => step0 C o K s

def tmpsOK (o : Oper) (n : Nat) : Prop := ∀ d, o.dst = some d → d < n

theorem step0_sound {A : Amb} (hC : CtxOK A.C) {o : Oper} {S : Nat → Prop} {rho : Nat → Value} {s : AS} {a : Act} {w : World} {K : AS → Prop} {next : Act → World → Prop} {Q : Exit → Act → World → Prop} (hd : tmpsOK o A.n) (sim : Sim A All All S rho s a w) (hq : step0 A.C o K s)
    (hnext : ∀ s' S' rho' a' w', K s' → Sim A All All S' rho' s' a' w' → next a' w') : o.wp A.C.P a w next Q := by
  have plain : ∀ K' : KK, qop A.C o (ev s.t) s.h K' → (∀ v eff b, ¬ K' v eff (some b)) → (∀ v eff, K' v eff none → K ⟨putT s.t o.dst v, app s.h eff⟩) → o.wp A.C.P a w next Q := by
    intro K' hq h1 h2
    refine op_ok A o _ _ _ _ _ _ _ K' next Q hC sim (fun _ _ => trivial) hd hq (fun v eff b h => absurd h (h1 v eff b)) fun v eff new S' rho' a' w' hk sim' => ?_
    cases new with
    | some b => exact absurd hk (h1 v eff b)
    | none => exact hnext _ _ _ _ _ (h2 v eff hk) (sim'.weak (fun _ _ => .inl trivial) (fun _ => Iff.rfl))
  unfold step0 at hq
  split at hq
  · have hExt : ∀ n, Ext (scr (o.dst.getD 0) s).h (newH (scr (o.dst.getD 0) s).h (o.dst.getD 0) n) := fun n k => by
      cases n with
      | none => exact .inr rfl
      | some b =>
        by_cases e : k = o.dst.getD 0
        · subst e; exact .inl (by show upd (fun k => scB (o.dst.getD 0) (s.h k)) _ AB.none _ = _; rw [upd_same])
        · exact .inr (upd_ne _ _ e)
    obtain ⟨v, eff, new, hk, hl1⟩ := qop_lin (fun _ => .inr rfl) hq
    obtain ⟨v2, e2, n2, ⟨rfl, rfl, rfl⟩, hl2⟩ := qop_lin (hExt new) (hl1 (fun v' e' n' => v' = v ∧ e' = eff ∧ n' = new) ⟨rfl, rfl, rfl⟩)
    have hq2 := hl2 (fun v' e' n' => v' = v2 ∧ e' = e2 ∧ n' = n2) ⟨rfl, rfl, rfl⟩
    have sim1 : Sim A All (fun k => k ≠ o.dst.getD 0) S rho ⟨(scr (o.dst.getD 0) s).t, newH (scr (o.dst.getD 0) s).h (o.dst.getD 0) n2⟩ a w := by
      have := sim.free (o.dst.getD 0) (match n2 with | none => .none | some b => b)
      cases n2 with
      | some b => exact this
      | none =>
        have e : upd (scr (o.dst.getD 0) s).h (o.dst.getD 0) .none = (scr (o.dst.getD 0) s).h := upd_self _ _ _ (by show upd (fun k => scB (o.dst.getD 0) (s.h k)) _ AB.none _ = _; rw [upd_same])
        simp only at this
        rw [e] at this
        exact this
    refine op_ok A o _ _ _ _ _ _ _ _ next Q hC sim1 (fun _ _ => trivial) hd hq2 (fun v eff b h => ?_) fun v eff new S' rho' a' w' hk' sim' => ?_
    · obtain ⟨_, _, rfl⟩ := h
      exact ⟨fun h => h rfl, upd_same _ _ _⟩
    · obtain ⟨rfl, rfl, rfl⟩ := hk'
      refine hnext _ S' rho' _ _ hk ?_
      cases new with
      | some b => exact sim'.weak (V' := All) (L' := All) (fun _ _ => .inl trivial) (fun k => ⟨fun _ => by by_cases e : k = o.dst.getD 0; exact .inr e; exact .inl e, fun _ => trivial⟩)
      | none => exact ((sim'.kill (o.dst.getD 0)).addDead _ (upd_same _ _ _)).weak (fun _ _ => .inl trivial) (fun _ => Iff.rfl)
  · split at hq
    · rename_i x d hop hdst
      have run : (execOp a.eval o).run A.C.P w = .ok (.value (a.eval x)) w := by simp [execOp, hop]
      have hx := ev_rep sim x (fun _ _ => trivial)
      have same : ∀ v, ev s.t x = v → K ⟨upd s.t d v, s.h⟩ → o.wp A.C.P a w next Q := fun v hv hk => by
        refine wp_value run (hnext _ S rho _ _ hk ?_)
        have := (sim.value o.dst hd v _ (by rw [← hv]; exact hx)).weak (V' := All) (L' := All) (fun _ _ => .inl trivial) (fun _ => Iff.rfl)
        rw [hdst] at this ⊢
        exact this
      have ren : ∀ i, ev s.t x = .ow i → beqN i d = false → K ⟨upd (renS i d s).t d (.ow d), (renS i d s).h⟩ → o.wp A.C.P a w next Q := fun i hi hne hq => by
            have hid : i ≠ d := fun e => by rw [beqN_eq.2 e] at hne; cases hne
            refine wp_value run (hnext _ S (fun j => if j = d then rho i else rho j) _ _ hq ?_)
            have sim1 := sim.rename i d hid (Nat.lt_of_lt_of_le (hd d hdst) sim.nb)
            have hx1 : LRep S w A.C.P All (fun j => if j = d then rho i else rho j) (renS i d s).h (.ow d) (a.eval x) := by
              rw [hi] at hx
              refine .ow d _ fun ht => ⟨trivial, ?_⟩
              have : (s.h i).there := by simpa [renS, beqN_eq.2 rfl, rnB_there] using ht
              rw [(hx.ow_inv this).2]
              simp
            have := (sim1.value o.dst hd (.ow d) _ hx1).weak (V' := All) (L' := All) (fun _ _ => .inl trivial) (fun _ => Iff.rfl)
            rw [hdst] at this ⊢
            exact this
      split at hq
      · rename_i i hi
        split at hq
        · split at hq
          · exact same _ hi hq
          · rename_i hne
            exact ren i hi hne hq
        · split at hq
          · exact same _ hi hq
          · rename_i hne
            exact ren i hi hne hq
        · exact same _ hi hq
      · exact same _ rfl hq
    · refine plain _ hq (fun v eff b h => h) (fun v eff h => h)
theorem isEmptyP_inv {x : AV} (h : isEmptyP x = true) : x = .p (.sl []) := by
  unfold isEmptyP at h
  split at h
  · rfl
  · cases h
theorem isNl_inv {x : AV} (h : isNl x = true) : x = .nl := by unfold isNl at h; split at h; rfl; cases h
theorem step_sound {A : Amb} (hC : CtxOK A.C) {o : Oper} {S : Nat → Prop} {rho : Nat → Value} {s : AS} {a : Act} {w : World} {K : AS → Prop} {next : Act → World → Prop} {Q : Exit → Act → World → Prop} (hd : tmpsOK o A.n) (sim : Sim A All All S rho s a w) (hq : step A.C o K s)
    (hnext : ∀ s' S' rho' a' w', K s' → Sim A All All S' rho' s' a' w' → next a' w') : o.wp A.C.P a w next Q := by
  unfold step at hq
  split at hq
  · rename_i hn
    unfold nilQ at hn
    split at hn
    · rename_i op ty x y ty2 hop
      simp only [Bool.and_eq_true] at hn
      obtain ⟨⟨⟨h1, h3⟩, h2⟩, h4⟩ := hn
      split at h4
      case h_2 => cases h4
      rename_i e size bytes zero eq hT
      have hti := (hC.tab ty _ hT).under
      simp only at hti
      have hx := ev_rep sim x (fun _ _ => trivial)
      have hy := ev_rep sim y (fun _ _ => trivial)
      rw [isEmptyP_inv h2] at hx
      rw [isNl_inv h3] at hy
      obtain ⟨ad, c, hv, _⟩ := hx.p_inv.sl_inv
      have hy' : a.eval y = .slice none 0 0 := by generalize a.eval y = v at hy; cases hy; rfl
      have fin : ∀ b : Bool, (execOp a.eval o).run A.C.P w = .ok (.value (.bool b)) w → o.wp A.C.P a w next Q := fun b hrun => by
        refine wp_value hrun (hnext ⟨putT s.t o.dst (.p (.im (.bool b))), s.h⟩ S rho _ _ ?_ ?_)
        · cases b
          · exact hq.2
          · exact hq.1
        · exact (sim.value o.dst hd (.p (.im (.bool b))) _ (.p _ _ (.im _))).weak (V' := All) (L' := All) (fun _ _ => .inl trivial) (fun _ => Iff.rfl)
      cases op <;> first | (cases h1; done) | skip
      · refine fin ad.isNone ?_
        simp [execOp, hop, hv, hy', eqGuard, binOp, run_equal_slice_nil _ _ _ _ _ _ hti]
      · refine fin (!ad.isNone) ?_
        simp [execOp, hop, hv, hy', eqGuard, binOp, run_equal_slice_nil _ _ _ _ _ _ hti]
    · cases hn
  · exact step0_sound hC hd sim hq hnext
end Go.AM
namespace Go.AM
open Go.RowKit

def bcase (b : Bool) (p q : Prop) : Prop := match b with
  | true => p
  | false => q
theorem bcase_split {b : Bool} {p q : Prop} (h1 : b = true → p) (h2 : b = false → q) : bcase b p q := by
  cases b
  · exact h2 rfl
  · exact h1 rfl
def boolAV (b : Bool) : AV := .p (.im (.bool b))
/-- what a passed operation leaves -/
def unAV : AV := .p (.im undef)
/-- what a guard says -/
def gyes : Value → Option Bool
  | .bool b => some b
  | _ => none
def gval (v : Value) (want : Bool) : Bool := gyes v == some want

/-- operations in order -/
def aops (C : Ctx) (all : List Oper) : List Oper → (AS → Prop) → AS → Prop
  | [], K, s => K s
  | o :: r, K, s => match o.guard with
    | none => step C o (aops C all r K) s
    | some (g, want) => match all[g]? with
      | none => False
      | some og => match og.dst with
        | none => False
        | some tg => match s.t tg with
          | .p (.im (.bool b)) => bcase b
              (match want with
                | true => step C o (aops C all r K) ⟨upd s.t tg (boolAV true), s.h⟩
                | false => aops C all r K ⟨putT (upd s.t tg (boolAV true)) o.dst unAV, s.h⟩)
              (match want with
                | false => step C o (aops C all r K) ⟨upd s.t tg (boolAV false), s.h⟩
                | true => aops C all r K ⟨putT (upd s.t tg (boolAV false)) o.dst unAV, s.h⟩)
          | .p (.im (.tuple _)) => aops C all r K ⟨putT s.t o.dst unAV, s.h⟩
          | _ => False

theorem yielded_of {A : Amb} {V L S : Nat → Prop} {rho : Nat → Value} {s : AS} {a : Act} {w : World} (sim : Sim A V L S rho s a w) {ops : Array Oper} {g tg : Nat} {og : Oper} {v : Value} (h1 : ops[g]? = some og) (h2 : og.dst = some tg) (hv : V tg) (h3 : s.t tg = .p (.im v)) : yielded ops a.tmps g = gyes v := by
  have h4 := sim.tm tg hv
  rw [h3] at h4
  have h5 : a.tmps.getD tg undef = v := h4.im_inv
  rw [Array.getD_eq_getD_getElem?] at h5
  subst h5
  unfold yielded gyes
  rw [h1]
  simp only [Option.bind_some, h2]
  cases h : a.tmps[tg]? with
  | none => rfl
  | some v => simp only [Option.getD_some]; split <;> simp_all

theorem aops_sound {A : Amb} (hC : CtxOK A.C) {ops : Array Oper} {Q : Exit → Act → World → Prop} {K : AS → Prop} (hfin : ∀ s S rho a w, K s → Sim A All All S rho s a w → Q .normal a w) :
    ∀ (l : List Oper) (k : Nat) (s : AS) (S : Nat → Prop) (rho : Nat → Value) (a : Act) (w : World), (∀ j, l[j]? = ops[k + j]?) → (∀ o ∈ l, tmpsOK o A.n) → aops A.C ops.toList l K s → Sim A All All S rho s a w → wpOps A.C.P ops Q (List.range' k l.length) a w := by
  intro l
  induction l with
  | nil => intro k s S rho a w _ _ hq sim; exact hfin s S rho a w hq sim
  | cons o l ih =>
    intro k s S rho a w hl hd hq sim
    have h0 : ops[k]? = some o := by simpa using (hl 0).symm
    have hl' : ∀ j, l[j]? = ops[k + 1 + j]? := fun j => by have := hl (j + 1); simpa [Nat.add_assoc, Nat.add_comm 1 j] using this
    have hd' : ∀ o ∈ l, tmpsOK o A.n := fun o ho => hd o (by simp [ho])
    have hdo := hd o (by simp)
    rw [List.length_cons, List.range'_succ]
    simp only [wpOps, h0]
    have run : ∀ (s : AS), step A.C o (aops A.C ops.toList l K) s → Sim A All All S rho s a w → o.wp A.C.P a w (wpOps A.C.P ops Q (List.range' (k + 1) l.length)) Q := fun s hs sim =>
      step_sound hC hdo sim hs fun s' S' rho' a' w' hk sim' => ih (k + 1) s' S' rho' a' w' hl' hd' hk sim'
    have skip : ∀ (t : Nat → AV), aops A.C ops.toList l K ⟨putT t o.dst unAV, s.h⟩ → Sim A All All S rho ⟨t, s.h⟩ a w → wpOps A.C.P ops Q (List.range' (k + 1) l.length) (a.put o.dst undef) w := fun t hs sim => by
      have := (sim.value o.dst hdo unAV undef (.p _ _ (.im _))).weak (V' := All) (L' := All) (fun _ _ => .inl trivial) (fun _ => Iff.rfl)
      exact ih (k + 1) _ S rho _ w hl' hd' hs this
    unfold aops at hq
    split at hq
    · rename_i hg
      rw [if_pos (by simp [Region.wanted, hg])]
      exact .inl (run s hq sim)
    · rename_i g want hg
      split at hq
      · exact hq.elim
      · rename_i og hog
        split at hq
        · exact hq.elim
        · rename_i tg htg
          split at hq
          · rename_i b hb
            have hy := yielded_of sim (ops := ops) (g := g) (by simpa using hog) htg trivial hb
            have hsame : ∀ b', b = b' → upd s.t tg (boolAV b') = s.t := fun b' e => upd_self _ _ _ (by rw [hb, e]; rfl)
            have hwant : Region.wanted o (yielded ops a.tmps) = (some b == some want) := by simp [Region.wanted, hg, hy, gyes]
            rw [hwant]
            cases b <;> cases want <;> simp only [bcase] at hq
            · rw [hsame false rfl] at hq
              rw [if_pos (by decide)]
              exact .inl (run s hq sim)
            · rw [hsame false rfl] at hq
              rw [if_neg (by decide)]
              exact skip s.t hq sim
            · rw [hsame true rfl] at hq
              rw [if_neg (by decide)]
              exact skip s.t hq sim
            · rw [hsame true rfl] at hq
              rw [if_pos (by decide)]
              exact .inl (run s hq sim)
          · rename_i q hb
            have hy := yielded_of sim (ops := ops) (g := g) (by simpa using hog) htg trivial hb
            have hwant : Region.wanted o (yielded ops a.tmps) = false := by simp [Region.wanted, hg, hy, gyes]
            rw [hwant, if_neg (by decide)]
            exact skip s.t hq sim
          · exact hq.elim

/-- the code c, begun where the machine is at s, ends as K says -/
def W (A : Amb) (c : Code) (K : Exit → AS → Prop) (s : AS) : Prop :=
  ∀ S rho a w, Sim A All All S rho s a w → c.wp A.C.P (fun e a' w' => ∃ S' rho' s', Sim A All All S' rho' s' a' w' ∧ K e s') a w

theorem W_seq {A : Amb} {x y : Code} {K : Exit → AS → Prop} {s : AS} (h : W A x (fun e s' => match e with | .normal => W A y K s' | e => K e s') s) : W A (.seq x y) K s := by
  intro S rho a w sim
  refine wp_seq (wp_mono (h S rho a w sim) fun e a' w' hq => ?_)
  obtain ⟨S', rho', s', sim', hk⟩ := hq
  cases e with
  | normal => exact hk S' rho' a' w' sim'
  | exit id => exact ⟨S', rho', s', sim', hk⟩
  | goto l => exact ⟨S', rho', s', sim', hk⟩
  | ret => exact ⟨S', rho', s', sim', hk⟩
  | panic c => exact ⟨S', rho', s', sim', hk⟩
  | outgrown => exact ⟨S', rho', s', sim', hk⟩
theorem W_mono {A : Amb} {c : Code} {K K' : Exit → AS → Prop} {s : AS} (h : W A c K s) (hk : ∀ e s, K e s → K' e s) : W A c K' s :=
  fun S rho a w sim => wp_mono (h S rho a w sim) fun _ _ _ ⟨S', rho', s', sim', k⟩ => ⟨S', rho', s', sim', hk _ _ k⟩
theorem W_cond {A : Amb} {c : Operand} {x y : Code} {K : Exit → AS → Prop} {s : AS} {b : Bool} (hb : ev s.t c = .p (.im (.bool b))) (h1 : b = true → W A x K s) (h2 : b = false → W A y K s) : W A (.cond c x y) K s := by
  intro S rho a w sim
  have hc := ev_rep sim c (fun _ _ => trivial)
  rw [hb] at hc
  refine wp_cond_split hc.im_inv (fun h => h1 h S rho a w sim) (fun h => h2 h S rho a w sim)
theorem W_block {A : Amb} {id : Nat} {c : Code} {K : Exit → AS → Prop} {s : AS} (h : W A c (fun e s' => match e with | .exit i => bcase (beqN i id) (K .normal s') (K (.exit i) s') | e => K e s') s) : W A (.block id c) K s := by
  intro S rho a w sim
  refine wp_block (wp_mono (h S rho a w sim) fun e a' w' hq => ?_)
  obtain ⟨S', rho', s', sim', hk⟩ := hq
  cases e with
  | exit i =>
    simp only [Exit.inBlock]
    simp only at hk
    by_cases e : i = id
    · rw [if_pos e]
      rw [beqN_eq.2 e] at hk
      exact ⟨S', rho', s', sim', hk⟩
    · rw [if_neg e]
      have : beqN i id = false := by rw [Bool.eq_false_iff]; intro h; exact e (beqN_eq.1 h)
      rw [this] at hk
      exact ⟨S', rho', s', sim', hk⟩
  | normal => exact ⟨S', rho', s', sim', hk⟩
  | goto l => exact ⟨S', rho', s', sim', hk⟩
  | ret => exact ⟨S', rho', s', sim', hk⟩
  | panic c => exact ⟨S', rho', s', sim', hk⟩
  | outgrown => exact ⟨S', rho', s', sim', hk⟩

/-- what a state says, another one says as well -/
def SLe (A : Amb) (s s' : AS) : Prop := ∀ S rho a w, Sim A All All S rho s a w → ∃ S' rho', Sim A All All S' rho' s' a w
theorem SLe.refl (A : Amb) (s : AS) : SLe A s s := fun S rho _ _ h => ⟨S, rho, h⟩
theorem SLe.trans {A : Amb} {s s' s'' : AS} (h : SLe A s s') (k : SLe A s' s'') : SLe A s s'' := fun S rho a w sim => by
  obtain ⟨S', rho', sim'⟩ := h S rho a w sim
  exact k S' rho' a w sim'
theorem W_le {A : Amb} {c : Code} {K : Exit → AS → Prop} {s s' : AS} (h : SLe A s s') (k : W A c K s') : W A c K s := fun S rho a w sim => by
  obtain ⟨S', rho', sim'⟩ := h S rho a w sim
  exact k S' rho' a w sim'

theorem least {P : Nat → Prop} (h : ∃ n, P n) : ∃ n, P n ∧ ∀ k, P k → n ≤ k := by
  obtain ⟨n, hn⟩ := h
  induction n using Nat.strongRecOn with
  | _ n ih =>
    by_cases hk : ∃ k, k < n ∧ P k
    · obtain ⟨k, h1, h2⟩ := hk
      exact ih k h1 h2
    · exact ⟨n, hn, fun k h => Nat.le_of_not_lt fun hlt => hk ⟨k, hlt, h⟩⟩
theorem W_loop {A : Amb} {c : Code} {K : Exit → AS → Prop} {s : AS} {α : Type} (I : α → AS → Prop) (m : α → Nat) (h0 : ∃ x s', SLe A s s' ∧ I x s')
    (round : ∀ x s, I x s → W A c (fun e s' => match e with | .normal => ∃ y s'', SLe A s' s'' ∧ I y s'' ∧ m y < m x | e => K e s') s) : W A (.loop c) K s := by
  intro S rho a w sim
  let J : Act → World → Nat → Prop := fun a w n => ∃ x S rho s, Sim A All All S rho s a w ∧ I x s ∧ m x = n
  have dec : ∀ a w, Decidable (∃ n, J a w n) := fun a w => Classical.propDecidable _
  let mu : Act → World → Nat := fun a w => @dite _ (∃ n, J a w n) (dec a w) (fun h => Classical.choose (least h)) (fun _ => 0)
  have hmu : ∀ a w (h : ∃ n, J a w n), mu a w = Classical.choose (least h) := fun a w h => by
    show @dite _ _ (dec a w) _ _ = _
    rw [dif_pos h]
  refine wp_loop (fun a w => ∃ n, J a w n) mu ?_ ?_
  · obtain ⟨x, s', hle, hi⟩ := h0
    obtain ⟨S', rho', sim'⟩ := hle S rho a w sim
    exact ⟨m x, x, S', rho', s', sim', hi, rfl⟩
  · intro a w hJ
    obtain ⟨⟨x, S1, rho1, s1, sim1, hi, hm⟩, _⟩ := Classical.choose_spec (least hJ)
    refine wp_mono (round x s1 hi S1 rho1 a w sim1) fun e a' w' hq => ?_
    obtain ⟨S', rho', s', sim', hk⟩ := hq
    cases e with
    | normal =>
      obtain ⟨y, s'', hle, hi', hlt⟩ := hk
      obtain ⟨S'', rho'', sim''⟩ := hle S' rho' a' w' sim'
      have hJ' : ∃ n, J a' w' n := ⟨m y, y, S'', rho'', s'', sim'', hi', rfl⟩
      refine ⟨hJ', ?_⟩
      rw [hmu a w hJ, hmu a' w' hJ', ← hm]
      exact Nat.lt_of_le_of_lt ((Classical.choose_spec (least hJ')).2 (m y) ⟨y, S'', rho'', s'', sim'', hi', rfl⟩) hlt
    | exit id => exact ⟨S', rho', s', sim', hk⟩
    | goto l => exact ⟨S', rho', s', sim', hk⟩
    | ret => exact ⟨S', rho', s', sim', hk⟩
    | panic c => exact ⟨S', rho', s', sim', hk⟩
    | outgrown => exact ⟨S', rho', s', sim', hk⟩

theorem W_region {A : Amb} (hC : CtxOK A.C) {id : Nat} {ops : Array Oper} {K : Exit → AS → Prop} {s : AS} (hd : ∀ o ∈ ops.toList, tmpsOK o A.n) (h : aops A.C ops.toList ops.toList (K .normal) s) : W A (.region id ops false) K s := by
  intro S rho a w sim
  refine wp_region ?_
  have := aops_sound hC (ops := ops) (Q := fun e a' w' => ∃ S' rho' s', Sim A All All S' rho' s' a' w' ∧ K e s') (K := K .normal) (fun s S rho a w hk sim => ⟨S, rho, s, sim, hk⟩) ops.toList 0 s S rho a w (fun j => by simp) hd h sim
  rw [List.range_eq_range']
  simpa using this
end Go.AM
namespace Go.AM
open Go.RowKit

def argAV (j : Nat) : Arg → AV
  | .pv x => .p x
  | .row _ _ => .ow (100000 + j)
  | .box _ => .bx (100000 + j) 0
  | .hbox _ => .bx (100000 + j) 0
def argAB : Arg → AB
  | .pv _ => .none
  | .row e es => .row e es
  | .box cs => .box (cs.map .p)
  | .hbox cs => .hbox cs
/-- a box whose rows are objects, as one that owns them -/
def cellNames : List AV → List Nat
  | [] => []
  | .ow n :: r => n :: cellNames r
  | _ :: r => cellNames r
def hasN (n : Nat) : List Nat → Bool
  | [] => false
  | m :: r => match Nat.beq m n with
    | true => true
    | false => hasN n r
def goodNames : List Nat → Bool
  | [] => true
  | n :: r => !hasN n r && (Nat.blt n 100000 && goodNames r)
def noHB : List Arg → Bool
  | [] => true
  | .hbox _ :: _ => false
  | _ :: r => noHB r
def packs (h : Nat → AB) : List AV → List HC → Prop
  | [], [] => True
  | .p x :: r, .p y :: s => x = y ∧ packs h r s
  | .ow n :: r, .row e es :: s => h n = .row e es ∧ packs h r s
  | _, _ => False
theorem hasN_mem {n : Nat} {l : List Nat} : hasN n l = true ↔ n ∈ l := by
  induction l with
  | nil => simp [hasN]
  | cons m l ih =>
    unfold hasN
    split
    · rename_i h
      have := Nat.eq_of_beq_eq_true h
      simp [this]
    · rename_i h
      rw [ih]
      have : ¬ n = m := fun e => by rw [e] at h; simp at h
      simp [this]
theorem cellNames_mem {n : Nat} : ∀ {l : List AV}, n ∈ cellNames l ↔ (AV.ow n : AV) ∈ l
  | [] => by simp [cellNames]
  | x :: l => by cases x <;> simp [cellNames, cellNames_mem (l := l)]
theorem goodNames_at : ∀ {l : List AV} {i j n : Nat}, goodNames (cellNames l) = true → l[i]? = some (.ow n) → l[j]? = some (.ow n) → i = j
  | [], i, j, n, _, h, _ => by simp at h
  | x :: l, i, j, n, hg, h1, h2 => by
    have tail : goodNames (cellNames l) = true := by
      cases x <;> first | exact hg | (simp [cellNames, goodNames] at hg ⊢; exact hg.2.2)
    have clash : ∀ k : Nat, x = AV.ow n → l[k]? = some (AV.ow n) → False := fun k hx hk => by
      subst hx
      simp [cellNames, goodNames] at hg
      have : hasN n (cellNames l) = true := hasN_mem.2 (cellNames_mem.2 (List.mem_of_getElem? hk))
      rw [hg.1] at this
      cases this
    cases i with
    | zero =>
      cases j with
      | zero => rfl
      | succ j => simp at h1 h2; exact (clash j h1 h2).elim
    | succ i =>
      cases j with
      | zero => simp at h1 h2; exact (clash i h2 h1).elim
      | succ j => simp at h1 h2; rw [goodNames_at tail h1 h2]
theorem goodNames_lt : ∀ {l : List Nat} {n : Nat}, goodNames l = true → n ∈ l → n < 100000
  | [], n, _, h => by cases h
  | m :: l, n, hg, h => by
    simp [goodNames] at hg
    rcases List.mem_cons.1 h with h | h
    · subst h
      have := hg.2.1
      first | omega | (have := Nat.le_of_ble_eq_true (show Nat.ble (n + 1) 100000 = true from this); omega) | (simp [Nat.blt] at this; omega)
    · exact goodNames_lt hg.2.2 h
theorem packs_len {h : Nat → AB} : ∀ {bs : List AV} {cs : List HC}, packs h bs cs → bs.length = cs.length
  | [], [], _ => rfl
  | [], _ :: _, hp => hp.elim
  | b :: bs, [], hp => by cases b <;> exact hp.elim
  | b :: bs, c :: cs, hp => by
    cases b <;> cases c <;> first | exact hp.elim | (have := packs_len hp.2; simp [this])
theorem packs_at {h : Nat → AB} : ∀ {bs : List AV} {cs : List HC} {j : Nat} {x : AV} {y : HC}, packs h bs cs → bs[j]? = some x → cs[j]? = some y → (∃ z, x = .p z ∧ y = .p z) ∨ ∃ n e es, x = .ow n ∧ y = .row e es ∧ h n = .row e es
  | [], _, j, x, y, _, h1, _ => by simp at h1
  | b :: bs, [], j, x, y, _, _, h2 => by simp at h2
  | b :: bs, c :: cs, 0, x, y, hp, h1, h2 => by
    simp at h1 h2
    subst h1 h2
    cases b <;> cases c <;> first | exact hp.elim | exact .inl ⟨_, rfl, by rw [hp.1]⟩ | exact .inr ⟨_, _, _, rfl, rfl, hp.1⟩
  | b :: bs, c :: cs, j + 1, x, y, hp, h1, h2 => by
    simp at h1 h2
    have hp' : packs h bs cs := by cases b <;> cases c <;> first | exact hp.elim | exact hp.2
    exact packs_at hp' h1 h2
/-- a box with rows that are objects is one that owns them -/
theorem pack_box {A : Amb} {V L S : Nat → Prop} {rho : Nat → Value} {s : AS} {a : Act} {w : World} (sim : Sim A V L S rho s a w) {id : Nat} (hL : L id) {bs : List AV} {cs : List HC} (hb : s.h id = .box bs) (hg : goodNames (cellNames bs) = true) (hp : packs s.h bs cs) :
    ∃ g ty c, rho id = .pointer (some ⟨g, 0, none⟩) ∧ HBox S w A.C.P cs g ty c ∧ ∀ k, hasB w (.hbox cs) (rho id) k → blk (rho id) = some k ∨ ∃ n, n ∈ cellNames bs ∧ L n ∧ (s.h n).live ∧ blk (rho n) = some k := by
  have hh := sim.hp id hL
  rw [hb] at hh
  obtain ⟨g, ty, c, k1, k2, k3, k4⟩ := hh
  have hl := packs_len hp
  have hlive : (s.h id).live := by rw [hb]; trivial
  have hx : ∀ {j : Nat} {y : HC} {u : Value}, cs[j]? = some y → c[j]? = some u → u.oneCell' = true ∧ HCRep S w A.C.P y u ∧ (y.isRow → ∃ n, bs[j]? = some (.ow n) ∧ L n ∧ u = rho n ∧ (s.h n).live ∧ n ≠ id) := by
    intro j y u hj hu
    obtain ⟨x, hx⟩ : ∃ x, bs[j]? = some x := ⟨_, List.getElem?_eq_getElem (by rw [hl]; exact lt_of_get hj)⟩
    obtain ⟨o1, o2⟩ := k4 j x u hx hu
    rcases packs_at hp hx hj with ⟨z, rfl, rfl⟩ | ⟨n, e, es, rfl, rfl, hn⟩
    · exact ⟨o1, o2.p_inv, fun h => h.elim⟩
    · obtain ⟨hLn, rfl⟩ := o2.ow_inv (by rw [hn]; trivial)
      have hr := sim.hp n hLn
      rw [hn] at hr
      exact ⟨o1, hr, fun _ => ⟨n, hx, hLn, rfl, by rw [hn]; trivial, fun e => by rw [e, hb] at hn; cases hn⟩⟩
  have hgid : blk (rho id) = some g := by rw [k1]; rfl
  refine ⟨g, ty, c, k1, ⟨k2, by rw [k3, hl], fun j y u hj hu => ⟨(hx hj hu).1, (hx hj hu).2.1⟩, fun j y u b hj hu hy hb' e => ?_, fun i j x y u v b hi hj hu hv hxr hyr e1 e2 => ?_⟩, fun k hk => ?_⟩
  · obtain ⟨n, _, hLn, rfl, hln, hne⟩ := (hx hj hu).2.2 hy
    subst e
    exact hne (sim.djb n id b hLn hL hln hlive hb' hgid)
  · obtain ⟨n, hn, hLn, rfl, hln, _⟩ := (hx hi hu).2.2 hxr
    obtain ⟨m, hm, hLm, rfl, hlm, _⟩ := (hx hj hv).2.2 hyr
    have := sim.djb n m b hLn hLm hln hlm e1 e2
    subst this
    exact goodNames_at hg hn hm
  · rcases hk with hk | ⟨cs', g', hcs, hg', c', ty', m, j, y, u, q1, q2, q3, q4, q5⟩ | ⟨_, _, _, _, _, _, hcs, _⟩
    · exact .inl hk
    · injection hcs with hcs
      subst hcs
      rw [hgid] at hg'
      injection hg' with hg'
      subst hg'
      rw [k2] at q1
      injection q1 with q1
      injection q1 with q1 _ _
      subst q1
      obtain ⟨n, hn, hLn, rfl, hln, _⟩ := (hx q2 q4).2.2 q3
      exact .inr ⟨n, cellNames_mem.2 (List.mem_of_getElem? hn), hLn, hln, q5⟩
    · cases hcs
def initT (args : List Arg) (j : Nat) : AV := match args[j]? with
  | some x => argAV j x
  | none => .junk
def initH (args : List Arg) (j : Nat) : AB := match Nat.ble 100000 j with
  | true => match args[j - 100000]? with
    | some x => argAB x
    | none => .none
  | false => .none
def loadOp (a : Tmp) (t : TypeId) : Oper := { dst := none, op := .load t (.tmp a), type := t, pos := "", after := #[], guard := none }
def resAV (C : Ctx) (s : AS) : ResultVar → (AV → Prop) → Prop
  | .tmp t, K => K (s.t t)
  | .cell a t, K => qop C (loadOp a t) (ev s.t) s.h fun v _ _ => match v with
    | .p x => K (.p x)
    | _ => False
def resAVs (C : Ctx) (s : AS) : List ResultVar → (List AV → Prop) → Prop
  | [], K => K []
  | r :: rs, K => resAV C s r fun a => resAVs C s rs fun as => K (a :: as)
def frzAll (h : Nat → AB) : List AV → (List PV → (Nat → AB) → Prop) → Prop
  | [], K => K [] h
  | a :: r, K => toPV h a fun x fz => frzAll (app h fz) r fun xs h' => K (x :: xs) h'
def inCells : AB → Nat → Bool
  | .box bs, i => hasN i (cellNames bs)
  | _, _ => false
def keptId (h : Nat → AB) : Nat → List Arg → List Fin → Nat → Bool
  | j, .pv _ :: xs, fs, i => keptId h (j + 1) xs fs i
  | j, _ :: xs, f :: fs, i => (f.kept && (beqN j i || inCells (h j) i)) || keptId h (j + 1) xs fs i
  | _, _, _, _ => false
def finK (h : Nat → AB) : Nat → List Arg → List Fin → Prop
  | _, [], [] => True
  | j, .pv _ :: xs, fs => finK h (j + 1) xs fs
  | j, .row _ _ :: xs, .gone :: fs => finK h (j + 1) xs fs
  | j, .box _ :: xs, .gone :: fs => finK h (j + 1) xs fs
  | j, .hbox _ :: xs, .gone :: fs => finK h (j + 1) xs fs
  | j, .row e _ :: xs, .row es :: fs => h j = .row e es ∧ finK h (j + 1) xs fs
  | j, .box _ :: xs, .box cs :: fs => (match h j with
    | .box bs => cellsPV bs = some cs
    | _ => False) ∧ finK h (j + 1) xs fs
  | j, .hbox _ :: xs, .hbox cs :: fs => (match h j with
    | .hbox bs => bs = cs
    | .box bs => (goodNames (cellNames bs) && noHB xs) = true ∧ packs h bs cs
    | _ => False) ∧ finK h (j + 1) xs fs
  | _, _, _ => False
def retK (C : Ctx) (rs : List ResultVar) (args : List Arg) (r : AR) (fin : List Fin) (s : AS) : Prop :=
  resAVs C s rs fun avs => match r with
    | .own e es => match avs with
      | [a] => match a with
        | .ow i => s.h i = .row e es ∧ keptId s.h 100000 args fin i = false ∧ finK s.h 100000 args fin
        | .vw i lo hi => match lo with
          | 0 => match s.h i with
            | .row e' xs => match beqN e' e with
              | true => es = xs.take hi ∧ keptId s.h 100000 args fin i = false ∧ finK s.h 100000 args fin
              | false => False
            | _ => False
          | _ + 1 => False
        | .nl => match C.T e with
          | some ti => match Nat.blt 0 ti.size with
            | true => es = [] ∧ finK s.h 100000 args fin
            | false => False
          | none => False
        | _ => False
      | _ => False
    | .hown cs => match avs with
      | [a] => match a with
        | .bx i off => match off with
          | 0 => s.h i = .hbox cs ∧ keptId s.h 100000 args fin i = false ∧ finK s.h 100000 args fin
          | _ + 1 => False
        | _ => False
      | _ => False
    | .p x => match avs with
      | [a] => toPV s.h a fun y fz => y = x ∧ finK (app s.h fz) 100000 args fin
      | _ => False
    | .tu xs => match avs with
      | [_] => False
      | _ => frzAll s.h avs fun ys h' => ys = xs ∧ finK h' 100000 args fin
/-- how a body must end -/
def endK (C : Ctx) (rs : List ResultVar) (args : List Arg) (r : AR) (fin : List Fin) (e : Exit) (s : AS) : Prop := match e with
  | .normal => retK C rs args r fin s
  | .ret => retK C rs args r fin s
  | _ => False

/-- a result's value -/
def resV (tmps : Array Value) : ResultVar → Sem Value
  | .tmp t => pure (tmps.getD t undef)
  | .cell b t => do loadVar t (← asAddr (tmps.getD b undef))
theorem resAV_sim {A : Amb} (hC : CtxOK A.C) {S : Nat → Prop} {rho : Nat → Value} {s : AS} {a : Act} {w : World} (sim : Sim A All All S rho s a w) (r : ResultVar) {K : AV → Prop} (hq : resAV A.C s r K) :
    ∃ av v, K av ∧ (resV a.tmps r).run A.C.P w = .ok v w ∧
      (∀ (S2 : Nat → Prop) (h2 : Nat → AB), (∀ b, S b → S2 b) → Sim A All All S2 rho ⟨s.t, h2⟩ a w → LRep S2 w A.C.P All rho h2 av v) := by
  cases r with
  | tmp t => exact ⟨s.t t, a.tmps.getD t undef, hq, rfl, fun S2 h2 _ sim2 => sim2.tm t trivial⟩
  | cell b t =>
    obtain ⟨av, v, h1, h2, h3⟩ := load_run (o := loadOp b t) (K := fun v _ _ => match v with | .p x => K (.p x) | _ => False) t (.tmp b) rfl hC sim (fun _ _ => trivial) hq
    split at h1
    · rename_i x
      refine ⟨_, v, h1, ?_, fun S2 h2' hS sim2 => .p _ _ (h2.p_inv.mono hS (fun _ _ => rfl))⟩
      have h4 : (Instr.loadAt t (a.tmps.getD b undef)).run A.C.P w = .ok v w := h3
      cases hv : a.tmps.getD b undef with
      | pointer p =>
        rw [hv] at h4
        cases p with
        | none => simp [Instr.loadAt, Instr.sureAddr, stuck, Sem.run] at h4
        | some ad =>
          have h5 : (loadVar t ad).run A.C.P w = .ok v w := by simpa [Instr.loadAt, Instr.sureAddr] using h4
          show (resV a.tmps (.cell b t)).run _ _ = _
          unfold resV
          simp only [hv]
          exact h5
      | _ => rw [hv] at h4; simp [Instr.loadAt, Instr.sureAddr, stuck, Sem.run] at h4
    · exact h1.elim
theorem resAVs_sim {A : Amb} (hC : CtxOK A.C) {S : Nat → Prop} {rho : Nat → Value} {s : AS} {a : Act} {w : World} (sim : Sim A All All S rho s a w) : ∀ (rs : List ResultVar) {K : List AV → Prop}, resAVs A.C s rs K →
    ∃ avs vs, K avs ∧ avs.length = vs.length ∧ (rs.mapM (resV a.tmps)).run A.C.P w = .ok vs w ∧ vs.length = rs.length ∧
      (∀ (S2 : Nat → Prop) (h2 : Nat → AB), (∀ b, S b → S2 b) → Sim A All All S2 rho ⟨s.t, h2⟩ a w → ∀ (i : Nat) av v, avs[i]? = some av → vs[i]? = some v → LRep S2 w A.C.P All rho h2 av v) := by
  intro rs
  induction rs with
  | nil => intro K hq; exact ⟨[], [], hq, rfl, rfl, rfl, by simp⟩
  | cons r rs ih =>
    intro K hq
    obtain ⟨av, v, hq, h1, h2⟩ := resAV_sim hC sim r hq
    obtain ⟨avs, vs, hq, h3, h4, h5, h6⟩ := ih hq
    refine ⟨av :: avs, v :: vs, hq, by simp [h3], ?_, by simp [h5], fun S2 h2' hS sim2 i x u hx hu => ?_⟩
    · rw [List.mapM_cons, Sem.run_bind, h1, Result.andThen_ok, Sem.run_bind, h4]
      rfl
    · cases i with
      | zero => simp at hx hu; subst hx hu; exact h2 S2 h2' hS sim2
      | succ i => exact h6 S2 h2' hS sim2 i x u (by simpa using hx) (by simpa using hu)
theorem frzAll_sim {A : Amb} (hC : CtxOK A.C) {rho : Nat → Value} {t : Nat → AV} {a : Act} {w : World} : ∀ (avs : List AV) (vs : List Value) (S : Nat → Prop) (h : Nat → AB) {K : List PV → (Nat → AB) → Prop}, avs.length = vs.length → Sim A All All S rho ⟨t, h⟩ a w →
    (∀ (S2 : Nat → Prop) (h2 : Nat → AB), (∀ b, S b → S2 b) → Sim A All All S2 rho ⟨t, h2⟩ a w → ∀ (i : Nat) av v, avs[i]? = some av → vs[i]? = some v → LRep S2 w A.C.P All rho h2 av v) → frzAll h avs K →
    ∃ ys h' S', K ys h' ∧ Sim A All All S' rho ⟨t, h'⟩ a w ∧ (∀ b, S b → S' b) ∧ ys.length = vs.length ∧ ∀ (i : Nat) y v, ys[i]? = some y → vs[i]? = some v → PRep S' w y v := by
  intro avs
  induction avs with
  | nil =>
    intro vs S h K hl sim _ hq
    have : vs = [] := List.eq_nil_of_length_eq_zero hl.symm
    subst this
    exact ⟨[], h, S, hq, sim, fun _ h => h, rfl, by simp⟩
  | cons av avs ih =>
    intro vs S h K hl sim hrep hq
    cases vs with
    | nil => simp at hl
    | cons v vs =>
      obtain ⟨y, fz, S2, hq, sim2, hp, hSS, _, _⟩ := toPV_sim hC sim (Frz.refl h) (hrep S h (fun _ h => h) sim 0 av v rfl rfl) hq
      obtain ⟨ys, h', S', k1, k2, k3, k4, k5⟩ := ih vs S2 (app h fz) (by simpa using hl) sim2 (fun S3 h3 hS sim3 i x u hx hu => hrep S3 h3 (fun b hb => hS b (hSS b hb)) sim3 (i + 1) x u (by simpa using hx) (by simpa using hu)) hq
      refine ⟨y :: ys, h', S', k1, k2, fun b hb => k3 b (hSS b hb), by simp [k4], fun i z u hz hu => ?_⟩
      cases i with
      | zero => simp at hz hu; subst hz hu; exact hp.mono k3 (fun _ _ => rfl)
      | succ i => exact k5 i z u (by simpa using hz) (by simpa using hu)

theorem finK_tail {h : Nat → AB} {j : Nat} {x : Arg} {xs : List Arg} {f : Fin} {fs : List Fin} (hx : x.handed = true) (hq : finK h j (x :: xs) (f :: fs)) : finK h (j + 1) xs fs := by
  cases x <;> cases f <;> first | (cases hx; done) | exact hq.elim | exact hq.2 | exact hq
/-- the objects that a kept argument is of -/
def keepN (h : Nat → AB) (j id : Nat) : Prop := id = j ∨ inCells (h j) id = true
theorem finK_sim {A : Amb} {S : Nat → Prop} {rho : Nat → Value} {t : Nat → AV} {h : Nat → AB} {a : Act} {w : World} (sim : Sim A All All S rho ⟨t, h⟩ a w) : ∀ (args : List Arg) (fin : List Fin) (vs : List Value) (j : Nat), args.length = vs.length → (∀ i v, vs[i]? = some v → (∃ x, args[i]? = some x ∧ x.handed = true) → v = rho (j + i)) → finK h j args fin →
    FinAll S w A.C.P args fin vs ∧ ∀ i g, finOwn w args fin vs i g → ∃ id, keepN h (j + i) id ∧ (h id).live ∧ hasB w (h id) (rho id) g ∧ keptId h j args fin id = true := by
  intro args
  induction args with
  | nil => intro fin vs j hl _ hq; have : vs = [] := List.eq_nil_of_length_eq_zero hl.symm; subst this; cases fin with | nil => exact ⟨trivial, fun i g h => h.elim⟩ | cons f fin => exact hq.elim
  | cons x args ih =>
    intro fin vs j hl hv hq
    cases vs with
    | nil => simp at hl
    | cons v vs =>
      have hl' : args.length = vs.length := by simpa using hl
      have hv' : ∀ i v, vs[i]? = some v → (∃ x, args[i]? = some x ∧ x.handed = true) → v = rho (j + 1 + i) := fun i u h1 ⟨y, h2, h3⟩ => by
        have := hv (i + 1) u (by simpa using h1) ⟨y, by simpa using h2, h3⟩
        rw [this]; congr 1; omega
      cases hx : x.handed with
      | false =>
        cases x with
        | pv y =>
          obtain ⟨r1, r2⟩ := ih fin vs (j + 1) hl' hv' hq
          refine ⟨r1, fun i g hg => ?_⟩
          cases i with
          | zero => exact hg.elim
          | succ i =>
            obtain ⟨id, q1, q2, q3, q4⟩ := r2 i g hg
            exact ⟨id, by rw [show j + (i + 1) = j + 1 + i by omega]; exact q1, q2, q3, q4⟩
        | row => cases hx
        | box => cases hx
        | hbox => cases hx
      | true =>
        have hv0 : v = rho j := hv 0 v rfl ⟨_, rfl, hx⟩
        cases fin with
        | nil => cases x <;> first | (cases hx; done) | exact hq.elim
        | cons f fin =>
          obtain ⟨r1, r2⟩ := ih fin vs (j + 1) hl' hv' (finK_tail hx hq)
          have mk : FinRep S w A.C.P x f v → (∀ g, f.kept = true → hasB w (finB f) v g → ∃ id, keepN h j id ∧ (h id).live ∧ hasB w (h id) (rho id) g) → FinAll S w A.C.P (x :: args) (f :: fin) (v :: vs) ∧ ∀ i g, finOwn w (x :: args) (f :: fin) (v :: vs) i g → ∃ id, keepN h (j + i) id ∧ (h id).live ∧ hasB w (h id) (rho id) g ∧ keptId h j (x :: args) (f :: fin) id = true := by
            intro m1 m2
            refine ⟨by cases x <;> first | (cases hx; done) | exact ⟨m1, r1⟩, fun i g hg => ?_⟩
            cases i with
            | zero =>
              obtain ⟨g1, g2⟩ : f.kept = true ∧ hasB w (finB f) v g := by cases x <;> first | (cases hx; done) | exact hg
              obtain ⟨id, q1, q2, q3⟩ := m2 g g1 g2
              refine ⟨id, q1, q2, q3, ?_⟩
              have : (beqN j id || inCells (h j) id) = true := by
                rcases q1 with q1 | q1
                · rw [q1, beqN_eq.2 rfl]; rfl
                · rw [q1]; simp
              cases x <;> first | (cases hx; done) | (simp only [keptId, g1, this, Bool.true_and, Bool.true_or])
            | succ i =>
              have hg' : finOwn w args fin vs i g := by cases x <;> first | (cases hx; done) | exact hg
              obtain ⟨id, q1, q2, q3, q4⟩ := r2 i g hg'
              refine ⟨id, by rw [show j + (i + 1) = j + 1 + i by omega]; exact q1, q2, q3, ?_⟩
              cases x <;> first | (cases hx; done) | (simp only [keptId, q4, Bool.or_true])
          refine mk ?_ ?_
          · rw [hv0]
            cases x with
            | pv y => cases hx
            | row e es =>
              cases f with
              | gone => trivial
              | row es' =>
                have hh := sim.hp j trivial
                have hh : HRep S w A.C.P All rho h j (h j) := hh
                rw [hq.1] at hh
                exact ⟨hh, fun g hg => (sim.lvb j g trivial (by show (h j).live; rw [hq.1]; trivial) hg).2.1⟩
              | box cs => exact hq.elim
              | hbox cs => exact hq.elim
            | box ys =>
              cases f with
              | gone => trivial
              | row es' => exact hq.elim
              | hbox es' => exact hq.elim
              | box cs =>
                obtain ⟨hq1, hq2⟩ := hq
                split at hq1
                · rename_i bs hb
                  have hh := sim.hp j trivial
                  have hh : HRep S w A.C.P All rho h j (h j) := hh
                  rw [hb] at hh
                  obtain ⟨g, ty, c, k1, k2, k3, k4⟩ := hh
                  obtain ⟨k5, k6⟩ := cellsPV_spec hq1
                  refine ⟨g, ty, c, k1, k2, by rw [k3, k5], (sim.lvb j g trivial (by show (h j).live; rw [hb]; trivial) (by rw [k1]; rfl)).2.1, fun i x u hi hu => ?_⟩
                  obtain ⟨y, hy⟩ : ∃ y, bs[i]? = some y := ⟨_, List.getElem?_eq_getElem (by rw [k5]; exact lt_of_get hi)⟩
                  obtain ⟨k7, k8⟩ := k4 i y u hy hu
                  exact ⟨k7, k8.of_cell (k6 i y x hy hi)⟩
                · exact hq1.elim
            | hbox ys =>
              cases f with
              | gone => trivial
              | row es' => exact hq.elim
              | box es' => exact hq.elim
              | hbox cs =>
                obtain ⟨hq1, hq2⟩ := hq
                split at hq1
                · rename_i bs hb
                  subst hq1
                  have hh := sim.hp j trivial
                  have hh : HRep S w A.C.P All rho h j (h j) := hh
                  rw [hb] at hh
                  obtain ⟨g, ty, c, k1, k2⟩ := hh
                  exact ⟨g, ty, c, k1, k2, fun k hk => (sim.lv j k trivial (by show (h j).live; rw [hb]; trivial) (by show hasB w (h j) _ _; rw [hb]; exact hk)).2.1⟩
                · rename_i bs hb
                  simp only [Bool.and_eq_true] at hq1
                  obtain ⟨g, ty, c, k1, k2, k3⟩ := pack_box sim (id := j) trivial hb hq1.1.1 hq1.2
                  refine ⟨g, ty, c, k1, k2, fun k hk => ?_⟩
                  rcases k3 k hk with hk | ⟨n, _, hn, hln, hk⟩
                  · exact (sim.lvb j k trivial (by show (h j).live; rw [hb]; trivial) hk).2.1
                  · exact (sim.lvb n k hn hln hk).2.1
                · exact hq1.elim
          · intro g hf hg
            rw [hv0] at hg
            cases x with
            | pv y => cases hx
            | row e es =>
              cases f with
              | gone => cases hf
              | row es' => exact ⟨j, .inl rfl, by rw [hq.1]; trivial, .inl (hasB_plain rfl hg)⟩
              | box cs => exact hq.elim
              | hbox cs => exact hq.elim
            | box ys =>
              cases f with
              | gone => cases hf
              | row es' => exact hq.elim
              | hbox es' => exact hq.elim
              | box cs =>
                obtain ⟨hq1, hq2⟩ := hq
                split at hq1
                · rename_i bs hb
                  exact ⟨j, .inl rfl, by rw [hb]; trivial, .inl (hasB_plain rfl hg)⟩
                · exact hq1.elim
            | hbox ys =>
              cases f with
              | gone => cases hf
              | row es' => exact hq.elim
              | box es' => exact hq.elim
              | hbox cs =>
                obtain ⟨hq1, hq2⟩ := hq
                split at hq1
                · rename_i bs hb
                  subst hq1
                  exact ⟨j, .inl rfl, by rw [hb]; trivial, by rw [hb]; exact hg⟩
                · rename_i bs hb
                  simp only [Bool.and_eq_true] at hq1
                  obtain ⟨g', ty, c, k1, k2, k3⟩ := pack_box sim (id := j) trivial hb hq1.1.1 hq1.2
                  rcases k3 g hg with hk | ⟨n, hm, hn, hln, hk⟩
                  · exact ⟨j, .inl rfl, by rw [hb]; trivial, .inl hk⟩
                  · exact ⟨n, .inr (by rw [hb]; exact hasN_mem.2 hm), hln, .inl hk⟩
                · exact hq1.elim
/-- kept arguments are of different objects -/
theorem keepN_inj {h : Nat → AB} : ∀ (args : List Arg) (fin : List Fin) (w : World) (vs : List Value) (j0 : Nat), 100000 ≤ j0 → finK h j0 args fin → ∀ i k id g, finOwn w args fin vs i g → finOwn w args fin vs k g → keepN h (j0 + i) id → keepN h (j0 + k) id → i = k := by
  -- at a place that is kept, the names in its box are small; but one place has such a box
  have small : ∀ (args : List Arg) (fin : List Fin) (w : World) (vs : List Value) (j0 : Nat), finK h j0 args fin → ∀ i g id, finOwn w args fin vs i g → inCells (h (j0 + i)) id = true → id < 100000 ∧ noHB args = false ∧ (∀ m, i = m + 1 → ∀ x xs, args = x :: xs → noHB xs = false) := by
    intro args
    induction args with
    | nil => intro fin w vs j0 _ i g id hg; exact hg.elim
    | cons x args ih =>
      intro fin w vs j0 hq i g id hg hi
      cases vs with
      | nil => cases fin <;> exact hg.elim
      | cons v vs =>
        cases hx : x.handed with
        | false =>
          cases x with
          | pv y =>
            cases i with
            | zero => exact hg.elim
            | succ i =>
              obtain ⟨h1, h2, _⟩ := ih fin w vs (j0 + 1) hq i g id hg (by rw [show j0 + 1 + i = j0 + (i + 1) by omega]; exact hi)
              exact ⟨h1, h2, fun m hm x xs he => by injection he with _ he; rw [← he]; exact h2⟩
          | row => cases hx
          | box => cases hx
          | hbox => cases hx
        | true =>
          cases fin with
          | nil => cases x <;> first | (cases hx; done) | exact hg.elim
          | cons f fin =>
            cases i with
            | succ i =>
              have hg' : finOwn w args fin vs i g := by cases x <;> first | (cases hx; done) | exact hg
              obtain ⟨h1, h2, _⟩ := ih fin w vs (j0 + 1) (finK_tail hx hq) i g id hg' (by rw [show j0 + 1 + i = j0 + (i + 1) by omega]; exact hi)
              exact ⟨h1, by cases x <;> first | exact h2 | rfl, fun m hm x xs he => by injection he with _ he; rw [← he]; exact h2⟩
            | zero =>
              have hf : f.kept = true := by cases x <;> first | (cases hx; done) | exact hg.1
              have hi : inCells (h j0) id = true := hi
              cases x with
              | pv y => cases hx
              | row e es => cases f <;> first | (cases hf; done) | exact hq.elim | (rw [hq.1] at hi; cases hi)
              | box ys =>
                cases f with
                | gone => cases hf
                | row es' => exact hq.elim
                | hbox es' => exact hq.elim
                | box cs =>
                  obtain ⟨hq1, hq2⟩ := hq
                  split at hq1
                  · rename_i bs hb
                    rw [hb] at hi
                    obtain ⟨k5, k6⟩ := cellsPV_spec hq1
                    obtain ⟨n, hn⟩ := List.mem_iff_getElem?.1 (cellNames_mem.1 (hasN_mem.1 hi))
                    obtain ⟨y, hy⟩ : ∃ y, cs[n]? = some y := ⟨_, List.getElem?_eq_getElem (by rw [← k5]; exact lt_of_get hn)⟩
                    have := k6 n _ y hn hy
                    rcases this with h | h
                    · cases h
                    · cases h.1
                  · exact hq1.elim
              | hbox ys =>
                cases f with
                | gone => cases hf
                | row es' => exact hq.elim
                | box es' => exact hq.elim
                | hbox cs =>
                  obtain ⟨hq1, hq2⟩ := hq
                  split at hq1
                  · rename_i bs hb
                    rw [hb] at hi; cases hi
                  · rename_i bs hb
                    rw [hb] at hi
                    simp only [Bool.and_eq_true] at hq1
                    exact ⟨goodNames_lt hq1.1.1 (hasN_mem.1 hi), rfl, fun m hm => by omega⟩
                  · exact hq1.elim
  have later : ∀ (args : List Arg) (fin : List Fin) (w : World) (vs : List Value) (j0 : Nat), finK h j0 args fin → ∀ i k g g' id, finOwn w args fin vs i g → finOwn w args fin vs k g' → inCells (h (j0 + i)) id = true → inCells (h (j0 + k)) id = true → i < k → False := by
    intro args
    induction args with
    | nil => intro fin w vs j0 _ i k g g' id hg; exact hg.elim
    | cons x args ih =>
      intro fin w vs j0 hq i k g g' id hg hg' hi hk hlt
      cases vs with
      | nil => cases fin <;> exact hg.elim
      | cons v vs =>
        obtain ⟨k, rfl⟩ : ∃ m, k = m + 1 := ⟨k - 1, by omega⟩
        cases hx : x.handed with
        | false =>
          cases x with
          | pv y =>
            cases i with
            | zero => exact hg.elim
            | succ i => exact ih fin w vs (j0 + 1) hq i k g g' id hg hg' (by rw [show j0 + 1 + i = j0 + (i + 1) by omega]; exact hi) (by rw [show j0 + 1 + k = j0 + (k + 1) by omega]; exact hk) (by omega)
          | row => cases hx
          | box => cases hx
          | hbox => cases hx
        | true =>
          cases fin with
          | nil => cases x <;> first | (cases hx; done) | exact hg.elim
          | cons f fin =>
            have hg2 : finOwn w args fin vs k g' := by cases x <;> first | (cases hx; done) | exact hg'
            cases i with
            | succ i =>
              have hg1 : finOwn w args fin vs i g := by cases x <;> first | (cases hx; done) | exact hg
              exact ih fin w vs (j0 + 1) (finK_tail hx hq) i k g g' id hg1 hg2 (by rw [show j0 + 1 + i = j0 + (i + 1) by omega]; exact hi) (by rw [show j0 + 1 + k = j0 + (k + 1) by omega]; exact hk) (by omega)
            | zero =>
              have h2 := (small args fin w vs (j0 + 1) (finK_tail hx hq) k g' id hg2 (by rw [show j0 + 1 + k = j0 + (k + 1) by omega]; exact hk)).2.1
              have hf : f.kept = true := by cases x <;> first | (cases hx; done) | exact hg.1
              have hi : inCells (h j0) id = true := hi
              have h3 := small (x :: args) (f :: fin) w (v :: vs) j0 hq 0 g id hg hi
              -- the first place has a box with rows: none behind it
              cases x with
              | pv y => cases hx
              | row e es => cases f <;> first | (cases hf; done) | exact hq.elim | (rw [hq.1] at hi; cases hi)
              | box ys => exact (by
                  have : noHB (.box ys :: args) = false := h3.2.1
                  cases f with
                  | gone => cases hf
                  | row es' => exact hq.elim
                  | hbox es' => exact hq.elim
                  | box cs =>
                    obtain ⟨hq1, hq2⟩ := hq
                    split at hq1
                    · rename_i bs hb
                      rw [hb] at hi
                      obtain ⟨k5, k6⟩ := cellsPV_spec hq1
                      obtain ⟨n, hn⟩ := List.mem_iff_getElem?.1 (cellNames_mem.1 (hasN_mem.1 hi))
                      obtain ⟨y, hy⟩ : ∃ y, cs[n]? = some y := ⟨_, List.getElem?_eq_getElem (by rw [← k5]; exact lt_of_get hn)⟩
                      rcases k6 n _ y hn hy with h | h
                      · cases h
                      · cases h.1
                    · exact hq1.elim)
              | hbox ys =>
                cases f with
                | gone => cases hf
                | row es' => exact hq.elim
                | box es' => exact hq.elim
                | hbox cs =>
                  obtain ⟨hq1, hq2⟩ := hq
                  split at hq1
                  · rename_i bs hb
                    rw [hb] at hi; cases hi
                  · rename_i bs hb
                    simp only [Bool.and_eq_true] at hq1
                    rw [hq1.1.2] at h2
                    cases h2
                  · exact hq1.elim
  intro args fin w vs j0 hj hq i k id g hi hk ki kk
  rcases ki with ki | ki <;> rcases kk with kk | kk
  · omega
  · have := (small args fin w vs j0 hq k g id hk kk).1; omega
  · have := (small args fin w vs j0 hq i g id hi ki).1; omega
  · rcases Nat.lt_trichotomy i k with h | h | h
    · exact (later args fin w vs j0 hq i k g g id hi hk ki kk h).elim
    · exact h
    · exact (later args fin w vs j0 hq k i g g id hk hi kk ki h).elim

theorem RowRep.front {P : Program} {S : Nat → Prop} {w : World} {e : TypeId} {xs : List (List PV)} {v u : Value} {a : Option Addr} {n c hi : Nat} (h : RowRep P w (PRep S w) e xs v) (hv : v = .slice a n c) (hn : hi ≤ n) (hu : u = .slice a hi c) : RowRep P w (PRep S w) e (xs.take hi) u := by
  obtain ⟨i, ys, h1, h2, h3, h4, h5, h6⟩ := h
  have hF : Flat S w i.size xs ys := ⟨h3.1, h4, h5, h6⟩
  have hnx : n = xs.length := by
    rcases h3.2 with ⟨g1, g2⟩ | ⟨g, cap, cur, g1, _⟩
    · rw [hv] at g1; injection g1 with _ g1 _; omega
    · rw [hv] at g1; injection g1
  subst hnx
  have hF2 := hF.take hi hn
  have hl : (xs.take hi).length = hi := by rw [List.length_take]; omega
  refine RowRep.of_flat h1 h2 ?_ hF2
  refine ⟨hF2.len, ?_⟩
  rw [hl, hu]
  rcases h3.2 with ⟨g1, g2⟩ | ⟨g, cap, cur, g1, g2, g3, g4, g5, g6, g7⟩
  · rw [hv] at g1
    injection g1 with g1 _ g3
    exact .inl ⟨by rw [g1, g3]; congr 1; omega, by omega⟩
  · rw [hv] at g1
    injection g1 with g1 _ g8
    refine .inr ⟨g, cap, cur, by rw [g1, g8], g2, g3, by omega, g5, g6, ?_⟩
    rw [← g7, List.take_take, Nat.min_eq_left (Nat.mul_le_mul_right _ hn)]
theorem initH_hi (args : List Arg) (j : Nat) : initH args (100000 + j) = match args[j]? with
    | some x => argAB x
    | none => .none := by
  have h1 : Nat.ble 100000 (100000 + j) = true := Nat.ble_eq_true_of_le (by omega)
  have h2 : 100000 + j - 100000 = j := by omega
  simp only [initH, h1, h2]
theorem initH_lo (args : List Arg) (k : Nat) (h : k < 100000) : initH args k = .none := by
  have h1 : Nat.ble 100000 k = false := by
    rw [Bool.eq_false_iff]
    intro h2
    have := Nat.le_of_ble_eq_true h2
    omega
  simp only [initH, h1]
theorem init_sim {C : Ctx} {S : Nat → Prop} {w : World} {args : List Arg} {vs : Array Value} (m : Nat) (hm : vs.size + m ≤ 100000) (hE : C.E S w) (hS : ∀ b, S b → b < w.heap.size) (hl : args.length = vs.size) (hrep : ∀ (j : Nat) x v, args[j]? = some x → vs[j]? = some v → ArgRep S w C.P x v)
    (hdis : ∀ (i j : Nat) x y v u g, args[i]? = some x → args[j]? = some y → vs[i]? = some v → vs[j]? = some u → x.handed = true → y.handed = true → hasB w (argB x) v g → hasB w (argB y) u g → i = j) :
    Sim ⟨C, w, Mv w args vs, S, vs.size + m, fun k => vs.getD (k - 100000) undef⟩ All All S (fun k => vs.getD (k - 100000) undef) ⟨initT args, initH args⟩ { tmps := vs ++ Array.replicate m undef, defers := [] } w := by
  have hget : ∀ j v, vs[j]? = some v → vs.getD j undef = v := fun j v h => by rw [Array.getD_eq_getD_getElem?, h]; rfl
  have hrho : ∀ j, vs.getD (100000 + j - 100000) undef = vs.getD j undef := fun j => by rw [Nat.add_sub_cancel_left]
  have at_ : ∀ j x, args[j]? = some x → ∃ v, vs[j]? = some v ∧ vs.getD j undef = v := fun j x h => by
    obtain ⟨v, hv⟩ := arr_at hl (lt_of_get h)
    exact ⟨v, hv, hget j v hv⟩
  have live : ∀ k, (initH args k).live → ∃ j x v, k = 100000 + j ∧ args[j]? = some x ∧ vs[j]? = some v ∧ vs.getD (k - 100000) undef = v ∧ x.handed = true := by
    intro k hk
    by_cases hlt : k < 100000
    · rw [initH_lo _ _ hlt] at hk; exact hk.elim
    · obtain ⟨j, rfl⟩ : ∃ j, k = 100000 + j := ⟨k - 100000, by omega⟩
      rw [initH_hi] at hk
      cases h : args[j]? with
      | none => rw [h] at hk; exact hk.elim
      | some x =>
        rw [h] at hk
        obtain ⟨v, h1, h2⟩ := at_ j x h
        refine ⟨j, x, v, rfl, h, h1, by rw [hrho]; exact h2, ?_⟩
        cases x with
        | pv y => exact hk.elim
        | row => rfl
        | box => rfl
        | hbox => rfl
  have blkE : ∀ (j : Nat) (x : Arg) (v : Value) (g : Nat), args[j]? = some x → vs[j]? = some v → x.handed = true → hasB w (argB x) v g → g < w.heap.size ∧ ¬ S g := by
    intro j x v g h1 h2 h3 h4
    have := hrep j x v h1 h2
    cases x with
    | pv y => cases h3
    | row e es =>
      have h4 := hasB_plain rfl h4
      obtain ⟨⟨i, xs, _, _, ho, _⟩, hn⟩ := this
      exact ⟨(ho.lt g (by rw [ownBlock_blk (ownsRow_slice ho).choose_spec.choose_spec]; exact h4)).2, hn g h4⟩
    | box cs =>
      have h4 := hasB_plain rfl h4
      obtain ⟨g', ty, c, rfl, k2, _, k4, _⟩ := this
      injection h4 with h4
      subst h4
      exact ⟨(Array.getElem?_eq_some_iff.1 k2).1, k4⟩
    | hbox cs =>
      obtain ⟨g', ty, c, _, _, k⟩ := this
      exact ⟨(k g h4).2, (k g h4).1⟩
  have argB_init : ∀ (j : Nat) (x : Arg) (v : Value) (g : Nat), args[j]? = some x → x.handed = true → (hasB w (initH args (100000 + j)) v g ↔ hasB w (argB x) v g) := by
    intro j x v g h1 h2
    rw [initH_hi, h1]
    cases x with
    | pv y => cases h2
    | row e es => exact ⟨fun h => .inl (hasB_plain rfl h), fun h => .inl (hasB_plain rfl h)⟩
    | box cs => exact ⟨fun h => .inl (hasB_plain rfl h), fun h => .inl (hasB_plain rfl h)⟩
    | hbox cs => exact Iff.rfl
  exact
  { tm := fun j _ => by
      show LRep _ _ _ _ _ _ (initT args j) ((vs ++ Array.replicate m undef).getD j undef)
      unfold initT
      cases h : args[j]? with
      | none => exact .junk _
      | some x =>
        obtain ⟨v, h1, h2⟩ := at_ j x h
        have hj : j < vs.size := by rw [← hl]; exact lt_of_get h
        have h3 : (vs ++ Array.replicate m undef).getD j undef = v := by
          rw [Array.getD_eq_getD_getElem?, Array.getElem?_append_left hj, h1]; rfl
        rw [h3]
        have hr := hrep j x v h h1
        cases x with
        | pv y => exact .p _ _ hr
        | row e es => exact .ow _ v fun _ => ⟨trivial, by rw [hrho]; exact h2.symm⟩
        | box cs =>
          obtain ⟨g, ty, c, e1, _⟩ := hr
          exact .bx _ 0 v fun _ => ⟨trivial, g, by rw [hrho, h2]; exact e1, e1⟩
        | hbox cs =>
          obtain ⟨g, ty, c, e1, _⟩ := hr
          exact .bx _ 0 v fun _ => ⟨trivial, g, by rw [hrho, h2]; exact e1, e1⟩
    sz := by simp
    df := rfl, nb := hm, pn := fun _ _ => rfl, ev := hE, s0 := fun _ h => h, st := hS, sb := fun b h => .inl h
    hp := fun k _ => by
      show HRep _ _ _ _ _ _ k (initH args k)
      by_cases hlt : k < 100000
      · rw [initH_lo _ _ hlt]; trivial
      · obtain ⟨j, rfl⟩ : ∃ j, k = 100000 + j := ⟨k - 100000, by omega⟩
        rw [initH_hi]
        cases h : args[j]? with
        | none => trivial
        | some x =>
          obtain ⟨v, h1, h2⟩ := at_ j x h
          have hr := hrep j x v h h1
          cases x with
          | pv y => trivial
          | row e es => show RowRep _ _ _ _ _ (vs.getD (100000 + j - 100000) undef); rw [hrho, h2]; exact hr.1
          | box cs =>
            obtain ⟨g, ty, c, e1, e2, e3, e4, e5⟩ := hr
            refine ⟨g, ty, c, by simp only; rw [hrho, h2]; exact e1, e2, by simpa using e3, fun i x u hi hu => ?_⟩
            rw [List.getElem?_map] at hi
            obtain ⟨z, hz, rfl⟩ := Option.map_eq_some_iff.1 hi
            exact ⟨(e5 i z u hz hu).1, .p _ _ (e5 i z u hz hu).2⟩
          | hbox cs =>
            obtain ⟨g, ty, c, e1, e2, _⟩ := hr
            exact ⟨g, ty, c, by simp only; rw [hrho, h2]; exact e1, e2⟩
    dj := fun i j g _ _ li lj hi hj => by
      obtain ⟨i', x, v, e1, h1, h2, h3, h4⟩ := live i li
      obtain ⟨j', y, u, e2, k1, k2, k3, k4⟩ := live j lj
      have := hdis i' j' x y v u g h1 k1 h2 k2 h4 k4 (by rw [← argB_init i' x v g h1 h4, ← e1, ← h3]; exact hi) (by rw [← argB_init j' y u g k1 k4, ← e2, ← k3]; exact hj)
      omega
    lv := fun k g _ lk hk => by
      obtain ⟨j, x, v, e1, h1, h2, h3, h4⟩ := live k lk
      have hk' : hasB w (argB x) v g := by rw [← argB_init j x v g h1 h4, ← e1, ← h3]; exact hk
      obtain ⟨h5, h6⟩ := blkE j x v g h1 h2 h4 hk'
      exact ⟨h5, h6, .inl ⟨j, x, v, h1, h2, h4, hk'⟩⟩
    fr := Fr.refl _ _ }

theorem run_results {P : Program} {fn : Func} {tmps : Array Value} {w : World} {vs : List Value} (h : (fn.results.toList.mapM (resV tmps)).run P w = .ok vs w) :
    (results fn tmps).run P w = .ok (if h : vs.toArray.size = 1 then vs.toArray[0] else .tuple vs.toArray) w := by
  have e : results fn tmps = (do let vs ← fn.results.mapM (resV tmps); pure (if h : vs.size = 1 then vs[0] else .tuple vs)) := by
    unfold results resV
    rfl
  rw [e, ← Array.toArray_toList (xs := fn.results), List.mapM_toArray, Sem.run_bind]
  have : (Functor.map List.toArray (fn.results.toList.mapM (resV tmps))).run P w = .ok vs.toArray w := by
    rw [map_eq_pure_bind, Sem.run_bind, h]
    rfl
  rw [this]
  rfl

/-- A FUNCTION: its body, walked by the machine, gives its contract. -/
theorem fun_ok {C : Ctx} (hC : CtxOK C) {f : FuncId} {fn : Func} {c : Code} (hf : C.P.funcs[f]? = some fn) (hb : fn.body = some c) (hname : (fn.name == "runtime.NumGoroutine") = false) {args : List Arg} {r : AR} {fin : List Fin} (hn : args.length + (fn.ntmps - args.length) ≤ 100000)
    (h : ∀ A : Amb, A.C = C → A.n = args.length + (fn.ntmps - args.length) → W A c (endK C fn.results.toList args r fin) ⟨initT args, initH args⟩) : ACalls C f args r fin := by
  refine ⟨⟨fn, hf, hname, by rw [hb]; rfl⟩, fun S w vs hE hS hl hrep hdis => ?_⟩
  have sim := init_sim (fn.ntmps - vs.size) (by rw [← hl]; exact hn) hE hS hl hrep hdis
  refine calls_of_wp hf hb ?_
  have hw := h ⟨C, w, Mv w args vs, S, vs.size + (fn.ntmps - vs.size), fun k => vs.getD (k - 100000) undef⟩ rfl (by rw [hl])
  refine wp_mono (hw S _ _ w sim) fun e a' w' hq => ?_
  obtain ⟨S', rho', s', sim', hk⟩ := hq
  have fin' : retK C fn.results.toList args r fin s' → a'.defers = [] ∧ ∃ v, (results fn a'.tmps).run C.P w' = .ok v w' ∧ ∃ v0 S', Ending.returned v = .returned v0 ∧ Fr (Mv w args vs) w w' ∧ (∀ b, S b → S' b) ∧ (∀ b, S' b → b < w'.heap.size) ∧ (∀ b, S' b → S b ∨ w.heap.size ≤ b ∨ Mv w args vs b) ∧
      RRep S' w' C.P r v0 ∧ FinAll S' w' C.P args fin vs.toList ∧ FinOK w w' args fin vs ∧ (∀ g, r.owns = true → hasB w' r.ab v0 g → g < w'.heap.size ∧ (w.heap.size ≤ g ∨ Mv w args vs g) ∧ ∀ i, ¬ finOwn w' args fin vs.toList i g) := by
    intro hk
    refine ⟨sim'.df, ?_⟩
    obtain ⟨avs, us, hk, h1, h2, h3, h4⟩ := resAVs_sim (A := ⟨C, w, Mv w args vs, S, vs.size + (fn.ntmps - vs.size), fun k => vs.getD (k - 100000) undef⟩) hC sim' fn.results.toList hk
    have hrun := run_results h2
    have hl2 : args.length = vs.toList.length := by simpa using hl
    have pinv : ∀ (S2 : Nat → Prop) (h2 : Nat → AB), Sim ⟨C, w, Mv w args vs, S, vs.size + (fn.ntmps - vs.size), fun k => vs.getD (k - 100000) undef⟩ All All S2 rho' ⟨s'.t, h2⟩ a' w' → ∀ i u, vs.toList[i]? = some u → (∃ x, args[i]? = some x ∧ x.handed = true) → u = rho' (100000 + i) := fun S2 h2 sim2 i u hu _ => by
      rw [sim2.pn (100000 + i) (by omega)]
      have hu' : vs[i]? = some u := by simpa using hu
      show u = vs.getD (100000 + i - 100000) undef
      rw [Nat.add_sub_cancel_left, Array.getD_eq_getD_getElem?, hu']
      rfl
    have fk : ∀ (S2 : Nat → Prop) (h2 : Nat → AB), Sim ⟨C, w, Mv w args vs, S, vs.size + (fn.ntmps - vs.size), fun k => vs.getD (k - 100000) undef⟩ All All S2 rho' ⟨s'.t, h2⟩ a' w' → finK h2 100000 args fin → FinAll S2 w' C.P args fin vs.toList ∧ (∀ i g, finOwn w' args fin vs.toList i g → ∃ id, keepN h2 (100000 + i) id ∧ (h2 id).live ∧ hasB w' (h2 id) (rho' id) g ∧ keptId h2 100000 args fin id = true) ∧ FinOK w w' args fin vs := by
      intro S2 h2 sim2 hfin
      obtain ⟨r1, r2⟩ := finK_sim sim2 args fin vs.toList 100000 hl2 (pinv S2 h2 sim2) hfin
      refine ⟨r1, r2, fun i g hg => ?_, fun i j g hi hj => ?_⟩
      · obtain ⟨id, _, q2, q3, _⟩ := r2 i g hg
        obtain ⟨p1, _, p3⟩ := sim2.lv id g trivial q2 q3
        exact ⟨p1, p3.symm⟩
      · obtain ⟨id, q1, q2, q3, _⟩ := r2 i g hi
        obtain ⟨id', p1, p2, p3, _⟩ := r2 j g hj
        have := sim2.dj id id' g trivial trivial q2 p2 q3 p3
        subst this
        exact keepN_inj args fin w' vs.toList 100000 (Nat.le_refl _) hfin i j id g hi hj q1 p1
    -- the frame and what stays, out of any fitting state
    have outer : ∀ (S2 : Nat → Prop) (h2 : Nat → AB) (v : Value), Sim ⟨C, w, Mv w args vs, S, vs.size + (fn.ntmps - vs.size), fun k => vs.getD (k - 100000) undef⟩ All All S2 rho' ⟨s'.t, h2⟩ a' w' → (results fn a'.tmps).run C.P w' = .ok v w' → RRep S2 w' C.P r v → finK h2 100000 args fin → (∀ g, r.owns = true → hasB w' r.ab v g → g < w'.heap.size ∧ (w.heap.size ≤ g ∨ Mv w args vs g) ∧ ∀ i, ¬ finOwn w' args fin vs.toList i g) →
        ∃ v, (results fn a'.tmps).run C.P w' = .ok v w' ∧ ∃ v0 S', Ending.returned v = .returned v0 ∧ Fr (Mv w args vs) w w' ∧ (∀ b, S b → S' b) ∧ (∀ b, S' b → b < w'.heap.size) ∧ (∀ b, S' b → S b ∨ w.heap.size ≤ b ∨ Mv w args vs b) ∧
      RRep S' w' C.P r v0 ∧ FinAll S' w' C.P args fin vs.toList ∧ FinOK w w' args fin vs ∧ (∀ g, r.owns = true → hasB w' r.ab v0 g → g < w'.heap.size ∧ (w.heap.size ≤ g ∨ Mv w args vs g) ∧ ∀ i, ¬ finOwn w' args fin vs.toList i g) := by
      intro S2 h2 v sim2 hr hrep2 hfin hown
      refine ⟨v, hr, v, S2, rfl, sim2.fr, sim2.s0, sim2.st, fun b hb => ?_, hrep2, (fk S2 h2 sim2 hfin).1, (fk S2 h2 sim2 hfin).2.2, hown⟩
      rcases sim2.sb b hb with h | h | h
      · exact .inl h
      · exact .inr (.inr h)
      · exact .inr (.inl h)
    cases r with
    | own e es =>
      simp only at hk
      split at hk
      · rename_i av
        obtain ⟨u, rfl⟩ : ∃ u, us = [u] := by
          match us, h1 with
          | [u], _ => exact ⟨u, rfl⟩
        have hrun1 : (results fn a'.tmps).run C.P w' = .ok u w' := hrun
        split at hk
        · rename_i i
          obtain ⟨k1, k2, k3⟩ := hk
          have hu := h4 S' s'.h (fun _ h => h) sim' 0 _ u rfl rfl
          obtain ⟨_, hv⟩ := hu.ow_inv (by rw [k1]; trivial)
          have hh := sim'.hp i trivial
          rw [k1] at hh
          have hlive : (s'.h i).live := by rw [k1]; trivial
          refine outer S' s'.h u sim' hrun1 ⟨by rw [hv]; exact hh, fun g hg => (sim'.lvb i g trivial hlive (by rw [← hv]; exact hg)).2.1⟩ k3 fun g _ hg0 => ?_
          have hg : blk u = some g := hasB_plain rfl hg0
          have hg' : blk (rho' i) = some g := by rw [← hv]; exact hg
          obtain ⟨l1, l2, l3⟩ := sim'.lvb i g trivial hlive hg'
          refine ⟨l1, l3.symm, fun n hkb => ?_⟩
          obtain ⟨i', _, m1, m2, m3⟩ := (fk S' s'.h sim' k3).2.1 n g hkb
          have := sim'.dj i i' g trivial trivial hlive m1 (.inl hg') m2
          subst this
          rw [k2] at m3
          cases m3
        · rename_i i lo hi
          have hk9 : lo = 0 ∧ ∃ xs, s'.h i = .row e xs ∧ es = xs.take hi ∧ keptId s'.h 100000 args fin i = false ∧ finK s'.h 100000 args fin := by
            cases lo with
            | succ n => exact hk.elim
            | zero =>
              cases hr : s'.h i with
              | row e' xs =>
                rw [hr] at hk
                simp only at hk
                split at hk
                · rename_i hee
                  rw [beqN_eq.1 hee]
                  exact ⟨rfl, xs, rfl, hk⟩
                · exact hk.elim
              | _ => rw [hr] at hk; exact hk.elim
          obtain ⟨rfl, xs, hrow, k1, k2, k3⟩ := hk9
          have hu := h4 S' s'.h (fun _ h => h) sim' 0 _ u rfl rfl
          obtain ⟨_, n, cp, ad, ti, q1, q2, _, q3, q4, hv⟩ := hu.vw_inv hrow
          have hh := sim'.hp i trivial
          rw [hrow] at hh
          have hh : RowRep C.P w' (PRep S' w') e xs (rho' i) := hh
          have hlive : (s'.h i).live := by rw [hrow]; trivial
          have hblk : ∀ g, blk u = some g → blk (rho' i) = some g := by
            intro g hg
            rw [hv] at hg
            rw [q1]
            split at hg
            · cases ad <;> exact hg
            · cases ad with
              | none => cases hg
              | some a0 =>
                simp only [Option.map_some, Nat.zero_mul, Addr.add, if_pos] at hg
                exact hg
          refine outer S' s'.h u sim' hrun1 ⟨?_, fun g hg => (sim'.lvb i g trivial hlive (hblk g hg)).2.1⟩ k3 fun g _ hg0 => ?_
          · rw [k1]
            exact RowRep.front hh q1 q3 (by rw [hv]; simp [Addr.add])
          · have hg : blk u = some g := hasB_plain rfl hg0
            obtain ⟨l1, l2, l3⟩ := sim'.lvb i g trivial hlive (hblk g hg)
            refine ⟨l1, l3.symm, fun n hkb => ?_⟩
            obtain ⟨i', _, m1, m2, m3⟩ := (fk S' s'.h sim' k3).2.1 n g hkb
            have := sim'.dj i i' g trivial trivial hlive m1 (.inl (hblk g hg)) m2
            subst this
            rw [k2] at m3
            cases m3
        · split at hk
          case h_2 => exact hk.elim
          rename_i ti hT
          split at hk
          case h_2 => exact hk.elim
          rename_i hpos
          obtain ⟨k1, k3⟩ := hk
          subst k1
          obtain ⟨info, z, g1, g2, _⟩ := hC.tab e ti hT
          have hu := h4 S' s'.h (fun _ h => h) sim' 0 _ u rfl rfl
          have hu' : u = .slice none 0 0 := by cases hu; rfl
          subst hu'
          exact outer S' s'.h _ sim' hrun1 ⟨⟨info, [], g1, by have := Nat.le_of_ble_eq_true hpos; omega, World.ownsRow_nil _ _ _ _, by simp, by simp, by simp⟩, fun g hg => by cases hg⟩ k3 fun g _ hg => by cases hasB_plain rfl hg
        · exact hk.elim
      · exact hk.elim
    | hown cs =>
      simp only at hk
      split at hk
      · rename_i av
        obtain ⟨u, rfl⟩ : ∃ u, us = [u] := by
          match us, h1 with
          | [u], _ => exact ⟨u, rfl⟩
        have hrun1 : (results fn a'.tmps).run C.P w' = .ok u w' := hrun
        split at hk
        · rename_i i off
          cases off with
          | succ n => exact hk.elim
          | zero =>
            obtain ⟨k1, k2, k3⟩ := hk
            have hu := h4 S' s'.h (fun _ h => h) sim' 0 _ u rfl rfl
            obtain ⟨_, g0, hg0, hv⟩ := hu.bx_inv (by rw [k1]; trivial)
            have hvv : u = rho' i := by rw [hv, hg0]
            have hh := sim'.hp i trivial
            rw [k1] at hh
            obtain ⟨g1, ty, c, e1, e2⟩ := hh
            have hlive : (s'.h i).live := by rw [k1]; trivial
            have hbb : ∀ k, hasB w' (.hbox cs) u k → hasB w' (s'.h i) (rho' i) k := fun k hk => by rw [k1, ← hvv]; exact hk
            refine outer S' s'.h u sim' hrun1 ⟨g1, ty, c, by rw [hvv]; exact e1, e2, fun k hk => (sim'.lv i k trivial hlive (hbb k hk)).2.1⟩ k3 fun g _ hg => ?_
            have hg' := hbb g hg
            obtain ⟨l1, l2, l3⟩ := sim'.lv i g trivial hlive hg'
            refine ⟨l1, l3.symm, fun n hkb => ?_⟩
            obtain ⟨i', _, m1, m2, m3⟩ := (fk S' s'.h sim' k3).2.1 n g hkb
            have := sim'.dj i i' g trivial trivial hlive m1 hg' m2
            subst this
            rw [k2] at m3
            cases m3
        · exact hk.elim
      · exact hk.elim
    | p x =>
      simp only at hk
      split at hk
      · rename_i av
        obtain ⟨u, rfl⟩ : ∃ u, us = [u] := by
          match us, h1 with
          | [u], _ => exact ⟨u, rfl⟩
        have hrun1 : (results fn a'.tmps).run C.P w' = .ok u w' := hrun
        obtain ⟨y, fz, S2, ⟨rfl, hfin⟩, sim2, hp, hSS, _, _⟩ := toPV_sim hC (s := ⟨s'.t, s'.h⟩) sim' (Frz.refl s'.h) (h4 S' s'.h (fun _ h => h) sim' 0 _ u rfl rfl) hk
        exact outer S2 _ u sim2 hrun1 hp hfin (fun g h => by cases h)
      · exact hk.elim
    | tu xs =>
      simp only at hk
      split at hk
      · exact hk.elim
      · rename_i hne
        obtain ⟨ys, h', S2, ⟨rfl, hfin⟩, sim2, hSS, hlen, hp⟩ := frzAll_sim hC avs us S' s'.h h1 sim' (fun S2 h2 hS sim2 => h4 S2 h2 hS sim2) hk
        have hus : us.toArray.size ≠ 1 := by
          intro e
          have e1 : us.length = 1 := by simpa using e
          obtain ⟨q, hq⟩ := List.length_eq_one_iff.1 (h1.trans e1)
          exact hne q hq
        rw [dif_neg hus] at hrun
        refine outer S2 h' _ sim2 hrun ⟨us.toArray, rfl, by simpa using hlen, fun i x u hx hu => hp i x u hx (by simpa using hu)⟩ hfin (fun g h => by cases h)
  cases e with
  | normal => exact fin' hk
  | ret => exact fin' hk
  | exit id => exact hk.elim
  | goto l => exact hk.elim
  | panic c => exact hk.elim
  | outgrown => exact hk.elim
end Go.AM
