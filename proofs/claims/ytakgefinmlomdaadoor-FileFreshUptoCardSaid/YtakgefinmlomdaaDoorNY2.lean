/- Joined: N1 N9 NB NC. -/
import Derived.Test.YtakgefinmlomdaaDoorRB
import Derived.Test.YtakgefinmlomdaaDoorNY1
/- OWN LIBRARY: contracts whose answer is a struct with an own slice among its fields. -/
set_option linter.unusedVariables false
set_option linter.unusedSimpArgs false
set_option maxRecDepth 100000
namespace Go.Proofs.YtakgefinmlomdaaDoor.Abs
open Go

/-- As Meets; how the values that are told make up the answer is told apart. -/
def MeetsK (P : Program) (f : FuncId) (args rs : List AV) (pk : List Value → Value) : Prop :=
  ∀ (X : Ctx) (σ : Env) (vals : Array Value), R X ⟨svs 1000 args, blks 1000 args, ⟨1, [], 0⟩⟩ σ X.w0 ⟨vals, []⟩ →
    Calls P f vals X.w0 fun e w' => ∃ vs σ', e = .returned (pk vs) ∧ R X ⟨svs 0 rs, blks 0 rs, ⟨1, [], 0⟩⟩ σ' w' ⟨vs.toArray, []⟩

def callKS (pkS : List SV → SV) (s : St) (d : Nat) (arz : List Operand) (fs rs : List AV) : St :=
  ⟨s.t.set d (pkS (impT (nm (s.c.o + d)) s.c.c 0 rs)), impB (nm (s.c.o + d)) s.c.c 0 rs (delL s.b (ownN (argS s.t arz) fs)), ⟨s.c.c, impN (nm (s.c.o + d)) 0 rs ++ s.c.d, s.c.o⟩⟩

section
variable {P : Program} {T : Tab} {X : Ctx} {s : St} {σ : Env} {w : World} {a : Act}

theorem callK_R (hR : R X s σ w a) {pk : List Value → Value} {pkS : List SV → SV} {f : FuncId} {arz : List Operand} {fs rs : List AV} {d : Nat} (hM : MeetsK P f fs rs pk) (hpk : ∀ base g b c σ w vs, All1 X b c σ w (impT base g 0 rs) vs → V2 X b c σ w (pkS (impT base g 0 rs)) (pk vs)) (hp : callP s d arz fs rs) :
    Calls P f (arz.map a.eval).toArray w fun e w' => ∃ v σ', e = .returned v ∧ R X (callKS pkS s d arz fs rs) σ' w' (a.put (some d) v) ∧ Tr X s.b s.c σ w (callKS pkS s d arz fs rs).b (callKS pkS s d arz fs rs).c σ' w' := by
  obtain ⟨hgd, hm, hnd, hbare, hnew⟩ := hp
  have hbl : ∀ n g y, fnd s.b n = some (g, y) → BlkOk X s.b s.c σ w n y := fun n g y hy => (hR.bl n g y hy).2.1
  generalize hxs : argS s.t arz = xs at hm hnd
  have hown : ∀ n, n ∈ ownN xs fs → ∃ g z, fnd s.b n = some (g, z) := by
    intro n hn
    obtain ⟨j, g, seg, e, off, len, dd, h1, h2⟩ := mem_ownN hn
    obtain ⟨x, h3, h4⟩ := mAs_get hm h2
    rw [h1] at h3
    simp only [Option.some.injEq] at h3
    subst h3
    simp only [mA] at h4
    cases eb : blkAt s.b n g with
    | none => simp [eb] at h4
    | some z => exact ⟨g, z, blkAt_fnd eb⟩
  let mt' : Nat → Prop := fun B => ∃ n, n ∈ ownN xs fs ∧ σ n = some B
  let X' : Ctx := ⟨w, mt', fun B => B < w.heap.size ∧ ¬ mt' B⟩
  let σ1 : Env := fun m => if 1000 ≤ m then (match xs[m - 1000]? with | some (.sl n _ _ _ _ _) => σ n | _ => none) else none
  have notVw : ∀ t B, Vw X s.b σ w t B → ¬ mt' B := by
    rintro t B hv ⟨n, hn, hs⟩
    obtain ⟨g, z, hz⟩ := hown n hn
    rcases hv.2 with ⟨_, h⟩ | ⟨_, h⟩
    · obtain ⟨h1, h2⟩ := hR.ro B h
      rcases ((hR.bl n g z hz).2.2 B hs).2 with h3 | h3
      · exact h2 h3
      · omega
    · exact h ⟨n, _, hz, hs⟩
  have E1 : ∀ t B, Vw X s.b σ w t B → Vw X' (blks 1000 fs) σ1 w false B := fun t B hv => ⟨hv.1, .inl ⟨rfl, hv.1, notVw t B hv⟩⟩
  have E2 : ∀ n g B z, n ∉ ownN xs fs → fnd s.b n = some (g, z) → σ n = some B → Vw X' (blks 1000 fs) σ1 w false B := by
    intro n g B z hn hz hs
    have hB := ((hR.bl n g z hz).2.2 B hs).1
    refine ⟨hB, .inl ⟨rfl, hB, ?_⟩⟩
    rintro ⟨m, hm', hs'⟩
    obtain ⟨g', z', hz'⟩ := hown m hm'
    exact hn (hR.inj n m _ _ B hz hz' hs hs' ▸ hm')
  have hlen : arz.length = fs.length := by rw [← mAs_len hm, ← hxs]; simp [argS]
  have hσ1 : ∀ j, σ1 (1000 + j) = (match xs[j]? with | some (.sl n _ _ _ _ _) => σ n | _ => none) := by
    intro j
    simp only [σ1]
    rw [if_pos (by omega), show 1000 + j - 1000 = j by omega]
  have hgl : ∀ g k l, GT g = some (k, l) → X'.ro g ∧ ∀ i, i < l.length → w.cell? ⟨g, i, none⟩ = some (.int k (l.getD i 0)) := by
    intro g k l h
    obtain ⟨h1, h2⟩ := hR.gl g k l h
    obtain ⟨h3, h4⟩ := hR.ro g h1
    refine ⟨⟨Nat.lt_of_lt_of_le h3 hR.fr.1, ?_⟩, fun i hi => ?_⟩
    · rintro ⟨n, hn, hs⟩
      obtain ⟨g', z, hz⟩ := hown n hn
      rcases ((hR.bl n g' z hz).2.2 g hs).2 with h5 | h5
      · exact h4 h5
      · omega
    · rw [cell_of_heap (hR.fr.2 g h3 h4)]
      exact h2 i hi
  -- the callee's begin
  have hentry : R X' ⟨svs 1000 fs, blks 1000 fs, ⟨1, [], 0⟩⟩ σ1 w ⟨(arz.map a.eval).toArray, []⟩ := by
    refine ⟨by simp [svs_length, hlen], ?_, rfl, ?_, ?_, ⟨Nat.le_refl _, fun _ _ _ => rfl⟩, ⟨rfl, rfl, rfl⟩, fun B h => h, hgl⟩
    · intro j hj
      rw [svs_length] at hj
      obtain ⟨y, hy⟩ : ∃ y, fs[j]? = some y := ⟨fs[j], by simp [hj]⟩
      obtain ⟨x, hx, hma⟩ := mAs_get hm hy
      obtain ⟨v, hv, hV⟩ := evals hR hgd (by rw [hxs]; exact hx)
      have e1 : (svs 1000 fs).getD j .any = y.sv (1000 + j) := by simp [List.getD, svs_get, hy]
      have e2 : (arz.map a.eval).toArray.getD j undef = v := by
        have : (arz.map a.eval).toArray[j]? = some v := by rw [List.getElem?_toArray]; exact hv
        rw [Array.getD_eq_getD_getElem?, this]; rfl
      show V X' (blks 1000 fs) ⟨1, [], 0⟩ σ1 w ((svs 1000 fs).getD j .any) ((arz.map a.eval).toArray.getD j undef)
      rw [e1, e2]
      cases y with
      | v y =>
        refine V_of_V2 (V2_of_V1 ?_)
        have gen : mA0 s.b (ownN xs fs) x y → V0 X s.b s.c σ w x v → V1 X' (blks 1000 fs) ⟨1, [], 0⟩ σ1 w y v := fun h1 h2 => V1_of_V0 (mA0_ok h1 h2 E1 E2 hbl)
        cases x <;> cases y <;> simp only [mA] at hma <;> (try (exact gen hma hV)) <;> try (simp only [mA0, mB0] at hma; done)
        case arr.arr => obtain ⟨rfl, rfl, rfl⟩ := hma; exact hV
        case agg.agg l l' =>
          obtain ⟨cs, rfl, hcs⟩ := hV
          exact ⟨cs, rfl, mAl_ok E1 E2 hbl hma hcs⟩
      | own dd =>
        refine ⟨.inl Nat.zero_lt_one, fun _ => ?_⟩
        rw [hσ1, hx]
        cases x <;> simp only [mA] at hma
        case nil =>
          rw [show v = _ from hV]
          exact ⟨none, 0, by rw [hma], by omega, fun h => absurd rfl h⟩
        case sl n g seg e off len =>
          cases eb : blkAt s.b n g <;> simp only [eb] at hma
          rename_i bk
          cases bk <;> simp only at hma
          obtain ⟨h1, rfl, rfl, rfl, rfl⟩ := hma
          obtain ⟨_, hl⟩ := hV
          exact hl (blkAt_live eb)
    · intro n g x hx
      obtain ⟨j, dd, rfl, hy, hx'⟩ := fnd_blks hx
      simp only [Prod.mk.injEq] at hx'
      obtain ⟨rfl, rfl⟩ := hx'
      refine ⟨.inl Nat.zero_lt_one, ?_⟩
      obtain ⟨x, hx2, hma⟩ := mAs_get hm hy
      show BlkOk X' (blks 1000 fs) ⟨1, [], 0⟩ σ1 w (1000 + j) (.vec dd) ∧ ∀ B, σ1 (1000 + j) = some B → B < w.heap.size ∧ (mt' B ∨ w.heap.size ≤ B)
      simp only [BlkOk, hσ1, hx2]
      cases x <;> simp only [mA] at hma
      case nil => exact ⟨.inl ⟨rfl, hma⟩, fun B hB => by simp at hB⟩
      case sl n g seg e off len =>
        cases eb : blkAt s.b n g <;> simp only [eb] at hma
        rename_i bk
        cases bk <;> simp only at hma
        obtain ⟨rfl, _⟩ := hma
        have hfnd := blkAt_fnd eb
        have hmem : n ∈ ownN xs fs := by
          have : ∀ {xs : List SV} {fs : List AV} {j : Nat} {dd : Data}, xs[j]? = some (.sl n g seg e off len) → fs[j]? = some (.own dd) → n ∈ ownN xs fs := by
            intro xs
            induction xs with
            | nil => intro fs j dd h _; simp at h
            | cons x xs ih =>
              intro fs j dd h h'
              cases fs with
              | nil => simp at h'
              | cons y fs =>
                cases j with
                | zero =>
                  simp only [List.getElem?_cons_zero, Option.some.injEq] at h h'
                  subst h; subst h'; simp [ownN]
                | succ j =>
                  have := ih (fs := fs) (j := j) (by simpa using h) (by simpa using h')
                  cases x <;> cases y <;> simp only [ownN, List.mem_cons] <;> first | exact this | exact .inr this
          exact this hx2 hy
        refine ⟨?_, fun B hB => ⟨((hR.bl n g _ hfnd).2.2 B hB).1, .inl ⟨n, hmem, hB⟩⟩⟩
        rcases hbl n g _ hfnd with ⟨h1, h2⟩ | ⟨B, cs, ty, fr, h1, h2, h3, h4, h5, h6⟩
        · exact .inl ⟨h1, by rw [lowD_len]; exact h2⟩
        · exact .inr ⟨B, cs, ty, fr, h1, h2, h3, by rw [lowD_len, lowD_esz]; exact h4, low_holds h5 E1, h6.low⟩
    · intro n m x y B hx hy hs1 hs2
      obtain ⟨j, dd, rfl, hj, _⟩ := fnd_blks hx
      obtain ⟨j', dd', rfl, hj', _⟩ := fnd_blks hy
      obtain ⟨x1, hx1, hm1⟩ := mAs_get hm hj
      obtain ⟨x2, hx2, hm2⟩ := mAs_get hm hj'
      rw [hσ1, hx1] at hs1
      rw [hσ1, hx2] at hs2
      cases x1 <;> simp only [reduceCtorEq] at hs1
      cases x2 <;> simp only [reduceCtorEq] at hs2
      rename_i n1 g1 _ _ _ _ n2 g2 _ _ _ _
      simp only [mA] at hm1 hm2
      cases eb1 : blkAt s.b n1 g1 <;> simp only [eb1] at hm1
      cases eb2 : blkAt s.b n2 g2 <;> simp only [eb2] at hm2
      have := hR.inj n1 n2 _ _ B (blkAt_fnd eb1) (blkAt_fnd eb2) hs1 hs2
      subst this
      rw [own_inj hnd hx1 hj hx2 hj']
  refine (hM X' σ1 _ hentry).mono ?_
  rintro e w' ⟨vs, σ2, rfl, hR2⟩
  have hvl : vs.length = rs.length := by have := hR2.sz; simpa [svs_length] using this
  let base := nm (s.c.o + d)
  let σ3 : Env := fun m => if base ≤ m then (match rs[m - base]? with | some (.own _) => σ2 (m - base) | _ => σ m) else σ m
  have hσ3 : ∀ j dd, rs[j]? = some (.own dd) → σ3 (base + j) = σ2 j := by
    intro j dd h
    simp only [σ3]
    rw [if_pos (by omega), show base + j - base = j by omega, h]
  have hσ3' : ∀ m, (∀ j dd, rs[j]? = some (.own dd) → m ≠ base + (0 + j)) → σ3 m = σ m := by
    intro m h
    simp only [σ3]
    split
    · rename_i hle
      cases e : rs[m - base]? with
      | none => rfl
      | some y =>
        cases y with
        | v _ => rfl
        | own dd => exact absurd (by omega) (h (m - base) dd e)
    · rfl
  let b3 := impB base s.c.c 0 rs (delL s.b (ownN xs fs))
  let c3 : Lim := ⟨s.c.c, impN base 0 rs ++ s.c.d, s.c.o⟩
  have hb3 : ∀ m x, fnd b3 m = some x → (∃ j dd, m = base + j ∧ rs[j]? = some (.own dd) ∧ x = (s.c.c, .vec dd) ∧ σ3 m = σ2 j) ∨ (σ3 m = σ m ∧ m ∉ ownN xs fs ∧ fnd s.b m = some x) := by
    intro m x h
    rcases fnd_impB h with ⟨j, dd, h1, h2, h3⟩ | ⟨h1, h2⟩
    · exact .inl ⟨j, dd, by omega, h2, h3, by rw [h1, Nat.zero_add]; exact hσ3 j dd h2⟩
    · obtain ⟨h3, h4⟩ := fnd_delL h2
      exact .inr ⟨hσ3' m h1, h3, h4⟩
  have hold : ∀ B, B < w.heap.size → ¬ mt' B → w'.heap[B]? = w.heap[B]? := fun B h1 h2 => hR2.fr.2 B h1 h2
  have hnmt : ∀ m g z B, m ∉ ownN xs fs → fnd s.b m = some (g, z) → σ m = some B → B < w.heap.size ∧ ¬ mt' B := by
    intro m g z B h1 h2 h3
    refine ⟨((hR.bl m g z h2).2.2 B h3).1, ?_⟩
    rintro ⟨n, hn, hs⟩
    obtain ⟨g', z', hz'⟩ := hown n hn
    exact h1 (hR.inj m n _ _ B h2 hz' h3 hs ▸ hn)
  have hok3 : ∀ n g, s.c.ok n g → c3.ok n g := fun n g h => h.imp id fun ⟨h1, h2⟩ => ⟨h1, List.mem_append_right _ h2⟩
  have hsz2 : w.heap.size ≤ w'.heap.size := hR2.fr.1
  have T3 : Tr X s.b s.c σ w b3 c3 σ3 w' := by
    refine ⟨hok3, ?_, ?_, ?_⟩
    · rintro m g ⟨z, hz⟩ hok
      rcases hb3 m _ hz with ⟨j, dd, rfl, h2, h3, _⟩ | ⟨h1, _, h3⟩
      · exfalso
        simp only [Prod.mk.injEq] at h3
        have hmem := mem_impN (base := base) (l := rs) (i := 0) h2
        rw [Nat.zero_add] at hmem
        have hni := allNotIn_ok hnew _ hmem
        rw [h3.1] at hok
        exact Lim.not_new hni hok
      · exact ⟨⟨z, h3⟩, h1⟩
    · intro tag B hv
      have hnm := notVw tag B hv
      refine ⟨hold B hv.1 hnm, Nat.lt_of_lt_of_le hv.1 hsz2, ?_⟩
      rcases hv.2 with h | ⟨h1, h2⟩
      · exact .inl h
      · refine .inr ⟨h1, ?_⟩
        rintro ⟨m, z, hz, hs⟩
        rcases hb3 m _ hz with ⟨j, dd, rfl, h3, _, h4⟩ | ⟨h3, h4, h5⟩
        · rw [h4] at hs
          have := (hR2.bl j 0 (.vec dd) (by have := fnd_blks_own (i := 0) h3; rwa [Nat.zero_add] at this)).2.2 B hs
          rcases this.2 with h6 | h6
          · exact hnm h6
          · exact absurd hv.1 (Nat.not_lt.2 h6)
        · rw [h3] at hs
          exact h2 ⟨m, z, h5, hs⟩
    · rintro m g B ⟨z, hz⟩ hok hs
      rcases hb3 m _ hz with ⟨j, dd, rfl, h2, h3, _⟩ | ⟨h1, h4, h3⟩
      · exfalso
        simp only [Prod.mk.injEq] at h3
        have hmem := mem_impN (base := base) (l := rs) (i := 0) h2
        rw [Nat.zero_add] at hmem
        have hni := allNotIn_ok hnew _ hmem
        rw [h3.1] at hok
        exact Lim.not_new hni hok
      · obtain ⟨h5, h6⟩ := hnmt m g z B h4 h3 hs
        simp only [blockSize, hold B h5 h6]; exact Nat.le_refl _
  have hVw : ∀ B, Vw X' (blks 0 rs) σ2 w' true B → Vw X b3 σ3 w' true B := by
    intro B hv
    rcases hv.2 with ⟨h, _⟩ | ⟨h1, h2⟩
    · simp at h
    · have hin : X.mt B ∨ X.w0.heap.size ≤ B := by
        rcases h1 with ⟨n, hn, hs1⟩ | h1
        · obtain ⟨g, z, hz⟩ := hown n hn
          exact ((hR.bl n g z hz).2.2 B hs1).2
        · exact .inr (Nat.le_trans hR.fr.1 h1)
      refine ⟨hv.1, .inr ⟨hin, ?_⟩⟩
      rintro ⟨m, z, hz, hs⟩
      rcases hb3 m _ hz with ⟨j, dd, rfl, h3, _, h4⟩ | ⟨h3, h4, h5⟩
      · rw [h4] at hs
        exact h2 ⟨j, _, by have := fnd_blks_own (i := 0) h3; rwa [Nat.zero_add] at this, hs⟩
      · rw [h3] at hs
        rcases h1 with ⟨n, hn, hs1⟩ | h1
        · obtain ⟨g', z', hz'⟩ := hown n hn
          exact h4 (hR.inj m n _ _ B h5 hz' hs hs1 ▸ hn)
        · have h6 := ((hR.bl m z.1 z.2 h5).2.2 B hs).1
          exact absurd h6 (Nat.not_lt.2 h1)
  refine ⟨pk vs, σ3, rfl, ?_⟩
  have hval : V X b3 c3 σ3 w' (pkS (impT base s.c.c 0 rs)) (pk vs) := by
    refine V_of_V2 (hpk _ _ _ _ _ _ _ (impT_all hvl ?_))
    intro j y v hy hv
    have hj : j < (svs 0 rs).length := by
      rw [svs_length]
      rcases Nat.lt_or_ge j rs.length with h | h
      · exact h
      · simp [List.getElem?_eq_none h] at hy
    have h1 := hR2.tm j hj
    have e1 : (svs 0 rs).getD j .any = y.sv (0 + j) := by simp [List.getD, svs_get, hy]
    have e2 : vs.toArray.getD j undef = v := by
      have : vs.toArray[j]? = some v := by simpa using hv
      rw [Array.getD_eq_getD_getElem?, this]; rfl
    have h1 : V X' (blks 0 rs) ⟨1, [], 0⟩ σ2 w' ((svs 0 rs).getD j .any) (vs.toArray.getD j undef) := h1
    rw [e1, e2] at h1
    cases y with
    | v x => exact bare_tr (bares_get hbare hy) h1 hVw
    | own dd =>
      simp only [AV.sv, Nat.zero_add] at h1 ⊢
      obtain ⟨_, hl⟩ := h1
      obtain ⟨ad, cap, h2, h3, h4⟩ := hl ⟨_, by have := fnd_blks_own (i := 0) hy; rwa [Nat.zero_add] at this⟩
      refine ⟨.inr ⟨rfl, List.mem_append_left _ (by have := mem_impN (base := base) (l := rs) (i := 0) hy; rwa [Nat.zero_add] at this)⟩, fun _ => ⟨ad, cap, h2, h3, fun hc => ?_⟩⟩
      obtain ⟨B, hB, h5, h6⟩ := h4 hc
      exact ⟨B, by rw [hσ3 j dd hy]; exact hB, h5, h6⟩
  have ht := put_tm (dst := some d) hR.sz (fun i hi => (hR.tm i hi).tr T3) hval
  simp only [callKS, hxs]
  refine ⟨?_, T3⟩
  refine ⟨ht.1, ht.2, hR.df, ?_, ?_, ?_, ?_, hR.ro, hR.gl⟩
  · intro m g z hz
    rcases hb3 m _ hz with ⟨j, dd, rfl, h2, h3, h4⟩ | ⟨h1, h4, h3⟩
    · simp only [Prod.mk.injEq] at h3
      obtain ⟨rfl, rfl⟩ := h3
      have hf2 : fnd (blks 0 rs) j = some (0, .vec dd) := by have := fnd_blks_own (i := 0) h2; rwa [Nat.zero_add] at this
      obtain ⟨_, h5, h6⟩ := hR2.bl j 0 (.vec dd) hf2
      refine ⟨.inr ⟨rfl, List.mem_append_left _ (by have := mem_impN (base := base) (l := rs) (i := 0) h2; rwa [Nat.zero_add] at this)⟩, ?_, ?_⟩
      · show BlkOk X b3 c3 σ3 w' (base + j) (.vec dd)
        simp only [BlkOk, h4]
        rcases h5 with h7 | ⟨B, cs, ty, fr, h7, h8, h9, h10, h11, h12⟩
        · exact .inl h7
        · exact .inr ⟨B, cs, ty, fr, h7, h8, h9, h10, bareD_holds (bares_get hbare h2) h11 hVw, h12⟩
      · intro B hB
        show B < w'.heap.size ∧ _
        have hB' : σ3 (base + j) = some B := hB
        rw [h4] at hB'
        obtain ⟨h7, h8⟩ := h6 B hB'
        refine ⟨h7, ?_⟩
        rcases h8 with ⟨n, hn, hs⟩ | h8
        · obtain ⟨g', z', hz'⟩ := hown n hn
          exact ((hR.bl n g' z' hz').2.2 B hs).2
        · exact .inr (Nat.le_trans hR.fr.1 h8)
    · obtain ⟨h5, h6, h7⟩ := hR.bl m g z h3
      refine ⟨hok3 _ _ h5, h6.tr T3 h1 (fun B hB => ?_), fun B hB => ?_⟩
      · obtain ⟨h8, h9⟩ := hnmt m g z B h4 h3 hB
        exact hold B h8 h9
      · have hB' : σ3 m = some B := hB
        rw [h1] at hB'
        obtain ⟨h8, h9⟩ := h7 B hB'
        exact ⟨by show B < w'.heap.size; omega, h9⟩
  · intro m m' y y' B hy hy' hs hs'
    have hs : σ3 m = some B := hs
    have hs' : σ3 m' = some B := hs'
    rcases hb3 m _ hy with ⟨j, dd, rfl, h2, h3, h4⟩ | ⟨h1, h4, h3⟩ <;> rcases hb3 m' _ hy' with ⟨j', dd', rfl, h2', h3', h4'⟩ | ⟨h1', h4', h3'⟩
    · rw [h4] at hs; rw [h4'] at hs'
      have := hR2.inj j j' _ _ B (by have := fnd_blks_own (i := 0) h2; rwa [Nat.zero_add] at this) (by have := fnd_blks_own (i := 0) h2'; rwa [Nat.zero_add] at this) hs hs'
      omega
    · exfalso
      rw [h4] at hs; rw [h1'] at hs'
      obtain ⟨h8, h9⟩ := hnmt m' y'.1 y'.2 B h4' h3' hs'
      rcases ((hR2.bl j 0 (.vec dd) (by have := fnd_blks_own (i := 0) h2; rwa [Nat.zero_add] at this)).2.2 B hs).2 with h | h
      · exact h9 h
      · exact absurd h8 (Nat.not_lt.2 h)
    · exfalso
      rw [h1] at hs; rw [h4'] at hs'
      obtain ⟨h8, h9⟩ := hnmt m y.1 y.2 B h4 h3 hs
      rcases ((hR2.bl j' 0 (.vec dd') (by have := fnd_blks_own (i := 0) h2'; rwa [Nat.zero_add] at this)).2.2 B hs').2 with h | h
      · exact h9 h
      · exact absurd h8 (Nat.not_lt.2 h)
    · rw [h1] at hs; rw [h1'] at hs'
      exact hR.inj m m' y y' B h3 h3' hs hs'
  · refine ⟨Nat.le_trans hR.fr.1 hsz2, fun B hB hm' => ?_⟩
    rw [← hR.fr.2 B hB hm']
    refine hold B (Nat.lt_of_lt_of_le hB hR.fr.1) ?_
    rintro ⟨n, hn, hs⟩
    obtain ⟨g', z', hz'⟩ := hown n hn
    rcases ((hR.bl n g' z' hz').2.2 B hs).2 with h | h
    · exact hm' h
    · omega
  · obtain ⟨h1, h2, h3⟩ := hR2.st
    obtain ⟨g1, g2, g3⟩ := hR.st
    exact ⟨h1.trans g1, h2.trans g2, h3.trans g3⟩

/-- One cell, no numbers in a row. -/
def flat0 : SV → Bool
  | .arr _ _ _ => false
  | _ => true

/-- A struct and a number: the struct in three parts, one of its cells an own slice. -/
def pkA : List Value → Value
  | [.agg p, x, .agg q, v] => .tuple #[.agg (p ++ #[x] ++ q), v]
  | _ => undef
def pkAS : List SV → SV
  | [.agg p, x, .agg q, y] => .tup [.agg (p ++ x :: q), y]
  | _ => .any

theorem CellsOk.app {b : List (Nat × Nat × Blk)} {c : Lim} : ∀ {l m : List SV} {cs ds : List Value}, CellsOk X b c σ w l cs → CellsOk X b c σ w m ds → CellsOk X b c σ w (l ++ m) (cs ++ ds) := by
  intro l
  induction l with
  | nil => intro m cs ds h k; have h : cs = [] := h; subst h; exact k
  | cons x l ih =>
    intro m cs ds h k
    cases x with
    | arr kd n q => obtain ⟨h1, cs', rfl, h2⟩ := h; exact ⟨h1, cs' ++ ds, by simp, ih h2 k⟩
    | _ => obtain ⟨v, cs', rfl, h1, h2⟩ := h; exact ⟨v, cs' ++ ds, rfl, h1, ih h2 k⟩

theorem CellsOk.parts {b : List (Nat × Nat × Blk)} {c : Lim} : ∀ {l m : List SV} {cs : List Value}, CellsOk X b c σ w (l ++ m) cs → ∃ c1 c2, cs = c1 ++ c2 ∧ CellsOk X b c σ w l c1 ∧ CellsOk X b c σ w m c2 := by
  intro l
  induction l with
  | nil => intro m cs h; exact ⟨[], cs, rfl, rfl, h⟩
  | cons x l ih =>
    intro m cs h
    cases x with
    | arr kd n q =>
      obtain ⟨h1, cs', rfl, h2⟩ := h
      obtain ⟨c1, c2, rfl, h3, h4⟩ := ih h2
      exact ⟨_, c2, by rw [← List.append_assoc], ⟨h1, c1, rfl, h3⟩, h4⟩
    | _ =>
      obtain ⟨v, cs', rfl, h1, h2⟩ := h
      obtain ⟨c1, c2, rfl, h3, h4⟩ := ih h2
      exact ⟨v :: c1, c2, rfl, ⟨v, c1, rfl, h1, h3⟩, h4⟩

theorem pkA_ok {pre post : List SV} {y : SV} {d : Data} (base g : Nat) (b : List (Nat × Nat × Blk)) (c : Lim) (σ : Env) (w : World) (vs : List Value)
    (h : All1 X b c σ w (impT base g 0 [.v (.agg pre), .own d, .v (.agg post), .v y]) vs) : V2 X b c σ w (pkAS (impT base g 0 [.v (.agg pre), .own d, .v (.agg post), .v y])) (pkA vs) := by
  obtain ⟨v1, r1, rfl, ⟨c1, rfl, h1⟩, v2, r2, rfl, h2, v3, r3, rfl, ⟨c3, rfl, h3⟩, v4, r4, rfl, h4, h5⟩ := h
  have h5 : r4 = [] := h5
  subst h5
  refine ⟨_, rfl, .agg (c1 ++ #[v2] ++ c3), [v4], rfl, ⟨_, rfl, ?_⟩, v4, [], rfl, h4, rfl⟩
  have e : (c1 ++ #[v2] ++ c3).toList = c1.toList ++ (v2 :: c3.toList) := by simp
  rw [e]
  exact CellsOk.app h1 ⟨v2, _, rfl, h2, h3⟩

def retPK (T : Tab) (rv : Array ResultVar) (k : Nat) (rs : List AV) (s : St) : Prop :=
  match rv.toList.map (resV T s) with
  | [some (p, .agg l), some (q, y)] => p ∧ q ∧ k < l.length ∧ flat0 (l.getD k .any) = true ∧ retQ s [.agg (l.take k), l.getD k .any, .agg (l.drop (k + 1)), unc y] rs
  | _ => False

theorem retPK_ok (TO : TabOk P T) (hR : R X s σ w a) {fn : Func} {k : Nat} {rs : List AV} (h : retPK T fn.results k rs s) :
    ∃ vs σ', (results fn a.tmps).run P w = .ok (pkA vs) w ∧ R X ⟨svs 0 rs, blks 0 rs, ⟨1, [], 0⟩⟩ σ' w ⟨vs.toArray, []⟩ := by
  unfold retPK at h
  obtain ⟨rv, hrv⟩ : ∃ l : List ResultVar, fn.results = l.toArray := ⟨fn.results.toList, by simp⟩
  rw [hrv] at h
  match rv, hrv with
  | [], hrv => simp only [List.map_nil] at h
  | [r1], hrv =>
    simp only [List.map_cons, List.map_nil] at h
    cases e1 : resV T s r1 <;> simp only [e1] at h
  | [r1, r2], hrv =>
    simp only [List.map_cons, List.map_nil] at h
    cases e1 : resV T s r1 <;> simp only [e1] at h
    rename_i q1
    obtain ⟨p1, x1⟩ := q1
    cases e2 : resV T s r2 with
    | none => rw [e2] at h; split at h <;> simp_all
    | some q2 =>
    obtain ⟨p2, y⟩ := q2
    rw [e2] at h
    cases x1 <;> simp only at h
    rename_i l
    obtain ⟨h1, h2, hk, hf, hq⟩ := h
    obtain ⟨v1, hr1, hv1⟩ := resV_ok TO hR e1 h1
    obtain ⟨v2, hr2, hv2⟩ := resV_ok TO hR e2 h2
    obtain ⟨cs, rfl, hcs⟩ := hv1
    have el : l = l.take k ++ (l.getD k .any :: l.drop (k + 1)) := by
      conv => lhs; rw [← List.take_append_drop k l]
      rw [List.drop_eq_getElem_cons hk]; simp [List.getD, hk]
    rw [el] at hcs
    obtain ⟨c1, c2, e3, hc1, hc2⟩ := CellsOk.parts hcs
    generalize l.getD k .any = x at *
    have hx : ∃ u r, c2 = u :: r ∧ V0 X s.b s.c σ w x u ∧ CellsOk X s.b s.c σ w (l.drop (k + 1)) r := by
      cases x <;> first | exact hc2 | (simp only [flat0, Bool.false_eq_true] at hf)
    obtain ⟨u, r, rfl, hu, hr⟩ := hx
    obtain ⟨σ', h'⟩ := retQ_ok hR hq (vs := [.agg c1.toArray, u, .agg r.toArray, v2]) rfl (fun j x' v h1 h2 => by
      match j, h1, h2 with
      | 0, h1, h2 => simp at h1 h2; subst h1; subst h2; exact ⟨_, rfl, by simpa using hc1⟩
      | 1, h1, h2 => simp at h1 h2; subst h1; subst h2; exact V_of_V2 (V2_of_V1 (V1_of_V0 hu))
      | 2, h1, h2 => simp at h1 h2; subst h1; subst h2; exact ⟨_, rfl, by simpa using hr⟩
      | 3, h1, h2 => simp at h1 h2; subst h1; subst h2; exact V_unc hv2
      | _ + 4, h1, h2 => simp at h1)
    refine ⟨_, σ', ?_, h'⟩
    rw [run_results2 hrv hr1 hr2]
    have e4 : cs = c1.toArray ++ #[u] ++ r.toArray := by apply Array.ext'; rw [e3]; simp
    rw [e4]; rfl
  | _ :: _ :: _ :: _, hrv =>
    exfalso
    simp only [List.map_cons] at h
    split at h <;> simp_all

theorem meetsK_go (TO : TabOk P T) (n k : Nat) {f : FuncId} {fn : Func} {c : Code} {args rs : List AV} (hf : P.funcs[f]? = some fn) (hb : fn.body = some c)
    (h : ∀ X, absRun P X T (retPK T fn.results k rs) n [.code c] ⟨svs 1000 args ++ List.replicate (fn.ntmps - args.length) .any, blks 1000 args, ⟨1, [], 0⟩⟩) : MeetsK P f args rs pkA := by
  intro X σ vals hR
  refine calls_of_fin hf hb ?_
  have hsz : vals.size = args.length := by have := hR.sz; simpa [svs_length] using this
  have hR2 : R X ⟨svs 1000 args ++ List.replicate (fn.ntmps - args.length) .any, blks 1000 args, ⟨1, [], 0⟩⟩ σ X.w0 { tmps := vals ++ Array.replicate (fn.ntmps - vals.size) undef, defers := [] } := by
    refine { hR with sz := by simp [svs_length, hsz], tm := fun i hi => ?_ }
    by_cases hlt : i < args.length
    · have h1 := hR.tm i (by rw [svs_length]; exact hlt)
      have e1 : (svs 1000 args ++ List.replicate (fn.ntmps - args.length) SV.any).getD i .any = (svs 1000 args).getD i .any := by
        simp only [List.getD]; rw [List.getElem?_append_left (by rw [svs_length]; exact hlt)]
      have e2 : (vals ++ Array.replicate (fn.ntmps - vals.size) undef).getD i undef = vals.getD i undef := by
        rw [Array.getD_eq_getD_getElem?, Array.getD_eq_getD_getElem?, Array.getElem?_append_left (by omega)]
      show V X (blks 1000 args) ⟨1, [], 0⟩ σ X.w0 ((svs 1000 args ++ List.replicate (fn.ntmps - args.length) SV.any).getD i .any) ((vals ++ Array.replicate (fn.ntmps - vals.size) undef).getD i undef)
      rw [e1, e2]; exact h1
    · have e1 : (svs 1000 args ++ List.replicate (fn.ntmps - args.length) SV.any).getD i .any = .any := by
        simp only [List.getD]; rw [List.getElem?_append_right (by rw [svs_length]; omega)]
        rw [List.getElem?_replicate]; split <;> rfl
      show V X (blks 1000 args) ⟨1, [], 0⟩ σ X.w0 ((svs 1000 args ++ List.replicate (fn.ntmps - args.length) SV.any).getD i .any) _
      rw [e1]; exact V.any _
  intro b cs
  obtain ⟨a', w', t', ⟨s', σ', hp, hR', _⟩, hs⟩ := absRun_ok TO n _ _ (h X) σ X.w0 _ hR2 b cs
  obtain ⟨vs, σ2, hr, hR3⟩ := retPK_ok TO hR' hp
  exact ⟨a', w', t', ⟨hR'.df, pkA vs, hr, vs, σ2, rfl, hR3⟩, hs⟩

/-- A call by such a contract. -/
theorem callK_go (TO : TabOk P T) (n : Nat) {ops : Array Oper} {o : Oper} {rest : List Oper} {k : List Item} {Φ : St → Prop} {f : FuncId} {fn : Func} {arz : Array Operand} {ts : Array TypeId} {d : Nat} {fs : List AV} {pre post : List SV} {y : SV} {dd : Data}
    (hM : MeetsK P f fs [.v (.agg pre), .own dd, .v (.agg post), .v y] pkA) (hf : P.funcs[f]? = some fn) (hname : (fn.name == "runtime.NumGoroutine") = false) (hb : fn.body.isSome = true)
    (ho : o.op = .call { callee := .value (.func f), args := arz, argTypes := ts }) (hd : o.dst = some d)
    (h : guardIs ops s.t true o.guard ∧ callP s d arz.toList fs [.v (.agg pre), .own dd, .v (.agg post), .v y] ∧ absOps P X T ops k Φ (absRun P X T Φ n k) rest (callKS pkAS s d arz.toList fs [.v (.agg pre), .own dd, .v (.agg post), .v y])) : HOps P X ops (o :: rest) k s Φ := by
  obtain ⟨hg, hp, h⟩ := h
  have hn := HOps_go TO n h
  intro i hi σ w a hR
  obtain ⟨ho', hrest⟩ := ops_at hi
  have hw : Region.wanted o (yielded ops a.tmps) = true := by
    cases e : o.guard with
    | none => simp [Region.wanted, e]
    | some jw => obtain ⟨j, w'⟩ := jw; rw [e] at hg; simp only [Region.wanted, e]; exact guardOf_ok hR hg
  rw [List.length_cons, List.range'_succ]
  refine Fins.opCall (f := f) (args := (arz.toList.map a.eval).toArray) (w' := w) ho' hw ?_ ?_
  · simp only [execOp, ho, resolve]
    have e1 : a.eval (.func f) = .func (.func f) #[] #[] := rfl
    have e2 : (arz.toList.map a.eval).toArray = arz.map a.eval := Array.ext' (by rw [Array.toList_map])
    simp [e1, Deferred.ofValue, invoke, run_callFunc hf hb hname, e2]
  · refine (callK_R (pkS := pkAS) hR hM (fun base g b c σ w vs hv => pkA_ok base g b c σ w vs hv) hp).mono ?_
    rintro e w' ⟨v, σ', rfl, hR', hT⟩
    exact ⟨v, rfl, by rw [hd]; exact (hn (i + 1) hrest).after hR' hT⟩

end

end Go.Proofs.YtakgefinmlomdaaDoor.Abs

/- OWN LIBRARY: of a contract whose answer bears an own slice: the one that tells the slice by value. -/
set_option linter.unusedVariables false
set_option linter.unusedSimpArgs false
set_option maxRecDepth 100000
namespace Go.Proofs.YtakgefinmlomdaaDoor.Abs
open Go

theorem MeetsK.view {P : Program} {f : FuncId} {args : List AV} {pre post : List SV} {l : List Int} {y : SV}
    (h : MeetsK P f args [.v (.agg pre), .own (.ints .u8 l), .v (.agg post), .v y] pkA) : Meets P f args [.v (.agg (pre ++ .view true (.ints .u8 l) :: post)), .v y] := by
  intro X σ vals hR
  refine (h X σ vals hR).mono ?_
  rintro e w' ⟨vs, σ', rfl, hR'⟩
  have hF := R_freeze (i := 1) (n := 1) (g := 0) (off := 0) (len := l.length) (k := .u8) (l := l) hR' (by simp [svs]) rfl rfl rfl (by omega)
  rw [List.drop_zero, List.take_length] at hF
  have hF : R X ⟨[.agg pre, .view true (.ints .u8 l), .agg post, y], [], ⟨1, [], 0⟩⟩ σ' w' ⟨vs.toArray, []⟩ := hF
  match vs, hF with
  | [v0, v1, v2, v3], hF =>
    obtain ⟨c1, e1, h1⟩ : ∃ cs, v0 = .agg cs ∧ _ := hF.tm 0 (by simp)
    obtain ⟨c3, e3, h3⟩ : ∃ cs, v2 = .agg cs ∧ _ := hF.tm 2 (by simp)
    have h2 : V0 X [] ⟨1, [], 0⟩ σ' w' (.view true (.ints .u8 l)) v1 := hF.tm 1 (by simp)
    have h4 : V X [] ⟨1, [], 0⟩ σ' w' y v3 := hF.tm 3 (by simp)
    subst e1 e3
    refine ⟨[.agg (c1 ++ #[v1] ++ c3), v3], σ', rfl, ?_⟩
    refine { hF with sz := rfl, tm := fun j hj => ?_, df := rfl }
    match j, hj with
    | 0, _ =>
      refine ⟨_, rfl, ?_⟩
      have e : (c1 ++ #[v1] ++ c3).toList = c1.toList ++ (v1 :: c3.toList) := by simp
      rw [e]
      exact CellsOk.app h1 ⟨v1, _, rfl, h2, h3⟩
    | 1, _ => exact h4
    | j + 2, hj => simp [svs] at hj; omega
  | [], hF => have := hF.sz; simp at this
  | [_], hF => have := hF.sz; simp at this
  | [_, _], hF => have := hF.sz; simp at this
  | [_, _, _], hF => have := hF.sz; simp at this
  | _ :: _ :: _ :: _ :: _ :: _, hF => have := hF.sz; simp at this

theorem subB_nil {b : List (Nat × Nat × Blk)} : SubB [] b := fun n x h => by simp only [fnd] at h; cases h
theorem subB_cons {b l : List (Nat × Nat × Blk)} {n g : Nat} {x : Blk} (h : fnd l n = some (g, x)) (hb : SubB b l) : SubB ((n, g, x) :: b) l := by
  intro m y hy
  simp only [fnd] at hy
  split at hy
  · rename_i e; subst e; rw [h]; exact hy
  · exact hb m y hy

def isPtr : SV → Bool
  | .ptr _ _ _ => true
  | _ => false

/-- A slice of pointers, made. -/
theorem buildP_ops {P : Program} {T : Tab} {X : Ctx} (TO : TabOk P T) {ops : Array Oper} {o : Oper} {rest : List Oper} {k : List Item} {s : St} {Φ : St → Prop} {t e : TypeId} {len d : Nat} {parts : Array (Nat × Operand)} (xs : List SV)
    (ho : o.op = .buildSlice t len parts) (hg : o.guard = none) (hd : o.dst = some d) (hT : T.ty t = .slice e) (hs : T.size e = 1) (hx : elemsOf (evO s.t) 0 parts.toList = some xs) (hp : parts.toList.all (fun q => isPtr (evO s.t q.2)) = true)
    (h : (notIn s.c.d (s.c.o + d) ∧ xs.all (scal s.b) = true ∧ xs.length = len ∧ len ≤ 16777216) ∧ HOps P X ops rest k ⟨s.t.set d (.sl (s.c.o + d) s.c.c 0 1 0 len), upd s.b (s.c.o + d) s.c.c (.cells xs), s.c.add (s.c.o + d)⟩ Φ) : HOps P X ops (o :: rest) k s Φ := by
  obtain ⟨⟨hn, hall, hlen, hl⟩, h⟩ := h
  intro i hi σ w a hR
  obtain ⟨ho', hrest⟩ := ops_at hi
  obtain ⟨vs, hv1, hv2⟩ := elems_ok (X := X) (σ := σ) (w := w) (b := s.b) (c := s.c) (a := a) hx (fun q hq => by
    have h1 := List.all_eq_true.1 hp q hq
    have h2 := V_evO hR q.2
    cases e1 : evO s.t q.2 <;> rw [e1] at h1 <;> simp only [isPtr, Bool.false_eq_true] at h1
    rw [e1] at h2
    exact V2_of_V1 (V1_of_V0 h2))
  obtain ⟨g1, g2, g3⟩ := scalAll_ok hall hv2
  obtain ⟨nx, u, w', σ', hrun, hnx, hR', hT'⟩ := buildCells_does (dd := s.c.o + d) TO hR ho (notIn_ok hn) hT hv1 g2 (by omega) hs hl g1
  rw [hd] at hR'
  rw [List.length_cons, List.range'_succ]
  refine Fins.opValue (v := u) ho' (by simp [Region.wanted, hg]) ?_ ((h (i + 1) hrest).after (by rw [hd]; exact hR') hT')
  rcases hnx with rfl | ⟨rfl, rfl⟩
  · exact .inl hrun
  · exact .inr ⟨hrun, rfl⟩

end Go.Proofs.YtakgefinmlomdaaDoor.Abs

/- file: counted bytes taken off, as an own slice; the document's. -/
set_option linter.unusedVariables false
set_option linter.unusedSimpArgs false
set_option maxRecDepth 100000
namespace Go.Proofs.YtakgefinmlomdaaDoor.Abs
open Go Go.Proofs

set_option maxHeartbeats 2000000 in
theorem fd_nil_inC {X : Ctx} {b0 : List (Nat × Nat × Blk)} {n g c0 : Nat} {b : List Int} {r : Nat × Int} {tail : List SV} (hn : fnd b0 n = some (g, rdC b r tail)) (hN : fnd b0 90816 = none)
    (hb : b.length ≤ 140737488351232) (hB : Bytes b) (hr : r.1 ≤ b.length) (h : (fdR b r).2 ≠ 0) :
    InC Tryd.prog X 46 [.ptr n g 0] b0 c0 .nil (upd b0 n g (rdC b (fdR b r) tail)) (c0 + 120) := by
  have hne : n ≠ 90816 := by rintro rfl; rw [hN] at hn; cases hn
  have v := rV_lt b 4 r hB
  obtain ⟨N, hNv⟩ : ∃ N : Nat, rV b 4 r = N := ⟨(rV b 4 r).toNat, by omega⟩
  have hR : fdR b r = rN b N (rM b 4 32768 3 r) := by unfold fdR; rw [hNv, Int.toNat_natCast]
  have hV : fdV b r = rP b N (rM b 4 32768 3 r) := by unfold fdV; rw [hNv, Int.toNat_natCast]
  have h1 := rM_le (b := b) (k := 4) (m := 32768) (e := 3) (r := r) hr
  have wN : IntKind.i64.wrap (N : Int) = N := w64 (by omega) (by omega)
  rw [hR] at h
  rw [hR]
  refine inC_go TO 5000 Tryd.func46 rfl (absRun_ok TO 100 _ _ ?_)
  simp only [Tryd.ntmps46, Tryd.results46, rdC, pureOpC, unc, absRun, absOps, absOp, evO, constSV, ungd, gdP, gdPs, setD, pureOp, memOp, flatB, Op.operands, List.getD, List.getElem?_cons_zero, List.getElem?_cons_succ, Option.getD_some, List.set, List.map, List.all, List.toList_toArray, true_and, and_self, Nat.zero_add, List.append_toArray, List.cons_append, List.nil_append, List.append_nil, List.length_cons, List.length_nil, Nat.reduceSub, List.replicate_succ, List.replicate_zero, Bool.and_self]
  refine inC_ops TO 100 (fs4_inC (m := 32768) (e := 3) hn hb hB hr) Tryd.func47 (by decide +kernel) rfl rfl rfl ⟨⟨rfl, by simp only [guardIs, eq_self], by simp only [evO, constSV, gdP, gdPs, List.getD, List.getElem?_cons_zero, List.getElem?_cons_succ, Option.getD_some, and_self]⟩, ?_⟩
  generalize rM b 4 32768 3 r = q at *
  have hN2 : ∀ C, fnd (upd b0 n g C) 90816 = none := fun C => by rw [fnd_upd, if_neg (Ne.symm hne)]; exact hN
  simp only [hNv, wN, rdC, retC, rI, fnd_same, pureOpC, unc, absRun, absOps, absOp, evO, constSV, ungd, gdP, gdPs, setD, binI, binV, ptrE, convV, T_ty, T_size, tTy, tSize, fieldOf, faddrV, pureOp, loadV, known, cellAt, blkAt, resV, flatV, flat2, Op.operands, List.getD, List.getElem?_cons_zero, List.getElem?_cons_succ, Option.getD_some, List.set, List.map, List.toList_toArray, true_and, and_true, and_self, if_true, if_false, eq_self, ne_eq, not_false_eq_true, reduceCtorEq, Nat.zero_add, Nat.reduceSub, Nat.succ_ne_self, retC, rI, fnd_same]
  by_cases h0 : q.2 = 0
  rotate_left
  · have e1 : rN b N q = q := rN_err2 h0
    rw [if_pos (by simpa using h0), e1]
    first | exact ⟨SubB_refl, by omega, rfl⟩ | exact ⟨SubB_refl, by omega⟩
  rw [if_neg (by simpa using h0)]
  have wd : IntKind.i64.wrap ((b.length : Int) - q.1) = (b.length : Int) - q.1 := w64 (by omega) (by omega)
  refine draw_go TO 12 100 mixed_ok (by decide +kernel) ?_
  simp only [wd, retC, rI, fnd_same, upd_same, List.take_succ_cons, List.take_zero, List.drop_succ_cons, List.drop_zero, pureOpC, unc, isEff, absD, pureStep, absRun, absOps, absOp, evO, constSV, ungd, gdP, gdPs, setD, binI, binV, ptrE, T_ty, T_size, tTy, tSize, fieldOf, faddrV, pureOp, memOp, lenV, loadV, scal, cellAt, setC, blkAt, Data.len, resV, flatV, flat2, Op.operands, Call.operands, List.getD, List.getElem?_cons_zero, List.getElem?_cons_succ, Option.getD_some, List.set, List.map, List.toList_toArray, Option.map_some, true_and, and_true, and_self, implies_true, imp_self, if_true, if_false, eq_self, ne_eq, not_false_eq_true, forall_const, reduceCtorEq, Nat.zero_add, Nat.add_zero, List.append_toArray, List.nil_append, Nat.reduceSub, Nat.succ_ne_self, retC, rI, fnd_same, upd_same]
  by_cases h2 : b.length < q.1 + N
  · have e1 : rN b N q = (q.1, 4) := by unfold rN; rw [if_neg (by simpa using h0), if_pos h2]
    rw [if_pos (decide_eq_true (by omega)), e1]
    first | exact ⟨SubB_refl, by omega, rfl⟩ | exact ⟨SubB_refl, by omega⟩
  have e1 : rN b N q = (q.1 + N, 0) := by unfold rN; rw [if_neg (by simpa using h0), if_neg h2]
  rw [e1] at h; exact absurd rfl h

theorem fdR_le {b : List Int} {r : Nat × Int} (h : r.1 ≤ b.length) (hB : Bytes b) : (fdR b r).1 ≤ b.length := by unfold fdR; exact rN_le (rM_le h)

theorem fd_mv (b : List Int) (r : Nat × Int) : fdR b r = rN b (rMV b 4 32768 r).toNat (rM b 4 32768 3 r) ∧ fdV b r = rP b (rMV b 4 32768 r).toNat (rM b 4 32768 3 r) := by
  unfold fdR fdV rMV
  by_cases h : (rN b 4 r).2 = 0 ∧ 32768 < rV b 4 r
  · have e : rM b 4 32768 3 r = ((rN b 4 r).1, 3) := by unfold rM; rw [if_pos h]
    have q : ((rN b 4 r).1, (3 : Int)).2 ≠ 0 := show (3 : Int) ≠ 0 by decide
    rw [if_pos h, e, rN_err2 q, rN_err2 q]
    refine ⟨rfl, ?_⟩
    unfold rP; rw [if_pos q, if_pos q]
  · rw [if_neg h]
    exact ⟨rfl, rfl⟩

set_option maxHeartbeats 2000000 in
theorem rdata_inC {X : Ctx} {b0 : List (Nat × Nat × Blk)} {n g c0 : Nat} {b : List Int} {r : Nat × Int} {tail : List SV} (hn : fnd b0 n = some (g, rdC b r tail)) (hN : fnd b0 90656 = none)
    (hb : b.length ≤ 140737488351232) (hB : Bytes b) (hr : r.1 ≤ b.length) :
    InC Tryd.prog X 53 [.ptr n g 0] b0 c0 (.view true (.ints .u8 (fdV b r))) (upd b0 n g (rdC b (fdR b r) tail)) (c0 + 60) := by
  have hne : n ≠ 90656 := by rintro rfl; rw [hN] at hn; cases hn
  have v := rV_lt b 4 r hB
  have v3 : 0 ≤ rMV b 4 32768 r := by unfold rMV; split; decide; exact v.1
  have v4 : rMV b 4 32768 r < 256 ^ 4 := by unfold rMV; split; decide; exact v.2
  obtain ⟨N, hNv⟩ : ∃ N : Nat, rMV b 4 32768 r = N := ⟨(rMV b 4 32768 r).toNat, by omega⟩
  obtain ⟨hR, hV⟩ := fd_mv b r
  rw [hNv, Int.toNat_natCast] at hR hV
  have h1 := rM_le (b := b) (k := 4) (m := 32768) (e := 3) (r := r) hr
  have wN : IntKind.i64.wrap (N : Int) = N := w64 (by omega) (by omega)
  have hNN : N ≤ 1000000000 := by
    rw [hNv] at v3 v4
    unfold rMV at hNv
    split at hNv
    · omega
    · rename_i h
      by_cases g : (rN b 4 r).2 = 0
      · omega
      · have : rV b 4 r = 0 := by
          unfold rV rN at *
          split at g
          · rw [if_pos ‹_›]
          split at g
          · rw [if_neg ‹_›, if_pos ‹_›]
          · exact absurd rfl g
        omega
  rw [hR, hV]
  refine inC_go TO 5000 Tryd.func53 rfl (absRun_ok TO 100 _ _ ?_)
  simp only [Tryd.ntmps53, Tryd.results53, rdC, pureOpC, absRun, absOps, absOp, evO, constSV, ungd, gdP, gdPs, setD, pureOp, memOp, Op.operands, List.getD, List.getElem?_cons_zero, Option.getD_some, List.set, List.toList_toArray, true_and, and_self, Nat.zero_add, List.cons_append, List.nil_append, List.length_cons, List.length_nil, Nat.reduceSub, List.replicate_succ, List.replicate_zero]
  refine inC_ops TO 100 (rm_inC (k := 4) (m := 32768) (e := 3) hn hb hB hr rfl) Tryd.func51 (by decide +kernel) rfl rfl rfl ⟨⟨rfl, rfl, by simp only [evO, constSV, gdP, gdPs, List.getD, List.getElem?_cons_zero, List.getElem?_cons_succ, Option.getD_some, and_self]⟩, ?_⟩
  have hN2 : ∀ C, fnd (upd b0 n g C) 90656 = none := fun C => by rw [fnd_upd, if_neg (Ne.symm hne)]; exact hN
  simp only [hNv, wN, rdC, pureOpC, unc, absRun, absOps, absOp, evO, ungd, gdP, gdPs, setD, convV, T_ty, tTy, pureOp, memOp, known, Op.operands, List.getD, List.getElem?_cons_zero, List.getElem?_cons_succ, Option.getD_some, List.set, List.toList_toArray, true_and, and_self, eq_self]
  refine inC_ops TO 100 (rp_inC (k := N) (r := rM b 4 32768 3 r) (tail := tail) (fnd_same _ _ _ _) (hN2 _) hb h1 hNN) Tryd.func69 (by decide +kernel) rfl rfl rfl ⟨⟨rfl, rfl, by simp only [evO, gdP, gdPs, List.getD, List.getElem?_cons_zero, List.getElem?_cons_succ, Option.getD_some, and_self]⟩, ?_⟩
  simp only [rdC, retC, rI, upd_same, pureOpC, absRun, absOps, absOp, evO, ungd, gdP, gdPs, setD, resV, flatV, flat2, Op.operands, List.getD, List.getElem?_cons_zero, List.getElem?_cons_succ, Option.getD_some, List.set, List.map, List.toList_toArray, true_and, and_true, and_self, eq_self, retC, rI, upd_same]
  first | exact ⟨SubB_refl, by omega, rfl⟩ | exact ⟨SubB_refl, by omega⟩

set_option maxHeartbeats 2000000 in
theorem fd_ok_inC {X : Ctx} {b0 : List (Nat × Nat × Blk)} {n g c0 : Nat} {b : List Int} {r : Nat × Int} {tail : List SV} (hn : fnd b0 n = some (g, rdC b r tail)) (hN : fnd b0 90816 = none)
    (hb : b.length ≤ 140737488351232) (hB : Bytes b) (hr : r.1 ≤ b.length) (h : (fdR b r).2 = 0) :
    InC Tryd.prog X 46 [.ptr n g 0] b0 c0 (.sl 90816 (c0 + 82) 0 1 0 (fdV b r).length) (upd (upd b0 n g (rdC b (fdR b r) tail)) 90816 (c0 + 82) (.vec (.ints .u8 (fdV b r)))) (c0 + 120) := by
  have hne : n ≠ 90816 := by rintro rfl; rw [hN] at hn; cases hn
  have v := rV_lt b 4 r hB
  obtain ⟨N, hNv⟩ : ∃ N : Nat, rV b 4 r = N := ⟨(rV b 4 r).toNat, by omega⟩
  have hR : fdR b r = rN b N (rM b 4 32768 3 r) := by unfold fdR; rw [hNv, Int.toNat_natCast]
  have hV : fdV b r = rP b N (rM b 4 32768 3 r) := by unfold fdV; rw [hNv, Int.toNat_natCast]
  have h1 := rM_le (b := b) (k := 4) (m := 32768) (e := 3) (r := r) hr
  have wN : IntKind.i64.wrap (N : Int) = N := w64 (by omega) (by omega)
  rw [hR] at h
  rw [hR, hV]
  refine inC_go TO 5000 Tryd.func46 rfl (absRun_ok TO 100 _ _ ?_)
  simp only [Tryd.ntmps46, Tryd.results46, rdC, pureOpC, unc, absRun, absOps, absOp, evO, constSV, ungd, gdP, gdPs, setD, pureOp, memOp, flatB, Op.operands, List.getD, List.getElem?_cons_zero, List.getElem?_cons_succ, Option.getD_some, List.set, List.map, List.all, List.toList_toArray, true_and, and_self, Nat.zero_add, List.append_toArray, List.cons_append, List.nil_append, List.append_nil, List.length_cons, List.length_nil, Nat.reduceSub, List.replicate_succ, List.replicate_zero, Bool.and_self]
  refine inC_ops TO 100 (fs4_inC (m := 32768) (e := 3) hn hb hB hr) Tryd.func47 (by decide +kernel) rfl rfl rfl ⟨⟨rfl, by simp only [guardIs, eq_self], by simp only [evO, constSV, gdP, gdPs, List.getD, List.getElem?_cons_zero, List.getElem?_cons_succ, Option.getD_some, and_self]⟩, ?_⟩
  generalize rM b 4 32768 3 r = q at *
  have hN2 : ∀ C, fnd (upd b0 n g C) 90816 = none := fun C => by rw [fnd_upd, if_neg (Ne.symm hne)]; exact hN
  simp only [hNv, wN, rdC, retC, rI, fnd_same, pureOpC, unc, absRun, absOps, absOp, evO, constSV, ungd, gdP, gdPs, setD, binI, binV, ptrE, convV, T_ty, T_size, tTy, tSize, fieldOf, faddrV, pureOp, loadV, known, cellAt, blkAt, resV, flatV, flat2, Op.operands, List.getD, List.getElem?_cons_zero, List.getElem?_cons_succ, Option.getD_some, List.set, List.map, List.toList_toArray, true_and, and_true, and_false, and_self, if_true, if_false, eq_self, ne_eq, not_false_eq_true, reduceCtorEq, Nat.zero_add, Nat.reduceSub, Nat.succ_ne_self, retC, rI, fnd_same]
  by_cases h0 : q.2 = 0
  rotate_left
  · have e1 : rN b N q = q := rN_err2 h0
    rw [e1] at h; exact absurd h h0
  rw [if_neg (by simpa using h0)]
  have wd : IntKind.i64.wrap ((b.length : Int) - q.1) = (b.length : Int) - q.1 := w64 (by omega) (by omega)
  refine draw_go TO 12 100 mixed_ok (by decide +kernel) ?_
  simp only [wd, retC, rI, fnd_same, upd_same, List.take_succ_cons, List.take_zero, List.drop_succ_cons, List.drop_zero, pureOpC, unc, isEff, absD, pureStep, absRun, absOps, absOp, evO, constSV, ungd, gdP, gdPs, setD, binI, binV, ptrE, T_ty, T_size, tTy, tSize, fieldOf, faddrV, pureOp, memOp, lenV, loadV, scal, cellAt, setC, blkAt, Data.len, resV, flatV, flat2, Op.operands, Call.operands, List.getD, List.getElem?_cons_zero, List.getElem?_cons_succ, Option.getD_some, List.set, List.map, List.toList_toArray, Option.map_some, true_and, and_true, and_false, and_self, implies_true, imp_self, if_true, if_false, eq_self, ne_eq, not_false_eq_true, forall_const, reduceCtorEq, Nat.zero_add, Nat.add_zero, List.append_toArray, List.nil_append, Nat.reduceSub, Nat.succ_ne_self, retC, rI, fnd_same, upd_same]
  by_cases h2 : b.length < q.1 + N
  · have e1 : rN b N q = (q.1, 4) := by unfold rN; rw [if_neg (by simpa using h0), if_pos h2]
    rw [e1] at h; exact absurd h (show (4 : Int) ≠ 0 by decide)
  rw [if_neg (by simp; omega)]
  have e1 : rN b N q = (q.1 + N, 0) := by unfold rN; rw [if_neg (by simpa using h0), if_neg h2]
  have e2 : rP b N q = (b.drop q.1).take N := by unfold rP; rw [if_neg (by simpa using h0), if_neg h2]
  have wa : IntKind.i64.wrap ((q.1 : Int) + N) = ((q.1 + N : Nat) : Int) := by rw [w64 (by omega) (by omega)]; omega
  have tk : (((q.1 + N : Nat) : Int) - (q.1 : Int)).toNat = N := by omega
  have hP := fClone_meets ((b.drop q.1).take N) (by rw [List.length_take, List.length_drop]; omega)
  refine raise_go (c0 + 81) (by simp only; omega) ?_
  refine draw_go TO 22 100 mixed_ok (by decide +kernel) ?_
  simp only [wa, tk, retC, rI, fnd_same, List.take_succ_cons, List.take_zero, List.drop_succ_cons, List.drop_zero, pureOpC, gloadV, GT, unc, isEff, absD, pureStep, absRun, absOps, absOp, evO, constSV, ungd, gdP, gdPs, setD, binI, binV, ptrE, binS, T_ty, T_size, tTy, tSize, fieldOf, faddrV, lowI, highI, maxP, sliceV, pureOp, memOp, loadV, scal, cellAt, blkAt, elemV, Data.len, Data.esz, Data.sub, resV, flatV, flat2, Op.operands, List.getD, List.getElem?_cons_zero, List.getElem?_cons_succ, Option.getD_some, List.set, List.map, List.toList_toArray, Option.map_some, Option.isSome, true_and, and_true, and_self, implies_true, imp_self, if_true, if_false, eq_self, ne_eq, not_false_eq_true, forall_const, reduceCtorEq, Nat.zero_add, Nat.add_zero, Int.toNat_natCast, Option.toArray_some, List.append_toArray, List.cons_append, List.nil_append, Nat.reduceSub, Nat.succ_ne_self, retC, rI, fnd_same]
  refine ⟨⟨by omega, by omega, by omega⟩, ?_⟩
  refine callDS_go TO (fun s' h' => HOps_go TO 100 h') hP Tryd.func66 (by decide +kernel) rfl rfl rfl ?_ ?_
  · exact SubB_new (n := 90816) (hN2 _)
  simp only [e1, e2, h0, wa, fnd_upd, hne, if_true, if_false, hn, rdC, retC, rI, pureOpC, unc, absD, absRun, absOps, absOp, evO, ungd, gdP, gdPs, setD, binI, binV, ptrE, T_ty, T_size, tTy, tSize, fieldOf, faddrV, pureOp, memOp, loadV, notIn, scal, cellAt, setC, blkAt, Data.len, Data.esz, resV, ownN, nodup, bares, bare, bareD, flatV, flat2, guardIs, callP, callS, argS, mAs, mA, mA0, mB0, lowD, allNotIn, nm, impN, impB, impT, packS, delL, Op.operands, List.getD, List.getElem?_cons_zero, List.getElem?_cons_succ, Option.getD_some, List.set, List.map, List.toList_toArray, Option.map_some, true_and, and_true, and_self, if_true, if_false, eq_self, ne_eq, not_false_eq_true, Nat.zero_add, Nat.add_zero, Int.reduceBNe, List.append_nil, Nat.reduceAdd, Nat.reduceSub, Nat.reduceMul, Nat.succ_ne_self, Bool.and_self, retC, rI]
  refine ⟨?_, by omega⟩
  intro k z hk
  rw [fnd_upd, fnd_upd] at hk
  rw [fnd_upd, fnd_upd, fnd_upd]
  by_cases k2 : k = n
  · have k1 : ¬ k = 90816 := by omega
    rw [if_neg k1, if_pos k2] at hk
    rw [if_pos k2]; exact hk
  · rw [if_neg k2] at hk ⊢
    rw [if_neg k2]; exact hk

end Go.Proofs.YtakgefinmlomdaaDoor.Abs

/- file: what the reader's create answers. -/
set_option linter.unusedVariables false
set_option linter.unusedSimpArgs false
set_option maxRecDepth 100000
namespace Go.Proofs.YtakgefinmlomdaaDoor.Abs
open Go Go.Proofs

/-- The cells of an Ask that is nothing. -/
def zC : List SV := [.nil, .arr .u8 16 [0, 0, 0, 0, 0, 0, 0, 0, 0, 0, 0, 0, 0, 0, 0, 0], .arr .u8 32 [0, 0, 0, 0, 0, 0, 0, 0, 0, 0, 0, 0, 0, 0, 0, 0, 0, 0, 0, 0, 0, 0, 0, 0, 0, 0, 0, 0, 0, 0, 0, 0], .str ByteArray.empty, .str ByteArray.empty, .int .u32 0, .int .u32 0, .int .u32 0, .int .u32 0, .int .u8 0, .int .u8 0, .int .u64 0, .str ByteArray.empty, .int .u64 0, .int .u32 0, .nil, .nil, .int .u16 0, .str ByteArray.empty, .str ByteArray.empty, .int .u16 0, .int .u64 0, .bool false]
/-- The cells of what a Create asks. -/
def crC (b : List Int) : List SV := (fgV 5 b).cellsW .nil .nil

theorem fc8_le (b : List Int) (hB : Bytes b) : (rU b (fc8 b)).1 ≤ b.length := by
  have h : (fc8 b).1 ≤ b.length := rN_le (rM_le (rN_le (rN_le (rN_le (rN_le (rN_le (rN_le (Nat.zero_le _))))))))
  unfold rU
  split
  · exact h
  · have := gtX_ok hB h; simp only; omega

set_option maxHeartbeats 8000000 in
theorem fcre_inC {X : Ctx} {c0 : Nat} (b : List Int) (hb : b.length ≤ 274877906944) (hB : Bytes b) :
    InC Tryd.prog X 43 [.ptr 18 4 0] [(4, 2, .cells zC), (18, 4, rdC b (0, 0) []), (7, 5, .cells zC)] c0 (.agg (crC b)) [(4, 2, .cells zC), (18, 4, rdC b (rU b (fc8 b)) []), (7, 5, .cells zC)] (c0 + 300) := by
  have hb2 : b.length ≤ 140737488351232 := by omega
  have i1 : IntKind.i64.wrap 1 = 1 := by decide
  have i2 : IntKind.i64.wrap 2 = 2 := by decide
  have i3 : IntKind.i64.wrap 3 = 3 := by decide
  have i4 : IntKind.i64.wrap 4 = 4 := by decide
  have j1 : (1 : Int).toNat = 1 := rfl
  have j2 : (2 : Int).toNat = 2 := rfl
  have j3 : (3 : Int).toNat = 3 := rfl
  refine inC_go TO 5000 Tryd.func43 rfl (absRun_ok TO 100 _ _ ?_)
  simp only [Tryd.ntmps43, Tryd.results43, zC, rdC, pureOpC, unc, absRun, absOps, absOp, evO, ungd, gdP, gdPs, setD, T_ty, T_size, T_zero, tTy, tSize, tZero, fieldOf, faddrV, pureOp, memOp, newV, notIn, elemsOf, blkAt, fnd, upd, Lim.add, Op.operands, List.getD, List.getElem?_cons_zero, List.getElem?_cons_succ, Option.getD_some, List.set, List.toList_toArray, Option.map_some, true_and, and_self, if_true, if_false, eq_self, ne_eq, not_false_eq_true, reduceCtorEq, Nat.zero_add, Int.cast_ofNat_Int, List.cons_append, List.nil_append, List.length_cons, List.length_nil, Nat.reduceAdd, Nat.reduceSub, Nat.reduceEqDiff, Nat.succ_ne_self, List.replicate_succ, List.replicate_zero]
  refine buildP_ops TO [.ptr 5003 (c0 + 1 + 1) 51, .ptr 5003 (c0 + 1 + 1) 52, .ptr 5003 (c0 + 1 + 1) 53, .ptr 5003 (c0 + 1 + 1) 54] rfl rfl rfl rfl rfl rfl rfl ⟨⟨trivial, by simp [scal, blkAt, fnd], rfl, by decide⟩, HOps_go TO 100 ?_⟩
  simp only [pureOpC, unc, absRun, absOps, absOp, evO, constSV, ungd, gdP, gdPs, setD, T_ty, tTy, pureOp, lenV, blkAt, fnd, upd, Lim.add, Op.operands, Call.operands, List.getD, List.getElem?_cons_zero, List.getElem?_cons_succ, Option.getD_some, List.set, List.toList_toArray, true_and, and_self, if_true, if_false, eq_self, Int.cast_ofNat_Int, List.append_toArray, List.nil_append, Nat.reduceAdd, Nat.reduceEqDiff]
  refine loop_in (absRun_ok TO 100 _ _ ?_)
  simp only [pureOpC, unc, absRun, absOps, absOp, evO, ungd, gdP, gdPs, setD, binI, binV, ptrE, T_ty, T_size, tTy, tSize, iaddrV, pureOp, memOp, loadV, cellAt, blkAt, fnd, Op.operands, List.getD, List.getElem?_cons_zero, List.getElem?_cons_succ, Option.getD_some, List.set, List.toList_toArray, exitTo, true_and, and_self, if_true, if_false, eq_self, ne_eq, not_false_eq_true, Nat.zero_add, Nat.add_zero, Int.cast_ofNat_Int, Int.le_refl, Int.toNat_zero, Nat.reduceSub, Nat.reduceMul, Nat.reduceEqDiff, Nat.succ_ne_self, beq_self_eq_true, Int.reduceLT, decide_true]
  refine inC_ops TO 100 (fn4_inC (n := 18) (r := (0, 0)) (tail := []) rfl hb2 hB (Nat.zero_le _)) Tryd.func45 (by decide +kernel) rfl rfl rfl ⟨⟨rfl, rfl, by simp only [evO, gdP, gdPs, List.getD, List.getElem?_cons_zero, List.getElem?_cons_succ, Option.getD_some, and_self]⟩, ?_⟩
  have h1 := rN_le (b := b) (k := 4) (r := (0, 0)) (Nat.zero_le _)
  have v1 := rV_lt b 4 (0, 0) hB
  have w1 : IntKind.u32.wrap (rV b 4 (0, 0)) = rV b 4 (0, 0) := by rw [IntKind.wrap_u32]; omega
  simp only [rdC, w1, i1, pureOpC, unc, absRun, absOps, absOp, evO, constSV, ungd, gdP, gdPs, setD, binI, binV, ptrE, convV, T_ty, T_size, tTy, tSize, pureOp, memOp, scal, known, setC, blkAt, fnd, upd, Op.operands, List.getD, List.getElem?_cons_zero, List.getElem?_cons_succ, Option.getD_some, List.set, List.toList_toArray, Option.map_some, Option.map_none, true_and, and_self, if_true, if_false, eq_self, reduceCtorEq, Int.zero_add, Nat.reduceSub, Nat.reduceEqDiff, Nat.reduceLT, Nat.succ_ne_self]
  refine loop_more (absRun_ok TO 100 _ _ ?_)
  simp only [j1, pureOpC, unc, absRun, absOps, absOp, evO, ungd, gdP, gdPs, setD, binI, binV, ptrE, T_ty, T_size, tTy, tSize, iaddrV, pureOp, memOp, loadV, cellAt, blkAt, fnd, Op.operands, List.getD, List.getElem?_cons_zero, List.getElem?_cons_succ, Option.getD_some, List.set, List.toList_toArray, exitTo, true_and, and_self, if_true, if_false, eq_self, ne_eq, not_false_eq_true, Nat.zero_add, Int.cast_ofNat_Int, Nat.reduceSub, Nat.reduceMul, Nat.reduceEqDiff, Nat.succ_ne_self, beq_self_eq_true, Int.reduceLT, Int.reduceLE, decide_true]
  refine inC_ops TO 100 (fn4_inC (n := 18) (r := (rN b 4 (0, 0))) (tail := []) rfl hb2 hB h1) Tryd.func45 (by decide +kernel) rfl rfl rfl ⟨⟨rfl, rfl, by simp only [evO, gdP, gdPs, List.getD, List.getElem?_cons_zero, List.getElem?_cons_succ, Option.getD_some, and_self]⟩, ?_⟩
  have h2 := rN_le (b := b) (k := 4) (r := (rN b 4 (0, 0))) h1
  have v2 := rV_lt b 4 (rN b 4 (0, 0)) hB
  have w2 : IntKind.u32.wrap (rV b 4 (rN b 4 (0, 0))) = rV b 4 (rN b 4 (0, 0)) := by rw [IntKind.wrap_u32]; omega
  simp only [rdC, w2, i2, pureOpC, unc, absRun, absOps, absOp, evO, constSV, ungd, gdP, gdPs, setD, binI, binV, ptrE, convV, T_ty, T_size, tTy, tSize, pureOp, memOp, scal, known, setC, blkAt, fnd, upd, Op.operands, List.getD, List.getElem?_cons_zero, List.getElem?_cons_succ, Option.getD_some, List.set, List.toList_toArray, Option.map_some, Option.map_none, true_and, and_self, if_true, if_false, eq_self, reduceCtorEq, Int.reduceAdd, Nat.reduceSub, Nat.reduceEqDiff, Nat.reduceLT, Nat.succ_ne_self]
  refine loop_more (absRun_ok TO 100 _ _ ?_)
  simp only [j2, pureOpC, unc, absRun, absOps, absOp, evO, ungd, gdP, gdPs, setD, binI, binV, ptrE, T_ty, T_size, tTy, tSize, iaddrV, pureOp, memOp, loadV, cellAt, blkAt, fnd, Op.operands, List.getD, List.getElem?_cons_zero, List.getElem?_cons_succ, Option.getD_some, List.set, List.toList_toArray, exitTo, true_and, and_self, if_true, if_false, eq_self, ne_eq, not_false_eq_true, reduceCtorEq, Nat.zero_add, Int.cast_ofNat_Int, Nat.reduceSub, Nat.reduceMul, Nat.reduceEqDiff, Nat.succ_ne_self, beq_self_eq_true, Int.reduceLT, Int.reduceLE, decide_true]
  refine inC_ops TO 100 (fn4_inC (n := 18) (r := (rN b 4 (rN b 4 (0, 0)))) (tail := []) rfl hb2 hB h2) Tryd.func45 (by decide +kernel) rfl rfl rfl ⟨⟨rfl, rfl, by simp only [evO, gdP, gdPs, List.getD, List.getElem?_cons_zero, List.getElem?_cons_succ, Option.getD_some, and_self]⟩, ?_⟩
  have h3 := rN_le (b := b) (k := 4) (r := (rN b 4 (rN b 4 (0, 0)))) h2
  have v3 := rV_lt b 4 (rN b 4 (rN b 4 (0, 0))) hB
  have w3 : IntKind.u32.wrap (rV b 4 (rN b 4 (rN b 4 (0, 0)))) = rV b 4 (rN b 4 (rN b 4 (0, 0))) := by rw [IntKind.wrap_u32]; omega
  simp only [rdC, w3, i3, pureOpC, unc, absRun, absOps, absOp, evO, constSV, ungd, gdP, gdPs, setD, binI, binV, ptrE, convV, T_ty, T_size, tTy, tSize, pureOp, memOp, scal, known, setC, blkAt, fnd, upd, Op.operands, List.getD, List.getElem?_cons_zero, List.getElem?_cons_succ, Option.getD_some, List.set, List.toList_toArray, Option.map_some, Option.map_none, true_and, and_self, if_true, if_false, eq_self, reduceCtorEq, Int.reduceAdd, Nat.reduceSub, Nat.reduceEqDiff, Nat.reduceLT, Nat.succ_ne_self]
  refine loop_more (absRun_ok TO 100 _ _ ?_)
  simp only [j3, pureOpC, unc, absRun, absOps, absOp, evO, ungd, gdP, gdPs, setD, binI, binV, ptrE, T_ty, T_size, tTy, tSize, iaddrV, pureOp, memOp, loadV, cellAt, blkAt, fnd, Op.operands, List.getD, List.getElem?_cons_zero, List.getElem?_cons_succ, Option.getD_some, List.set, List.toList_toArray, exitTo, true_and, and_self, if_true, if_false, eq_self, ne_eq, not_false_eq_true, reduceCtorEq, Nat.zero_add, Int.cast_ofNat_Int, Nat.reduceSub, Nat.reduceMul, Nat.reduceEqDiff, Nat.succ_ne_self, beq_self_eq_true, Int.reduceLT, Int.reduceLE, decide_true]
  refine inC_ops TO 100 (fn4_inC (n := 18) (r := (rN b 4 (rN b 4 (rN b 4 (0, 0))))) (tail := []) rfl hb2 hB h3) Tryd.func45 (by decide +kernel) rfl rfl rfl ⟨⟨rfl, rfl, by simp only [evO, gdP, gdPs, List.getD, List.getElem?_cons_zero, List.getElem?_cons_succ, Option.getD_some, and_self]⟩, ?_⟩
  have h4 := rN_le (b := b) (k := 4) (r := (rN b 4 (rN b 4 (rN b 4 (0, 0))))) h3
  have v4 := rV_lt b 4 (rN b 4 (rN b 4 (rN b 4 (0, 0)))) hB
  have w4 : IntKind.u32.wrap (rV b 4 (rN b 4 (rN b 4 (rN b 4 (0, 0))))) = rV b 4 (rN b 4 (rN b 4 (rN b 4 (0, 0)))) := by rw [IntKind.wrap_u32]; omega
  simp only [rdC, w4, i4, pureOpC, unc, absRun, absOps, absOp, evO, constSV, ungd, gdP, gdPs, setD, binI, binV, ptrE, convV, T_ty, T_size, tTy, tSize, pureOp, memOp, scal, known, setC, blkAt, fnd, upd, Op.operands, List.getD, List.getElem?_cons_zero, List.getElem?_cons_succ, Option.getD_some, List.set, List.toList_toArray, Option.map_some, Option.map_none, true_and, and_self, if_true, if_false, eq_self, reduceCtorEq, Int.reduceAdd, Nat.reduceSub, Nat.reduceEqDiff, Nat.reduceLT, Nat.succ_ne_self]
  refine loop_more (absRun_ok TO 100 _ _ ?_)
  simp only [pureOpC, unc, absRun, absOps, absOp, evO, ungd, gdP, gdPs, setD, binI, binV, ptrE, T_ty, T_size, tTy, tSize, iaddrV, pureOp, memOp, loadV, cellAt, blkAt, fnd, Op.operands, List.getD, List.getElem?_cons_zero, List.getElem?_cons_succ, Option.getD_some, List.set, List.toList_toArray, exitTo, true_and, false_and, and_false, and_self, if_true, if_false, eq_self, ne_eq, not_false_eq_true, reduceCtorEq, Bool.false_eq_true, Nat.zero_add, Int.cast_ofNat_Int, Int.reduceToNat, Nat.reduceSub, Nat.reduceMul, Nat.reduceEqDiff, Nat.succ_ne_self, beq_self_eq_true, Int.reduceLT, Int.reduceLE, decide_false]
  refine inC_ops TO 100 (fn1_inC (n := 18) (r := (rN b 4 (rN b 4 (rN b 4 (rN b 4 (0, 0)))))) (tail := []) rfl hb2 hB h4) Tryd.func55 (by decide +kernel) rfl rfl rfl ⟨⟨rfl, rfl, by simp only [evO, gdP, gdPs, List.getD, List.getElem?_cons_zero, List.getElem?_cons_succ, Option.getD_some, and_self]⟩, ?_⟩
  have h5 := rN_le (b := b) (k := 1) (r := (rN b 4 (rN b 4 (rN b 4 (rN b 4 (0, 0)))))) h4
  have v5 := rV_lt b 1 (rN b 4 (rN b 4 (rN b 4 (rN b 4 (0, 0))))) hB
  have w5 : IntKind.u8.wrap (rV b 1 (rN b 4 (rN b 4 (rN b 4 (rN b 4 (0, 0)))))) = rV b 1 (rN b 4 (rN b 4 (rN b 4 (rN b 4 (0, 0))))) := by rw [IntKind.wrap_u8]; omega
  simp only [rdC, w5, pureOpC, unc, absRun, absOps, absOp, evO, ungd, gdP, gdPs, setD, convV, T_ty, T_size, tTy, tSize, fieldOf, faddrV, pureOp, memOp, scal, known, setC, blkAt, fnd, upd, Op.operands, List.getD, List.getElem?_cons_zero, List.getElem?_cons_succ, Option.getD_some, List.set, List.toList_toArray, Option.map_some, Option.map_none, true_and, and_self, if_true, if_false, eq_self, ne_eq, not_false_eq_true, reduceCtorEq, Nat.zero_add, Nat.reduceSub, Nat.reduceEqDiff, Nat.reduceLT, Nat.succ_ne_self]
  refine inC_ops TO 100 (fn1_inC (n := 18) (r := (rN b 1 (rN b 4 (rN b 4 (rN b 4 (rN b 4 (0, 0))))))) (tail := []) rfl hb2 hB h5) Tryd.func55 (by decide +kernel) rfl rfl rfl ⟨⟨rfl, rfl, by simp only [evO, gdP, gdPs, List.getD, List.getElem?_cons_zero, List.getElem?_cons_succ, Option.getD_some, and_self]⟩, ?_⟩
  have h6 := rN_le (b := b) (k := 1) (r := (rN b 1 (rN b 4 (rN b 4 (rN b 4 (rN b 4 (0, 0))))))) h5
  have v6 := rV_lt b 1 (rN b 1 (rN b 4 (rN b 4 (rN b 4 (rN b 4 (0, 0)))))) hB
  have w6 : IntKind.u8.wrap (rV b 1 (rN b 1 (rN b 4 (rN b 4 (rN b 4 (rN b 4 (0, 0))))))) = rV b 1 (rN b 1 (rN b 4 (rN b 4 (rN b 4 (rN b 4 (0, 0)))))) := by rw [IntKind.wrap_u8]; omega
  simp only [rdC, w6, pureOpC, unc, absRun, absOps, absOp, evO, ungd, gdP, gdPs, setD, convV, T_ty, T_size, tTy, tSize, fieldOf, faddrV, pureOp, memOp, scal, flatB, known, setC, blkAt, fnd, upd, Op.operands, List.getD, List.getElem?_cons_zero, List.getElem?_cons_succ, Option.getD_some, List.set, List.map, List.all, List.toList_toArray, Option.map_some, Option.map_none, true_and, and_self, if_true, if_false, eq_self, ne_eq, not_false_eq_true, reduceCtorEq, Nat.zero_add, List.append_toArray, List.append_nil, Nat.reduceSub, Nat.reduceEqDiff, Nat.reduceLT, Nat.succ_ne_self, Bool.and_self]
  refine inC_ops TO 100 (fs2_inC (n := 18) (m := 0) (e := 5) (r := (rN b 1 (rN b 1 (rN b 4 (rN b 4 (rN b 4 (rN b 4 (0, 0)))))))) (tail := []) rfl hb2 hB h6) Tryd.func47 (by decide +kernel) rfl rfl rfl ⟨⟨rfl, rfl, by simp only [evO, constSV, gdP, gdPs, List.getD, List.getElem?_cons_zero, List.getElem?_cons_succ, Option.getD_some, and_self]⟩, ?_⟩
  have h7 := rM_le (b := b) (k := 2) (m := 0) (e := 5) (r := (rN b 1 (rN b 1 (rN b 4 (rN b 4 (rN b 4 (rN b 4 (0, 0)))))))) h6
  simp only [rdC, pureOpC, absRun, absOps, absOp, evO, ungd, gdP, gdPs, setD, pureOp, memOp, upd, Op.operands, List.getD, List.getElem?_cons_zero, Option.getD_some, List.set, List.toList_toArray, true_and, and_self, if_true, if_false, eq_self, Nat.reduceEqDiff]
  refine inC_ops TO 100 (fn8_inC (n := 18) (r := (rM b 2 0 5 (rN b 1 (rN b 1 (rN b 4 (rN b 4 (rN b 4 (rN b 4 (0, 0))))))))) (tail := []) rfl hb2 hB h7) Tryd.func44 (by decide +kernel) rfl rfl rfl ⟨⟨rfl, rfl, by simp only [evO, gdP, gdPs, List.getD, List.getElem?_cons_zero, List.getElem?_cons_succ, Option.getD_some, and_self]⟩, ?_⟩
  have h8 := rN_le (b := b) (k := 8) (r := (rM b 2 0 5 (rN b 1 (rN b 1 (rN b 4 (rN b 4 (rN b 4 (rN b 4 (0, 0))))))))) h7
  simp only [rdC, pureOpC, cntC, unc, absRun, absOps, absOp, evO, constSV, ungd, gdP, gdPs, setD, binI, binV, ptrE, T_ty, T_size, tTy, tSize, fieldOf, faddrV, pureOp, memOp, loadV, scal, okC, cellAt, takeC, dropC, setC, blkAt, fnd, upd, resV, flatV, flat2, Op.operands, List.getD, List.getElem?_cons_zero, List.getElem?_cons_succ, Option.getD_some, List.set, List.map, List.toList_toArray, Option.bind_some, Option.map_some, Option.map_none, true_and, and_true, and_self, if_true, if_false, eq_self, ne_eq, not_false_eq_true, reduceCtorEq, Nat.zero_add, Nat.add_zero, List.nil_append, List.append_nil, Nat.reduceAdd, Nat.reduceSub, Nat.reduceEqDiff, Nat.reduceLeDiff, Nat.reduceLT, Nat.succ_ne_self, Bool.and_self, retC, rI]
  have eC : crC b = [.nil, .arr .u8 16 [0, 0, 0, 0, 0, 0, 0, 0, 0, 0, 0, 0, 0, 0, 0, 0], .arr .u8 32 [0, 0, 0, 0, 0, 0, 0, 0, 0, 0, 0, 0, 0, 0, 0, 0, 0, 0, 0, 0, 0, 0, 0, 0, 0, 0, 0, 0, 0, 0, 0, 0], .str ByteArray.empty, .str ByteArray.empty, .int .u32 (rV b 4 (0, 0)), .int .u32 (rV b 4 (rN b 4 (0, 0))), .int .u32 (rV b 4 (rN b 4 (rN b 4 (0, 0)))), .int .u32 (rV b 4 (rN b 4 (rN b 4 (rN b 4 (0, 0))))), .int .u8 (rV b 1 (rN b 4 (rN b 4 (rN b 4 (rN b 4 (0, 0)))))), .int .u8 (rV b 1 (rN b 1 (rN b 4 (rN b 4 (rN b 4 (rN b 4 (0, 0))))))), .int .u64 (rV b 8 (rM b 2 0 5 (rN b 1 (rN b 1 (rN b 4 (rN b 4 (rN b 4 (rN b 4 (0, 0))))))))), .str (rS b (rN b 8 (rM b 2 0 5 (rN b 1 (rN b 1 (rN b 4 (rN b 4 (rN b 4 (rN b 4 (0, 0)))))))))), .int .u64 0, .int .u32 0, .nil, .nil, .int .u16 0, .str ByteArray.empty, .str ByteArray.empty, .int .u16 0, .int .u64 0, .bool false] := rfl
  have e8 : fc8 b = (rN b 8 (rM b 2 0 5 (rN b 1 (rN b 1 (rN b 4 (rN b 4 (rN b 4 (rN b 4 (0, 0))))))))) := rfl
  rw [eC, e8]
  clear eC e8
  generalize (rN b 8 (rM b 2 0 5 (rN b 1 (rN b 1 (rN b 4 (rN b 4 (rN b 4 (rN b 4 (0, 0))))))))) = r at *
  by_cases h0 : r.2 = 0
  rotate_left
  · have e1 : rU b r = r := by unfold rU; rw [if_pos h0]
    have e2 : rS b r = ByteArray.empty := by unfold rS; rw [if_pos h0]
    rw [if_neg (by simpa using h0), e1, e2]
    exact ⟨subB_cons rfl (subB_cons rfl (subB_cons rfl subB_nil)), by omega, rfl⟩
  rw [if_pos (by simpa using h0)]
  have e1 : rU b r = ((gtX b r.1).toNat, gtE b r.1) := by unfold rU; rw [if_neg (by simpa using h0)]
  have e2 : rS b r = gtS b r.1 := by unfold rS; rw [if_neg (by simpa using h0)]
  have e3 : gtE b r.1 ≠ 0 → gtS b r.1 = ByteArray.empty := fun h => by unfold gtS; rw [if_neg h]
  have hX := gtX_ok hB h8
  have hG := GetText_meets b r.1 hb hB ⟨by omega, by omega⟩
  rw [e1, e2]
  refine draw_go TO 16 100 mixed_ok (by decide +kernel) ?_
  simp only [List.take_succ_cons, List.take_zero, List.drop_succ_cons, List.drop_zero, pureOpC, gloadV, GT, unc, isEff, absD, pureStep, absRun, absOps, absOp, evO, ungd, gdP, gdPs, setD, T_ty, T_size, tTy, tSize, fieldOf, faddrV, pureOp, memOp, loadV, scal, cellAt, blkAt, fnd, elemV, resV, flatV, flat1, flat2, Op.operands, List.getD, List.getElem?_cons_zero, List.getElem?_cons_succ, Option.getD_some, List.set, List.map, List.toList_toArray, Option.isSome, true_and, and_true, false_and, and_false, and_self, implies_true, imp_self, if_true, if_false, eq_self, ne_eq, not_false_eq_true, forall_const, reduceCtorEq, Nat.zero_add, Nat.add_zero, Nat.reduceSub, Nat.reduceEqDiff, Nat.succ_ne_self, retC, rI]
  refine callD_go TO (fun s' h' => HOps_go TO 100 h') hG Tryd.func64 (by decide +kernel) rfl rfl rfl ?_
  obtain ⟨x, hx⟩ : ∃ x : Nat, gtX b r.1 = x := ⟨(gtX b r.1).toNat, by omega⟩
  rw [hx]
  simp only [retC, rI, pureOpC, cntC, unc, isEff, absD, pureStep, subB, absRun, absOps, absOp, evO, ungd, gdP, gdPs, setD, T_ty, T_size, tTy, tSize, fieldOf, faddrV, extractV, pureOp, memOp, loadV, scal, okC, takeC, dropC, setC, blkAt, fnd, upd, resV, ownN, nodup, bares, bare, bare0, flatV, flat2, guardIs, callP, callS, argS, mAs, mA, mA0, mB0, lowD, allNotIn, impN, impB, impT, packS, delL, Op.operands, List.getD, List.getElem?_cons_zero, List.getElem?_cons_succ, Option.getD_some, List.set, List.map, List.toList_toArray, Option.bind_some, Option.map_some, Option.map_none, true_and, and_true, and_self, if_true, if_false, eq_self, ne_eq, not_false_eq_true, reduceCtorEq, Nat.zero_add, Nat.add_zero, Int.toNat_natCast, List.nil_append, List.append_nil, Nat.reduceAdd, Nat.reduceSub, Nat.reduceEqDiff, Nat.reduceLeDiff, Nat.reduceLT, Nat.succ_ne_self, Bool.and_self, retC, rI]
  exact ⟨subB_cons rfl (subB_cons rfl (subB_cons rfl subB_nil)), by omega⟩

end Go.Proofs.YtakgefinmlomdaaDoor.Abs
