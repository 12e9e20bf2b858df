/- OWN LIBRARY, part 16: what a function answers, out of the run of its body; calls in a region. -/
import Derived.Test.YtbnjdnahpnjofaaA15
set_option linter.unusedVariables false
set_option linter.unusedSimpArgs false
namespace Go.Proofs.Ytbnjdnahpnjofaa.Abs
open Go

/-- A result, where the run has come to. -/
def resV (T : Tab) (s : St) : ResultVar → Option (Prop × SV)
  | .tmp t => some (True, s.t.getD t .any)
  | .cell p t => loadV T s.b t (s.t.getD p .any)

/-- A value that is no tuple, closure, and is known whatever the guard. -/
def flat1 : SV → Bool
  | .tup _ | .clo _ _ _ | .gd _ _ => false
  | _ => true

def flat2 : SV → Bool
  | .gd _ _ | .any => false
  | _ => true

def flatV : SV → Bool
  | .tup l => l.all flat1
  | x => flat2 x

def flats (s : St) (d : Nat) : Bool := flatV (s.t.getD d .any)

theorem flats_tup {t : List SV} {d : Nat} {l : List SV} {b : List (Nat × Nat × Blk)} {c : Lim} (h : flats ⟨t.set d (.tup l), b, c⟩ d = true) : l.all flat1 = true := by
  simp only [flats] at h
  rcases Nat.lt_or_ge d t.length with hd | hd
  · have e : (t.set d (.tup l)).getD d .any = .tup l := by simp [List.getD, hd]
    rw [e] at h; exact h
  · have e : (t.set d (.tup l)).getD d .any = .any := by simp [List.getD, hd]
    rw [e] at h; simp [flatV, flat2] at h

theorem V2_of_V' {X : Ctx} {b : List (Nat × Nat × Blk)} {c : Lim} {σ : Env} {w : World} {x : SV} {v : Value} (h : V X b c σ w x v) (hx : flatV x = true) : V2 X b c σ w x v := by
  cases x <;> first | exact h | (simp only [flatV, flat2, Bool.false_eq_true] at hx; done)

def rA0 (s : St) : SV → SV → Prop
  | .bool p, .bool q => p = q
  | .int k n, .int k' n' => k = k' ∧ n = n'
  | .str p, .str q => p = q
  | .nil, .nil => True
  | .nil, .view _ d => d.len = 0
  | .view t d, .view t' d' => (t' = true → t = true) ∧ d = d'
  | _, _ => False

def rAl (s : St) : List SV → List SV → Prop
  | [], [] => True
  | .arr k n l :: r, .arr k' n' l' :: r' => (k = k' ∧ n = n' ∧ l = l') ∧ rAl s r r'
  | x :: r, y :: r' => rA0 s x y ∧ rAl s r r'
  | _, _ => False

/-- Such a result is such an answer. -/
def rA (s : St) : SV → AV → Prop
  | .arr k n l, .v (.arr k' n' l') => k = k' ∧ n = n' ∧ l = l'
  | .agg l, .v (.agg l') => rAl s l l'
  | .nil, .own d => d.len = 0
  | .sl n g seg e off len, .own d => match blkAt s.b n g with
    | some (.vec d') => d' = d ∧ seg = 0 ∧ e = d.esz ∧ off = 0 ∧ len = d.len
    | _ => False
  | x, .v y => rA0 s x y
  | _, _ => False

def rAs (s : St) : List SV → List AV → Prop
  | [], [] => True
  | x :: r, y :: l => rA s x y ∧ rAs s r l
  | _, _ => False

def retQ (s : St) (xs : List SV) (rs : List AV) : Prop := rAs s xs rs ∧ nodup (ownN xs rs) ∧ bares rs = true

/-- The run has come to its end with such an answer. -/
def retP (T : Tab) (rv : Array ResultVar) (rs : List AV) (s : St) : Prop :=
  match rv.toList.map (resV T s) with
  | [] => retQ s [] rs
  | [some (p, x)] => p ∧ retQ s [unc x] rs
  | [some (p, x), some (q, y)] => p ∧ q ∧ retQ s [unc x, unc y] rs
  | [some (p, x), some (q, y), some (r, z)] => p ∧ q ∧ r ∧ retQ s [unc x, unc y, unc z] rs
  | _ => False

section
variable {P : Program} {T : Tab} {X : Ctx} {s : St} {σ : Env} {w : World} {a : Act}

theorem resV_ok (TO : TabOk P T) (hR : R X s σ w a) {r : ResultVar} {p : Prop} {x : SV} (h : resV T s r = some (p, x)) (hp : p) :
    ∃ v, (match r with | .tmp t => pure (a.tmps.getD t undef) | .cell q t => do loadVar t (← asAddr (a.tmps.getD q undef)) : Sem Value).run P w = .ok v w ∧ V X s.b s.c σ w x v := by
  have hbl : ∀ n g y, fnd s.b n = some (g, y) → BlkOk X s.b s.c σ w n y := fun n g y hy => (hR.bl n g y hy).2.1
  cases r with
  | tmp t =>
    simp only [resV, Option.some.injEq, Prod.mk.injEq] at h
    obtain ⟨rfl, rfl⟩ := h
    exact ⟨_, rfl, V_evO hR (.tmp t)⟩
  | cell q t =>
    simp only [resV] at h
    have hq := V_evO hR (.tmp q)
    simp only [evO] at hq
    cases e : s.t.getD q .any <;> rw [e] at hq h <;> try (simp only [loadV, reduceCtorEq] at h; done)
    case ptr n g off =>
      have hq2 : V2 X s.b s.c σ w (.ptr n g off) (a.eval (.tmp q)) := hq
      obtain ⟨u, hu, hv⟩ := loadV_ok TO h hp hq2 hbl (gl_here hR)
      cases eb : blkAt s.b n g <;> simp only [loadV, eb, reduceCtorEq] at h
      obtain ⟨_, hl⟩ := hq2
      obtain ⟨B, hB, e2⟩ := hl (blkAt_live eb)
      refine ⟨u, ?_, V_of_V2 hv⟩
      have e3 : a.tmps.getD q undef = .pointer (some ⟨B, off, none⟩) := e2
      rw [e2] at hu
      simp only [e3, asAddr, Sem.run_bind, Sem.run_pure, Result.andThen_ok]
      simpa [Instr.loadAt, Instr.sureAddr] using hu
    case eptr n g seg es i m =>
      have hq2 : V2 X s.b s.c σ w (.eptr n g seg es i m) (a.eval (.tmp q)) := hq
      obtain ⟨u, hu, hv⟩ := loadV_ok TO h hp hq2 hbl (gl_here hR)
      cases eb : blkAt s.b n g <;> simp only [loadV, eb, reduceCtorEq] at h
      obtain ⟨_, _, hl⟩ := hq2
      obtain ⟨B, hB, e2⟩ := hl (blkAt_live eb)
      refine ⟨u, ?_, V_of_V2 hv⟩
      have e3 : a.tmps.getD q undef = .pointer (some ⟨B, seg + i * es, none⟩) := e2
      rw [e2] at hu
      simp only [e3, asAddr, Sem.run_bind, Sem.run_pure, Result.andThen_ok]
      simpa [Instr.loadAt, Instr.sureAddr] using hu
    case lit y =>
      have hq2 : V2 X s.b s.c σ w (.lit y) (a.eval (.tmp q)) := hq
      obtain ⟨u, hu, hv⟩ := loadV_ok TO h hp hq2 hbl (gl_here hR)
      have e2 : a.eval (.tmp q) = y := hq2
      refine ⟨u, ?_, V_of_V2 hv⟩
      have e3 : a.tmps.getD q undef = y := e2
      rw [e2] at hu
      cases y <;> simp only [loadV, gloadV, reduceCtorEq] at h
      rename_i ad
      cases ad <;> simp only [reduceCtorEq] at h
      simp only [e3, asAddr, Sem.run_bind, Sem.run_pure, Result.andThen_ok]
      simpa [Instr.loadAt, Instr.sureAddr] using hu
    case vptr tag d i j =>
      have hq2 : V2 X s.b s.c σ w (.vptr tag d i j) (a.eval (.tmp q)) := hq
      obtain ⟨u, hu, hv⟩ := loadV_ok TO h hp hq2 hbl (gl_here hR)
      obtain ⟨_, B, o, e2, _⟩ := hq2
      refine ⟨u, ?_, V_of_V2 hv⟩
      have e3 : a.tmps.getD q undef = .pointer (some ⟨B, o + i * d.esz + j, none⟩) := e2
      rw [e2] at hu
      simp only [e3, asAddr, Sem.run_bind, Sem.run_pure, Result.andThen_ok]
      simpa [Instr.loadAt, Instr.sureAddr] using hu

theorem rAs_len : ∀ {xs : List SV} {rs : List AV}, rAs s xs rs → xs.length = rs.length
  | [], [], _ => rfl
  | x :: xs, y :: fs, h => by simp [rAs_len h.2]
  | [], _ :: _, h => h.elim
  | _ :: _, [], h => h.elim

theorem rAs_get : ∀ {xs : List SV} {fs : List AV} {j : Nat} {y : AV}, rAs s xs fs → fs[j]? = some y → ∃ x, xs[j]? = some x ∧ rA s x y
  | [], [], j, y, _, h => by simp at h
  | x :: xs, z :: fs, 0, y, h, e => by simp only [List.getElem?_cons_zero, Option.some.injEq] at e; subst e; exact ⟨x, rfl, h.1⟩
  | x :: xs, z :: fs, j + 1, y, h, e => by
    obtain ⟨x', h1, h2⟩ := rAs_get (j := j) h.2 (by simpa using e)
    exact ⟨x', by simpa using h1, h2⟩
  | [], _ :: _, _, _, h, _ => h.elim
  | _ :: _, [], _, _, h, _ => h.elim

theorem Vw_tag {b : List (Nat × Nat × Blk)} {t t' : Bool} {B : Nat} (h : Vw X b σ w t B) (ht : t' = true → t = true) : Vw X b σ w t' B := h.weak ht

theorem rA0_ok {x y : SV} {v : Value} (h : rA0 s x y) (hx : V0 X s.b s.c σ w x v) : V0 X s.b s.c σ w y v := by
  cases x <;> cases y <;> simp only [rA0] at h
  case bool.bool => subst h; exact hx
  case int.int => obtain ⟨rfl, rfl⟩ := h; exact hx
  case str.str => subst h; exact hx
  case nil.nil => exact hx
  case nil.view t d =>
    rw [show v = _ from hx]
    exact ⟨none, 0, by rw [h], by omega, fun hne => absurd h hne⟩
  case view.view t d t' d' =>
    obtain ⟨h1, rfl⟩ := h
    obtain ⟨a, cap, e, h2, h3⟩ := hx
    refine ⟨a, cap, e, h2, fun hne => ?_⟩
    obtain ⟨B, o, e, h4, hh⟩ := h3 hne
    exact ⟨B, o, e, h4.weak h1, hh⟩

theorem rAl_ok : ∀ {l m : List SV} {cs : List Value}, rAl s l m → CellsOk X s.b s.c σ w l cs → CellsOk X s.b s.c σ w m cs := by
  intro l
  induction l with
  | nil => intro m cs h hx; cases m <;> simp only [rAl] at h; exact hx
  | cons x r ih =>
    intro m cs h hx
    cases m with
    | nil => cases x <;> simp only [rAl] at h
    | cons y m =>
      have gen : rA0 s x y ∧ rAl s r m → (∃ v cs', cs = v :: cs' ∧ V0 X s.b s.c σ w x v ∧ CellsOk X s.b s.c σ w r cs') → CellsOk X s.b s.c σ w (y :: m) cs := by
        rintro ⟨h1, h2⟩ ⟨v, cs', rfl, h3, h4⟩
        have h5 := rA0_ok h1 h3
        have h6 := ih h2 h4
        cases y
        case arr => cases x <;> simp only [rA0] at h1
        all_goals exact ⟨v, cs', rfl, h5, h6⟩
      cases x
      case arr k n q =>
        cases y <;> simp only [rAl, rA0, false_and] at h
        obtain ⟨⟨rfl, rfl, rfl⟩, h2⟩ := h
        obtain ⟨h1, cs', rfl, h3⟩ := hx
        exact ⟨h1, cs', rfl, ih h2 h3⟩
      all_goals exact gen (by simpa only [rAl] using h) hx

theorem retQ_ok (hR : R X s σ w a) {xs : List SV} {rs : List AV} (h : retQ s xs rs) {vs : List Value} (hl : vs.length = xs.length) (hv : ∀ (j : Nat) (x : SV) (v : Value), xs[j]? = some x → vs[j]? = some v → V X s.b s.c σ w x v) :
    ∃ σ', R X ⟨svs 0 rs, blks 0 rs, ⟨1, [], 0⟩⟩ σ' w ⟨vs.toArray, []⟩ := by
  obtain ⟨hm, hnd, hbare⟩ := h
  have hlen := rAs_len hm
  let σ1 : Env := fun m => match xs[m]? with | some (.sl n _ _ _ _ _) => σ n | _ => none
  have hown : ∀ (j n g seg e off len : Nat) (d : Data), xs[j]? = some (SV.sl n g seg e off len) → rs[j]? = some (AV.own d) → fnd s.b n = some (g, .vec d) ∧ seg = 0 ∧ e = d.esz ∧ off = 0 ∧ len = d.len := by
    intro j n g seg e off len d h1 h2
    obtain ⟨x, h3, h4⟩ := rAs_get hm h2
    rw [h1] at h3
    simp only [Option.some.injEq] at h3
    subst h3
    simp only [rA] at h4
    cases eb : blkAt s.b n g <;> simp only [eb] at h4
    rename_i bk
    cases bk <;> simp only at h4
    obtain ⟨rfl, h5, h6, h7, h8⟩ := h4
    exact ⟨blkAt_fnd eb, h5, h6, h7, h8⟩
  have hVw : ∀ B, Vw X s.b σ w true B → Vw X (blks 0 rs) σ1 w true B := by
    intro B hv
    rcases hv.2 with ⟨h, _⟩ | ⟨h1, h2⟩
    · simp at h
    · refine ⟨hv.1, .inr ⟨h1, ?_⟩⟩
      rintro ⟨m, z, hz, hs⟩
      obtain ⟨j, d, rfl, hj, _⟩ := fnd_blks hz
      simp only [σ1, Nat.zero_add] at hs
      obtain ⟨x, hx, _⟩ := rAs_get hm hj
      rw [hx] at hs
      cases x <;> simp only [reduceCtorEq] at hs
      obtain ⟨h3, _⟩ := hown _ _ _ _ _ _ _ _ hx hj
      exact h2 ⟨_, _, h3, hs⟩
  refine ⟨σ1, by simp [svs_length, hl, hlen], ?_, rfl, ?_, ?_, hR.fr, hR.st, hR.ro, hR.gl⟩
  · intro j hj
    rw [svs_length] at hj
    obtain ⟨y, hy⟩ : ∃ y, rs[j]? = some y := ⟨rs[j], by simp [hj]⟩
    obtain ⟨x, hx, hma⟩ := rAs_get hm hy
    have hjv : j < vs.length := by omega
    have hvj : vs[j]? = some vs[j] := by simp [hjv]
    have hV := hv j x _ hx hvj
    have e1 : (svs 0 rs).getD j .any = y.sv (0 + j) := by simp [List.getD, svs_get, hy]
    have e2 : vs.toArray.getD j undef = vs[j] := by
      have : vs.toArray[j]? = some vs[j] := by rw [List.getElem?_toArray]; exact hvj
      rw [Array.getD_eq_getD_getElem?, this]; rfl
    show V X (blks 0 rs) ⟨1, [], 0⟩ σ1 w ((svs 0 rs).getD j .any) (vs.toArray.getD j undef)
    rw [e1, e2]
    cases y with
    | v y =>
      refine V_of_V2 (V2_of_V1 ?_)
      refine bare_tr (c := s.c) (bares_get hbare hy) ?_ hVw
      have gen : rA0 s x y → V0 X s.b s.c σ w x vs[j] → V X s.b s.c σ w y vs[j] := fun h1 h2 => V_of_V2 (V2_of_V1 (V1_of_V0 (rA0_ok h1 h2)))
      cases x <;> cases y <;> simp only [rA, rA0] at hma <;> try (exact gen hma hV)
      case arr.arr => obtain ⟨rfl, rfl, rfl⟩ := hma; exact hV
      case agg.agg l l' =>
        obtain ⟨cs, e, hcs⟩ := hV
        exact ⟨cs, e, rAl_ok hma hcs⟩
    | own dd =>
      simp only [AV.sv, Nat.zero_add]
      refine ⟨.inl Nat.zero_lt_one, fun _ => ?_⟩
      have e3 : σ1 j = (match xs[j]? with | some (.sl n _ _ _ _ _) => σ n | _ => none) := rfl
      rw [e3, hx]
      cases x <;> simp only [rA] at hma
      case nil =>
        rw [show vs[j] = _ from hV]
        exact ⟨none, 0, by rw [hma], by omega, fun h => absurd rfl h⟩
      case sl n g seg e off len =>
        obtain ⟨h1, rfl, rfl, rfl, rfl⟩ := hown j n g seg e off len dd hx hy
        obtain ⟨_, hl⟩ := hV
        exact hl ⟨_, h1⟩
  · intro n g x hx
    obtain ⟨j, dd, hnj, hy, hx'⟩ := fnd_blks hx
    rw [Nat.zero_add] at hnj
    subst hnj
    simp only [Prod.mk.injEq] at hx'
    obtain ⟨rfl, rfl⟩ := hx'
    refine ⟨.inl Nat.zero_lt_one, ?_⟩
    obtain ⟨x, hx2, hma⟩ := rAs_get hm hy
    have e3 : σ1 n = (match xs[n]? with | some (.sl n _ _ _ _ _) => σ n | _ => none) := rfl
    show BlkOk X (blks 0 rs) ⟨1, [], 0⟩ σ1 w n (.vec dd) ∧ ∀ B, σ1 n = some B → B < w.heap.size ∧ (X.mt B ∨ X.w0.heap.size ≤ B)
    simp only [BlkOk, e3, hx2]
    cases x <;> simp only [rA] at hma
    case nil => exact ⟨.inl ⟨rfl, hma⟩, fun B hB => by simp at hB⟩
    case sl m g seg e off len =>
      obtain ⟨h1, rfl, rfl, rfl, rfl⟩ := hown n m g seg e off len dd hx2 hy
      obtain ⟨_, h4, h5⟩ := hR.bl m g _ h1
      refine ⟨?_, h5⟩
      rcases h4 with h4 | ⟨B, cs, ty, fr, h6, h7, h8, h9, h10, h11⟩
      · exact .inl h4
      · exact .inr ⟨B, cs, ty, fr, h6, h7, h8, h9, bareD_holds (bares_get hbare hy) h10 hVw, h11⟩
  · intro n m x y B hx hy hs1 hs2
    obtain ⟨j, dd, h1, hj, _⟩ := fnd_blks hx
    obtain ⟨j', dd', h2, hj', _⟩ := fnd_blks hy
    rw [Nat.zero_add] at h1 h2
    subst h1; subst h2
    obtain ⟨x1, hx1, hm1⟩ := rAs_get hm hj
    obtain ⟨x2, hx2, hm2⟩ := rAs_get hm hj'
    have e3 : σ1 n = (match xs[n]? with | some (.sl n _ _ _ _ _) => σ n | _ => none) := rfl
    have e4 : σ1 m = (match xs[m]? with | some (.sl n _ _ _ _ _) => σ n | _ => none) := rfl
    rw [e3, hx1] at hs1
    rw [e4, hx2] at hs2
    cases x1 <;> simp only [reduceCtorEq] at hs1
    cases x2 <;> simp only [reduceCtorEq] at hs2
    obtain ⟨h3, _⟩ := hown _ _ _ _ _ _ _ _ hx1 hj
    obtain ⟨h4, _⟩ := hown _ _ _ _ _ _ _ _ hx2 hj'
    have := hR.inj _ _ _ _ B h3 h4 hs1 hs2
    subst this
    exact own_inj hnd hx1 hj hx2 hj'

/-- One result. -/
def resF (tmps : Array Value) : ResultVar → Sem Value := fun r => match r with | .tmp t => pure (tmps.getD t undef) | .cell q t => do loadVar t (← asAddr (tmps.getD q undef))

theorem results_eq (fn : Func) (tmps : Array Value) : results fn tmps = (do let vs ← fn.results.mapM (resF tmps); pure (if h : vs.size = 1 then vs[0] else .tuple vs)) := rfl

theorem run_results1 {fn : Func} {tmps : Array Value} {r1 : ResultVar} {v1 : Value} (h : fn.results = [r1].toArray) (h1 : (resF tmps r1).run P w = .ok v1 w) : (results fn tmps).run P w = .ok (pack [v1]) w := by
  rw [results_eq, h]
  generalize resF tmps = f at *
  simp [h1, pack]

theorem run_results2 {fn : Func} {tmps : Array Value} {r1 r2 : ResultVar} {v1 v2 : Value} (h : fn.results = [r1, r2].toArray) (h1 : (resF tmps r1).run P w = .ok v1 w) (h2 : (resF tmps r2).run P w = .ok v2 w) : (results fn tmps).run P w = .ok (pack [v1, v2]) w := by
  rw [results_eq, h]
  generalize resF tmps = f at *
  simp [h1, h2, pack]

theorem run_results3 {fn : Func} {tmps : Array Value} {r1 r2 r3 : ResultVar} {v1 v2 v3 : Value} (h : fn.results = [r1, r2, r3].toArray) (h1 : (resF tmps r1).run P w = .ok v1 w) (h2 : (resF tmps r2).run P w = .ok v2 w) (h3 : (resF tmps r3).run P w = .ok v3 w) : (results fn tmps).run P w = .ok (pack [v1, v2, v3]) w := by
  rw [results_eq, h]
  generalize resF tmps = f at *
  simp [h1, h2, h3, pack]

theorem retP_ok (TO : TabOk P T) (hR : R X s σ w a) {fn : Func} {rs : List AV} (h : retP T fn.results rs s) :
    ∃ vs σ', (results fn a.tmps).run P w = .ok (pack vs) w ∧ R X ⟨svs 0 rs, blks 0 rs, ⟨1, [], 0⟩⟩ σ' w ⟨vs.toArray, []⟩ := by
  unfold retP at h
  obtain ⟨rv, hrv⟩ : ∃ l : List ResultVar, fn.results = l.toArray := ⟨fn.results.toList, by simp⟩
  rw [hrv] at h
  match rv, hrv with
  | [], hrv =>
    simp only [List.map_nil] at h
    obtain ⟨σ', h'⟩ := retQ_ok hR h (vs := []) rfl (fun j x v h1 h2 => by simp at h1)
    exact ⟨[], σ', by simp [results, hrv, pack], h'⟩
  | [r1], hrv =>
    simp only [List.map_cons, List.map_nil] at h
    cases e1 : resV T s r1 <;> simp only [e1] at h
    rename_i q1
    obtain ⟨p1, x1⟩ := q1
    simp only at h
    obtain ⟨v1, hr1, hv1⟩ := resV_ok TO hR e1 h.1
    obtain ⟨σ', h'⟩ := retQ_ok hR h.2 (vs := [v1]) rfl (fun j x v h1 h2 => by
      match j, h1, h2 with
      | 0, h1, h2 => simp at h1 h2; subst h1; subst h2; exact V_unc hv1
      | _ + 1, h1, h2 => simp at h1)
    refine ⟨[v1], σ', ?_, h'⟩
    exact run_results1 hrv hr1
  | [r1, r2], hrv =>
    simp only [List.map_cons, List.map_nil] at h
    cases e1 : resV T s r1 <;> simp only [e1] at h
    rename_i q1
    obtain ⟨p1, x1⟩ := q1
    cases e2 : resV T s r2 <;> simp only [e2] at h
    rename_i q2
    obtain ⟨p2, x2⟩ := q2
    simp only at h
    obtain ⟨v1, hr1, hv1⟩ := resV_ok TO hR e1 h.1
    obtain ⟨v2, hr2, hv2⟩ := resV_ok TO hR e2 h.2.1
    obtain ⟨σ', h'⟩ := retQ_ok hR h.2.2 (vs := [v1, v2]) rfl (fun j x v h1 h2 => by
      match j, h1, h2 with
      | 0, h1, h2 => simp at h1 h2; subst h1; subst h2; exact V_unc hv1
      | 1, h1, h2 => simp at h1 h2; subst h1; subst h2; exact V_unc hv2
      | _ + 2, h1, h2 => simp at h1)
    refine ⟨[v1, v2], σ', ?_, h'⟩
    exact run_results2 hrv hr1 hr2
  | [r1, r2, r3], hrv =>
    simp only [List.map_cons, List.map_nil] at h
    cases e1 : resV T s r1 <;> simp only [e1] at h
    rename_i q1
    obtain ⟨p1, x1⟩ := q1
    cases e2 : resV T s r2 <;> simp only [e2] at h
    rename_i q2
    obtain ⟨p2, x2⟩ := q2
    cases e3 : resV T s r3 <;> simp only [e3] at h
    rename_i q3
    obtain ⟨p3, x3⟩ := q3
    simp only at h
    obtain ⟨v1, hr1, hv1⟩ := resV_ok TO hR e1 h.1
    obtain ⟨v2, hr2, hv2⟩ := resV_ok TO hR e2 h.2.1
    obtain ⟨v3, hr3, hv3⟩ := resV_ok TO hR e3 h.2.2.1
    obtain ⟨σ', h'⟩ := retQ_ok hR h.2.2.2 (vs := [v1, v2, v3]) rfl (fun j x v h1 h2 => by
      match j, h1, h2 with
      | 0, h1, h2 => simp at h1 h2; subst h1; subst h2; exact V_unc hv1
      | 1, h1, h2 => simp at h1 h2; subst h1; subst h2; exact V_unc hv2
      | 2, h1, h2 => simp at h1 h2; subst h1; subst h2; exact V_unc hv3
      | _ + 3, h1, h2 => simp at h1)
    refine ⟨[v1, v2, v3], σ', ?_, h'⟩
    exact run_results3 hrv hr1 hr2 hr3
  | _ :: _ :: _ :: _ :: _, hrv =>
    exfalso
    simp only [List.map_cons] at h
    split at h <;> simp_all

theorem meets_of_run (TO : TabOk P T) {f : FuncId} {fn : Func} {c : Code} {args rs : List AV} (hf : P.funcs[f]? = some fn) (hb : fn.body = some c)
    (h : ∀ X, HRun P X [.code c] ⟨svs 1000 args ++ List.replicate (fn.ntmps - args.length) .any, blks 1000 args, ⟨1, [], 0⟩⟩ (retP T fn.results rs)) : Meets P f args rs := by
  intro X σ vals hR
  refine calls_of_fin hf hb ?_
  have hsz : vals.size = args.length := by have := hR.sz; simpa [svs_length] using this
  have hR2 : R X ⟨svs 1000 args ++ List.replicate (fn.ntmps - args.length) .any, blks 1000 args, ⟨1, [], 0⟩⟩ σ X.w0 { tmps := vals ++ Array.replicate (fn.ntmps - vals.size) undef, defers := [] } := by
    refine { hR with sz := by simp [svs_length, hsz], tm := fun i hi => ?_ }
    by_cases hlt : i < args.length
    · have h1 := hR.tm i (by rw [svs_length]; exact hlt)
      have e1 : (svs 1000 args ++ List.replicate (fn.ntmps - args.length) SV.any).getD i .any = (svs 1000 args).getD i .any := by
        simp only [List.getD]; rw [List.getElem?_append_left (by rw [svs_length]; exact hlt)]
      have e2 : (vals ++ Array.replicate (fn.ntmps - vals.size) undef).getD i undef = vals.getD i undef := by
        rw [Array.getD_eq_getD_getElem?, Array.getD_eq_getD_getElem?, Array.getElem?_append_left (by omega)]
      show V X (blks 1000 args) ⟨1, [], 0⟩ σ X.w0 ((svs 1000 args ++ List.replicate (fn.ntmps - args.length) SV.any).getD i .any) ((vals ++ Array.replicate (fn.ntmps - vals.size) undef).getD i undef)
      rw [e1, e2]; exact h1
    · have e1 : (svs 1000 args ++ List.replicate (fn.ntmps - args.length) SV.any).getD i .any = .any := by
        simp only [List.getD]; rw [List.getElem?_append_right (by rw [svs_length]; omega)]
        rw [List.getElem?_replicate]; split <;> rfl
      show V X (blks 1000 args) ⟨1, [], 0⟩ σ X.w0 ((svs 1000 args ++ List.replicate (fn.ntmps - args.length) SV.any).getD i .any) _
      rw [e1]; exact V.any _
  intro b cs
  obtain ⟨a', w', t', ⟨s', σ', hp, hR', _⟩, hs⟩ := h X σ X.w0 _ hR2 b cs
  obtain ⟨vs, σ2, hr, hR3⟩ := retP_ok TO hR' hp
  exact ⟨a', w', t', ⟨hR'.df, pack vs, hr, vs, σ2, rfl, hR3⟩, hs⟩

/-- Is the guard answered? -/
def guardIs (ops : Array Oper) (t : List SV) (g : Bool) : Option (Nat × Bool) → Prop
  | none => g = true
  | some (j, w) => guardOf ops t j w = some g

theorem run_callFunc {f : FuncId} {fn : Func} {args : Array Value} (hf : P.funcs[f]? = some fn) (hb : fn.body.isSome = true) (hname : (fn.name == "runtime.NumGoroutine") = false) :
    (callFunc f args).run P w = .ok (.enter f args) w := by
  have hb' : ¬ fn.body = none := by intro h; rw [h] at hb; simp at hb
  have hn' : ¬ fn.name = "runtime.NumGoroutine" := by simpa using hname
  simp [callFunc, hf, hn', hb']

theorem HOps_call {ops : Array Oper} {o : Oper} {rest : List Oper} {k : List Item} {Φ : St → Prop} {f : FuncId} {fn : Func} {as : Array Operand} {ts : Array TypeId} {d : Nat} {fs rs : List AV}
    (hM : Meets P f fs rs) (ho : o.op = .call { callee := .value (.func f), args := as, argTypes := ts }) (hd : o.dst = some d) (hg : guardIs ops s.t true o.guard)
    (hf : P.funcs[f]? = some fn) (hb : fn.body.isSome = true) (hname : (fn.name == "runtime.NumGoroutine") = false)
    (hp : callP s d as.toList fs rs) (hn : HOps P X ops rest k (callS s d as.toList fs rs) Φ) : HOps P X ops (o :: rest) k s Φ := by
  intro i hi σ w a hR
  have ho' : ops[i]? = some o := by
    have := congrArg (fun l : List Oper => l[0]?) hi
    simpa using this
  have hrest : ops.toList.drop (i + 1) = rest := by
    have := congrArg List.tail hi
    simpa using this
  have hw : Region.wanted o (yielded ops a.tmps) = true := by
    cases e : o.guard with
    | none => simp [Region.wanted, e]
    | some jw => obtain ⟨j, w'⟩ := jw; rw [e] at hg; simp only [Region.wanted, e]; exact guardOf_ok hR hg
  rw [List.length_cons, List.range'_succ]
  refine Fins.opCall (f := f) (args := (as.toList.map a.eval).toArray) (w' := w) ho' hw ?_ ?_
  · simp only [execOp, ho, resolve]
    have e1 : a.eval (.func f) = .func (.func f) #[] #[] := rfl
    have e2 : (as.toList.map a.eval).toArray = as.map a.eval := Array.ext' (by rw [Array.toList_map])
    simp [e1, Deferred.ofValue, invoke, run_callFunc hf hb hname, e2]
  · refine (call_R hR hM hp).mono ?_
    rintro e w' ⟨v, σ', rfl, hR', hT⟩
    exact ⟨v, rfl, by rw [hd]; exact (hn (i + 1) hrest).after hR' hT⟩

/-- An operation that is passed by. -/
theorem HOps_skip {ops : Array Oper} {o : Oper} {rest : List Oper} {k : List Item} {Φ : St → Prop} (hg : guardIs ops s.t false o.guard)
    (hn : HOps P X ops rest k ⟨setD s.t o.dst .any, s.b, s.c⟩ Φ) : HOps P X ops (o :: rest) k s Φ := by
  intro i hi σ w a hR
  have ho' : ops[i]? = some o := by
    have := congrArg (fun l : List Oper => l[0]?) hi
    simpa using this
  have hrest : ops.toList.drop (i + 1) = rest := by
    have := congrArg List.tail hi
    simpa using this
  have hw : Region.wanted o (yielded ops a.tmps) = false := by
    cases e : o.guard with
    | none => rw [e] at hg; exact absurd hg (by simp [guardIs])
    | some jw => obtain ⟨j, w'⟩ := jw; rw [e] at hg; simp only [Region.wanted, e]; exact guardOf_ok hR hg
  rw [List.length_cons, List.range'_succ]
  exact Fins.opSkip ho' hw ((hn (i + 1) hrest).after (R_set hR (V.any _)) Tr.refl)

/-- What a function that was walked into answers, and where the caller goes on. -/
def inRet (T : Tab) (rv : Array ResultVar) (o d : Nat) (t : List SV) (next : St → Prop) (s : St) : Prop :=
  match rv.toList.map (resV T s) with
  | [] => next ⟨t.set d (.tup []), s.b, ⟨s.c.c, s.c.d, o⟩⟩
  | [some (p, x)] => p ∧ next ⟨t.set d x, s.b, ⟨s.c.c, s.c.d, o⟩⟩
  | [some (p, x), some (q, y)] => p ∧ q ∧ next ⟨t.set d (.tup [x, y]), s.b, ⟨s.c.c, s.c.d, o⟩⟩
  | [some (p, x), some (q, y), some (r, z)] => p ∧ q ∧ r ∧ next ⟨t.set d (.tup [x, y, z]), s.b, ⟨s.c.c, s.c.d, o⟩⟩
  | _ => False

theorem V1_of_V {x : SV} {v : Value} (h : V X s.b s.c σ w x v) (hx : flat1 x = true) : V1 X s.b s.c σ w x v := by
  cases x <;> first | exact h | (simp only [flat1, Bool.false_eq_true] at hx; done)

/-- A call, its function walked into; what is entered, and with which values. -/
theorem HOps_inG (TO : TabOk P T) {ops : Array Oper} {o : Oper} {rest : List Oper} {k : List Item} {Φ : St → Prop} {f : FuncId} {fn : Func} {c : Code} {xs : List SV} {d : Nat} (off : Nat)
    (hex : ∀ σ w a, R X s σ w a → ∃ vals : Array Value, (execOp a.eval o).run P w = .ok (.enter f vals) w ∧ vals.size = xs.length ∧ ∀ (j : Nat) (x : SV), xs[j]? = some x → ∃ v, vals[j]? = some v ∧ V2 X s.b s.c σ w x v)
    (hd : o.dst = some d) (hg : guardIs ops s.t true o.guard)
    (hf : P.funcs[f]? = some fn) (hb : fn.body = some c)
    (h : HRun P X [.code c] ⟨xs ++ List.replicate (fn.ntmps - xs.length) .any, s.b, ⟨s.c.c + 1, [], s.c.o + off⟩⟩ (inRet T fn.results s.c.o d s.t (fun s' => flats s' d = true ∧ HOps P X ops rest k s' Φ))) :
    HOps P X ops (o :: rest) k s Φ := by
  intro i hi σ w a hR
  have ho' : ops[i]? = some o := by
    have := congrArg (fun l : List Oper => l[0]?) hi
    simpa using this
  have hrest : ops.toList.drop (i + 1) = rest := by
    have := congrArg List.tail hi
    simpa using this
  have hw : Region.wanted o (yielded ops a.tmps) = true := by
    cases e : o.guard with
    | none => simp [Region.wanted, e]
    | some jw => obtain ⟨j, w'⟩ := jw; rw [e] at hg; simp only [Region.wanted, e]; exact guardOf_ok hR hg
  rw [List.length_cons, List.range'_succ]
  have hbs : fn.body.isSome = true := by rw [hb]; rfl
  obtain ⟨vals, hex1, hvs, hvx⟩ := hex σ w a hR
  refine Fins.opCall (f := f) (args := vals) (w' := w) ho' hw hex1 ?_
  · refine calls_of_fin hf hb ?_
    -- the frame that is entered
    have hb2 := R_bump (o := s.c.o + off) hR
    have hR2 : R X ⟨xs ++ List.replicate (fn.ntmps - xs.length) .any, s.b, ⟨s.c.c + 1, [], s.c.o + off⟩⟩ σ w { tmps := vals ++ Array.replicate (fn.ntmps - vals.size) undef, defers := [] } := by
      refine { hb2 with sz := by simp [hvs], tm := fun j hj => ?_, df := rfl }
      show V X s.b ⟨s.c.c + 1, [], s.c.o + off⟩ σ w ((xs ++ List.replicate (fn.ntmps - xs.length) SV.any).getD j .any) _
      by_cases hlt : j < xs.length
      · obtain ⟨x, hx⟩ : ∃ x, xs[j]? = some x := ⟨xs[j], by simp [hlt]⟩
        obtain ⟨v, hv, hV⟩ := hvx j x hx
        have e1 : (xs ++ List.replicate (fn.ntmps - xs.length) SV.any).getD j .any = x := by
          simp only [List.getD]; rw [List.getElem?_append_left (by omega), hx]; rfl
        have e2 : (vals ++ Array.replicate (fn.ntmps - vals.size) undef).getD j undef = v := by
          rw [Array.getD_eq_getD_getElem?, Array.getElem?_append_left (by omega), hv]; rfl
        rw [e1, e2]
        exact V_of_V2 (hV.tr Tr_bump)
      · have e1 : (xs ++ List.replicate (fn.ntmps - xs.length) SV.any).getD j .any = .any := by
          simp only [List.getD]; rw [List.getElem?_append_right (by omega)]
          rw [List.getElem?_replicate]; split <;> rfl
        rw [e1]; exact V.any _
    refine (h σ w _ hR2).mono ?_
    rintro a' w' ⟨s', σ', hi, hR', hT'⟩
    have hT : Tr X s.b s.c σ w s'.b s'.c σ' w' := Tr_bump.trans hT'
    refine ⟨hR'.df, ?_⟩
    -- back in the caller
    have back : ∀ (xs : List SV) (vs : List Value), (results fn a'.tmps).run P w' = .ok (pack vs) w' → V2 X s'.b s'.c σ' w' (packS xs) (pack vs) → HOps P X ops rest k ⟨s.t.set d (packS xs), s'.b, ⟨s'.c.c, s'.c.d, s.c.o⟩⟩ Φ →
        ∃ v, (results fn a'.tmps).run P w' = .ok v w' ∧ ∃ v_1, Ending.returned v = .returned v_1 ∧ Fins P (.inRegion ops (List.range' (i + 1) rest.length) :: k) (a.put o.dst v_1) w' fun a' w' => ∃ s' σ', Φ s' ∧ R X s' σ' w' a' ∧ Tr X s.b s.c σ w s'.b s'.c σ' w' := by
      intro xs vs hr hv hn
      refine ⟨pack vs, hr, pack vs, rfl, ?_⟩
      rw [hd]
      have hT2 : Tr X s.b s.c σ w s'.b ⟨s'.c.c, s'.c.d, s.c.o⟩ σ' w' := ⟨hT.cc, hT.lv, hT.vw, hT.bs⟩
      have hT3 : Tr X s'.b s'.c σ' w' s'.b ⟨s'.c.c, s'.c.d, s.c.o⟩ σ' w' := ⟨fun _ _ h => h, fun _ _ h _ => ⟨h, rfl⟩, fun _ _ h => ⟨rfl, h⟩, fun _ _ _ _ _ _ => Nat.le_refl _⟩
      have ht := put_tm (dst := some d) hR.sz (fun i hi => (hR.tm i hi).tr hT2) (V_of_V2 (hv.tr hT3))
      refine (hn (i + 1) hrest).after ?_ hT2
      exact { hR' with
        sz := ht.1
        tm := ht.2
        df := hR.df
        bl := fun n g x hx => let ⟨h1, h2, h3⟩ := hR'.bl n g x hx; ⟨h1, h2.tr hT3 rfl (fun _ _ => rfl), h3⟩ }
    unfold inRet at hi
    obtain ⟨rv, hrv⟩ : ∃ l : List ResultVar, fn.results = l.toArray := ⟨fn.results.toList, by simp⟩
    rw [hrv] at hi
    match rv, hrv with
    | [], hrv =>
      simp only [List.map_nil] at hi
      exact back [] [] (by simp [results, hrv, pack]) ⟨#[], rfl, rfl⟩ hi.2
    | [r1], hrv =>
      simp only [List.map_cons, List.map_nil] at hi
      cases e1 : resV T s' r1 <;> simp only [e1] at hi
      rename_i q1
      obtain ⟨p1, x1⟩ := q1
      simp only at hi
      obtain ⟨v1, hr1, hv1⟩ := resV_ok TO hR' e1 hi.1
      refine back [x1] [v1] (run_results1 hrv hr1) ?_ hi.2.2
      have hfl := hi.2.1
      simp only [flats] at hfl
      have hdl : d < s.t.length ∨ ¬ d < s.t.length := Nat.lt_or_ge d _ |>.imp id (fun h => Nat.not_lt.2 h)
      rcases hdl with hdl | hdl
      · have e2 : (s.t.set d x1).getD d .any = x1 := by simp [List.getD, hdl]
        rw [e2] at hfl
        have h9 : V2 X s'.b s'.c σ' w' x1 v1 := V2_of_V' hv1 hfl
        exact h9
      · have e2 : (s.t.set d x1).getD d .any = .any := by simp [List.getD, hdl]
        rw [e2] at hfl
        simp [flatV, flat2] at hfl
    | [r1, r2], hrv =>
      simp only [List.map_cons, List.map_nil] at hi
      cases e1 : resV T s' r1 <;> simp only [e1] at hi
      rename_i q1
      obtain ⟨p1, x1⟩ := q1
      cases e2 : resV T s' r2 <;> simp only [e2] at hi
      rename_i q2
      obtain ⟨p2, x2⟩ := q2
      simp only at hi
      obtain ⟨v1, hr1, hv1⟩ := resV_ok TO hR' e1 hi.1
      obtain ⟨v2, hr2, hv2⟩ := resV_ok TO hR' e2 hi.2.1
      refine back [x1, x2] [v1, v2] (run_results2 hrv hr1 hr2) ?_ hi.2.2.2
      have hfl := flats_tup hi.2.2.1
      simp only [List.all_cons, List.all_nil, Bool.and_true, Bool.and_eq_true] at hfl
      exact ⟨_, rfl, v1, _, rfl, V1_of_V hv1 hfl.1, v2, _, rfl, V1_of_V hv2 hfl.2, rfl⟩
    | [r1, r2, r3], hrv =>
      simp only [List.map_cons, List.map_nil] at hi
      cases e1 : resV T s' r1 <;> simp only [e1] at hi
      rename_i q1
      obtain ⟨p1, x1⟩ := q1
      cases e2 : resV T s' r2 <;> simp only [e2] at hi
      rename_i q2
      obtain ⟨p2, x2⟩ := q2
      cases e3 : resV T s' r3 <;> simp only [e3] at hi
      rename_i q3
      obtain ⟨p3, x3⟩ := q3
      simp only at hi
      obtain ⟨v1, hr1, hv1⟩ := resV_ok TO hR' e1 hi.1
      obtain ⟨v2, hr2, hv2⟩ := resV_ok TO hR' e2 hi.2.1
      obtain ⟨v3, hr3, hv3⟩ := resV_ok TO hR' e3 hi.2.2.1
      refine back [x1, x2, x3] [v1, v2, v3] (run_results3 hrv hr1 hr2 hr3) ?_ hi.2.2.2.2
      have hfl := flats_tup hi.2.2.2.1
      simp only [List.all_cons, List.all_nil, Bool.and_true, Bool.and_eq_true] at hfl
      exact ⟨_, rfl, v1, _, rfl, V1_of_V hv1 hfl.1, v2, _, rfl, V1_of_V hv2 hfl.2.1, v3, _, rfl, V1_of_V hv3 hfl.2.2, rfl⟩
    | _ :: _ :: _ :: _ :: _, hrv =>
      exfalso
      simp only [List.map_cons] at hi
      split at hi <;> simp_all

/-- A call, its function walked into. -/
theorem HOps_in (TO : TabOk P T) {ops : Array Oper} {o : Oper} {rest : List Oper} {k : List Item} {Φ : St → Prop} {f : FuncId} {fn : Func} {c : Code} {as : Array Operand} {ts : Array TypeId} {d : Nat} (off : Nat)
    (ho : o.op = .call { callee := .value (.func f), args := as, argTypes := ts }) (hd : o.dst = some d) (hg : guardIs ops s.t true o.guard)
    (hf : P.funcs[f]? = some fn) (hb : fn.body = some c) (hname : (fn.name == "runtime.NumGoroutine") = false) (hgd : gdPs s.t true as.toList)
    (h : HRun P X [.code c] ⟨argC s.t as.toList ++ List.replicate (fn.ntmps - as.size) .any, s.b, ⟨s.c.c + 1, [], s.c.o + off⟩⟩ (inRet T fn.results s.c.o d s.t (fun s' => flats s' d = true ∧ HOps P X ops rest k s' Φ))) :
    HOps P X ops (o :: rest) k s Φ := by
  have hlen : (argC s.t as.toList).length = as.size := by simp [argC]
  have hbs : fn.body.isSome = true := by rw [hb]; rfl
  refine HOps_inG TO (f := f) (xs := argC s.t as.toList) off (fun σ w a hR => ⟨(as.toList.map a.eval).toArray, ?_, by simp [hlen], fun j x hx => ?_⟩) hd hg hf hb (by rw [hlen]; exact h)
  · simp only [execOp, ho, resolve]
    have e1 : a.eval (.func f) = .func (.func f) #[] #[] := rfl
    have e2 : (as.toList.map a.eval).toArray = as.map a.eval := Array.ext' (by rw [Array.toList_map])
    simp [e1, Deferred.ofValue, invoke, run_callFunc hf hbs hname, e2]
  · obtain ⟨v, hv, hV⟩ := evalsC hR hgd hx
    exact ⟨v, by rw [List.getElem?_toArray]; exact hv, hV⟩

theorem All1_get {b : List (Nat × Nat × Blk)} {cl : Lim} : ∀ {l : List SV} {vs : List Value} {j : Nat} {x : SV}, All1 X b cl σ w l vs → l[j]? = some x → ∃ v, vs[j]? = some v ∧ V1 X b cl σ w x v
  | [], vs, j, x, _, h => by simp at h
  | y :: l, vs, 0, x, h, e => by
    obtain ⟨v, vs', rfl, h1, _⟩ := h
    simp only [List.getElem?_cons_zero, Option.some.injEq] at e
    subst e
    exact ⟨v, rfl, h1⟩
  | y :: l, vs, j + 1, x, h, e => by
    obtain ⟨v, vs', rfl, _, h2⟩ := h
    simpa using All1_get h2 (by simpa using e)

theorem All1_len {b : List (Nat × Nat × Blk)} {cl : Lim} : ∀ {l : List SV} {vs : List Value}, All1 X b cl σ w l vs → l.length = vs.length
  | [], vs, h => by rw [show vs = [] from h]; rfl
  | y :: l, vs, h => by
    obtain ⟨v, vs', rfl, _, h2⟩ := h
    simp [All1_len h2]

/-- A call of a closure, its function walked into. -/
theorem HOps_inClo (TO : TabOk P T) {ops : Array Oper} {o : Oper} {rest : List Oper} {k : List Item} {Φ : St → Prop} {f : FuncId} {fn : Func} {c : Code} {y : Operand} {caps : List SV} {as : Array Operand} {ts : Array TypeId} {d : Nat} (off : Nat)
    (ho : o.op = .call { callee := .value y, args := as, argTypes := ts }) (hy : ungd (evO s.t y) = .clo (.func f) [] caps) (hd : o.dst = some d) (hg : guardIs ops s.t true o.guard)
    (hf : P.funcs[f]? = some fn) (hb : fn.body = some c) (hname : (fn.name == "runtime.NumGoroutine") = false) (hgd : gdPs s.t true (y :: as.toList))
    (h : HRun P X [.code c] ⟨(argC s.t as.toList ++ caps) ++ List.replicate (fn.ntmps - (argC s.t as.toList ++ caps).length) .any, s.b, ⟨s.c.c + 1, [], s.c.o + off⟩⟩ (inRet T fn.results s.c.o d s.t (fun s' => flats s' d = true ∧ HOps P X ops rest k s' Φ))) :
    HOps P X ops (o :: rest) k s Φ := by
  have hlen : (argC s.t as.toList).length = as.size := by simp [argC]
  have hbs : fn.body.isSome = true := by rw [hb]; rfl
  refine HOps_inG TO (f := f) (xs := argC s.t as.toList ++ caps) off (fun σ w a hR => ?_) hd hg hf hb h
  have hV := V_ungd (V_evO hR y) hgd.1 rfl
  rw [hy] at hV
  obtain ⟨vs, us, e0, h1, h2⟩ := hV
  have hvs : vs = #[] := by
    have := All1_len h1
    simpa using this.symm
  subst hvs
  refine ⟨(as.toList.map a.eval).toArray ++ us, ?_, ?_, fun j x hx => ?_⟩
  · simp only [execOp, ho, resolve]
    have e2 : (as.toList.map a.eval).toArray = as.map a.eval := Array.ext' (by rw [Array.toList_map])
    simp [e0, Deferred.ofValue, invoke, run_callFunc hf hbs hname, e2]
  · have := All1_len h2
    simp only [Array.length_toList] at this
    simp [hlen, this]
  · by_cases hj : j < as.size
    · rw [List.getElem?_append_left (by omega)] at hx
      obtain ⟨v, hv, hV⟩ := evalsC hR hgd.2 hx
      exact ⟨v, by rw [Array.getElem?_append_left (by simp; omega), List.getElem?_toArray]; exact hv, hV⟩
    · rw [List.getElem?_append_right (by omega), hlen] at hx
      obtain ⟨v, hv, hV⟩ := All1_get h2 hx
      exact ⟨v, by rw [Array.getElem?_append_right (by simp; omega)]; simpa using hv, V2_of_V1 hV⟩
end

end Go.Proofs.Ytbnjdnahpnjofaa.Abs
