/- OWN LIBRARY, part 21: from a law's contract to a run from any world; arguments as they are handed in. -/
import Derived.Test.YtbnjdnahpnjofaaA20
import Derived.Below
import Derived.SizedLaws
import Derived.ChangeSlices
import Derived.WalkKit
import Derived.OpenShut
set_option linter.unusedVariables false
set_option linter.unusedSimpArgs false
namespace Go.Proofs.Ytbnjdnahpnjofaa.Abs
open Go Go.ChangeShapes Go.WideShapes Go.RowKit

def X0 (W : World) : Ctx := ⟨W, fun _ => False, fun B => B < W.heap.size⟩

def Arg (W : World) (x : SV) (v : Value) : Prop := V (X0 W) [] ⟨1, [], 0⟩ (fun _ => none) W x v

def Args (W : World) : List SV → List Value → Prop
  | [], [] => True
  | x :: l, v :: m => Arg W x v ∧ Args W l m
  | _, _ => False

theorem Args.len {W : World} : ∀ {l : List SV} {m : List Value}, Args W l m → l.length = m.length
  | [], [], _ => rfl
  | _ :: _, _ :: _, h => by simp [Args.len h.2]
  | [], _ :: _, h => h.elim
  | _ :: _, [], h => h.elim

theorem Args.get {W : World} : ∀ {l : List SV} {m : List Value}, Args W l m → ∀ i, i < l.length → Arg W (l.getD i .any) (m.getD i undef)
  | x :: l, v :: m, h, 0, _ => h.1
  | x :: l, v :: m, h, i + 1, hi => by simpa using Args.get h.2 i (by simpa using hi)
  | [], _, _, i, hi => by simp at hi

theorem svs_v : ∀ {l : List SV} {i : Nat}, svs i (l.map .v) = l
  | [], _ => rfl
  | x :: l, i => by simp [svs, AV.sv, svs_v (l := l)]

theorem blks_v : ∀ {l : List SV} {i : Nat}, blks i (l.map .v) = []
  | [], _ => rfl
  | x :: l, i => by simp [blks, blks_v (l := l)]

theorem law_walk {P : Program} {f : FuncId} {args : List SV} (hM : Meets P f (args.map .v) [.v (.bool true)]) {W : World} {vals : List Value} (h : Args W args vals) (hG : ∀ g k l, GT g = some (k, l) → g < W.heap.size ∧ ∀ i, i < l.length → W.cell? ⟨g, i, none⟩ = some (.int k (l.getD i 0))) :
    Calls P f vals.toArray W fun e W' => e = .returned (.bool true) ∧ Below W.heap.size W W' := by
  have hR : R (X0 W) ⟨svs 1000 (args.map .v), blks 1000 (args.map .v), ⟨1, [], 0⟩⟩ (fun _ => none) W ⟨vals.toArray, []⟩ := by
    rw [svs_v, blks_v]
    exact {
      sz := by simpa using h.len.symm
      tm := fun i hi => by
        have hi' : i < vals.length := by rw [← h.len]; exact hi
        have := h.get i hi
        unfold Arg at this
        simpa [Array.getD, List.getD, hi'] using this
      df := rfl
      bl := fun n g x hx => by simp [fnd] at hx
      inj := fun n m x y B hx => by simp [fnd] at hx
      fr := ⟨Nat.le_refl _, fun _ _ _ => rfl⟩
      st := ⟨rfl, rfl, rfl⟩
      ro := fun B hB => ⟨hB, id⟩
      gl := hG }
  refine (hM (X0 W) _ _ hR).mono ?_
  rintro e W' ⟨vs, σ', rfl, hR'⟩
  have hl : vs.length = 1 := by simpa [svs, AV.sv] using hR'.sz
  obtain ⟨v, rfl⟩ := List.length_eq_one_iff.1 hl
  have hv : v = .bool true := hR'.tm 0 (by simp [svs])
  subst hv
  exact ⟨rfl, hR'.st.1, hR'.st.2.1, hR'.st.2.2, hR'.fr.1, fun k hk => hR'.fr.2 k hk id⟩

theorem arg_int {W : World} {k : IntKind} {n : Int} : Arg W (.int k n) (.int k n) := rfl
theorem arg_bool {W : World} {b : Bool} : Arg W (.bool b) (.bool b) := rfl
theorem arg_str {W : World} {s : ByteArray} : Arg W (.str s) (.string s) := rfl

/-- A row of whole numbers, as it is opened. -/
def IsIts (k : IntKind) (W : World) (a : Option Addr) (len cap : Nat) (zs : List Int) : Prop :=
  (a = none ∧ len = 0 ∧ cap = 0 ∧ zs = []) ∨
  ∃ x, a = some x ∧ len ≤ cap ∧ cap ≤ maxLen ∧ zs.length = cap ∧ (∀ i, i < zs.length → W.cell? (x.add i) = some (.int k (zs.getD i 0))) ∧ ∀ n ∈ zs, (Lit.int k n).wf = true

theorem IsIts.len {k : IntKind} {W : World} {a : Option Addr} {len cap : Nat} {zs : List Int} (h : IsIts k W a len cap zs) : (zs.take len).length = len := by
  rcases h with ⟨_, rfl, _, rfl⟩ | ⟨x, _, h1, _, h3, _⟩
  · rfl
  · rw [List.length_take, h3]; omega

theorem IsIts.wf {k : IntKind} {W : World} {a : Option Addr} {len cap : Nat} {zs : List Int} (h : IsIts k W a len cap zs) : ∀ n ∈ zs.take len, (Lit.int k n).wf = true := by
  rcases h with ⟨_, rfl, _, rfl⟩ | ⟨x, _, h1, _, h3, _, h⟩
  · intro n hn; simp at hn
  · intro n hn; exact h n (List.mem_of_mem_take hn)

theorem cell_addr {W : World} {x : Addr} {i : Nat} {v : Value} (h0 : ∃ u, W.cell? x = some u) (h : W.cell? (x.add i) = some v) : x.block < W.heap.size ∧ x = ⟨x.block, x.off, none⟩ ∧ W.cell? ⟨x.block, x.off + i, none⟩ = some v := by
  obtain ⟨u, hu⟩ := h0
  have hs : x.spot = none := by
    unfold World.cell? at hu
    split at hu
    · cases e : x.spot with
      | none => rfl
      | some y => simp [e] at hu
    · cases hu
  have hb : x.block < W.heap.size := by
    unfold World.cell? at hu
    split at hu
    · rename_i e; exact (Array.getElem?_eq_some_iff.1 e).1
    · cases hu
  obtain ⟨b, o, sp⟩ := x
  simp only at hs
  subst hs
  refine ⟨hb, rfl, ?_⟩
  unfold Addr.add at h
  split at h
  · rename_i e; subst e; exact h
  · exact h

theorem arg_ints {k : IntKind} {W : World} {a : Option Addr} {len cap : Nat} {zs : List Int} (h : IsIts k W a len cap zs) : Arg W (.view false (.ints k (zs.take len))) (.slice a len cap) := by
  have hl := h.len
  show IsView _ _ _ _ _
  refine ⟨a, cap, by simp only [Data.len, hl], ?_, ?_⟩
  · simp only [Data.len, hl]
    rcases h with ⟨_, rfl, rfl, _⟩ | ⟨x, _, h1, _⟩
    · exact Nat.le_refl _
    · exact h1
  · simp only [Data.len, hl]
    intro h0
    rcases h with ⟨_, rfl, _, _⟩ | ⟨x, rfl, h1, h2, h3, h4, h5⟩
    · exact absurd rfl h0
    · have hc0 : ∃ u, W.cell? x = some u := ⟨_, by simpa [Addr.add] using h4 0 (by omega)⟩
      obtain ⟨hb, hx, _⟩ := cell_addr hc0 (h4 0 (by omega))
      refine ⟨x.block, x.off, by rw [← hx], ⟨hb, .inl ⟨rfl, hb⟩⟩, ?_⟩
      intro i j hi hj
      simp only [Data.len, hl] at hi
      simp only [Data.esz] at hj ⊢
      obtain ⟨_, _, hc⟩ := cell_addr hc0 (h4 i (by omega))
      have ej : j = 0 := by omega
      subst ej
      refine ⟨_, by simpa using hc, ?_⟩
      show Value.int k _ = Value.int k _
      congr 1
      simp [List.getD, List.getElem?_take, hi]

theorem wf_u64 {n : Int} (h : (Lit.int .u64 n).wf = true) : 0 ≤ n ∧ n < 18446744073709551616 := by
  simp only [Lit.wf, Bool.and_eq_true, decide_eq_true_eq] at h
  have e1 : IntKind.u64.min = 0 := rfl
  have e2 : IntKind.u64.max = 18446744073709551615 := rfl
  omega
theorem wf_u32 {n : Int} (h : (Lit.int .u32 n).wf = true) : 0 ≤ n ∧ n < 4294967296 := by
  simp only [Lit.wf, Bool.and_eq_true, decide_eq_true_eq] at h
  have e1 : IntKind.u32.min = 0 := rfl
  have e2 : IntKind.u32.max = 4294967295 := rfl
  omega
theorem wf_u16 {n : Int} (h : (Lit.int .u16 n).wf = true) : 0 ≤ n ∧ n < 65536 := by
  simp only [Lit.wf, Bool.and_eq_true, decide_eq_true_eq] at h
  have e1 : IntKind.u16.min = 0 := rfl
  have e2 : IntKind.u16.max = 65535 := rfl
  omega
theorem wf_u8 {n : Int} (h : (Lit.int .u8 n).wf = true) : 0 ≤ n ∧ n < 256 := by
  simp only [Lit.wf, Bool.and_eq_true, decide_eq_true_eq] at h
  have e1 : IntKind.u8.min = 0 := rfl
  have e2 : IntKind.u8.max = 255 := rfl
  omega
theorem wf_i64 {n : Int} (h : (Lit.int .i64 n).wf = true) : -9223372036854775808 ≤ n ∧ n ≤ 9223372036854775807 := by
  simp only [Lit.wf, Bool.and_eq_true, decide_eq_true_eq] at h
  have e1 : IntKind.i64.min = -9223372036854775808 := rfl
  have e2 : IntKind.i64.max = 9223372036854775807 := rfl
  omega

theorem sized_its {H : Type} {enc : TypeId × Value → H} {P : Program} {W : World} {base : Nat} {spare : Nat → Bool} {held : Bool} {t e : TypeId} {k : IntKind} {a : Option Addr} {len cap : Nat} {d : DataW H} {ps : List MemPlace} {ts : List TypeId} {ds : List (DataW H)} {j : Nat}
    (hsz : (DataW.weightsEach P ts ds).all (· ≤ reachBytes) = true) (ht : ts[j]? = some t) (hd : ds[j]? = some d) (hu : P.underlying t = some (.slice e)) (he : P.underlying e = some (.int k)) (hc : P.cellsOf e = 1) {B : Nat} (hB : P.bytesOf e = B)
    (h : DataW.Trod enc P W base spare held t (.slice a len cap) d ps) : len * B ≤ 140737488351232 := by
  obtain ⟨fuel, hf⟩ := h
  rcases open_ints hu he hc hf with ⟨hcs, _⟩ | ⟨x, l, c, zs, hcs, _, hl, _, hz, hx, _, _⟩
  · simp [Value.cells] at hcs
    obtain ⟨rfl, rfl, rfl⟩ := hcs
    simp
  · simp [Value.cells] at hcs
    obtain ⟨rfl, rfl, rfl⟩ := hcs
    obtain ⟨hx, _⟩ := Prod.mk.inj hx
    subst hx
    have z := sized_slice hsz ht hd hu
    rw [hB] at z
    have h1 : (lits (H := H) k (zs.take len)).length ≥ len := by
      have : len ≤ zs.length := by rw [hz]; split <;> omega
      simp [lits]; omega
    refine Nat.le_trans (Nat.mul_le_mul_right B ?_) z
    omega

theorem open_its {H : Type} {enc : TypeId × Value → H} {P : Program} {W : World} {base : Nat} {held : Bool} {t e : TypeId} {k : IntKind} {a : Option Addr} {len cap : Nat} {d : DataW H} {ps : List MemPlace}
    (hu : P.underlying t = some (.slice e)) (he : P.underlying e = some (.int k)) (hc : P.cellsOf e = 1) (h : DataW.Trod enc P W base (fun _ => true) held t (.slice a len cap) d ps) : ∃ zs, IsIts k W a len cap zs := by
  obtain ⟨fuel, hf⟩ := h
  rcases open_ints hu he hc hf with ⟨hcs, _⟩ | ⟨x, l, c, zs, hcs, _, hl, hm, hz, _, hcell, hwz⟩
  · simp [Value.cells] at hcs
    obtain ⟨rfl, rfl, rfl⟩ := hcs
    exact ⟨[], .inl ⟨rfl, rfl, rfl, rfl⟩⟩
  · simp [Value.cells] at hcs
    obtain ⟨rfl, rfl, rfl⟩ := hcs
    exact ⟨zs, .inr ⟨_, rfl, hl, hm, by simpa using hz, hcell, hwz⟩⟩

/-- An array of whole numbers, opened. -/
theorem open_arr {H : Type} {enc : TypeId × Value → H} {P : Program} {W : World} {base b0 : Nat} {r : Reach} {spare : Nat → Bool} {held : Bool} {t e : TypeId} {k : IntKind} {n : Nat} {v : Value} {d : DataW H} {ps : List MemPlace}
    (ht : P.underlying t = some (.array n e)) (he : P.underlying e = some (.int k)) (hc : P.cellsOf e = 1) (hn : P.cellsOf t = n) (hval : Value.okWide P W r b0 t v) (h : DataW.Trod enc P W base spare held t v d ps) :
    ∃ l : List Int, v = .agg (l.map (.int k)).toArray ∧ l.length = n ∧ ∀ x ∈ l, (Lit.int k x).wf = true := by
  unfold Value.okWide at hval
  rw [ht] at hval
  obtain ⟨cs, rfl, hcs, _⟩ := hval
  obtain ⟨fuel, hf⟩ := h
  obtain ⟨xs, m, _, _, _, hx, hi⟩ := DataW.trod_array ht hf
  have hl : cs.toList.length = n := by rw [Array.length_toList, hcs, hn]
  have key : ∀ i (hi : i < cs.toList.length), ∃ z, cs.toList[i] = .int k z ∧ (Lit.int k z).wf = true := by
    intro i hlt
    have hin : i < n := by omega
    have h1 := hi i hin
    rw [hc, List.getElem?_eq_getElem (by omega)] at h1
    have h2 : (((Value.agg cs).cells.toList.drop (i * 1)).take 1) = [cs.toList[i]] := by
      show ((cs.toList.drop (i * 1)).take 1) = _
      rw [Nat.mul_one, List.drop_eq_getElem_cons hlt]; rfl
    rw [h2] at h1
    obtain ⟨z, h3, _, h4⟩ := DataW.trod_int he h1
    exact ⟨z, by simpa using h3, h4⟩
  have all : ∀ l : List Value, (∀ i (hi : i < l.length), ∃ z, l[i] = .int k z ∧ (Lit.int k z).wf = true) → ∃ zs : List Int, l = zs.map (.int k) ∧ ∀ x ∈ zs, (Lit.int k x).wf = true := by
    intro l
    induction l with
    | nil => intro _; exact ⟨[], rfl, by simp⟩
    | cons a l ih =>
      intro hk
      obtain ⟨z, hz, hw⟩ := hk 0 (by simp)
      obtain ⟨zs, h1, h2⟩ := ih (fun i hi => hk (i + 1) (by simpa using hi))
      refine ⟨z :: zs, by rw [h1]; simpa using hz, ?_⟩
      intro x hx
      rcases List.mem_cons.1 hx with rfl | hx
      · exact hw
      · exact h2 x hx
  obtain ⟨zs, h1, h2⟩ := all cs.toList key
  refine ⟨zs, ?_, by rw [← hl, h1, List.length_map], h2⟩
  rw [← h1]

theorem arg_arr {W : World} {k : IntKind} {n : Nat} {l : List Int} (h : l.length = n) : Arg W (.arr k n l) (.agg (l.map (.int k)).toArray) := ⟨rfl, h⟩

end Go.Proofs.Ytbnjdnahpnjofaa.Abs
