/- GetAsk, GetSay: what has no bytes is nil; Spoil. -/
import Derived.Test.YtgipkhjpedpedaaDoorUZ
set_option linter.unusedVariables false
set_option linter.unusedSimpArgs false
set_option maxRecDepth 100000
namespace Go.Proofs.YtgipkhjpedpedaaDoor.Abs
open Go Go.Proofs

def Ask.svN (a : Ask) : SV := .agg [.view true (.ints .u16 a.dialects), .arr .u8 16 a.guid, .arr .u8 32 a.proof, .str a.user, .str a.share, .int .u32 a.access, .int .u32 a.sharing, .int .u32 a.way, .int .u32 a.options, .int .u8 a.level, .int .u8 a.durable, .int .u64 a.file, .str a.name, .int .u64 a.at_, .int .u32 a.n, .nil, .nil, .int .u16 a.most, .str a.pattern, .str a.after, .int .u16 a.cls, .int .u64 a.size, .bool a.on]
def Say.svN (s : Say) : SV := .agg [.int .u16 s.dialect, .int .u64 s.size, .arr .u8 8 s.challenge, .int .u8 s.level, .int .u8 s.durable, .int .u16 s.made, .int .u64 s.file, .int .u8 s.kind, .nil, .int .u32 s.n, .nil, .bool s.more, .bool s.gone]

section
variable {P : Program} {X : Ctx} {T : Tab} {s : St}
/-- The capacity of nil. -/
theorem capnil_ops (TO : TabOk P T) {ops : Array Oper} {o : Oper} {rest : List Oper} {k : List Item} {Φ : St → Prop} {t e : TypeId} {x : Operand} {d : Nat}
    (ho : o.op = .call ⟨.builtin .cap, #[x], #[t]⟩) (hg : o.guard = none) (hd : o.dst = some d) (hT : T.ty t = .slice e) (hx : evO s.t x = .nil)
    (h : HOps P X ops rest k ⟨s.t.set d (.int .i64 0), s.b, s.c⟩ Φ) : HOps P X ops (o :: rest) k s Φ := by
  intro i hi σ w a hR
  obtain ⟨ho', hrest⟩ := ops_at hi
  have hv := V_evO hR x
  rw [hx] at hv
  have ex : a.eval x = .slice none 0 0 := hv
  have ht := TO.ty t
  rw [hT] at ht
  have hu : (execOp a.eval o).run P w = .ok (.value (.int .i64 0)) w := by
    simp only [execOp, ho, resolve]
    simp [invoke, builtin, Builtin.cap_, run_underlying ht, ex, goInt]
  rw [List.length_cons, List.range'_succ]
  refine Fins.opValue (v := .int .i64 0) ho' (by simp [Region.wanted, hg]) (.inl hu) ((h (i + 1) hrest).after ?_ Tr.refl)
  rw [hd]
  exact R_set hR (dst := some d) (sv := .int .i64 0) (show V X s.b s.c σ w _ _ from rfl)
end

theorem Spoil0_meets (by_ : Int) : Meets Tryd.prog 27 [.v .nil, .v (.int .u8 by_)] [] := by
  refine meets_go TO 100 Tryd.func27 rfl (fun X => ?_)
  simp only [Tryd.ntmps27, Tryd.results27, pureOpC, capV, svs, blks, AV.sv, absRun, absOps, absOp, evO, ungd, gdP, gdPs, setD, memOp, Op.operands, List.getD, List.getElem?_cons_zero, List.getElem?_cons_succ, Option.getD_some, List.set, List.toList_toArray, true_and, and_self, Nat.zero_add, List.cons_append, List.nil_append, List.length_cons, List.length_nil, Nat.reduceAdd, Nat.reduceSub, List.replicate_succ, List.replicate_zero]
  refine capnil_ops TO rfl rfl rfl rfl rfl (HOps_go TO 100 ?_)
  simp only [pureOpC, unc, absRun, absOps, absOp, evO, constSV, ungd, gdP, gdPs, setD, T_ty, T_size, tTy, tSize, lowI, highI, maxP, sliceV, pureOp, Op.operands, List.getD, List.getElem?_cons_zero, List.getElem?_cons_succ, Option.getD_some, List.set, List.toList_toArray, Option.map_some, Option.map_none, true_and, and_self, eq_self, ne_eq, not_false_eq_true, Option.toArray_some, Option.toArray_none, List.append_toArray, List.cons_append, List.nil_append, List.append_nil, Nat.reduceAdd, Nat.succ_ne_self]
  refine loop_go (fun _ : Unit => True) (fun _ => ⟨[.nil, .int .u8 by_, .any, .any, .int .i64 0] ++ List.replicate 19 .any, [], ⟨3, [], 0⟩⟩) (fun _ => 0) () trivial ⟨rfl, ?_, ?_⟩ ?_
  · simp [LeT]
  · intro m x hx; simp [fnd] at hx
  · rintro ⟨⟩ _ ih
    refine absRun_ok TO 100 _ _ ?_
    simp only [pureOpC, unc, absRun, absOps, absOp, evO, ungd, gdP, gdPs, setD, binI, binV, ptrE, T_ty, tTy, iaddrV, pureOp, memOp, lenV, retP, retQ, rAs, ownN, nodup, bares, Op.operands, Call.operands, List.getD, List.getElem?_cons_zero, List.getElem?_cons_succ, Option.getD_some, List.set, List.map, List.toList_toArray, exitTo, true_and, and_self, if_true, if_false, eq_self, Bool.false_eq_true, List.append_toArray, List.cons_append, List.nil_append, Nat.reduceAdd, beq_self_eq_true, List.replicate_succ, List.replicate_zero, Int.reduceLT, decide_false]
    trace_state

end Go.Proofs.YtgipkhjpedpedaaDoor.Abs
