/- robin.order, to the world: what the sort asks. -/
import Derived.Test.YthddaojdlfifeaaSort
import Derived.Test.YthddaojdlfifeaaXTy
import Derived.Test.YthddaojdlfifeaaXB
import Derived.Test.YthddaojdlfifeaaXDrawC
import Derived.Test.YthddaojdlfifeaaP2
namespace Go.Proofs.Ythddaojdlfifeaa.P
open Go.RowKit Go.Proofs.YthddaojdlfifeaaW.PrintWords Go.Proofs.YthddaojdlfifeaaW.PrintLast Go.Proofs.YthddaojdlfifeaaW.PrintMore
open XW RegInv Go.Shelf
set_option linter.unusedSimpArgs false
set_option linter.unusedVariables false

def cmpI (x y : Int) : Int := Lib.compareInt x y
/-- what robin.order answers -/
def cfM (x y : S37) : Int := if cmpI x.f0 y.f0 ≠ 0 then cmpI x.f0 y.f0 else cmpI x.f1 y.f1
def enc37 (x : S37) : List Value := [.int .i64 x.f0, .int .i64 x.f1, .int .i64 x.f2]
theorem E41 : Enters Try.prog 41 := enters Try.func41 (by kernel_rfl) rfl
theorem E40 : Enters Try.prog 40 := enters Try.func40 (by kernel_rfl) rfl
theorem cmp_exact (x y : Int) (w : World) : Rets Try.prog 41 #[.int .i64 x, .int .i64 y] w fun u w' => u = .int .i64 (cmpI x y) ∧ w' = w :=
  rets_of (S := fun w' => w' = w) (AnyG.cmp_Compare_int Try.cmpInt x y w)
section
variable {F : Fence} {P : Program} {n : Nat} {Q : Post} {ρ : Nat → Value} {ds : List Deferred} {w : World} {ops : Array Oper}
theorem XL_plainV (hF : Wide F) {dst : Option Tmp} {op : Op} {ty : TypeId} {pos : String} {af : Array Edge} {rest : List Oper} {v : Value} (hv : plain n ρ op = some v) (h : XL F P n Q ops rest (updO ρ dst v) ds w) : XL F P n Q ops (⟨dst, op, ty, pos, af, none⟩ :: rest) ρ ds w :=
  XL_gives hF rfl (plain_gives (P := P) (w := w) (o := ⟨dst, op, ty, pos, af, none⟩) hv).2 (.inl (plain_gives (o := ⟨dst, op, ty, pos, af, none⟩) hv).1) h
theorem XL_indexS0 (hF : Wide F) {dst : Option Tmp} {t ty : TypeId} {x y : Operand} {pos : String} {af : Array Edge} {rest : List Oper} {b l c k : Nat} {kk : IntKind} [T : TS P t] (h1 : T.sz = 1) (hx : xv n ρ x = .slice (some ⟨b, 0, none⟩) l c) (hy : xv n ρ y = .int kk (k : Nat)) (hk : k < l)
    (h : XL F P n Q ops rest (updO ρ dst (.pointer (some ⟨b, k, none⟩))) ds w) : XL F P n Q ops (⟨dst, .indexAddr t x y, ty, pos, af, none⟩ :: rest) ρ ds w := by
  obtain ⟨i', hi', hs, _⟩ := T.h
  refine XL_index hF T.u hi' hx hy (by omega) (by omega) ?_
  rw [hs, h1, XW.add_plain, Int.toNat_natCast]
  simpa using h
theorem XL_fieldB (hF : Wide F) {dst : Option Tmp} {t ty : TypeId} {x : Operand} {pos : String} {af : Array Edge} {rest : List Oper} {b off j : Nat} [T : TF P t j] (hx : xv n ρ x = .pointer (some ⟨b, off, none⟩)) (h : XL F P n Q ops rest (updO ρ dst (.pointer (some ⟨b, off + T.off, none⟩))) ds w) : XL F P n Q ops (⟨dst, .fieldAddr t x j, ty, pos, af, none⟩ :: rest) ρ ds w := by
  obtain ⟨fs, f, i', hu, hf, ho, hi', hs⟩ := T.h
  exact XL_field hF hu hf hi' hs hx (by rw [ho]; exact h)
theorem XL_loadB (hF : Wide F) {dst : Option Tmp} {t ty : TypeId} {x : Operand} {pos : String} {af : Array Edge} {rest : List Oper} {b off : Nat} {cs : Array Value} {t1 : TypeId} {fz : Nat × Nat} {v : Value} [T : T1 P t] (hx : xv n ρ x = .pointer (some ⟨b, off, none⟩)) (hb : w.heap[b]? = some (.cells cs t1 fz)) (hv : cs[off]? = some v) (h : XL F P n Q ops rest (updO ρ dst v) ds w) : XL F P n Q ops (⟨dst, .load t x, ty, pos, af, none⟩ :: rest) ρ ds w := by
  obtain ⟨d, hu, hd⟩ := T.u
  exact XL_load hF hx (loads_cell hu hd hb hv) h
theorem XL_buildSliceG (hF : Wide F) {dst : Option Tmp} {t ty : TypeId} {pos : String} {af : Array Edge} {rest : List Oper} {m : Nat} {parts : Array (Nat × Operand)} {vs : List Value} {cs : Array Value} [T : TS P t] (hm : vs.length = m) (hp : parts.toList.map (fun x => (x.fst, xv n ρ x.snd)) = (List.range' 0 vs.length).zip vs) (hv : ∀ v ∈ vs, v.cells.size = T.sz) (hs : T.z.cells.size = T.sz ∧ T.sz ≠ 0 ∧ m * T.sz ≤ 16777216) (hm0 : m ≠ 0) (hcs : (vs.flatMap fun v => v.cells.toList) = cs.toList)
    (h : XL F P n Q ops rest (updO ρ dst (.slice (some ⟨w.heap.size, 0, none⟩) m m)) ds (w.alloc (.cells cs T.e))) : XL F P n Q ops (⟨dst, .buildSlice t m parts, ty, pos, af, none⟩ :: rest) ρ ds w := by
  obtain ⟨i', hi', hsz, hz', hby⟩ := T.h
  refine XL_buildSlice hF (e := T.e) (v := .slice (some ⟨w.heap.size, 0, none⟩) m m) (w' := w.alloc (.cells cs T.e)) ?_ h
  have hne : ¬ m * T.sz = 0 := by
    intro e
    rcases Nat.mul_eq_zero.1 e with h1 | h1
    · exact hm0 h1
    · exact hs.2.1 h1
  have hf := fill_all T.sz vs 0 ((Array.range (m * T.sz)).map (T.z.cells[· % T.z.cells.size]!)) hv (by simp [hm])
  have hlen : (vs.flatMap fun v => v.cells.toList).length = m * T.sz := by rw [len_flat_mem vs (fun v hv' => by simpa using hv v hv'), hm]
  have hf' : Instr.fill (fun i => some (i * T.sz, T.sz)) ((Array.range (m * T.sz)).map (T.z.cells[· % T.z.cells.size]!)) (parts.toList.map fun x => (x.fst, xv n ρ x.snd)) = some cs := by
    rw [hp, hf, Nat.zero_mul, over_all _ _ (by rw [hlen]; simp), hcs]
  have hbig : ¬ m * T.sz > 16777216 := by omega
  have hu := T.u
  simp [Instr.buildSlice, underlying, program, hu, Go.sizeOf, typeInfo, hi', hsz, hz', hne, hbig, zeroValue, hf', newRow, newObj, Sem.run_bind, Sem.run, Result.andThen]
theorem XL_boxV (hF : Wide F) {dst : Option Tmp} {t ty : TypeId} {x : Operand} {pos : String} {af : Array Edge} {rest : List Oper} {cs : Array Value} (hx : xv n ρ x = .agg cs)
    (h : XL F P n Q ops rest (updO ρ dst (.pointer (some ⟨w.heap.size, 0, none⟩))) ds (w.alloc (.cells cs t))) : XL F P n Q ops (⟨dst, .box t x, ty, pos, af, none⟩ :: rest) ρ ds w := XL_box hF (by rw [hx]; exact h)
end
theorem or_exact (b : Nat) (c1 c2 : Int) (W : World) (hb : W.heap[b]? = some (.cells #[.int .i64 c1, .int .i64 c2] 3 (0, 0))) :
    Rets Try.prog 40 #[.slice (some ⟨b, 0, none⟩) 2 2] W fun u w' => u = .int .i64 (if c1 ≠ 0 then c1 else c2) ∧ w' = W := by
  have hF := wide_wide
  refine calls_of (n := 18) Try.func40 rfl Try.ntmps40 (by simp) ?_
  (repeat (first | (with_reducible refine X_seq_k ?_; intro K hK) | with_reducible refine X_block ?_ | with_reducible refine X_scope ?_ | with_reducible refine nogo_n ?_ | with_reducible refine nogo_e ?_ | with_reducible refine nogo_r ?_ | with_reducible refine X_region ?_ | with_reducible refine X_skip ?_ | with_reducible refine X_label ?_ | with_reducible refine X_ret ?_ | with_reducible refine X_exit ?_ | with_reducible refine then_n ?_ | with_reducible refine then_e ?_ | with_reducible refine then_r ?_ | with_reducible refine inb_n ?_ | with_reducible refine inb_r ?_ | with_reducible refine inb_e rfl ?_ | with_reducible refine inb_x rfl ?_ | with_reducible refine XL_nil ?_ | with_reducible refine go_k (by assumption) ?_))
  refine XL_plainV hF (by exact (rfl : _ = some (Value.int _ _))) ?_
  (repeat (first | (with_reducible refine X_seq_k ?_; intro K hK) | with_reducible refine X_block ?_ | with_reducible refine X_scope ?_ | with_reducible refine nogo_n ?_ | with_reducible refine nogo_e ?_ | with_reducible refine nogo_r ?_ | with_reducible refine X_region ?_ | with_reducible refine X_skip ?_ | with_reducible refine X_label ?_ | with_reducible refine X_ret ?_ | with_reducible refine X_exit ?_ | with_reducible refine then_n ?_ | with_reducible refine then_e ?_ | with_reducible refine then_r ?_ | with_reducible refine inb_n ?_ | with_reducible refine inb_r ?_ | with_reducible refine inb_e rfl ?_ | with_reducible refine inb_x rfl ?_ | with_reducible refine XL_nil ?_ | with_reducible refine go_k (by assumption) ?_))
  refine XL_plainV hF (by exact (rfl : _ = some (Value.int _ _))) ?_
  (repeat (first | (with_reducible refine X_seq_k ?_; intro K hK) | with_reducible refine X_block ?_ | with_reducible refine X_scope ?_ | with_reducible refine nogo_n ?_ | with_reducible refine nogo_e ?_ | with_reducible refine nogo_r ?_ | with_reducible refine X_region ?_ | with_reducible refine X_skip ?_ | with_reducible refine X_label ?_ | with_reducible refine X_ret ?_ | with_reducible refine X_exit ?_ | with_reducible refine then_n ?_ | with_reducible refine then_e ?_ | with_reducible refine then_r ?_ | with_reducible refine inb_n ?_ | with_reducible refine inb_r ?_ | with_reducible refine inb_e rfl ?_ | with_reducible refine inb_x rfl ?_ | with_reducible refine XL_nil ?_ | with_reducible refine go_k (by assumption) ?_))
  refine XL_plainV hF (by exact (rfl : _ = some (Value.slice _ _ _))) ?_
  refine XL_len hF Try.underlying41 (by exact rfl) ?_
  refine XL_plainV hF (by exact (rfl : _ = some (Value.int _ _))) ?_
  (repeat (first | (with_reducible refine X_seq_k ?_; intro K hK) | with_reducible refine X_block ?_ | with_reducible refine X_scope ?_ | with_reducible refine nogo_n ?_ | with_reducible refine nogo_e ?_ | with_reducible refine nogo_r ?_ | with_reducible refine X_region ?_ | with_reducible refine X_skip ?_ | with_reducible refine X_label ?_ | with_reducible refine X_ret ?_ | with_reducible refine X_exit ?_ | with_reducible refine then_n ?_ | with_reducible refine then_e ?_ | with_reducible refine then_r ?_ | with_reducible refine inb_n ?_ | with_reducible refine inb_r ?_ | with_reducible refine inb_e rfl ?_ | with_reducible refine inb_x rfl ?_ | with_reducible refine XL_nil ?_ | with_reducible refine go_k (by assumption) ?_))
  refine X_loop (fun (i : Nat) ρ ds w => AllAt ρ [(3, .int .i64 0), (6, .slice (some ⟨b, 0, none⟩) 2 2), (7, .int .i64 2), (8, .int .i64 i)] ∧ ds = [] ∧ w = W ∧ (i = 0 ∨ (i = 1 ∧ c1 = 0) ∨ (i = 2 ∧ c1 = 0 ∧ c2 = 0))) (fun i => 2 - i) 0 ⟨⟨rfl, rfl, rfl, rfl, True.intro⟩, rfl, rfl, .inl rfl⟩ ?_
  rintro i ρ ds w ⟨hl, rfl, rfl, hi⟩ KL hKL
  rw [← ovr_eq ρ _ hl]
  clear hl
  (repeat (first | (with_reducible refine X_seq_k ?_; intro K hK) | with_reducible refine X_block ?_ | with_reducible refine X_scope ?_ | with_reducible refine nogo_n ?_ | with_reducible refine nogo_e ?_ | with_reducible refine nogo_r ?_ | with_reducible refine X_region ?_ | with_reducible refine X_skip ?_ | with_reducible refine X_label ?_ | with_reducible refine X_ret ?_ | with_reducible refine X_exit ?_ | with_reducible refine then_n ?_ | with_reducible refine then_e ?_ | with_reducible refine then_r ?_ | with_reducible refine inb_n ?_ | with_reducible refine inb_r ?_ | with_reducible refine inb_e rfl ?_ | with_reducible refine inb_x rfl ?_ | with_reducible refine XL_nil ?_ | with_reducible refine go_k (by assumption) ?_))
  refine XL_plainV hF (by exact (rfl : _ = some (Value.bool _))) ?_
  (repeat (first | (with_reducible refine X_seq_k ?_; intro K hK) | with_reducible refine X_block ?_ | with_reducible refine X_scope ?_ | with_reducible refine nogo_n ?_ | with_reducible refine nogo_e ?_ | with_reducible refine nogo_r ?_ | with_reducible refine X_region ?_ | with_reducible refine X_skip ?_ | with_reducible refine X_label ?_ | with_reducible refine X_ret ?_ | with_reducible refine X_exit ?_ | with_reducible refine then_n ?_ | with_reducible refine then_e ?_ | with_reducible refine then_r ?_ | with_reducible refine inb_n ?_ | with_reducible refine inb_r ?_ | with_reducible refine inb_e rfl ?_ | with_reducible refine inb_x rfl ?_ | with_reducible refine XL_nil ?_ | with_reducible refine go_k (by assumption) ?_))
  by_cases h2 : i < 2
  · refine X_cond_true (by show Value.bool (decide ((i : Int) < 2)) = _; rw [decide_eq_true (by omega)]) ?_
    (repeat (first | (with_reducible refine X_seq_k ?_; intro K hK) | with_reducible refine X_block ?_ | with_reducible refine X_scope ?_ | with_reducible refine nogo_n ?_ | with_reducible refine nogo_e ?_ | with_reducible refine nogo_r ?_ | with_reducible refine X_region ?_ | with_reducible refine X_skip ?_ | with_reducible refine X_label ?_ | with_reducible refine X_ret ?_ | with_reducible refine X_exit ?_ | with_reducible refine then_n ?_ | with_reducible refine then_e ?_ | with_reducible refine then_r ?_ | with_reducible refine inb_n ?_ | with_reducible refine inb_r ?_ | with_reducible refine inb_e rfl ?_ | with_reducible refine inb_x rfl ?_ | with_reducible refine XL_nil ?_ | with_reducible refine go_k (by assumption) ?_))
    refine XL_indexS0 (k := i) hF rfl (by exact rfl) (by exact rfl) h2 ?_
    refine XL_loadB (v := .int .i64 (if i = 0 then c1 else c2)) hF (by exact rfl) hb (by rcases hi with rfl | ⟨rfl, _⟩ | ⟨rfl, _⟩ <;> first | rfl | omega) ?_
    refine XL_plainV hF (by exact (rfl : _ = some (Value.int _ _))) ?_
    (repeat (first | (with_reducible refine X_seq_k ?_; intro K hK) | with_reducible refine X_block ?_ | with_reducible refine X_scope ?_ | with_reducible refine nogo_n ?_ | with_reducible refine nogo_e ?_ | with_reducible refine nogo_r ?_ | with_reducible refine X_region ?_ | with_reducible refine X_skip ?_ | with_reducible refine X_label ?_ | with_reducible refine X_ret ?_ | with_reducible refine X_exit ?_ | with_reducible refine then_n ?_ | with_reducible refine then_e ?_ | with_reducible refine then_r ?_ | with_reducible refine inb_n ?_ | with_reducible refine inb_r ?_ | with_reducible refine inb_e rfl ?_ | with_reducible refine inb_x rfl ?_ | with_reducible refine XL_nil ?_ | with_reducible refine go_k (by assumption) ?_))
    refine XL_plainV hF (by exact (rfl : _ = some (Value.int _ _))) ?_
    refine XL_plainV hF (by exact (rfl : _ = some (Value.int _ _))) ?_
    refine XL_plainV hF (by exact (rfl : _ = some (Value.bool _))) ?_
    (repeat (first | (with_reducible refine X_seq_k ?_; intro K hK) | with_reducible refine X_block ?_ | with_reducible refine X_scope ?_ | with_reducible refine nogo_n ?_ | with_reducible refine nogo_e ?_ | with_reducible refine nogo_r ?_ | with_reducible refine X_region ?_ | with_reducible refine X_skip ?_ | with_reducible refine X_label ?_ | with_reducible refine X_ret ?_ | with_reducible refine X_exit ?_ | with_reducible refine then_n ?_ | with_reducible refine then_e ?_ | with_reducible refine then_r ?_ | with_reducible refine inb_n ?_ | with_reducible refine inb_r ?_ | with_reducible refine inb_e rfl ?_ | with_reducible refine inb_x rfl ?_ | with_reducible refine XL_nil ?_ | with_reducible refine go_k (by assumption) ?_))
    by_cases hz : (if i = 0 then c1 else c2) = 0
    · refine X_cond_false (by show Value.bool ((if i = 0 then c1 else c2) != 0) = _; rw [hz]; rfl) ?_
      (repeat (first | (with_reducible refine X_seq_k ?_; intro K hK) | with_reducible refine X_block ?_ | with_reducible refine X_scope ?_ | with_reducible refine nogo_n ?_ | with_reducible refine nogo_e ?_ | with_reducible refine nogo_r ?_ | with_reducible refine X_region ?_ | with_reducible refine X_skip ?_ | with_reducible refine X_label ?_ | with_reducible refine X_ret ?_ | with_reducible refine X_exit ?_ | with_reducible refine then_n ?_ | with_reducible refine then_e ?_ | with_reducible refine then_r ?_ | with_reducible refine inb_n ?_ | with_reducible refine inb_r ?_ | with_reducible refine inb_e rfl ?_ | with_reducible refine inb_x rfl ?_ | with_reducible refine XL_nil ?_ | with_reducible refine go_k (by assumption) ?_))
      refine XL_plainV hF (by exact (rfl : _ = some (Value.int _ _))) ?_
      refine XL_plainV hF (by exact (rfl : _ = some (Value.int _ _))) ?_
      (repeat (first | (with_reducible refine X_seq_k ?_; intro K hK) | with_reducible refine X_block ?_ | with_reducible refine X_scope ?_ | with_reducible refine nogo_n ?_ | with_reducible refine nogo_e ?_ | with_reducible refine nogo_r ?_ | with_reducible refine X_region ?_ | with_reducible refine X_skip ?_ | with_reducible refine X_label ?_ | with_reducible refine X_ret ?_ | with_reducible refine X_exit ?_ | with_reducible refine then_n ?_ | with_reducible refine then_e ?_ | with_reducible refine then_r ?_ | with_reducible refine inb_n ?_ | with_reducible refine inb_r ?_ | with_reducible refine inb_e rfl ?_ | with_reducible refine inb_x rfl ?_ | with_reducible refine XL_nil ?_ | with_reducible refine go_k (by assumption) ?_))
      refine ⟨i + 1, ⟨⟨rfl, rfl, rfl, ?_, True.intro⟩, rfl, rfl, ?_⟩, by omega⟩
      · show Value.int .i64 (IntKind.i64.wrap ((i : Int) + 1)) = _
        rw [wrap64_in (by omega) (by omega)]; rfl
      · rcases hi with rfl | ⟨rfl, h1⟩ | ⟨rfl, _⟩
        · exact .inr (.inl ⟨rfl, by simpa using hz⟩)
        · exact .inr (.inr ⟨rfl, h1, by simpa using hz⟩)
        · omega
    · refine X_cond_true (by show Value.bool ((if i = 0 then c1 else c2) != 0) = _; rw [bne_iff_ne.2 hz]) ?_
      (repeat (first | (with_reducible refine X_seq_k ?_; intro K hK) | with_reducible refine X_block ?_ | with_reducible refine X_scope ?_ | with_reducible refine nogo_n ?_ | with_reducible refine nogo_e ?_ | with_reducible refine nogo_r ?_ | with_reducible refine X_region ?_ | with_reducible refine X_skip ?_ | with_reducible refine X_label ?_ | with_reducible refine X_ret ?_ | with_reducible refine X_exit ?_ | with_reducible refine then_n ?_ | with_reducible refine then_e ?_ | with_reducible refine then_r ?_ | with_reducible refine inb_n ?_ | with_reducible refine inb_r ?_ | with_reducible refine inb_e rfl ?_ | with_reducible refine inb_x rfl ?_ | with_reducible refine XL_nil ?_ | with_reducible refine go_k (by assumption) ?_))
      refine XL_plainV hF (by exact (rfl : _ = some (Value.int _ _))) ?_
      refine XL_plainV hF (by exact (rfl : _ = some (Value.int _ _))) ?_
      (repeat (first | (with_reducible refine X_seq_k ?_; intro K hK) | with_reducible refine X_block ?_ | with_reducible refine X_scope ?_ | with_reducible refine nogo_n ?_ | with_reducible refine nogo_e ?_ | with_reducible refine nogo_r ?_ | with_reducible refine X_region ?_ | with_reducible refine X_skip ?_ | with_reducible refine X_label ?_ | with_reducible refine X_ret ?_ | with_reducible refine X_exit ?_ | with_reducible refine then_n ?_ | with_reducible refine then_e ?_ | with_reducible refine then_r ?_ | with_reducible refine inb_n ?_ | with_reducible refine inb_r ?_ | with_reducible refine inb_e rfl ?_ | with_reducible refine inb_x rfl ?_ | with_reducible refine XL_nil ?_ | with_reducible refine go_k (by assumption) ?_))
      refine body_ret (results1 rfl (by decide)) ⟨_, rfl, ?_, rfl⟩
      show Value.int .i64 (if i = 0 then c1 else c2) = _
      rcases hi with rfl | ⟨rfl, h1⟩ | ⟨rfl, _⟩
      · rw [if_pos rfl] at hz ⊢; rw [if_pos hz]
      · rw [if_neg (by decide)] at hz ⊢; rw [if_neg (by omega)]
      · omega
  · have hi2 : c1 = 0 ∧ c2 = 0 := by rcases hi with rfl | ⟨rfl, _⟩ | ⟨_, h⟩ <;> first | omega | exact h
    refine X_cond_false (by show Value.bool (decide ((i : Int) < 2)) = _; rw [decide_eq_false (by omega)]) ?_
    (repeat (first | (with_reducible refine X_seq_k ?_; intro K hK) | with_reducible refine X_block ?_ | with_reducible refine X_scope ?_ | with_reducible refine nogo_n ?_ | with_reducible refine nogo_e ?_ | with_reducible refine nogo_r ?_ | with_reducible refine X_region ?_ | with_reducible refine X_skip ?_ | with_reducible refine X_label ?_ | with_reducible refine X_ret ?_ | with_reducible refine X_exit ?_ | with_reducible refine then_n ?_ | with_reducible refine then_e ?_ | with_reducible refine then_r ?_ | with_reducible refine inb_n ?_ | with_reducible refine inb_r ?_ | with_reducible refine inb_e rfl ?_ | with_reducible refine inb_x rfl ?_ | with_reducible refine XL_nil ?_ | with_reducible refine go_k (by assumption) ?_))
    refine XL_plainV hF (by exact (rfl : _ = some (Value.int _ _))) ?_
    refine XL_plainV hF (by exact (rfl : _ = some (Value.int _ _))) ?_
    (repeat (first | (with_reducible refine X_seq_k ?_; intro K hK) | with_reducible refine X_block ?_ | with_reducible refine X_scope ?_ | with_reducible refine nogo_n ?_ | with_reducible refine nogo_e ?_ | with_reducible refine nogo_r ?_ | with_reducible refine X_region ?_ | with_reducible refine X_skip ?_ | with_reducible refine X_label ?_ | with_reducible refine X_ret ?_ | with_reducible refine X_exit ?_ | with_reducible refine then_n ?_ | with_reducible refine then_e ?_ | with_reducible refine then_r ?_ | with_reducible refine inb_n ?_ | with_reducible refine inb_r ?_ | with_reducible refine inb_e rfl ?_ | with_reducible refine inb_x rfl ?_ | with_reducible refine XL_nil ?_ | with_reducible refine go_k (by assumption) ?_))
    refine body_ret (results1 rfl (by decide)) ⟨_, rfl, ?_, rfl⟩
    rw [hi2.1, hi2.2]; rfl
theorem E27 : Enters Try.prog 27 := enters Try.func27 (by kernel_rfl) rfl
set_option maxHeartbeats 4000000 in
theorem order_exact (x y : S37) (W : World) : Rets Try.prog 27 #[.agg (enc37 x).toArray, .agg (enc37 y).toArray] W fun u w' => u = .int .i64 (cfM x y) ∧ ∃ q os', w' = Go.Sort.grow (W.drewN q) os' := by
  have hF := wide_wide
  refine calls_of (n := 17) Try.func27 rfl Try.ntmps27 (by simp) ?_
  (repeat (first | (with_reducible refine X_seq_k ?_; intro K hK) | with_reducible refine X_block ?_ | with_reducible refine X_scope ?_ | with_reducible refine nogo_n ?_ | with_reducible refine nogo_e ?_ | with_reducible refine nogo_r ?_ | with_reducible refine X_region ?_ | with_reducible refine X_skip ?_ | with_reducible refine X_label ?_ | with_reducible refine X_ret ?_ | with_reducible refine X_exit ?_ | with_reducible refine then_n ?_ | with_reducible refine then_e ?_ | with_reducible refine then_r ?_ | with_reducible refine inb_n ?_ | with_reducible refine inb_r ?_ | with_reducible refine inb_e rfl ?_ | with_reducible refine inb_x rfl ?_ | with_reducible refine XL_nil ?_ | with_reducible refine go_k (by assumption) ?_))
  refine XL_boxV (cs := (enc37 x).toArray) hF (by exact rfl) ?_
  refine XL_boxV (cs := (enc37 y).toArray) hF (by exact rfl) ?_
  rw [size_alloc]
  refine XL_plainV hF (by exact (rfl : _ = some (Value.int _ _))) ?_
  (repeat (first | (with_reducible refine X_seq_k ?_; intro K hK) | with_reducible refine X_block ?_ | with_reducible refine X_scope ?_ | with_reducible refine nogo_n ?_ | with_reducible refine nogo_e ?_ | with_reducible refine nogo_r ?_ | with_reducible refine X_region ?_ | with_reducible refine X_skip ?_ | with_reducible refine X_label ?_ | with_reducible refine X_ret ?_ | with_reducible refine X_exit ?_ | with_reducible refine then_n ?_ | with_reducible refine then_e ?_ | with_reducible refine then_r ?_ | with_reducible refine inb_n ?_ | with_reducible refine inb_r ?_ | with_reducible refine inb_e rfl ?_ | with_reducible refine inb_x rfl ?_ | with_reducible refine XL_nil ?_ | with_reducible refine go_k (by assumption) ?_))
  obtain ⟨w1, hw1⟩ : ∃ w1, w1 = (W.alloc (.cells (enc37 x).toArray 37)).alloc (.cells (enc37 y).toArray 37) := ⟨_, rfl⟩
  have hb1 : w1.heap[W.heap.size]? = some (.cells (enc37 x).toArray 37 (0, 0)) := by rw [hw1]; exact get_alloc (get_new _ _) _
  have hb2 : w1.heap[W.heap.size + 1]? = some (.cells (enc37 y).toArray 37 (0, 0)) := by
    rw [hw1]
    have := get_new (W.alloc (.cells (enc37 x).toArray 37)) (.cells (enc37 y).toArray 37)
    rwa [size_alloc] at this
  have hg1 : w1 = Go.Sort.grow W #[.cells (enc37 x).toArray 37, .cells (enc37 y).toArray 37] := by
    rw [hw1, Go.Sort.alloc_eq_grow, Go.Sort.alloc_eq_grow, Go.Sort.grow_grow]; rfl
  rw [← hw1]
  clear hw1
  refine X_drawC (C := fun w => ∃ q, w = w1.drewN q) (fun w ⟨q, hq⟩ => ⟨q + 1, by rw [hq, World.drewN_drewN]⟩) hF 10 (by kernel_rfl) (by decide +kernel) ?_ _ ⟨0, rfl⟩
  simp only [List.take_succ_cons, List.take_zero, List.drop_succ_cons, List.drop_zero]
  refine AQC_cons (by intro K Q hK w ⟨q, hq⟩; refine XL_fieldB hF (by exact rfl) ?_; exact XL_nil (then_n (hK _ ⟨q, hq⟩))) ?_
  refine AQC_cons (by intro K Q hK w ⟨q, hq⟩; refine XL_loadB (v := .int .i64 x.f0) hF (by exact rfl) (by rw [hq]; exact hb1) (by exact rfl) ?_; exact XL_nil (then_n (hK _ ⟨q, hq⟩))) ?_
  refine AQC_cons (by intro K Q hK w ⟨q, hq⟩; refine XL_fieldB hF (by exact rfl) ?_; exact XL_nil (then_n (hK _ ⟨q, hq⟩))) ?_
  refine AQC_cons (by intro K Q hK w ⟨q, hq⟩; refine XL_loadB (v := .int .i64 y.f0) hF (by exact rfl) (by rw [hq]; exact hb2) (by exact rfl) ?_; exact XL_nil (then_n (hK _ ⟨q, hq⟩))) ?_
  refine AQC_cons (v := .int .i64 (cmpI x.f0 y.f0)) (by intro K Q hK w ⟨q, hq⟩; refine XL_call hF rfl E41 (cmp_exact x.f0 y.f0 w) (arg2 (by (first | exact (rfl : _ = (Value.int _ _)) | exact (rfl : _ = (Value.bool _)) | exact (rfl : _ = (Value.pointer _)) | exact (rfl : _ = (Value.slice _ _ _)) | exact (rfl : _ = (Value.map _)) | exact (rfl : _ = (Value.func _ _ _)) | exact (rfl : _ = (Value.tuple _)) | exact (rfl : _ = (Value.agg _)) | exact (rfl : _ = (Value.string _)) | exact (rfl : _ = (Value.nilFunc)) | exact (rfl : _ = (Value.nilIface)))) (by (first | exact (rfl : _ = (Value.int _ _)) | exact (rfl : _ = (Value.bool _)) | exact (rfl : _ = (Value.pointer _)) | exact (rfl : _ = (Value.slice _ _ _)) | exact (rfl : _ = (Value.map _)) | exact (rfl : _ = (Value.func _ _ _)) | exact (rfl : _ = (Value.tuple _)) | exact (rfl : _ = (Value.agg _)) | exact (rfl : _ = (Value.string _)) | exact (rfl : _ = (Value.nilFunc)) | exact (rfl : _ = (Value.nilIface))))) ?_; rintro _ _ ⟨rfl, rfl⟩; exact XL_nil (then_n (hK _ ⟨q, hq⟩))) ?_
  refine AQC_cons (by intro K Q hK w ⟨q, hq⟩; refine XL_fieldB hF (by exact rfl) ?_; exact XL_nil (then_n (hK _ ⟨q, hq⟩))) ?_
  refine AQC_cons (by intro K Q hK w ⟨q, hq⟩; refine XL_loadB (v := .int .i64 x.f1) hF (by exact rfl) (by rw [hq]; exact hb1) (by exact rfl) ?_; exact XL_nil (then_n (hK _ ⟨q, hq⟩))) ?_
  refine AQC_cons (by intro K Q hK w ⟨q, hq⟩; refine XL_fieldB hF (by exact rfl) ?_; exact XL_nil (then_n (hK _ ⟨q, hq⟩))) ?_
  refine AQC_cons (by intro K Q hK w ⟨q, hq⟩; refine XL_loadB (v := .int .i64 y.f1) hF (by exact rfl) (by rw [hq]; exact hb2) (by exact rfl) ?_; exact XL_nil (then_n (hK _ ⟨q, hq⟩))) ?_
  refine AQC_cons (v := .int .i64 (cmpI x.f1 y.f1)) (by intro K Q hK w ⟨q, hq⟩; refine XL_call hF rfl E41 (cmp_exact x.f1 y.f1 w) (arg2 (by (first | exact (rfl : _ = (Value.int _ _)) | exact (rfl : _ = (Value.bool _)) | exact (rfl : _ = (Value.pointer _)) | exact (rfl : _ = (Value.slice _ _ _)) | exact (rfl : _ = (Value.map _)) | exact (rfl : _ = (Value.func _ _ _)) | exact (rfl : _ = (Value.tuple _)) | exact (rfl : _ = (Value.agg _)) | exact (rfl : _ = (Value.string _)) | exact (rfl : _ = (Value.nilFunc)) | exact (rfl : _ = (Value.nilIface)))) (by (first | exact (rfl : _ = (Value.int _ _)) | exact (rfl : _ = (Value.bool _)) | exact (rfl : _ = (Value.pointer _)) | exact (rfl : _ = (Value.slice _ _ _)) | exact (rfl : _ = (Value.map _)) | exact (rfl : _ = (Value.func _ _ _)) | exact (rfl : _ = (Value.tuple _)) | exact (rfl : _ = (Value.agg _)) | exact (rfl : _ = (Value.string _)) | exact (rfl : _ = (Value.nilFunc)) | exact (rfl : _ = (Value.nilIface))))) ?_; rintro _ _ ⟨rfl, rfl⟩; exact XL_nil (then_n (hK _ ⟨q, hq⟩))) ?_
  refine AQC_done ?_
  rintro w ⟨q, rfl⟩
  refine XL_buildSliceG (vs := [.int .i64 (cmpI x.f0 y.f0), .int .i64 (cmpI x.f1 y.f1)]) (cs := #[.int .i64 (cmpI x.f0 y.f0), .int .i64 (cmpI x.f1 y.f1)]) hF rfl (by exact rfl) (by simp [Value.cells]; decide) (by decide) (by decide) rfl ?_
  refine XL_call hF rfl E40 (or_exact _ (cmpI x.f0 y.f0) (cmpI x.f1 y.f1) _ (get_new _ _)) (arg1 (by (first | exact (rfl : _ = (Value.int _ _)) | exact (rfl : _ = (Value.bool _)) | exact (rfl : _ = (Value.pointer _)) | exact (rfl : _ = (Value.slice _ _ _)) | exact (rfl : _ = (Value.map _)) | exact (rfl : _ = (Value.func _ _ _)) | exact (rfl : _ = (Value.tuple _)) | exact (rfl : _ = (Value.agg _)) | exact (rfl : _ = (Value.string _)) | exact (rfl : _ = (Value.nilFunc)) | exact (rfl : _ = (Value.nilIface))))) ?_
  rintro _ _ ⟨rfl, rfl⟩
  refine XL_plainV hF (by exact (rfl : _ = some (Value.int _ _))) ?_
  (repeat (first | (with_reducible refine X_seq_k ?_; intro K hK) | with_reducible refine X_block ?_ | with_reducible refine X_scope ?_ | with_reducible refine nogo_n ?_ | with_reducible refine nogo_e ?_ | with_reducible refine nogo_r ?_ | with_reducible refine X_region ?_ | with_reducible refine X_skip ?_ | with_reducible refine X_label ?_ | with_reducible refine X_ret ?_ | with_reducible refine X_exit ?_ | with_reducible refine then_n ?_ | with_reducible refine then_e ?_ | with_reducible refine then_r ?_ | with_reducible refine inb_n ?_ | with_reducible refine inb_r ?_ | with_reducible refine inb_e rfl ?_ | with_reducible refine inb_x rfl ?_ | with_reducible refine XL_nil ?_ | with_reducible refine go_k (by assumption) ?_))
  refine body_ret (results1 rfl (by decide)) ⟨_, rfl, rfl, q, #[.cells (enc37 x).toArray 37, .cells (enc37 y).toArray 37] ++ #[.cells #[.int .i64 (cmpI x.f0 y.f0), .int .i64 (cmpI x.f1 y.f1)] 3], ?_⟩
  rw [hg1]
  show World.alloc (Go.Sort.grow (W.drewN q) #[.cells (enc37 x).toArray 37, .cells (enc37 y).toArray 37]) (.cells #[.int .i64 (cmpI x.f0 y.f0), .int .i64 (cmpI x.f1 y.f1)] 3) = _
  rw [Go.Sort.alloc_eq_grow, Go.Sort.grow_grow]
end Go.Proofs.Ythddaojdlfifeaa.P
