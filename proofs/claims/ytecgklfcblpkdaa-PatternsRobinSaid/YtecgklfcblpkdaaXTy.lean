/- What the seat's types are: printed by wip/tools/types.py out of the translation; Lean checks it. -/
import Derived.Test.YtecgklfcblpkdaaProg
import Derived.Test.YtecgklfcblpkdaaXA
namespace Go.Proofs.Ytecgklfcblpkdaa.P
open XW
theorem inf1 : ∃ i, Try.prog.info? 1 = some i ∧ i.size = 1 ∧ i.zero = some .nilFunc ∧ i.bytes = 8 := by
  have h : (Try.prog.info? 1).map (fun i => (i.zero, i.size, i.bytes)) = some (some .nilFunc, 1, 8) := by kernel_rfl
  obtain ⟨i, h1, h2⟩ := Option.map_eq_some_iff.1 h
  simp only [Prod.mk.injEq] at h2
  exact ⟨i, h1, h2.2.1, h2.1, h2.2.2⟩
instance tz1 : TZ Try.prog 1 := ⟨.nilFunc, by obtain ⟨i, h1, _, h2, _⟩ := inf1; exact ⟨i, h1, h2⟩⟩
instance t1_1 : T1 Try.prog 1 := ⟨⟨_, Try.underlying1, rfl⟩, by obtain ⟨i, h1, h2, _⟩ := inf1; exact ⟨i, h1, h2⟩⟩
theorem inf3 : ∃ i, Try.prog.info? 3 = some i ∧ i.size = 1 ∧ i.zero = some (.int .i64 0) ∧ i.bytes = 8 := by
  have h : (Try.prog.info? 3).map (fun i => (i.zero, i.size, i.bytes)) = some (some (.int .i64 0), 1, 8) := by kernel_rfl
  obtain ⟨i, h1, h2⟩ := Option.map_eq_some_iff.1 h
  simp only [Prod.mk.injEq] at h2
  exact ⟨i, h1, h2.2.1, h2.1, h2.2.2⟩
instance tz3 : TZ Try.prog 3 := ⟨(.int .i64 0), by obtain ⟨i, h1, _, h2, _⟩ := inf3; exact ⟨i, h1, h2⟩⟩
instance t1_3 : T1 Try.prog 3 := ⟨⟨_, Try.underlying3, rfl⟩, by obtain ⟨i, h1, h2, _⟩ := inf3; exact ⟨i, h1, h2⟩⟩
theorem inf4 : ∃ i, Try.prog.info? 4 = some i ∧ i.size = 1 ∧ i.zero = some (.bool false) ∧ i.bytes = 1 := by
  have h : (Try.prog.info? 4).map (fun i => (i.zero, i.size, i.bytes)) = some (some (.bool false), 1, 1) := by kernel_rfl
  obtain ⟨i, h1, h2⟩ := Option.map_eq_some_iff.1 h
  simp only [Prod.mk.injEq] at h2
  exact ⟨i, h1, h2.2.1, h2.1, h2.2.2⟩
instance tz4 : TZ Try.prog 4 := ⟨(.bool false), by obtain ⟨i, h1, _, h2, _⟩ := inf4; exact ⟨i, h1, h2⟩⟩
instance t1_4 : T1 Try.prog 4 := ⟨⟨_, Try.underlying4, rfl⟩, by obtain ⟨i, h1, h2, _⟩ := inf4; exact ⟨i, h1, h2⟩⟩
theorem inf5 : ∃ i, Try.prog.info? 5 = some i ∧ i.size = 1 ∧ i.zero = some (.int .u8 0) ∧ i.bytes = 1 := by
  have h : (Try.prog.info? 5).map (fun i => (i.zero, i.size, i.bytes)) = some (some (.int .u8 0), 1, 1) := by kernel_rfl
  obtain ⟨i, h1, h2⟩ := Option.map_eq_some_iff.1 h
  simp only [Prod.mk.injEq] at h2
  exact ⟨i, h1, h2.2.1, h2.1, h2.2.2⟩
instance tz5 : TZ Try.prog 5 := ⟨(.int .u8 0), by obtain ⟨i, h1, _, h2, _⟩ := inf5; exact ⟨i, h1, h2⟩⟩
instance t1_5 : T1 Try.prog 5 := ⟨⟨_, Try.underlying5, rfl⟩, by obtain ⟨i, h1, h2, _⟩ := inf5; exact ⟨i, h1, h2⟩⟩
theorem inf22 : ∃ i, Try.prog.info? 22 = some i ∧ i.size = 1 ∧ i.zero = some (.slice none 0 0) ∧ i.bytes = 24 := by
  have h : (Try.prog.info? 22).map (fun i => (i.zero, i.size, i.bytes)) = some (some (.slice none 0 0), 1, 24) := by kernel_rfl
  obtain ⟨i, h1, h2⟩ := Option.map_eq_some_iff.1 h
  simp only [Prod.mk.injEq] at h2
  exact ⟨i, h1, h2.2.1, h2.1, h2.2.2⟩
instance tz22 : TZ Try.prog 22 := ⟨(.slice none 0 0), by obtain ⟨i, h1, _, h2, _⟩ := inf22; exact ⟨i, h1, h2⟩⟩
instance t1_22 : T1 Try.prog 22 := ⟨⟨_, Try.underlying22, rfl⟩, by obtain ⟨i, h1, h2, _⟩ := inf22; exact ⟨i, h1, h2⟩⟩
theorem inf44 : ∃ i, Try.prog.info? 44 = some i ∧ i.size = 3 ∧ i.zero = some (.agg #[(.int .i64 0), (.int .i64 0), (.int .i64 0)]) ∧ i.bytes = 24 := by
  have h : (Try.prog.info? 44).map (fun i => (i.zero, i.size, i.bytes)) = some (some (.agg #[(.int .i64 0), (.int .i64 0), (.int .i64 0)]), 3, 24) := by kernel_rfl
  obtain ⟨i, h1, h2⟩ := Option.map_eq_some_iff.1 h
  simp only [Prod.mk.injEq] at h2
  exact ⟨i, h1, h2.2.1, h2.1, h2.2.2⟩
instance ts22 : TS Try.prog 22 := ⟨44, 3, (.agg #[(.int .i64 0), (.int .i64 0), (.int .i64 0)]), 24, Try.underlying22, inf44⟩
theorem inf23 : ∃ i, Try.prog.info? 23 = some i ∧ i.size = 1 ∧ i.zero = some (.slice none 0 0) ∧ i.bytes = 24 := by
  have h : (Try.prog.info? 23).map (fun i => (i.zero, i.size, i.bytes)) = some (some (.slice none 0 0), 1, 24) := by kernel_rfl
  obtain ⟨i, h1, h2⟩ := Option.map_eq_some_iff.1 h
  simp only [Prod.mk.injEq] at h2
  exact ⟨i, h1, h2.2.1, h2.1, h2.2.2⟩
instance tz23 : TZ Try.prog 23 := ⟨(.slice none 0 0), by obtain ⟨i, h1, _, h2, _⟩ := inf23; exact ⟨i, h1, h2⟩⟩
instance t1_23 : T1 Try.prog 23 := ⟨⟨_, Try.underlying23, rfl⟩, by obtain ⟨i, h1, h2, _⟩ := inf23; exact ⟨i, h1, h2⟩⟩
theorem inf29 : ∃ i, Try.prog.info? 29 = some i ∧ i.size = 1 ∧ i.zero = some (.slice none 0 0) ∧ i.bytes = 24 := by
  have h : (Try.prog.info? 29).map (fun i => (i.zero, i.size, i.bytes)) = some (some (.slice none 0 0), 1, 24) := by kernel_rfl
  obtain ⟨i, h1, h2⟩ := Option.map_eq_some_iff.1 h
  simp only [Prod.mk.injEq] at h2
  exact ⟨i, h1, h2.2.1, h2.1, h2.2.2⟩
instance ts23 : TS Try.prog 23 := ⟨29, 1, (.slice none 0 0), 24, Try.underlying23, inf29⟩
theorem inf26 : ∃ i, Try.prog.info? 26 = some i ∧ i.size = 1 ∧ i.zero = some (.int .i64 0) ∧ i.bytes = 8 := by
  have h : (Try.prog.info? 26).map (fun i => (i.zero, i.size, i.bytes)) = some (some (.int .i64 0), 1, 8) := by kernel_rfl
  obtain ⟨i, h1, h2⟩ := Option.map_eq_some_iff.1 h
  simp only [Prod.mk.injEq] at h2
  exact ⟨i, h1, h2.2.1, h2.1, h2.2.2⟩
instance tz26 : TZ Try.prog 26 := ⟨(.int .i64 0), by obtain ⟨i, h1, _, h2, _⟩ := inf26; exact ⟨i, h1, h2⟩⟩
instance t1_26 : T1 Try.prog 26 := ⟨⟨_, Try.underlying26, rfl⟩, by obtain ⟨i, h1, h2, _⟩ := inf26; exact ⟨i, h1, h2⟩⟩
instance tz29 : TZ Try.prog 29 := ⟨(.slice none 0 0), by obtain ⟨i, h1, _, h2, _⟩ := inf29; exact ⟨i, h1, h2⟩⟩
instance t1_29 : T1 Try.prog 29 := ⟨⟨_, Try.underlying29, rfl⟩, by obtain ⟨i, h1, h2, _⟩ := inf29; exact ⟨i, h1, h2⟩⟩
instance ts29 : TS Try.prog 29 := ⟨3, 1, (.int .i64 0), 8, Try.underlying29, inf3⟩
theorem inf41 : ∃ i, Try.prog.info? 41 = some i ∧ i.size = 1 ∧ i.zero = some (.slice none 0 0) ∧ i.bytes = 24 := by
  have h : (Try.prog.info? 41).map (fun i => (i.zero, i.size, i.bytes)) = some (some (.slice none 0 0), 1, 24) := by kernel_rfl
  obtain ⟨i, h1, h2⟩ := Option.map_eq_some_iff.1 h
  simp only [Prod.mk.injEq] at h2
  exact ⟨i, h1, h2.2.1, h2.1, h2.2.2⟩
instance tz41 : TZ Try.prog 41 := ⟨(.slice none 0 0), by obtain ⟨i, h1, _, h2, _⟩ := inf41; exact ⟨i, h1, h2⟩⟩
instance t1_41 : T1 Try.prog 41 := ⟨⟨_, Try.underlying41, rfl⟩, by obtain ⟨i, h1, h2, _⟩ := inf41; exact ⟨i, h1, h2⟩⟩
instance ts41 : TS Try.prog 41 := ⟨5, 1, (.int .u8 0), 1, Try.underlying41, inf5⟩
instance tz44 : TZ Try.prog 44 := ⟨(.agg #[(.int .i64 0), (.int .i64 0), (.int .i64 0)]), by obtain ⟨i, h1, _, h2, _⟩ := inf44; exact ⟨i, h1, h2⟩⟩
instance tagg44 : TAgg Try.prog 44 := ⟨3, by decide, by obtain ⟨i, h1, h2, _⟩ := inf44; exact ⟨_, i, Try.underlying44, rfl, h1, h2⟩⟩
instance tf44_0 : TF Try.prog 44 0 := ⟨0, by obtain ⟨i, h1, h2, _⟩ := inf3; exact ⟨_, _, i, Try.underlying44, rfl, rfl, h1, by rw [h2]; decide⟩⟩
instance tf44_1 : TF Try.prog 44 1 := ⟨1, by obtain ⟨i, h1, h2, _⟩ := inf3; exact ⟨_, _, i, Try.underlying44, rfl, rfl, h1, by rw [h2]; decide⟩⟩
instance tf44_2 : TF Try.prog 44 2 := ⟨2, by obtain ⟨i, h1, h2, _⟩ := inf3; exact ⟨_, _, i, Try.underlying44, rfl, rfl, h1, by rw [h2]; decide⟩⟩
theorem inf48 : ∃ i, Try.prog.info? 48 = some i ∧ i.size = 1 ∧ i.zero = some (.slice none 0 0) ∧ i.bytes = 24 := by
  have h : (Try.prog.info? 48).map (fun i => (i.zero, i.size, i.bytes)) = some (some (.slice none 0 0), 1, 24) := by kernel_rfl
  obtain ⟨i, h1, h2⟩ := Option.map_eq_some_iff.1 h
  simp only [Prod.mk.injEq] at h2
  exact ⟨i, h1, h2.2.1, h2.1, h2.2.2⟩
instance tz48 : TZ Try.prog 48 := ⟨(.slice none 0 0), by obtain ⟨i, h1, _, h2, _⟩ := inf48; exact ⟨i, h1, h2⟩⟩
instance t1_48 : T1 Try.prog 48 := ⟨⟨_, Try.underlying48, rfl⟩, by obtain ⟨i, h1, h2, _⟩ := inf48; exact ⟨i, h1, h2⟩⟩
instance ts48 : TS Try.prog 48 := ⟨4, 1, (.bool false), 1, Try.underlying48, inf4⟩
theorem inf50 : ∃ i, Try.prog.info? 50 = some i ∧ i.size = 5 ∧ i.zero = some (.agg #[(.int .u8 0), (.int .u8 0), (.slice none 0 0), (.slice none 0 0), (.slice none 0 0)]) ∧ i.bytes = 80 := by
  have h : (Try.prog.info? 50).map (fun i => (i.zero, i.size, i.bytes)) = some (some (.agg #[(.int .u8 0), (.int .u8 0), (.slice none 0 0), (.slice none 0 0), (.slice none 0 0)]), 5, 80) := by kernel_rfl
  obtain ⟨i, h1, h2⟩ := Option.map_eq_some_iff.1 h
  simp only [Prod.mk.injEq] at h2
  exact ⟨i, h1, h2.2.1, h2.1, h2.2.2⟩
instance tz50 : TZ Try.prog 50 := ⟨(.agg #[(.int .u8 0), (.int .u8 0), (.slice none 0 0), (.slice none 0 0), (.slice none 0 0)]), by obtain ⟨i, h1, _, h2, _⟩ := inf50; exact ⟨i, h1, h2⟩⟩
instance tagg50 : TAgg Try.prog 50 := ⟨5, by decide, by obtain ⟨i, h1, h2, _⟩ := inf50; exact ⟨_, i, Try.underlying50, rfl, h1, h2⟩⟩
instance tf50_0 : TF Try.prog 50 0 := ⟨0, by obtain ⟨i, h1, h2, _⟩ := inf5; exact ⟨_, _, i, Try.underlying50, rfl, rfl, h1, by rw [h2]; decide⟩⟩
instance tf50_1 : TF Try.prog 50 1 := ⟨1, by obtain ⟨i, h1, h2, _⟩ := inf5; exact ⟨_, _, i, Try.underlying50, rfl, rfl, h1, by rw [h2]; decide⟩⟩
instance tf50_2 : TF Try.prog 50 2 := ⟨2, by obtain ⟨i, h1, h2, _⟩ := inf41; exact ⟨_, _, i, Try.underlying50, rfl, rfl, h1, by rw [h2]; decide⟩⟩
instance tf50_3 : TF Try.prog 50 3 := ⟨3, by obtain ⟨i, h1, h2, _⟩ := inf41; exact ⟨_, _, i, Try.underlying50, rfl, rfl, h1, by rw [h2]; decide⟩⟩
instance tf50_4 : TF Try.prog 50 4 := ⟨4, by obtain ⟨i, h1, h2, _⟩ := inf48; exact ⟨_, _, i, Try.underlying50, rfl, rfl, h1, by rw [h2]; decide⟩⟩
theorem inf54 : ∃ i, Try.prog.info? 54 = some i ∧ i.size = 1 ∧ i.zero = some (.int .u32 0) ∧ i.bytes = 4 := by
  have h : (Try.prog.info? 54).map (fun i => (i.zero, i.size, i.bytes)) = some (some (.int .u32 0), 1, 4) := by kernel_rfl
  obtain ⟨i, h1, h2⟩ := Option.map_eq_some_iff.1 h
  simp only [Prod.mk.injEq] at h2
  exact ⟨i, h1, h2.2.1, h2.1, h2.2.2⟩
instance tz54 : TZ Try.prog 54 := ⟨(.int .u32 0), by obtain ⟨i, h1, _, h2, _⟩ := inf54; exact ⟨i, h1, h2⟩⟩
instance t1_54 : T1 Try.prog 54 := ⟨⟨_, Try.underlying54, rfl⟩, by obtain ⟨i, h1, h2, _⟩ := inf54; exact ⟨i, h1, h2⟩⟩
theorem inf55 : ∃ i, Try.prog.info? 55 = some i ∧ i.size = 64 ∧ i.zero = some (.agg #[(.int .u32 0), (.int .u32 0), (.int .u32 0), (.int .u32 0), (.int .u32 0), (.int .u32 0), (.int .u32 0), (.int .u32 0), (.int .u32 0), (.int .u32 0), (.int .u32 0), (.int .u32 0), (.int .u32 0), (.int .u32 0), (.int .u32 0), (.int .u32 0), (.int .u32 0), (.int .u32 0), (.int .u32 0), (.int .u32 0), (.int .u32 0), (.int .u32 0), (.int .u32 0), (.int .u32 0), (.int .u32 0), (.int .u32 0), (.int .u32 0), (.int .u32 0), (.int .u32 0), (.int .u32 0), (.int .u32 0), (.int .u32 0), (.int .u32 0), (.int .u32 0), (.int .u32 0), (.int .u32 0), (.int .u32 0), (.int .u32 0), (.int .u32 0), (.int .u32 0), (.int .u32 0), (.int .u32 0), (.int .u32 0), (.int .u32 0), (.int .u32 0), (.int .u32 0), (.int .u32 0), (.int .u32 0), (.int .u32 0), (.int .u32 0), (.int .u32 0), (.int .u32 0), (.int .u32 0), (.int .u32 0), (.int .u32 0), (.int .u32 0), (.int .u32 0), (.int .u32 0), (.int .u32 0), (.int .u32 0), (.int .u32 0), (.int .u32 0), (.int .u32 0), (.int .u32 0)]) ∧ i.bytes = 256 := by
  have h : (Try.prog.info? 55).map (fun i => (i.zero, i.size, i.bytes)) = some (some (.agg #[(.int .u32 0), (.int .u32 0), (.int .u32 0), (.int .u32 0), (.int .u32 0), (.int .u32 0), (.int .u32 0), (.int .u32 0), (.int .u32 0), (.int .u32 0), (.int .u32 0), (.int .u32 0), (.int .u32 0), (.int .u32 0), (.int .u32 0), (.int .u32 0), (.int .u32 0), (.int .u32 0), (.int .u32 0), (.int .u32 0), (.int .u32 0), (.int .u32 0), (.int .u32 0), (.int .u32 0), (.int .u32 0), (.int .u32 0), (.int .u32 0), (.int .u32 0), (.int .u32 0), (.int .u32 0), (.int .u32 0), (.int .u32 0), (.int .u32 0), (.int .u32 0), (.int .u32 0), (.int .u32 0), (.int .u32 0), (.int .u32 0), (.int .u32 0), (.int .u32 0), (.int .u32 0), (.int .u32 0), (.int .u32 0), (.int .u32 0), (.int .u32 0), (.int .u32 0), (.int .u32 0), (.int .u32 0), (.int .u32 0), (.int .u32 0), (.int .u32 0), (.int .u32 0), (.int .u32 0), (.int .u32 0), (.int .u32 0), (.int .u32 0), (.int .u32 0), (.int .u32 0), (.int .u32 0), (.int .u32 0), (.int .u32 0), (.int .u32 0), (.int .u32 0), (.int .u32 0)]), 64, 256) := by kernel_rfl
  obtain ⟨i, h1, h2⟩ := Option.map_eq_some_iff.1 h
  simp only [Prod.mk.injEq] at h2
  exact ⟨i, h1, h2.2.1, h2.1, h2.2.2⟩
instance tz55 : TZ Try.prog 55 := ⟨(.agg #[(.int .u32 0), (.int .u32 0), (.int .u32 0), (.int .u32 0), (.int .u32 0), (.int .u32 0), (.int .u32 0), (.int .u32 0), (.int .u32 0), (.int .u32 0), (.int .u32 0), (.int .u32 0), (.int .u32 0), (.int .u32 0), (.int .u32 0), (.int .u32 0), (.int .u32 0), (.int .u32 0), (.int .u32 0), (.int .u32 0), (.int .u32 0), (.int .u32 0), (.int .u32 0), (.int .u32 0), (.int .u32 0), (.int .u32 0), (.int .u32 0), (.int .u32 0), (.int .u32 0), (.int .u32 0), (.int .u32 0), (.int .u32 0), (.int .u32 0), (.int .u32 0), (.int .u32 0), (.int .u32 0), (.int .u32 0), (.int .u32 0), (.int .u32 0), (.int .u32 0), (.int .u32 0), (.int .u32 0), (.int .u32 0), (.int .u32 0), (.int .u32 0), (.int .u32 0), (.int .u32 0), (.int .u32 0), (.int .u32 0), (.int .u32 0), (.int .u32 0), (.int .u32 0), (.int .u32 0), (.int .u32 0), (.int .u32 0), (.int .u32 0), (.int .u32 0), (.int .u32 0), (.int .u32 0), (.int .u32 0), (.int .u32 0), (.int .u32 0), (.int .u32 0), (.int .u32 0)]), by obtain ⟨i, h1, _, h2, _⟩ := inf55; exact ⟨i, h1, h2⟩⟩
instance tagg55 : TAgg Try.prog 55 := ⟨64, by decide, by obtain ⟨i, h1, h2, _⟩ := inf55; exact ⟨_, i, Try.underlying55, rfl, h1, h2⟩⟩
instance tarr55 : TArr Try.prog 55 := ⟨64, 54, 1, Try.underlying55, by decide, by obtain ⟨i, h1, h2, _⟩ := inf54; exact ⟨i, h1, h2⟩⟩
theorem inf56 : ∃ i, Try.prog.info? 56 = some i ∧ i.size = 1 ∧ i.zero = some .nilFunc ∧ i.bytes = 8 := by
  have h : (Try.prog.info? 56).map (fun i => (i.zero, i.size, i.bytes)) = some (some .nilFunc, 1, 8) := by kernel_rfl
  obtain ⟨i, h1, h2⟩ := Option.map_eq_some_iff.1 h
  simp only [Prod.mk.injEq] at h2
  exact ⟨i, h1, h2.2.1, h2.1, h2.2.2⟩
instance tz56 : TZ Try.prog 56 := ⟨.nilFunc, by obtain ⟨i, h1, _, h2, _⟩ := inf56; exact ⟨i, h1, h2⟩⟩
instance t1_56 : T1 Try.prog 56 := ⟨⟨_, Try.underlying56, rfl⟩, by obtain ⟨i, h1, h2, _⟩ := inf56; exact ⟨i, h1, h2⟩⟩
theorem inf58 : ∃ i, Try.prog.info? 58 = some i ∧ i.size = 1 ∧ i.zero = some .nilFunc ∧ i.bytes = 8 := by
  have h : (Try.prog.info? 58).map (fun i => (i.zero, i.size, i.bytes)) = some (some .nilFunc, 1, 8) := by kernel_rfl
  obtain ⟨i, h1, h2⟩ := Option.map_eq_some_iff.1 h
  simp only [Prod.mk.injEq] at h2
  exact ⟨i, h1, h2.2.1, h2.1, h2.2.2⟩
instance tz58 : TZ Try.prog 58 := ⟨.nilFunc, by obtain ⟨i, h1, _, h2, _⟩ := inf58; exact ⟨i, h1, h2⟩⟩
instance t1_58 : T1 Try.prog 58 := ⟨⟨_, Try.underlying58, rfl⟩, by obtain ⟨i, h1, h2, _⟩ := inf58; exact ⟨i, h1, h2⟩⟩
theorem inf66 : ∃ i, Try.prog.info? 66 = some i ∧ i.size = 1 ∧ i.zero = some .nilFunc ∧ i.bytes = 8 := by
  have h : (Try.prog.info? 66).map (fun i => (i.zero, i.size, i.bytes)) = some (some .nilFunc, 1, 8) := by kernel_rfl
  obtain ⟨i, h1, h2⟩ := Option.map_eq_some_iff.1 h
  simp only [Prod.mk.injEq] at h2
  exact ⟨i, h1, h2.2.1, h2.1, h2.2.2⟩
instance tz66 : TZ Try.prog 66 := ⟨.nilFunc, by obtain ⟨i, h1, _, h2, _⟩ := inf66; exact ⟨i, h1, h2⟩⟩
instance t1_66 : T1 Try.prog 66 := ⟨⟨_, Try.underlying66, rfl⟩, by obtain ⟨i, h1, h2, _⟩ := inf66; exact ⟨i, h1, h2⟩⟩
theorem inf67 : ∃ i, Try.prog.info? 67 = some i ∧ i.size = 1 ∧ i.zero = some .nilFunc ∧ i.bytes = 8 := by
  have h : (Try.prog.info? 67).map (fun i => (i.zero, i.size, i.bytes)) = some (some .nilFunc, 1, 8) := by kernel_rfl
  obtain ⟨i, h1, h2⟩ := Option.map_eq_some_iff.1 h
  simp only [Prod.mk.injEq] at h2
  exact ⟨i, h1, h2.2.1, h2.1, h2.2.2⟩
instance tz67 : TZ Try.prog 67 := ⟨.nilFunc, by obtain ⟨i, h1, _, h2, _⟩ := inf67; exact ⟨i, h1, h2⟩⟩
instance t1_67 : T1 Try.prog 67 := ⟨⟨_, Try.underlying67, rfl⟩, by obtain ⟨i, h1, h2, _⟩ := inf67; exact ⟨i, h1, h2⟩⟩
theorem inf68 : ∃ i, Try.prog.info? 68 = some i ∧ i.size = 1 ∧ i.zero = some (.int .u64 0) ∧ i.bytes = 8 := by
  have h : (Try.prog.info? 68).map (fun i => (i.zero, i.size, i.bytes)) = some (some (.int .u64 0), 1, 8) := by kernel_rfl
  obtain ⟨i, h1, h2⟩ := Option.map_eq_some_iff.1 h
  simp only [Prod.mk.injEq] at h2
  exact ⟨i, h1, h2.2.1, h2.1, h2.2.2⟩
instance tz68 : TZ Try.prog 68 := ⟨(.int .u64 0), by obtain ⟨i, h1, _, h2, _⟩ := inf68; exact ⟨i, h1, h2⟩⟩
instance t1_68 : T1 Try.prog 68 := ⟨⟨_, Try.underlying68, rfl⟩, by obtain ⟨i, h1, h2, _⟩ := inf68; exact ⟨i, h1, h2⟩⟩
theorem inf70 : ∃ i, Try.prog.info? 70 = some i ∧ i.size = 2 ∧ i.zero = some (.agg #[(.int .i64 0), (.int .i64 0)]) ∧ i.bytes = 16 := by
  have h : (Try.prog.info? 70).map (fun i => (i.zero, i.size, i.bytes)) = some (some (.agg #[(.int .i64 0), (.int .i64 0)]), 2, 16) := by kernel_rfl
  obtain ⟨i, h1, h2⟩ := Option.map_eq_some_iff.1 h
  simp only [Prod.mk.injEq] at h2
  exact ⟨i, h1, h2.2.1, h2.1, h2.2.2⟩
instance tz70 : TZ Try.prog 70 := ⟨(.agg #[(.int .i64 0), (.int .i64 0)]), by obtain ⟨i, h1, _, h2, _⟩ := inf70; exact ⟨i, h1, h2⟩⟩
instance tagg70 : TAgg Try.prog 70 := ⟨2, by decide, by obtain ⟨i, h1, h2, _⟩ := inf70; exact ⟨_, i, Try.underlying70, rfl, h1, h2⟩⟩
instance tf70_0 : TF Try.prog 70 0 := ⟨0, by obtain ⟨i, h1, h2, _⟩ := inf3; exact ⟨_, _, i, Try.underlying70, rfl, rfl, h1, by rw [h2]; decide⟩⟩
instance tf70_1 : TF Try.prog 70 1 := ⟨1, by obtain ⟨i, h1, h2, _⟩ := inf3; exact ⟨_, _, i, Try.underlying70, rfl, rfl, h1, by rw [h2]; decide⟩⟩
theorem inf74 : ∃ i, Try.prog.info? 74 = some i ∧ i.size = 1 ∧ i.zero = some .nilFunc ∧ i.bytes = 8 := by
  have h : (Try.prog.info? 74).map (fun i => (i.zero, i.size, i.bytes)) = some (some .nilFunc, 1, 8) := by kernel_rfl
  obtain ⟨i, h1, h2⟩ := Option.map_eq_some_iff.1 h
  simp only [Prod.mk.injEq] at h2
  exact ⟨i, h1, h2.2.1, h2.1, h2.2.2⟩
instance tz74 : TZ Try.prog 74 := ⟨.nilFunc, by obtain ⟨i, h1, _, h2, _⟩ := inf74; exact ⟨i, h1, h2⟩⟩
instance t1_74 : T1 Try.prog 74 := ⟨⟨_, Try.underlying74, rfl⟩, by obtain ⟨i, h1, h2, _⟩ := inf74; exact ⟨i, h1, h2⟩⟩
theorem inf80 : ∃ i, Try.prog.info? 80 = some i ∧ i.size = 1 ∧ i.zero = some .nilFunc ∧ i.bytes = 8 := by
  have h : (Try.prog.info? 80).map (fun i => (i.zero, i.size, i.bytes)) = some (some .nilFunc, 1, 8) := by kernel_rfl
  obtain ⟨i, h1, h2⟩ := Option.map_eq_some_iff.1 h
  simp only [Prod.mk.injEq] at h2
  exact ⟨i, h1, h2.2.1, h2.1, h2.2.2⟩
instance tz80 : TZ Try.prog 80 := ⟨.nilFunc, by obtain ⟨i, h1, _, h2, _⟩ := inf80; exact ⟨i, h1, h2⟩⟩
instance t1_80 : T1 Try.prog 80 := ⟨⟨_, Try.underlying80, rfl⟩, by obtain ⟨i, h1, h2, _⟩ := inf80; exact ⟨i, h1, h2⟩⟩
theorem inf82 : ∃ i, Try.prog.info? 82 = some i ∧ i.size = 1 ∧ i.zero = some (.slice none 0 0) ∧ i.bytes = 24 := by
  have h : (Try.prog.info? 82).map (fun i => (i.zero, i.size, i.bytes)) = some (some (.slice none 0 0), 1, 24) := by kernel_rfl
  obtain ⟨i, h1, h2⟩ := Option.map_eq_some_iff.1 h
  simp only [Prod.mk.injEq] at h2
  exact ⟨i, h1, h2.2.1, h2.1, h2.2.2⟩
instance tz82 : TZ Try.prog 82 := ⟨(.slice none 0 0), by obtain ⟨i, h1, _, h2, _⟩ := inf82; exact ⟨i, h1, h2⟩⟩
instance t1_82 : T1 Try.prog 82 := ⟨⟨_, Try.underlying82, rfl⟩, by obtain ⟨i, h1, h2, _⟩ := inf82; exact ⟨i, h1, h2⟩⟩
instance ts82 : TS Try.prog 82 := ⟨22, 1, (.slice none 0 0), 24, Try.underlying82, inf22⟩
theorem inf83 : ∃ i, Try.prog.info? 83 = some i ∧ i.size = 1 ∧ i.zero = some (.map none) ∧ i.bytes = 8 := by
  have h : (Try.prog.info? 83).map (fun i => (i.zero, i.size, i.bytes)) = some (some (.map none), 1, 8) := by kernel_rfl
  obtain ⟨i, h1, h2⟩ := Option.map_eq_some_iff.1 h
  simp only [Prod.mk.injEq] at h2
  exact ⟨i, h1, h2.2.1, h2.1, h2.2.2⟩
instance tz83 : TZ Try.prog 83 := ⟨(.map none), by obtain ⟨i, h1, _, h2, _⟩ := inf83; exact ⟨i, h1, h2⟩⟩
instance t1_83 : T1 Try.prog 83 := ⟨⟨_, Try.underlying83, rfl⟩, by obtain ⟨i, h1, h2, _⟩ := inf83; exact ⟨i, h1, h2⟩⟩
instance tm83 : TM Try.prog 83 := ⟨84, 4, (.bool false), Try.underlying83, by obtain ⟨i, h1, _, h2, _⟩ := inf4; exact ⟨i, h1, h2⟩⟩
theorem inf84 : ∃ i, Try.prog.info? 84 = some i ∧ i.size = 2 ∧ i.zero = some (.agg #[(.int .i64 0), (.int .i64 0)]) ∧ i.bytes = 16 := by
  have h : (Try.prog.info? 84).map (fun i => (i.zero, i.size, i.bytes)) = some (some (.agg #[(.int .i64 0), (.int .i64 0)]), 2, 16) := by kernel_rfl
  obtain ⟨i, h1, h2⟩ := Option.map_eq_some_iff.1 h
  simp only [Prod.mk.injEq] at h2
  exact ⟨i, h1, h2.2.1, h2.1, h2.2.2⟩
instance tz84 : TZ Try.prog 84 := ⟨(.agg #[(.int .i64 0), (.int .i64 0)]), by obtain ⟨i, h1, _, h2, _⟩ := inf84; exact ⟨i, h1, h2⟩⟩
instance tagg84 : TAgg Try.prog 84 := ⟨2, by decide, by obtain ⟨i, h1, h2, _⟩ := inf84; exact ⟨_, i, Try.underlying84, rfl, h1, h2⟩⟩
instance tarr84 : TArr Try.prog 84 := ⟨2, 3, 1, Try.underlying84, by decide, by obtain ⟨i, h1, h2, _⟩ := inf3; exact ⟨i, h1, h2⟩⟩
theorem inf89 : ∃ i, Try.prog.info? 89 = some i ∧ i.size = 1 ∧ i.zero = some .nilFunc ∧ i.bytes = 8 := by
  have h : (Try.prog.info? 89).map (fun i => (i.zero, i.size, i.bytes)) = some (some .nilFunc, 1, 8) := by kernel_rfl
  obtain ⟨i, h1, h2⟩ := Option.map_eq_some_iff.1 h
  simp only [Prod.mk.injEq] at h2
  exact ⟨i, h1, h2.2.1, h2.1, h2.2.2⟩
instance tz89 : TZ Try.prog 89 := ⟨.nilFunc, by obtain ⟨i, h1, _, h2, _⟩ := inf89; exact ⟨i, h1, h2⟩⟩
instance t1_89 : T1 Try.prog 89 := ⟨⟨_, Try.underlying89, rfl⟩, by obtain ⟨i, h1, h2, _⟩ := inf89; exact ⟨i, h1, h2⟩⟩
theorem inf95 : ∃ i, Try.prog.info? 95 = some i ∧ i.size = 1 ∧ i.zero = some .nilFunc ∧ i.bytes = 8 := by
  have h : (Try.prog.info? 95).map (fun i => (i.zero, i.size, i.bytes)) = some (some .nilFunc, 1, 8) := by kernel_rfl
  obtain ⟨i, h1, h2⟩ := Option.map_eq_some_iff.1 h
  simp only [Prod.mk.injEq] at h2
  exact ⟨i, h1, h2.2.1, h2.1, h2.2.2⟩
instance tz95 : TZ Try.prog 95 := ⟨.nilFunc, by obtain ⟨i, h1, _, h2, _⟩ := inf95; exact ⟨i, h1, h2⟩⟩
instance t1_95 : T1 Try.prog 95 := ⟨⟨_, Try.underlying95, rfl⟩, by obtain ⟨i, h1, h2, _⟩ := inf95; exact ⟨i, h1, h2⟩⟩
theorem inf100 : ∃ i, Try.prog.info? 100 = some i ∧ i.size = 1 ∧ i.zero = some (.int .i64 0) ∧ i.bytes = 8 := by
  have h : (Try.prog.info? 100).map (fun i => (i.zero, i.size, i.bytes)) = some (some (.int .i64 0), 1, 8) := by kernel_rfl
  obtain ⟨i, h1, h2⟩ := Option.map_eq_some_iff.1 h
  simp only [Prod.mk.injEq] at h2
  exact ⟨i, h1, h2.2.1, h2.1, h2.2.2⟩
instance tz100 : TZ Try.prog 100 := ⟨(.int .i64 0), by obtain ⟨i, h1, _, h2, _⟩ := inf100; exact ⟨i, h1, h2⟩⟩
instance t1_100 : T1 Try.prog 100 := ⟨⟨_, Try.underlying100, rfl⟩, by obtain ⟨i, h1, h2, _⟩ := inf100; exact ⟨i, h1, h2⟩⟩
theorem inf108 : ∃ i, Try.prog.info? 108 = some i ∧ i.size = 1 ∧ i.zero = some (.int .u64 0) ∧ i.bytes = 8 := by
  have h : (Try.prog.info? 108).map (fun i => (i.zero, i.size, i.bytes)) = some (some (.int .u64 0), 1, 8) := by kernel_rfl
  obtain ⟨i, h1, h2⟩ := Option.map_eq_some_iff.1 h
  simp only [Prod.mk.injEq] at h2
  exact ⟨i, h1, h2.2.1, h2.1, h2.2.2⟩
instance tz108 : TZ Try.prog 108 := ⟨(.int .u64 0), by obtain ⟨i, h1, _, h2, _⟩ := inf108; exact ⟨i, h1, h2⟩⟩
instance t1_108 : T1 Try.prog 108 := ⟨⟨_, Try.underlying108, rfl⟩, by obtain ⟨i, h1, h2, _⟩ := inf108; exact ⟨i, h1, h2⟩⟩
theorem inf109 : ∃ i, Try.prog.info? 109 = some i ∧ i.size = 1 ∧ i.zero = some (.int .u64 0) ∧ i.bytes = 8 := by
  have h : (Try.prog.info? 109).map (fun i => (i.zero, i.size, i.bytes)) = some (some (.int .u64 0), 1, 8) := by kernel_rfl
  obtain ⟨i, h1, h2⟩ := Option.map_eq_some_iff.1 h
  simp only [Prod.mk.injEq] at h2
  exact ⟨i, h1, h2.2.1, h2.1, h2.2.2⟩
instance tz109 : TZ Try.prog 109 := ⟨(.int .u64 0), by obtain ⟨i, h1, _, h2, _⟩ := inf109; exact ⟨i, h1, h2⟩⟩
instance t1_109 : T1 Try.prog 109 := ⟨⟨_, Try.underlying109, rfl⟩, by obtain ⟨i, h1, h2, _⟩ := inf109; exact ⟨i, h1, h2⟩⟩
theorem inf113 : ∃ i, Try.prog.info? 113 = some i ∧ i.size = 1 ∧ i.zero = some (.pointer none) ∧ i.bytes = 8 := by
  have h : (Try.prog.info? 113).map (fun i => (i.zero, i.size, i.bytes)) = some (some (.pointer none), 1, 8) := by kernel_rfl
  obtain ⟨i, h1, h2⟩ := Option.map_eq_some_iff.1 h
  simp only [Prod.mk.injEq] at h2
  exact ⟨i, h1, h2.2.1, h2.1, h2.2.2⟩
instance tz113 : TZ Try.prog 113 := ⟨(.pointer none), by obtain ⟨i, h1, _, h2, _⟩ := inf113; exact ⟨i, h1, h2⟩⟩
instance t1_113 : T1 Try.prog 113 := ⟨⟨_, Try.underlying113, rfl⟩, by obtain ⟨i, h1, h2, _⟩ := inf113; exact ⟨i, h1, h2⟩⟩
theorem inf115 : ∃ i, Try.prog.info? 115 = some i ∧ i.size = 1 ∧ i.zero = some (.pointer none) ∧ i.bytes = 8 := by
  have h : (Try.prog.info? 115).map (fun i => (i.zero, i.size, i.bytes)) = some (some (.pointer none), 1, 8) := by kernel_rfl
  obtain ⟨i, h1, h2⟩ := Option.map_eq_some_iff.1 h
  simp only [Prod.mk.injEq] at h2
  exact ⟨i, h1, h2.2.1, h2.1, h2.2.2⟩
instance tz115 : TZ Try.prog 115 := ⟨(.pointer none), by obtain ⟨i, h1, _, h2, _⟩ := inf115; exact ⟨i, h1, h2⟩⟩
instance t1_115 : T1 Try.prog 115 := ⟨⟨_, Try.underlying115, rfl⟩, by obtain ⟨i, h1, h2, _⟩ := inf115; exact ⟨i, h1, h2⟩⟩
end Go.Proofs.Ytecgklfcblpkdaa.P
