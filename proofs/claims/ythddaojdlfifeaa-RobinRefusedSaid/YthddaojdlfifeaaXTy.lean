/- What the seat's types are: printed by wip/tools/types.py out of the translation; Lean checks it. -/
import Derived.Test.YthddaojdlfifeaaProg
import Derived.Test.YthddaojdlfifeaaXA
namespace Go.Proofs.Ythddaojdlfifeaa.P
open XW

theorem inf1 : ∃ i, Try.prog.info? 1 = some i ∧ i.size = 1 ∧ i.zero = some .nilFunc ∧ i.bytes = 8 := by
  have h : (Try.prog.info? 1).map (fun i => (i.zero, i.size, i.bytes)) = some (some .nilFunc, 1, 8) := by kernel_rfl
  obtain ⟨i, h1, h2⟩ := Option.map_eq_some_iff.1 h
  simp only [Prod.mk.injEq] at h2
  exact ⟨i, h1, h2.2.1, h2.1, h2.2.2⟩
instance tz1 : TZ Try.prog 1 := ⟨.nilFunc, by obtain ⟨i, h1, _, h2, _⟩ := inf1; exact ⟨i, h1, h2⟩⟩
instance t1_1 : T1 Try.prog 1 := ⟨⟨_, Try.underlying1, rfl⟩, by obtain ⟨i, h1, h2, _⟩ := inf1; exact ⟨i, h1, h2⟩⟩
theorem inf3 : ∃ i, Try.prog.info? 3 = some i ∧ i.size = 1 ∧ i.zero = some (.int .i64 0) ∧ i.bytes = 8 := by
  have h : (Try.prog.info? 3).map (fun i => (i.zero, i.size, i.bytes)) = some (some (.int .i64 0), 1, 8) := by kernel_rfl
  obtain ⟨i, h1, h2⟩ := Option.map_eq_some_iff.1 h
  simp only [Prod.mk.injEq] at h2
  exact ⟨i, h1, h2.2.1, h2.1, h2.2.2⟩
instance tz3 : TZ Try.prog 3 := ⟨(.int .i64 0), by obtain ⟨i, h1, _, h2, _⟩ := inf3; exact ⟨i, h1, h2⟩⟩
instance t1_3 : T1 Try.prog 3 := ⟨⟨_, Try.underlying3, rfl⟩, by obtain ⟨i, h1, h2, _⟩ := inf3; exact ⟨i, h1, h2⟩⟩
theorem inf4 : ∃ i, Try.prog.info? 4 = some i ∧ i.size = 1 ∧ i.zero = some (.bool false) ∧ i.bytes = 1 := by
  have h : (Try.prog.info? 4).map (fun i => (i.zero, i.size, i.bytes)) = some (some (.bool false), 1, 1) := by kernel_rfl
  obtain ⟨i, h1, h2⟩ := Option.map_eq_some_iff.1 h
  simp only [Prod.mk.injEq] at h2
  exact ⟨i, h1, h2.2.1, h2.1, h2.2.2⟩
instance tz4 : TZ Try.prog 4 := ⟨(.bool false), by obtain ⟨i, h1, _, h2, _⟩ := inf4; exact ⟨i, h1, h2⟩⟩
instance t1_4 : T1 Try.prog 4 := ⟨⟨_, Try.underlying4, rfl⟩, by obtain ⟨i, h1, h2, _⟩ := inf4; exact ⟨i, h1, h2⟩⟩
theorem inf5 : ∃ i, Try.prog.info? 5 = some i ∧ i.size = 1 ∧ i.zero = some (.int .u8 0) ∧ i.bytes = 1 := by
  have h : (Try.prog.info? 5).map (fun i => (i.zero, i.size, i.bytes)) = some (some (.int .u8 0), 1, 1) := by kernel_rfl
  obtain ⟨i, h1, h2⟩ := Option.map_eq_some_iff.1 h
  simp only [Prod.mk.injEq] at h2
  exact ⟨i, h1, h2.2.1, h2.1, h2.2.2⟩
instance tz5 : TZ Try.prog 5 := ⟨(.int .u8 0), by obtain ⟨i, h1, _, h2, _⟩ := inf5; exact ⟨i, h1, h2⟩⟩
instance t1_5 : T1 Try.prog 5 := ⟨⟨_, Try.underlying5, rfl⟩, by obtain ⟨i, h1, h2, _⟩ := inf5; exact ⟨i, h1, h2⟩⟩
theorem inf23 : ∃ i, Try.prog.info? 23 = some i ∧ i.size = 1 ∧ i.zero = some (.int .i64 0) ∧ i.bytes = 8 := by
  have h : (Try.prog.info? 23).map (fun i => (i.zero, i.size, i.bytes)) = some (some (.int .i64 0), 1, 8) := by kernel_rfl
  obtain ⟨i, h1, h2⟩ := Option.map_eq_some_iff.1 h
  simp only [Prod.mk.injEq] at h2
  exact ⟨i, h1, h2.2.1, h2.1, h2.2.2⟩
instance tz23 : TZ Try.prog 23 := ⟨(.int .i64 0), by obtain ⟨i, h1, _, h2, _⟩ := inf23; exact ⟨i, h1, h2⟩⟩
instance t1_23 : T1 Try.prog 23 := ⟨⟨_, Try.underlying23, rfl⟩, by obtain ⟨i, h1, h2, _⟩ := inf23; exact ⟨i, h1, h2⟩⟩
theorem inf26 : ∃ i, Try.prog.info? 26 = some i ∧ i.size = 1 ∧ i.zero = some (.slice none 0 0) ∧ i.bytes = 24 := by
  have h : (Try.prog.info? 26).map (fun i => (i.zero, i.size, i.bytes)) = some (some (.slice none 0 0), 1, 24) := by kernel_rfl
  obtain ⟨i, h1, h2⟩ := Option.map_eq_some_iff.1 h
  simp only [Prod.mk.injEq] at h2
  exact ⟨i, h1, h2.2.1, h2.1, h2.2.2⟩
instance tz26 : TZ Try.prog 26 := ⟨(.slice none 0 0), by obtain ⟨i, h1, _, h2, _⟩ := inf26; exact ⟨i, h1, h2⟩⟩
instance t1_26 : T1 Try.prog 26 := ⟨⟨_, Try.underlying26, rfl⟩, by obtain ⟨i, h1, h2, _⟩ := inf26; exact ⟨i, h1, h2⟩⟩
theorem inf37 : ∃ i, Try.prog.info? 37 = some i ∧ i.size = 3 ∧ i.zero = some (.agg #[(.int .i64 0), (.int .i64 0), (.int .i64 0)]) ∧ i.bytes = 24 := by
  have h : (Try.prog.info? 37).map (fun i => (i.zero, i.size, i.bytes)) = some (some (.agg #[(.int .i64 0), (.int .i64 0), (.int .i64 0)]), 3, 24) := by kernel_rfl
  obtain ⟨i, h1, h2⟩ := Option.map_eq_some_iff.1 h
  simp only [Prod.mk.injEq] at h2
  exact ⟨i, h1, h2.2.1, h2.1, h2.2.2⟩
instance ts26 : TS Try.prog 26 := ⟨37, 3, (.agg #[(.int .i64 0), (.int .i64 0), (.int .i64 0)]), 24, Try.underlying26, inf37⟩
theorem inf33 : ∃ i, Try.prog.info? 33 = some i ∧ i.size = 20 ∧ i.zero = some (.agg #[(.int .i64 0), (.int .i64 0), (.int .i64 0), (.int .i64 0), (.int .i64 0), (.int .i64 0), (.int .i64 0), (.int .i64 0), (.int .i64 0), (.int .i64 0), (.int .i64 0), (.int .i64 0), (.int .i64 0), (.int .i64 0), (.int .i64 0), (.int .i64 0), (.int .i64 0), (.int .i64 0), (.int .i64 0), (.int .i64 0)]) ∧ i.bytes = 160 := by
  have h : (Try.prog.info? 33).map (fun i => (i.zero, i.size, i.bytes)) = some (some (.agg #[(.int .i64 0), (.int .i64 0), (.int .i64 0), (.int .i64 0), (.int .i64 0), (.int .i64 0), (.int .i64 0), (.int .i64 0), (.int .i64 0), (.int .i64 0), (.int .i64 0), (.int .i64 0), (.int .i64 0), (.int .i64 0), (.int .i64 0), (.int .i64 0), (.int .i64 0), (.int .i64 0), (.int .i64 0), (.int .i64 0)]), 20, 160) := by kernel_rfl
  obtain ⟨i, h1, h2⟩ := Option.map_eq_some_iff.1 h
  simp only [Prod.mk.injEq] at h2
  exact ⟨i, h1, h2.2.1, h2.1, h2.2.2⟩
instance tz33 : TZ Try.prog 33 := ⟨(.agg #[(.int .i64 0), (.int .i64 0), (.int .i64 0), (.int .i64 0), (.int .i64 0), (.int .i64 0), (.int .i64 0), (.int .i64 0), (.int .i64 0), (.int .i64 0), (.int .i64 0), (.int .i64 0), (.int .i64 0), (.int .i64 0), (.int .i64 0), (.int .i64 0), (.int .i64 0), (.int .i64 0), (.int .i64 0), (.int .i64 0)]), by obtain ⟨i, h1, _, h2, _⟩ := inf33; exact ⟨i, h1, h2⟩⟩
instance tagg33 : TAgg Try.prog 33 := ⟨20, by decide, by obtain ⟨i, h1, h2, _⟩ := inf33; exact ⟨_, i, Try.underlying33, rfl, h1, h2⟩⟩
instance tarr33 : TArr Try.prog 33 := ⟨20, 3, 1, Try.underlying33, by decide, by obtain ⟨i, h1, h2, _⟩ := inf3; exact ⟨i, h1, h2⟩⟩
theorem inf34 : ∃ i, Try.prog.info? 34 = some i ∧ i.size = 400 ∧ i.zero = some (.agg (Array.replicate 400 (.int .i64 0))) ∧ i.bytes = 3200 := by
  have h : (Try.prog.info? 34).map (fun i => (i.zero, i.size, i.bytes)) = some (some (.agg (Array.replicate 400 (.int .i64 0))), 400, 3200) := by kernel_rfl
  obtain ⟨i, h1, h2⟩ := Option.map_eq_some_iff.1 h
  simp only [Prod.mk.injEq] at h2
  exact ⟨i, h1, h2.2.1, h2.1, h2.2.2⟩
instance tz34 : TZ Try.prog 34 := ⟨(.agg (Array.replicate 400 (.int .i64 0))), by obtain ⟨i, h1, _, h2, _⟩ := inf34; exact ⟨i, h1, h2⟩⟩
instance tagg34 : TAgg Try.prog 34 := ⟨400, by decide, by obtain ⟨i, h1, h2, _⟩ := inf34; exact ⟨_, i, Try.underlying34, rfl, h1, h2⟩⟩
instance tarr34 : TArr Try.prog 34 := ⟨20, 33, 20, Try.underlying34, by decide, by obtain ⟨i, h1, h2, _⟩ := inf33; exact ⟨i, h1, h2⟩⟩
theorem inf35 : ∃ i, Try.prog.info? 35 = some i ∧ i.size = 1 ∧ i.zero = some (.slice none 0 0) ∧ i.bytes = 24 := by
  have h : (Try.prog.info? 35).map (fun i => (i.zero, i.size, i.bytes)) = some (some (.slice none 0 0), 1, 24) := by kernel_rfl
  obtain ⟨i, h1, h2⟩ := Option.map_eq_some_iff.1 h
  simp only [Prod.mk.injEq] at h2
  exact ⟨i, h1, h2.2.1, h2.1, h2.2.2⟩
instance tz35 : TZ Try.prog 35 := ⟨(.slice none 0 0), by obtain ⟨i, h1, _, h2, _⟩ := inf35; exact ⟨i, h1, h2⟩⟩
instance t1_35 : T1 Try.prog 35 := ⟨⟨_, Try.underlying35, rfl⟩, by obtain ⟨i, h1, h2, _⟩ := inf35; exact ⟨i, h1, h2⟩⟩
instance ts35 : TS Try.prog 35 := ⟨33, 20, (.agg #[(.int .i64 0), (.int .i64 0), (.int .i64 0), (.int .i64 0), (.int .i64 0), (.int .i64 0), (.int .i64 0), (.int .i64 0), (.int .i64 0), (.int .i64 0), (.int .i64 0), (.int .i64 0), (.int .i64 0), (.int .i64 0), (.int .i64 0), (.int .i64 0), (.int .i64 0), (.int .i64 0), (.int .i64 0), (.int .i64 0)]), 160, Try.underlying35, inf33⟩
instance tz37 : TZ Try.prog 37 := ⟨(.agg #[(.int .i64 0), (.int .i64 0), (.int .i64 0)]), by obtain ⟨i, h1, _, h2, _⟩ := inf37; exact ⟨i, h1, h2⟩⟩
instance tagg37 : TAgg Try.prog 37 := ⟨3, by decide, by obtain ⟨i, h1, h2, _⟩ := inf37; exact ⟨_, i, Try.underlying37, rfl, h1, h2⟩⟩
instance tf37_0 : TF Try.prog 37 0 := ⟨0, by obtain ⟨i, h1, h2, _⟩ := inf3; exact ⟨_, _, i, Try.underlying37, rfl, rfl, h1, by rw [h2]; decide⟩⟩
instance tf37_1 : TF Try.prog 37 1 := ⟨1, by obtain ⟨i, h1, h2, _⟩ := inf3; exact ⟨_, _, i, Try.underlying37, rfl, rfl, h1, by rw [h2]; decide⟩⟩
instance tf37_2 : TF Try.prog 37 2 := ⟨2, by obtain ⟨i, h1, h2, _⟩ := inf3; exact ⟨_, _, i, Try.underlying37, rfl, rfl, h1, by rw [h2]; decide⟩⟩
theorem inf38 : ∃ i, Try.prog.info? 38 = some i ∧ i.size = 800 ∧ i.zero = some (.agg (Array.replicate 800 (.int .i64 0))) ∧ i.bytes = 6400 := by
  have h : (Try.prog.info? 38).map (fun i => (i.zero, i.size, i.bytes)) = some (some (.agg (Array.replicate 800 (.int .i64 0))), 800, 6400) := by kernel_rfl
  obtain ⟨i, h1, h2⟩ := Option.map_eq_some_iff.1 h
  simp only [Prod.mk.injEq] at h2
  exact ⟨i, h1, h2.2.1, h2.1, h2.2.2⟩
instance tz38 : TZ Try.prog 38 := ⟨(.agg (Array.replicate 800 (.int .i64 0))), by obtain ⟨i, h1, _, h2, _⟩ := inf38; exact ⟨i, h1, h2⟩⟩
instance tagg38 : TAgg Try.prog 38 := ⟨800, by decide, by obtain ⟨i, h1, h2, _⟩ := inf38; exact ⟨_, i, Try.underlying38, rfl, h1, h2⟩⟩
instance tarr38 : TArr Try.prog 38 := ⟨40, 33, 20, Try.underlying38, by decide, by obtain ⟨i, h1, h2, _⟩ := inf33; exact ⟨i, h1, h2⟩⟩
theorem inf39 : ∃ i, Try.prog.info? 39 = some i ∧ i.size = 1 ∧ i.zero = some (.slice none 0 0) ∧ i.bytes = 24 := by
  have h : (Try.prog.info? 39).map (fun i => (i.zero, i.size, i.bytes)) = some (some (.slice none 0 0), 1, 24) := by kernel_rfl
  obtain ⟨i, h1, h2⟩ := Option.map_eq_some_iff.1 h
  simp only [Prod.mk.injEq] at h2
  exact ⟨i, h1, h2.2.1, h2.1, h2.2.2⟩
instance tz39 : TZ Try.prog 39 := ⟨(.slice none 0 0), by obtain ⟨i, h1, _, h2, _⟩ := inf39; exact ⟨i, h1, h2⟩⟩
instance t1_39 : T1 Try.prog 39 := ⟨⟨_, Try.underlying39, rfl⟩, by obtain ⟨i, h1, h2, _⟩ := inf39; exact ⟨i, h1, h2⟩⟩
instance ts39 : TS Try.prog 39 := ⟨5, 1, (.int .u8 0), 1, Try.underlying39, inf5⟩
theorem inf40 : ∃ i, Try.prog.info? 40 = some i ∧ i.size = 1 ∧ i.zero = some (.int .u32 0) ∧ i.bytes = 4 := by
  have h : (Try.prog.info? 40).map (fun i => (i.zero, i.size, i.bytes)) = some (some (.int .u32 0), 1, 4) := by kernel_rfl
  obtain ⟨i, h1, h2⟩ := Option.map_eq_some_iff.1 h
  simp only [Prod.mk.injEq] at h2
  exact ⟨i, h1, h2.2.1, h2.1, h2.2.2⟩
instance tz40 : TZ Try.prog 40 := ⟨(.int .u32 0), by obtain ⟨i, h1, _, h2, _⟩ := inf40; exact ⟨i, h1, h2⟩⟩
instance t1_40 : T1 Try.prog 40 := ⟨⟨_, Try.underlying40, rfl⟩, by obtain ⟨i, h1, h2, _⟩ := inf40; exact ⟨i, h1, h2⟩⟩
theorem inf41 : ∃ i, Try.prog.info? 41 = some i ∧ i.size = 1 ∧ i.zero = some (.slice none 0 0) ∧ i.bytes = 24 := by
  have h : (Try.prog.info? 41).map (fun i => (i.zero, i.size, i.bytes)) = some (some (.slice none 0 0), 1, 24) := by kernel_rfl
  obtain ⟨i, h1, h2⟩ := Option.map_eq_some_iff.1 h
  simp only [Prod.mk.injEq] at h2
  exact ⟨i, h1, h2.2.1, h2.1, h2.2.2⟩
instance tz41 : TZ Try.prog 41 := ⟨(.slice none 0 0), by obtain ⟨i, h1, _, h2, _⟩ := inf41; exact ⟨i, h1, h2⟩⟩
instance t1_41 : T1 Try.prog 41 := ⟨⟨_, Try.underlying41, rfl⟩, by obtain ⟨i, h1, h2, _⟩ := inf41; exact ⟨i, h1, h2⟩⟩
instance ts41 : TS Try.prog 41 := ⟨3, 1, (.int .i64 0), 8, Try.underlying41, inf3⟩
theorem inf44 : ∃ i, Try.prog.info? 44 = some i ∧ i.size = 1 ∧ i.zero = some (.int .u16 0) ∧ i.bytes = 2 := by
  have h : (Try.prog.info? 44).map (fun i => (i.zero, i.size, i.bytes)) = some (some (.int .u16 0), 1, 2) := by kernel_rfl
  obtain ⟨i, h1, h2⟩ := Option.map_eq_some_iff.1 h
  simp only [Prod.mk.injEq] at h2
  exact ⟨i, h1, h2.2.1, h2.1, h2.2.2⟩
instance tz44 : TZ Try.prog 44 := ⟨(.int .u16 0), by obtain ⟨i, h1, _, h2, _⟩ := inf44; exact ⟨i, h1, h2⟩⟩
instance t1_44 : T1 Try.prog 44 := ⟨⟨_, Try.underlying44, rfl⟩, by obtain ⟨i, h1, h2, _⟩ := inf44; exact ⟨i, h1, h2⟩⟩
theorem inf47 : ∃ i, Try.prog.info? 47 = some i ∧ i.size = 3 ∧ i.zero = some (.agg #[(.int .i64 0), (.int .i64 0), (.int .i64 0)]) ∧ i.bytes = 24 := by
  have h : (Try.prog.info? 47).map (fun i => (i.zero, i.size, i.bytes)) = some (some (.agg #[(.int .i64 0), (.int .i64 0), (.int .i64 0)]), 3, 24) := by kernel_rfl
  obtain ⟨i, h1, h2⟩ := Option.map_eq_some_iff.1 h
  simp only [Prod.mk.injEq] at h2
  exact ⟨i, h1, h2.2.1, h2.1, h2.2.2⟩
instance tz47 : TZ Try.prog 47 := ⟨(.agg #[(.int .i64 0), (.int .i64 0), (.int .i64 0)]), by obtain ⟨i, h1, _, h2, _⟩ := inf47; exact ⟨i, h1, h2⟩⟩
instance tagg47 : TAgg Try.prog 47 := ⟨3, by decide, by obtain ⟨i, h1, h2, _⟩ := inf47; exact ⟨_, i, Try.underlying47, rfl, h1, h2⟩⟩
instance tarr47 : TArr Try.prog 47 := ⟨3, 3, 1, Try.underlying47, by decide, by obtain ⟨i, h1, h2, _⟩ := inf3; exact ⟨i, h1, h2⟩⟩
theorem inf49 : ∃ i, Try.prog.info? 49 = some i ∧ i.size = 2 ∧ i.zero = some (.agg #[(.int .i64 0), (.int .i64 0)]) ∧ i.bytes = 16 := by
  have h : (Try.prog.info? 49).map (fun i => (i.zero, i.size, i.bytes)) = some (some (.agg #[(.int .i64 0), (.int .i64 0)]), 2, 16) := by kernel_rfl
  obtain ⟨i, h1, h2⟩ := Option.map_eq_some_iff.1 h
  simp only [Prod.mk.injEq] at h2
  exact ⟨i, h1, h2.2.1, h2.1, h2.2.2⟩
instance tz49 : TZ Try.prog 49 := ⟨(.agg #[(.int .i64 0), (.int .i64 0)]), by obtain ⟨i, h1, _, h2, _⟩ := inf49; exact ⟨i, h1, h2⟩⟩
instance tagg49 : TAgg Try.prog 49 := ⟨2, by decide, by obtain ⟨i, h1, h2, _⟩ := inf49; exact ⟨_, i, Try.underlying49, rfl, h1, h2⟩⟩
instance tf49_0 : TF Try.prog 49 0 := ⟨0, by obtain ⟨i, h1, h2, _⟩ := inf3; exact ⟨_, _, i, Try.underlying49, rfl, rfl, h1, by rw [h2]; decide⟩⟩
instance tf49_1 : TF Try.prog 49 1 := ⟨1, by obtain ⟨i, h1, h2, _⟩ := inf3; exact ⟨_, _, i, Try.underlying49, rfl, rfl, h1, by rw [h2]; decide⟩⟩
theorem inf54 : ∃ i, Try.prog.info? 54 = some i ∧ i.size = 1 ∧ i.zero = some .nilFunc ∧ i.bytes = 8 := by
  have h : (Try.prog.info? 54).map (fun i => (i.zero, i.size, i.bytes)) = some (some .nilFunc, 1, 8) := by kernel_rfl
  obtain ⟨i, h1, h2⟩ := Option.map_eq_some_iff.1 h
  simp only [Prod.mk.injEq] at h2
  exact ⟨i, h1, h2.2.1, h2.1, h2.2.2⟩
instance tz54 : TZ Try.prog 54 := ⟨.nilFunc, by obtain ⟨i, h1, _, h2, _⟩ := inf54; exact ⟨i, h1, h2⟩⟩
instance t1_54 : T1 Try.prog 54 := ⟨⟨_, Try.underlying54, rfl⟩, by obtain ⟨i, h1, h2, _⟩ := inf54; exact ⟨i, h1, h2⟩⟩
theorem inf60 : ∃ i, Try.prog.info? 60 = some i ∧ i.size = 1 ∧ i.zero = some .nilFunc ∧ i.bytes = 8 := by
  have h : (Try.prog.info? 60).map (fun i => (i.zero, i.size, i.bytes)) = some (some .nilFunc, 1, 8) := by kernel_rfl
  obtain ⟨i, h1, h2⟩ := Option.map_eq_some_iff.1 h
  simp only [Prod.mk.injEq] at h2
  exact ⟨i, h1, h2.2.1, h2.1, h2.2.2⟩
instance tz60 : TZ Try.prog 60 := ⟨.nilFunc, by obtain ⟨i, h1, _, h2, _⟩ := inf60; exact ⟨i, h1, h2⟩⟩
instance t1_60 : T1 Try.prog 60 := ⟨⟨_, Try.underlying60, rfl⟩, by obtain ⟨i, h1, h2, _⟩ := inf60; exact ⟨i, h1, h2⟩⟩
theorem inf64 : ∃ i, Try.prog.info? 64 = some i ∧ i.size = 1 ∧ i.zero = some (.slice none 0 0) ∧ i.bytes = 24 := by
  have h : (Try.prog.info? 64).map (fun i => (i.zero, i.size, i.bytes)) = some (some (.slice none 0 0), 1, 24) := by kernel_rfl
  obtain ⟨i, h1, h2⟩ := Option.map_eq_some_iff.1 h
  simp only [Prod.mk.injEq] at h2
  exact ⟨i, h1, h2.2.1, h2.1, h2.2.2⟩
instance tz64 : TZ Try.prog 64 := ⟨(.slice none 0 0), by obtain ⟨i, h1, _, h2, _⟩ := inf64; exact ⟨i, h1, h2⟩⟩
instance t1_64 : T1 Try.prog 64 := ⟨⟨_, Try.underlying64, rfl⟩, by obtain ⟨i, h1, h2, _⟩ := inf64; exact ⟨i, h1, h2⟩⟩
instance ts64 : TS Try.prog 64 := ⟨26, 1, (.slice none 0 0), 24, Try.underlying64, inf26⟩
theorem inf65 : ∃ i, Try.prog.info? 65 = some i ∧ i.size = 1 ∧ i.zero = some (.map none) ∧ i.bytes = 8 := by
  have h : (Try.prog.info? 65).map (fun i => (i.zero, i.size, i.bytes)) = some (some (.map none), 1, 8) := by kernel_rfl
  obtain ⟨i, h1, h2⟩ := Option.map_eq_some_iff.1 h
  simp only [Prod.mk.injEq] at h2
  exact ⟨i, h1, h2.2.1, h2.1, h2.2.2⟩
instance tz65 : TZ Try.prog 65 := ⟨(.map none), by obtain ⟨i, h1, _, h2, _⟩ := inf65; exact ⟨i, h1, h2⟩⟩
instance t1_65 : T1 Try.prog 65 := ⟨⟨_, Try.underlying65, rfl⟩, by obtain ⟨i, h1, h2, _⟩ := inf65; exact ⟨i, h1, h2⟩⟩
instance tm65 : TM Try.prog 65 := ⟨66, 4, (.bool false), Try.underlying65, by obtain ⟨i, h1, _, h2, _⟩ := inf4; exact ⟨i, h1, h2⟩⟩
theorem inf66 : ∃ i, Try.prog.info? 66 = some i ∧ i.size = 2 ∧ i.zero = some (.agg #[(.int .i64 0), (.int .i64 0)]) ∧ i.bytes = 16 := by
  have h : (Try.prog.info? 66).map (fun i => (i.zero, i.size, i.bytes)) = some (some (.agg #[(.int .i64 0), (.int .i64 0)]), 2, 16) := by kernel_rfl
  obtain ⟨i, h1, h2⟩ := Option.map_eq_some_iff.1 h
  simp only [Prod.mk.injEq] at h2
  exact ⟨i, h1, h2.2.1, h2.1, h2.2.2⟩
instance tz66 : TZ Try.prog 66 := ⟨(.agg #[(.int .i64 0), (.int .i64 0)]), by obtain ⟨i, h1, _, h2, _⟩ := inf66; exact ⟨i, h1, h2⟩⟩
instance tagg66 : TAgg Try.prog 66 := ⟨2, by decide, by obtain ⟨i, h1, h2, _⟩ := inf66; exact ⟨_, i, Try.underlying66, rfl, h1, h2⟩⟩
instance tarr66 : TArr Try.prog 66 := ⟨2, 3, 1, Try.underlying66, by decide, by obtain ⟨i, h1, h2, _⟩ := inf3; exact ⟨i, h1, h2⟩⟩
theorem inf67 : ∃ i, Try.prog.info? 67 = some i ∧ i.size = 1 ∧ i.zero = some .nilFunc ∧ i.bytes = 8 := by
  have h : (Try.prog.info? 67).map (fun i => (i.zero, i.size, i.bytes)) = some (some .nilFunc, 1, 8) := by kernel_rfl
  obtain ⟨i, h1, h2⟩ := Option.map_eq_some_iff.1 h
  simp only [Prod.mk.injEq] at h2
  exact ⟨i, h1, h2.2.1, h2.1, h2.2.2⟩
instance tz67 : TZ Try.prog 67 := ⟨.nilFunc, by obtain ⟨i, h1, _, h2, _⟩ := inf67; exact ⟨i, h1, h2⟩⟩
instance t1_67 : T1 Try.prog 67 := ⟨⟨_, Try.underlying67, rfl⟩, by obtain ⟨i, h1, h2, _⟩ := inf67; exact ⟨i, h1, h2⟩⟩
theorem inf69 : ∃ i, Try.prog.info? 69 = some i ∧ i.size = 1 ∧ i.zero = some (.slice none 0 0) ∧ i.bytes = 24 := by
  have h : (Try.prog.info? 69).map (fun i => (i.zero, i.size, i.bytes)) = some (some (.slice none 0 0), 1, 24) := by kernel_rfl
  obtain ⟨i, h1, h2⟩ := Option.map_eq_some_iff.1 h
  simp only [Prod.mk.injEq] at h2
  exact ⟨i, h1, h2.2.1, h2.1, h2.2.2⟩
instance tz69 : TZ Try.prog 69 := ⟨(.slice none 0 0), by obtain ⟨i, h1, _, h2, _⟩ := inf69; exact ⟨i, h1, h2⟩⟩
instance t1_69 : T1 Try.prog 69 := ⟨⟨_, Try.underlying69, rfl⟩, by obtain ⟨i, h1, h2, _⟩ := inf69; exact ⟨i, h1, h2⟩⟩
instance ts69 : TS Try.prog 69 := ⟨47, 3, (.agg #[(.int .i64 0), (.int .i64 0), (.int .i64 0)]), 24, Try.underlying69, inf47⟩
theorem inf73 : ∃ i, Try.prog.info? 73 = some i ∧ i.size = 1 ∧ i.zero = some .nilFunc ∧ i.bytes = 8 := by
  have h : (Try.prog.info? 73).map (fun i => (i.zero, i.size, i.bytes)) = some (some .nilFunc, 1, 8) := by kernel_rfl
  obtain ⟨i, h1, h2⟩ := Option.map_eq_some_iff.1 h
  simp only [Prod.mk.injEq] at h2
  exact ⟨i, h1, h2.2.1, h2.1, h2.2.2⟩
instance tz73 : TZ Try.prog 73 := ⟨.nilFunc, by obtain ⟨i, h1, _, h2, _⟩ := inf73; exact ⟨i, h1, h2⟩⟩
instance t1_73 : T1 Try.prog 73 := ⟨⟨_, Try.underlying73, rfl⟩, by obtain ⟨i, h1, h2, _⟩ := inf73; exact ⟨i, h1, h2⟩⟩
theorem inf80 : ∃ i, Try.prog.info? 80 = some i ∧ i.size = 1 ∧ i.zero = some .nilFunc ∧ i.bytes = 8 := by
  have h : (Try.prog.info? 80).map (fun i => (i.zero, i.size, i.bytes)) = some (some .nilFunc, 1, 8) := by kernel_rfl
  obtain ⟨i, h1, h2⟩ := Option.map_eq_some_iff.1 h
  simp only [Prod.mk.injEq] at h2
  exact ⟨i, h1, h2.2.1, h2.1, h2.2.2⟩
instance tz80 : TZ Try.prog 80 := ⟨.nilFunc, by obtain ⟨i, h1, _, h2, _⟩ := inf80; exact ⟨i, h1, h2⟩⟩
instance t1_80 : T1 Try.prog 80 := ⟨⟨_, Try.underlying80, rfl⟩, by obtain ⟨i, h1, h2, _⟩ := inf80; exact ⟨i, h1, h2⟩⟩
theorem inf84 : ∃ i, Try.prog.info? 84 = some i ∧ i.size = 1 ∧ i.zero = some (.int .u64 0) ∧ i.bytes = 8 := by
  have h : (Try.prog.info? 84).map (fun i => (i.zero, i.size, i.bytes)) = some (some (.int .u64 0), 1, 8) := by kernel_rfl
  obtain ⟨i, h1, h2⟩ := Option.map_eq_some_iff.1 h
  simp only [Prod.mk.injEq] at h2
  exact ⟨i, h1, h2.2.1, h2.1, h2.2.2⟩
instance tz84 : TZ Try.prog 84 := ⟨(.int .u64 0), by obtain ⟨i, h1, _, h2, _⟩ := inf84; exact ⟨i, h1, h2⟩⟩
instance t1_84 : T1 Try.prog 84 := ⟨⟨_, Try.underlying84, rfl⟩, by obtain ⟨i, h1, h2, _⟩ := inf84; exact ⟨i, h1, h2⟩⟩
theorem inf86 : ∃ i, Try.prog.info? 86 = some i ∧ i.size = 1 ∧ i.zero = some (.int .i64 0) ∧ i.bytes = 8 := by
  have h : (Try.prog.info? 86).map (fun i => (i.zero, i.size, i.bytes)) = some (some (.int .i64 0), 1, 8) := by kernel_rfl
  obtain ⟨i, h1, h2⟩ := Option.map_eq_some_iff.1 h
  simp only [Prod.mk.injEq] at h2
  exact ⟨i, h1, h2.2.1, h2.1, h2.2.2⟩
instance tz86 : TZ Try.prog 86 := ⟨(.int .i64 0), by obtain ⟨i, h1, _, h2, _⟩ := inf86; exact ⟨i, h1, h2⟩⟩
instance t1_86 : T1 Try.prog 86 := ⟨⟨_, Try.underlying86, rfl⟩, by obtain ⟨i, h1, h2, _⟩ := inf86; exact ⟨i, h1, h2⟩⟩
theorem inf95 : ∃ i, Try.prog.info? 95 = some i ∧ i.size = 1 ∧ i.zero = some (.int .u64 0) ∧ i.bytes = 8 := by
  have h : (Try.prog.info? 95).map (fun i => (i.zero, i.size, i.bytes)) = some (some (.int .u64 0), 1, 8) := by kernel_rfl
  obtain ⟨i, h1, h2⟩ := Option.map_eq_some_iff.1 h
  simp only [Prod.mk.injEq] at h2
  exact ⟨i, h1, h2.2.1, h2.1, h2.2.2⟩
instance tz95 : TZ Try.prog 95 := ⟨(.int .u64 0), by obtain ⟨i, h1, _, h2, _⟩ := inf95; exact ⟨i, h1, h2⟩⟩
instance t1_95 : T1 Try.prog 95 := ⟨⟨_, Try.underlying95, rfl⟩, by obtain ⟨i, h1, h2, _⟩ := inf95; exact ⟨i, h1, h2⟩⟩
theorem inf96 : ∃ i, Try.prog.info? 96 = some i ∧ i.size = 1 ∧ i.zero = some (.int .u64 0) ∧ i.bytes = 8 := by
  have h : (Try.prog.info? 96).map (fun i => (i.zero, i.size, i.bytes)) = some (some (.int .u64 0), 1, 8) := by kernel_rfl
  obtain ⟨i, h1, h2⟩ := Option.map_eq_some_iff.1 h
  simp only [Prod.mk.injEq] at h2
  exact ⟨i, h1, h2.2.1, h2.1, h2.2.2⟩
instance tz96 : TZ Try.prog 96 := ⟨(.int .u64 0), by obtain ⟨i, h1, _, h2, _⟩ := inf96; exact ⟨i, h1, h2⟩⟩
instance t1_96 : T1 Try.prog 96 := ⟨⟨_, Try.underlying96, rfl⟩, by obtain ⟨i, h1, h2, _⟩ := inf96; exact ⟨i, h1, h2⟩⟩
theorem inf100 : ∃ i, Try.prog.info? 100 = some i ∧ i.size = 1 ∧ i.zero = some (.pointer none) ∧ i.bytes = 8 := by
  have h : (Try.prog.info? 100).map (fun i => (i.zero, i.size, i.bytes)) = some (some (.pointer none), 1, 8) := by kernel_rfl
  obtain ⟨i, h1, h2⟩ := Option.map_eq_some_iff.1 h
  simp only [Prod.mk.injEq] at h2
  exact ⟨i, h1, h2.2.1, h2.1, h2.2.2⟩
instance tz100 : TZ Try.prog 100 := ⟨(.pointer none), by obtain ⟨i, h1, _, h2, _⟩ := inf100; exact ⟨i, h1, h2⟩⟩
instance t1_100 : T1 Try.prog 100 := ⟨⟨_, Try.underlying100, rfl⟩, by obtain ⟨i, h1, h2, _⟩ := inf100; exact ⟨i, h1, h2⟩⟩
end Go.Proofs.Ythddaojdlfifeaa.P
