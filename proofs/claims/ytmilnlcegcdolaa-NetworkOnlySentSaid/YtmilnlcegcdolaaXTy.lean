/- What the seat's types are: printed by wip/tools/types.py out of the translation; Lean checks it. -/
import Derived.Test.YtmilnlcegcdolaaProg
import Derived.Test.YtmilnlcegcdolaaXA
namespace Go.Proofs.Ytmilnlcegcdolaa.P
open XW

theorem inf1 : ∃ i, Try.prog.info? 1 = some i ∧ i.size = 1 ∧ i.zero = some .nilFunc ∧ i.bytes = 8 := by
  have h : (Try.prog.info? 1).map (fun i => (i.zero, i.size, i.bytes)) = some (some .nilFunc, 1, 8) := by kernel_rfl
  obtain ⟨i, h1, h2⟩ := Option.map_eq_some_iff.1 h
  simp only [Prod.mk.injEq] at h2
  exact ⟨i, h1, h2.2.1, h2.1, h2.2.2⟩
instance tz1 : TZ Try.prog 1 := ⟨.nilFunc, by obtain ⟨i, h1, _, h2, _⟩ := inf1; exact ⟨i, h1, h2⟩⟩
instance t1_1 : T1 Try.prog 1 := ⟨⟨_, Try.underlying1, rfl⟩, by obtain ⟨i, h1, h2, _⟩ := inf1; exact ⟨i, h1, h2⟩⟩
theorem inf2 : ∃ i, Try.prog.info? 2 = some i ∧ i.size = 1 ∧ i.zero = some (.int .i64 0) ∧ i.bytes = 8 := by
  have h : (Try.prog.info? 2).map (fun i => (i.zero, i.size, i.bytes)) = some (some (.int .i64 0), 1, 8) := by kernel_rfl
  obtain ⟨i, h1, h2⟩ := Option.map_eq_some_iff.1 h
  simp only [Prod.mk.injEq] at h2
  exact ⟨i, h1, h2.2.1, h2.1, h2.2.2⟩
instance tz2 : TZ Try.prog 2 := ⟨(.int .i64 0), by obtain ⟨i, h1, _, h2, _⟩ := inf2; exact ⟨i, h1, h2⟩⟩
instance t1_2 : T1 Try.prog 2 := ⟨⟨_, Try.underlying2, rfl⟩, by obtain ⟨i, h1, h2, _⟩ := inf2; exact ⟨i, h1, h2⟩⟩
theorem inf3 : ∃ i, Try.prog.info? 3 = some i ∧ i.size = 1 ∧ i.zero = some (.int .i64 0) ∧ i.bytes = 8 := by
  have h : (Try.prog.info? 3).map (fun i => (i.zero, i.size, i.bytes)) = some (some (.int .i64 0), 1, 8) := by kernel_rfl
  obtain ⟨i, h1, h2⟩ := Option.map_eq_some_iff.1 h
  simp only [Prod.mk.injEq] at h2
  exact ⟨i, h1, h2.2.1, h2.1, h2.2.2⟩
instance tz3 : TZ Try.prog 3 := ⟨(.int .i64 0), by obtain ⟨i, h1, _, h2, _⟩ := inf3; exact ⟨i, h1, h2⟩⟩
instance t1_3 : T1 Try.prog 3 := ⟨⟨_, Try.underlying3, rfl⟩, by obtain ⟨i, h1, h2, _⟩ := inf3; exact ⟨i, h1, h2⟩⟩
theorem inf4 : ∃ i, Try.prog.info? 4 = some i ∧ i.size = 1 ∧ i.zero = some (.bool false) ∧ i.bytes = 1 := by
  have h : (Try.prog.info? 4).map (fun i => (i.zero, i.size, i.bytes)) = some (some (.bool false), 1, 1) := by kernel_rfl
  obtain ⟨i, h1, h2⟩ := Option.map_eq_some_iff.1 h
  simp only [Prod.mk.injEq] at h2
  exact ⟨i, h1, h2.2.1, h2.1, h2.2.2⟩
instance tz4 : TZ Try.prog 4 := ⟨(.bool false), by obtain ⟨i, h1, _, h2, _⟩ := inf4; exact ⟨i, h1, h2⟩⟩
instance t1_4 : T1 Try.prog 4 := ⟨⟨_, Try.underlying4, rfl⟩, by obtain ⟨i, h1, h2, _⟩ := inf4; exact ⟨i, h1, h2⟩⟩
theorem inf5 : ∃ i, Try.prog.info? 5 = some i ∧ i.size = 1 ∧ i.zero = some (.int .u8 0) ∧ i.bytes = 1 := by
  have h : (Try.prog.info? 5).map (fun i => (i.zero, i.size, i.bytes)) = some (some (.int .u8 0), 1, 1) := by kernel_rfl
  obtain ⟨i, h1, h2⟩ := Option.map_eq_some_iff.1 h
  simp only [Prod.mk.injEq] at h2
  exact ⟨i, h1, h2.2.1, h2.1, h2.2.2⟩
instance tz5 : TZ Try.prog 5 := ⟨(.int .u8 0), by obtain ⟨i, h1, _, h2, _⟩ := inf5; exact ⟨i, h1, h2⟩⟩
instance t1_5 : T1 Try.prog 5 := ⟨⟨_, Try.underlying5, rfl⟩, by obtain ⟨i, h1, h2, _⟩ := inf5; exact ⟨i, h1, h2⟩⟩
theorem inf6 : ∃ i, Try.prog.info? 6 = some i ∧ i.size = 1 ∧ i.zero = some (.int .u8 0) ∧ i.bytes = 1 := by
  have h : (Try.prog.info? 6).map (fun i => (i.zero, i.size, i.bytes)) = some (some (.int .u8 0), 1, 1) := by kernel_rfl
  obtain ⟨i, h1, h2⟩ := Option.map_eq_some_iff.1 h
  simp only [Prod.mk.injEq] at h2
  exact ⟨i, h1, h2.2.1, h2.1, h2.2.2⟩
instance tz6 : TZ Try.prog 6 := ⟨(.int .u8 0), by obtain ⟨i, h1, _, h2, _⟩ := inf6; exact ⟨i, h1, h2⟩⟩
instance t1_6 : T1 Try.prog 6 := ⟨⟨_, Try.underlying6, rfl⟩, by obtain ⟨i, h1, h2, _⟩ := inf6; exact ⟨i, h1, h2⟩⟩
theorem inf7 : ∃ i, Try.prog.info? 7 = some i ∧ i.size = 4 ∧ i.zero = some (.agg #[(.int .i64 0), (.int .i64 0), (.bool false), (.int .u8 0)]) ∧ i.bytes = 24 := by
  have h : (Try.prog.info? 7).map (fun i => (i.zero, i.size, i.bytes)) = some (some (.agg #[(.int .i64 0), (.int .i64 0), (.bool false), (.int .u8 0)]), 4, 24) := by kernel_rfl
  obtain ⟨i, h1, h2⟩ := Option.map_eq_some_iff.1 h
  simp only [Prod.mk.injEq] at h2
  exact ⟨i, h1, h2.2.1, h2.1, h2.2.2⟩
instance tz7 : TZ Try.prog 7 := ⟨(.agg #[(.int .i64 0), (.int .i64 0), (.bool false), (.int .u8 0)]), by obtain ⟨i, h1, _, h2, _⟩ := inf7; exact ⟨i, h1, h2⟩⟩
instance tagg7 : TAgg Try.prog 7 := ⟨4, by decide, by obtain ⟨i, h1, h2, _⟩ := inf7; exact ⟨_, i, Try.underlying7, rfl, h1, h2⟩⟩
instance tf7_0 : TF Try.prog 7 0 := ⟨0, by obtain ⟨i, h1, h2, _⟩ := inf2; exact ⟨_, _, i, Try.underlying7, rfl, rfl, h1, by rw [h2]; decide⟩⟩
instance tf7_1 : TF Try.prog 7 1 := ⟨1, by obtain ⟨i, h1, h2, _⟩ := inf3; exact ⟨_, _, i, Try.underlying7, rfl, rfl, h1, by rw [h2]; decide⟩⟩
instance tf7_2 : TF Try.prog 7 2 := ⟨2, by obtain ⟨i, h1, h2, _⟩ := inf4; exact ⟨_, _, i, Try.underlying7, rfl, rfl, h1, by rw [h2]; decide⟩⟩
instance tf7_3 : TF Try.prog 7 3 := ⟨3, by obtain ⟨i, h1, h2, _⟩ := inf6; exact ⟨_, _, i, Try.underlying7, rfl, rfl, h1, by rw [h2]; decide⟩⟩
theorem inf8 : ∃ i, Try.prog.info? 8 = some i ∧ i.size = 4 ∧ i.zero = some (.agg #[(.int .i64 0), (.int .i64 0), (.bool false), (.int .u8 0)]) ∧ i.bytes = 24 := by
  have h : (Try.prog.info? 8).map (fun i => (i.zero, i.size, i.bytes)) = some (some (.agg #[(.int .i64 0), (.int .i64 0), (.bool false), (.int .u8 0)]), 4, 24) := by kernel_rfl
  obtain ⟨i, h1, h2⟩ := Option.map_eq_some_iff.1 h
  simp only [Prod.mk.injEq] at h2
  exact ⟨i, h1, h2.2.1, h2.1, h2.2.2⟩
instance tz8 : TZ Try.prog 8 := ⟨(.agg #[(.int .i64 0), (.int .i64 0), (.bool false), (.int .u8 0)]), by obtain ⟨i, h1, _, h2, _⟩ := inf8; exact ⟨i, h1, h2⟩⟩
instance tagg8 : TAgg Try.prog 8 := ⟨4, by decide, by obtain ⟨i, h1, h2, _⟩ := inf8; exact ⟨_, i, Try.underlying8, rfl, h1, h2⟩⟩
instance tf8_0 : TF Try.prog 8 0 := ⟨0, by obtain ⟨i, h1, h2, _⟩ := inf2; exact ⟨_, _, i, Try.underlying8, rfl, rfl, h1, by rw [h2]; decide⟩⟩
instance tf8_1 : TF Try.prog 8 1 := ⟨1, by obtain ⟨i, h1, h2, _⟩ := inf3; exact ⟨_, _, i, Try.underlying8, rfl, rfl, h1, by rw [h2]; decide⟩⟩
instance tf8_2 : TF Try.prog 8 2 := ⟨2, by obtain ⟨i, h1, h2, _⟩ := inf4; exact ⟨_, _, i, Try.underlying8, rfl, rfl, h1, by rw [h2]; decide⟩⟩
instance tf8_3 : TF Try.prog 8 3 := ⟨3, by obtain ⟨i, h1, h2, _⟩ := inf6; exact ⟨_, _, i, Try.underlying8, rfl, rfl, h1, by rw [h2]; decide⟩⟩
theorem inf9 : ∃ i, Try.prog.info? 9 = some i ∧ i.size = 1 ∧ i.zero = some (.string ByteArray.empty) ∧ i.bytes = 16 := by
  have h : (Try.prog.info? 9).map (fun i => (i.zero, i.size, i.bytes)) = some (some (.string ByteArray.empty), 1, 16) := by kernel_rfl
  obtain ⟨i, h1, h2⟩ := Option.map_eq_some_iff.1 h
  simp only [Prod.mk.injEq] at h2
  exact ⟨i, h1, h2.2.1, h2.1, h2.2.2⟩
instance tz9 : TZ Try.prog 9 := ⟨(.string ByteArray.empty), by obtain ⟨i, h1, _, h2, _⟩ := inf9; exact ⟨i, h1, h2⟩⟩
instance t1_9 : T1 Try.prog 9 := ⟨⟨_, Try.underlying9, rfl⟩, by obtain ⟨i, h1, h2, _⟩ := inf9; exact ⟨i, h1, h2⟩⟩
theorem inf10 : ∃ i, Try.prog.info? 10 = some i ∧ i.size = 1 ∧ i.zero = some (.string ByteArray.empty) ∧ i.bytes = 16 := by
  have h : (Try.prog.info? 10).map (fun i => (i.zero, i.size, i.bytes)) = some (some (.string ByteArray.empty), 1, 16) := by kernel_rfl
  obtain ⟨i, h1, h2⟩ := Option.map_eq_some_iff.1 h
  simp only [Prod.mk.injEq] at h2
  exact ⟨i, h1, h2.2.1, h2.1, h2.2.2⟩
instance tz10 : TZ Try.prog 10 := ⟨(.string ByteArray.empty), by obtain ⟨i, h1, _, h2, _⟩ := inf10; exact ⟨i, h1, h2⟩⟩
instance t1_10 : T1 Try.prog 10 := ⟨⟨_, Try.underlying10, rfl⟩, by obtain ⟨i, h1, h2, _⟩ := inf10; exact ⟨i, h1, h2⟩⟩
theorem inf11 : ∃ i, Try.prog.info? 11 = some i ∧ i.size = 1 ∧ i.zero = some (.string ByteArray.empty) ∧ i.bytes = 16 := by
  have h : (Try.prog.info? 11).map (fun i => (i.zero, i.size, i.bytes)) = some (some (.string ByteArray.empty), 1, 16) := by kernel_rfl
  obtain ⟨i, h1, h2⟩ := Option.map_eq_some_iff.1 h
  simp only [Prod.mk.injEq] at h2
  exact ⟨i, h1, h2.2.1, h2.1, h2.2.2⟩
instance tz11 : TZ Try.prog 11 := ⟨(.string ByteArray.empty), by obtain ⟨i, h1, _, h2, _⟩ := inf11; exact ⟨i, h1, h2⟩⟩
instance t1_11 : T1 Try.prog 11 := ⟨⟨_, Try.underlying11, rfl⟩, by obtain ⟨i, h1, h2, _⟩ := inf11; exact ⟨i, h1, h2⟩⟩
theorem inf12 : ∃ i, Try.prog.info? 12 = some i ∧ i.size = 1 ∧ i.zero = some (.int .u64 0) ∧ i.bytes = 8 := by
  have h : (Try.prog.info? 12).map (fun i => (i.zero, i.size, i.bytes)) = some (some (.int .u64 0), 1, 8) := by kernel_rfl
  obtain ⟨i, h1, h2⟩ := Option.map_eq_some_iff.1 h
  simp only [Prod.mk.injEq] at h2
  exact ⟨i, h1, h2.2.1, h2.1, h2.2.2⟩
instance tz12 : TZ Try.prog 12 := ⟨(.int .u64 0), by obtain ⟨i, h1, _, h2, _⟩ := inf12; exact ⟨i, h1, h2⟩⟩
instance t1_12 : T1 Try.prog 12 := ⟨⟨_, Try.underlying12, rfl⟩, by obtain ⟨i, h1, h2, _⟩ := inf12; exact ⟨i, h1, h2⟩⟩
theorem inf13 : ∃ i, Try.prog.info? 13 = some i ∧ i.size = 2 ∧ i.zero = some (.agg #[(.string ByteArray.empty), (.int .u64 0)]) ∧ i.bytes = 24 := by
  have h : (Try.prog.info? 13).map (fun i => (i.zero, i.size, i.bytes)) = some (some (.agg #[(.string ByteArray.empty), (.int .u64 0)]), 2, 24) := by kernel_rfl
  obtain ⟨i, h1, h2⟩ := Option.map_eq_some_iff.1 h
  simp only [Prod.mk.injEq] at h2
  exact ⟨i, h1, h2.2.1, h2.1, h2.2.2⟩
instance tz13 : TZ Try.prog 13 := ⟨(.agg #[(.string ByteArray.empty), (.int .u64 0)]), by obtain ⟨i, h1, _, h2, _⟩ := inf13; exact ⟨i, h1, h2⟩⟩
instance tagg13 : TAgg Try.prog 13 := ⟨2, by decide, by obtain ⟨i, h1, h2, _⟩ := inf13; exact ⟨_, i, Try.underlying13, rfl, h1, h2⟩⟩
instance tf13_0 : TF Try.prog 13 0 := ⟨0, by obtain ⟨i, h1, h2, _⟩ := inf9; exact ⟨_, _, i, Try.underlying13, rfl, rfl, h1, by rw [h2]; decide⟩⟩
instance tf13_1 : TF Try.prog 13 1 := ⟨1, by obtain ⟨i, h1, h2, _⟩ := inf12; exact ⟨_, _, i, Try.underlying13, rfl, rfl, h1, by rw [h2]; decide⟩⟩
theorem inf14 : ∃ i, Try.prog.info? 14 = some i ∧ i.size = 2 ∧ i.zero = some (.agg #[(.string ByteArray.empty), (.int .u64 0)]) ∧ i.bytes = 24 := by
  have h : (Try.prog.info? 14).map (fun i => (i.zero, i.size, i.bytes)) = some (some (.agg #[(.string ByteArray.empty), (.int .u64 0)]), 2, 24) := by kernel_rfl
  obtain ⟨i, h1, h2⟩ := Option.map_eq_some_iff.1 h
  simp only [Prod.mk.injEq] at h2
  exact ⟨i, h1, h2.2.1, h2.1, h2.2.2⟩
instance tz14 : TZ Try.prog 14 := ⟨(.agg #[(.string ByteArray.empty), (.int .u64 0)]), by obtain ⟨i, h1, _, h2, _⟩ := inf14; exact ⟨i, h1, h2⟩⟩
instance tagg14 : TAgg Try.prog 14 := ⟨2, by decide, by obtain ⟨i, h1, h2, _⟩ := inf14; exact ⟨_, i, Try.underlying14, rfl, h1, h2⟩⟩
instance tf14_0 : TF Try.prog 14 0 := ⟨0, by obtain ⟨i, h1, h2, _⟩ := inf9; exact ⟨_, _, i, Try.underlying14, rfl, rfl, h1, by rw [h2]; decide⟩⟩
instance tf14_1 : TF Try.prog 14 1 := ⟨1, by obtain ⟨i, h1, h2, _⟩ := inf12; exact ⟨_, _, i, Try.underlying14, rfl, rfl, h1, by rw [h2]; decide⟩⟩
theorem inf15 : ∃ i, Try.prog.info? 15 = some i ∧ i.size = 1 ∧ i.zero = some (.pointer none) ∧ i.bytes = 8 := by
  have h : (Try.prog.info? 15).map (fun i => (i.zero, i.size, i.bytes)) = some (some (.pointer none), 1, 8) := by kernel_rfl
  obtain ⟨i, h1, h2⟩ := Option.map_eq_some_iff.1 h
  simp only [Prod.mk.injEq] at h2
  exact ⟨i, h1, h2.2.1, h2.1, h2.2.2⟩
instance tz15 : TZ Try.prog 15 := ⟨(.pointer none), by obtain ⟨i, h1, _, h2, _⟩ := inf15; exact ⟨i, h1, h2⟩⟩
instance t1_15 : T1 Try.prog 15 := ⟨⟨_, Try.underlying15, rfl⟩, by obtain ⟨i, h1, h2, _⟩ := inf15; exact ⟨i, h1, h2⟩⟩
theorem inf16 : ∃ i, Try.prog.info? 16 = some i ∧ i.size = 1 ∧ i.zero = some (.pointer none) ∧ i.bytes = 8 := by
  have h : (Try.prog.info? 16).map (fun i => (i.zero, i.size, i.bytes)) = some (some (.pointer none), 1, 8) := by kernel_rfl
  obtain ⟨i, h1, h2⟩ := Option.map_eq_some_iff.1 h
  simp only [Prod.mk.injEq] at h2
  exact ⟨i, h1, h2.2.1, h2.1, h2.2.2⟩
instance tz16 : TZ Try.prog 16 := ⟨(.pointer none), by obtain ⟨i, h1, _, h2, _⟩ := inf16; exact ⟨i, h1, h2⟩⟩
instance t1_16 : T1 Try.prog 16 := ⟨⟨_, Try.underlying16, rfl⟩, by obtain ⟨i, h1, h2, _⟩ := inf16; exact ⟨i, h1, h2⟩⟩
theorem inf17 : ∃ i, Try.prog.info? 17 = some i ∧ i.size = 1 ∧ i.zero = some (.pointer none) ∧ i.bytes = 8 := by
  have h : (Try.prog.info? 17).map (fun i => (i.zero, i.size, i.bytes)) = some (some (.pointer none), 1, 8) := by kernel_rfl
  obtain ⟨i, h1, h2⟩ := Option.map_eq_some_iff.1 h
  simp only [Prod.mk.injEq] at h2
  exact ⟨i, h1, h2.2.1, h2.1, h2.2.2⟩
instance tz17 : TZ Try.prog 17 := ⟨(.pointer none), by obtain ⟨i, h1, _, h2, _⟩ := inf17; exact ⟨i, h1, h2⟩⟩
instance t1_17 : T1 Try.prog 17 := ⟨⟨_, Try.underlying17, rfl⟩, by obtain ⟨i, h1, h2, _⟩ := inf17; exact ⟨i, h1, h2⟩⟩
theorem inf18 : ∃ i, Try.prog.info? 18 = some i ∧ i.size = 1 ∧ i.zero = some (.agg #[(.pointer none)]) ∧ i.bytes = 8 := by
  have h : (Try.prog.info? 18).map (fun i => (i.zero, i.size, i.bytes)) = some (some (.agg #[(.pointer none)]), 1, 8) := by kernel_rfl
  obtain ⟨i, h1, h2⟩ := Option.map_eq_some_iff.1 h
  simp only [Prod.mk.injEq] at h2
  exact ⟨i, h1, h2.2.1, h2.1, h2.2.2⟩
instance tz18 : TZ Try.prog 18 := ⟨(.agg #[(.pointer none)]), by obtain ⟨i, h1, _, h2, _⟩ := inf18; exact ⟨i, h1, h2⟩⟩
instance tagg18 : TAgg Try.prog 18 := ⟨1, by decide, by obtain ⟨i, h1, h2, _⟩ := inf18; exact ⟨_, i, Try.underlying18, rfl, h1, h2⟩⟩
instance tf18_0 : TF Try.prog 18 0 := ⟨0, by obtain ⟨i, h1, h2, _⟩ := inf17; exact ⟨_, _, i, Try.underlying18, rfl, rfl, h1, by rw [h2]; decide⟩⟩
theorem inf19 : ∃ i, Try.prog.info? 19 = some i ∧ i.size = 1 ∧ i.zero = some (.agg #[(.pointer none)]) ∧ i.bytes = 8 := by
  have h : (Try.prog.info? 19).map (fun i => (i.zero, i.size, i.bytes)) = some (some (.agg #[(.pointer none)]), 1, 8) := by kernel_rfl
  obtain ⟨i, h1, h2⟩ := Option.map_eq_some_iff.1 h
  simp only [Prod.mk.injEq] at h2
  exact ⟨i, h1, h2.2.1, h2.1, h2.2.2⟩
instance tz19 : TZ Try.prog 19 := ⟨(.agg #[(.pointer none)]), by obtain ⟨i, h1, _, h2, _⟩ := inf19; exact ⟨i, h1, h2⟩⟩
instance tagg19 : TAgg Try.prog 19 := ⟨1, by decide, by obtain ⟨i, h1, h2, _⟩ := inf19; exact ⟨_, i, Try.underlying19, rfl, h1, h2⟩⟩
instance tf19_0 : TF Try.prog 19 0 := ⟨0, by obtain ⟨i, h1, h2, _⟩ := inf17; exact ⟨_, _, i, Try.underlying19, rfl, rfl, h1, by rw [h2]; decide⟩⟩
theorem inf21 : ∃ i, Try.prog.info? 21 = some i ∧ i.size = 1 ∧ i.zero = some (.int .i32 0) ∧ i.bytes = 4 := by
  have h : (Try.prog.info? 21).map (fun i => (i.zero, i.size, i.bytes)) = some (some (.int .i32 0), 1, 4) := by kernel_rfl
  obtain ⟨i, h1, h2⟩ := Option.map_eq_some_iff.1 h
  simp only [Prod.mk.injEq] at h2
  exact ⟨i, h1, h2.2.1, h2.1, h2.2.2⟩
instance tz21 : TZ Try.prog 21 := ⟨(.int .i32 0), by obtain ⟨i, h1, _, h2, _⟩ := inf21; exact ⟨i, h1, h2⟩⟩
instance t1_21 : T1 Try.prog 21 := ⟨⟨_, Try.underlying21, rfl⟩, by obtain ⟨i, h1, h2, _⟩ := inf21; exact ⟨i, h1, h2⟩⟩
theorem inf22 : ∃ i, Try.prog.info? 22 = some i ∧ i.size = 1 ∧ i.zero = some (.slice none 0 0) ∧ i.bytes = 24 := by
  have h : (Try.prog.info? 22).map (fun i => (i.zero, i.size, i.bytes)) = some (some (.slice none 0 0), 1, 24) := by kernel_rfl
  obtain ⟨i, h1, h2⟩ := Option.map_eq_some_iff.1 h
  simp only [Prod.mk.injEq] at h2
  exact ⟨i, h1, h2.2.1, h2.1, h2.2.2⟩
instance tz22 : TZ Try.prog 22 := ⟨(.slice none 0 0), by obtain ⟨i, h1, _, h2, _⟩ := inf22; exact ⟨i, h1, h2⟩⟩
instance t1_22 : T1 Try.prog 22 := ⟨⟨_, Try.underlying22, rfl⟩, by obtain ⟨i, h1, h2, _⟩ := inf22; exact ⟨i, h1, h2⟩⟩
theorem inf28 : ∃ i, Try.prog.info? 28 = some i ∧ i.size = 3 ∧ i.zero = some (.agg #[(.int .i64 0), (.int .i64 0), (.slice none 0 0)]) ∧ i.bytes = 40 := by
  have h : (Try.prog.info? 28).map (fun i => (i.zero, i.size, i.bytes)) = some (some (.agg #[(.int .i64 0), (.int .i64 0), (.slice none 0 0)]), 3, 40) := by kernel_rfl
  obtain ⟨i, h1, h2⟩ := Option.map_eq_some_iff.1 h
  simp only [Prod.mk.injEq] at h2
  exact ⟨i, h1, h2.2.1, h2.1, h2.2.2⟩
instance ts22 : TS Try.prog 22 := ⟨28, 3, (.agg #[(.int .i64 0), (.int .i64 0), (.slice none 0 0)]), 40, Try.underlying22, inf28⟩
theorem inf23 : ∃ i, Try.prog.info? 23 = some i ∧ i.size = 1 ∧ i.zero = some (.slice none 0 0) ∧ i.bytes = 24 := by
  have h : (Try.prog.info? 23).map (fun i => (i.zero, i.size, i.bytes)) = some (some (.slice none 0 0), 1, 24) := by kernel_rfl
  obtain ⟨i, h1, h2⟩ := Option.map_eq_some_iff.1 h
  simp only [Prod.mk.injEq] at h2
  exact ⟨i, h1, h2.2.1, h2.1, h2.2.2⟩
instance tz23 : TZ Try.prog 23 := ⟨(.slice none 0 0), by obtain ⟨i, h1, _, h2, _⟩ := inf23; exact ⟨i, h1, h2⟩⟩
instance t1_23 : T1 Try.prog 23 := ⟨⟨_, Try.underlying23, rfl⟩, by obtain ⟨i, h1, h2, _⟩ := inf23; exact ⟨i, h1, h2⟩⟩
theorem inf55 : ∃ i, Try.prog.info? 55 = some i ∧ i.size = 2 ∧ i.zero = some (.agg #[(.int .i64 0), (.int .i64 0)]) ∧ i.bytes = 16 := by
  have h : (Try.prog.info? 55).map (fun i => (i.zero, i.size, i.bytes)) = some (some (.agg #[(.int .i64 0), (.int .i64 0)]), 2, 16) := by kernel_rfl
  obtain ⟨i, h1, h2⟩ := Option.map_eq_some_iff.1 h
  simp only [Prod.mk.injEq] at h2
  exact ⟨i, h1, h2.2.1, h2.1, h2.2.2⟩
instance ts23 : TS Try.prog 23 := ⟨55, 2, (.agg #[(.int .i64 0), (.int .i64 0)]), 16, Try.underlying23, inf55⟩
theorem inf24 : ∃ i, Try.prog.info? 24 = some i ∧ i.size = 2 ∧ i.zero = some (.agg #[(.slice none 0 0), (.slice none 0 0)]) ∧ i.bytes = 48 := by
  have h : (Try.prog.info? 24).map (fun i => (i.zero, i.size, i.bytes)) = some (some (.agg #[(.slice none 0 0), (.slice none 0 0)]), 2, 48) := by kernel_rfl
  obtain ⟨i, h1, h2⟩ := Option.map_eq_some_iff.1 h
  simp only [Prod.mk.injEq] at h2
  exact ⟨i, h1, h2.2.1, h2.1, h2.2.2⟩
instance tz24 : TZ Try.prog 24 := ⟨(.agg #[(.slice none 0 0), (.slice none 0 0)]), by obtain ⟨i, h1, _, h2, _⟩ := inf24; exact ⟨i, h1, h2⟩⟩
instance tagg24 : TAgg Try.prog 24 := ⟨2, by decide, by obtain ⟨i, h1, h2, _⟩ := inf24; exact ⟨_, i, Try.underlying24, rfl, h1, h2⟩⟩
instance tf24_0 : TF Try.prog 24 0 := ⟨0, by obtain ⟨i, h1, h2, _⟩ := inf22; exact ⟨_, _, i, Try.underlying24, rfl, rfl, h1, by rw [h2]; decide⟩⟩
instance tf24_1 : TF Try.prog 24 1 := ⟨1, by obtain ⟨i, h1, h2, _⟩ := inf23; exact ⟨_, _, i, Try.underlying24, rfl, rfl, h1, by rw [h2]; decide⟩⟩
theorem inf25 : ∃ i, Try.prog.info? 25 = some i ∧ i.size = 2 ∧ i.zero = some (.agg #[(.slice none 0 0), (.slice none 0 0)]) ∧ i.bytes = 48 := by
  have h : (Try.prog.info? 25).map (fun i => (i.zero, i.size, i.bytes)) = some (some (.agg #[(.slice none 0 0), (.slice none 0 0)]), 2, 48) := by kernel_rfl
  obtain ⟨i, h1, h2⟩ := Option.map_eq_some_iff.1 h
  simp only [Prod.mk.injEq] at h2
  exact ⟨i, h1, h2.2.1, h2.1, h2.2.2⟩
instance tz25 : TZ Try.prog 25 := ⟨(.agg #[(.slice none 0 0), (.slice none 0 0)]), by obtain ⟨i, h1, _, h2, _⟩ := inf25; exact ⟨i, h1, h2⟩⟩
instance tagg25 : TAgg Try.prog 25 := ⟨2, by decide, by obtain ⟨i, h1, h2, _⟩ := inf25; exact ⟨_, i, Try.underlying25, rfl, h1, h2⟩⟩
instance tf25_0 : TF Try.prog 25 0 := ⟨0, by obtain ⟨i, h1, h2, _⟩ := inf22; exact ⟨_, _, i, Try.underlying25, rfl, rfl, h1, by rw [h2]; decide⟩⟩
instance tf25_1 : TF Try.prog 25 1 := ⟨1, by obtain ⟨i, h1, h2, _⟩ := inf23; exact ⟨_, _, i, Try.underlying25, rfl, rfl, h1, by rw [h2]; decide⟩⟩
theorem inf26 : ∃ i, Try.prog.info? 26 = some i ∧ i.size = 1 ∧ i.zero = some (.slice none 0 0) ∧ i.bytes = 24 := by
  have h : (Try.prog.info? 26).map (fun i => (i.zero, i.size, i.bytes)) = some (some (.slice none 0 0), 1, 24) := by kernel_rfl
  obtain ⟨i, h1, h2⟩ := Option.map_eq_some_iff.1 h
  simp only [Prod.mk.injEq] at h2
  exact ⟨i, h1, h2.2.1, h2.1, h2.2.2⟩
instance tz26 : TZ Try.prog 26 := ⟨(.slice none 0 0), by obtain ⟨i, h1, _, h2, _⟩ := inf26; exact ⟨i, h1, h2⟩⟩
instance t1_26 : T1 Try.prog 26 := ⟨⟨_, Try.underlying26, rfl⟩, by obtain ⟨i, h1, h2, _⟩ := inf26; exact ⟨i, h1, h2⟩⟩
instance ts26 : TS Try.prog 26 := ⟨5, 1, (.int .u8 0), 1, Try.underlying26, inf5⟩
theorem inf27 : ∃ i, Try.prog.info? 27 = some i ∧ i.size = 3 ∧ i.zero = some (.agg #[(.int .i64 0), (.int .i64 0), (.slice none 0 0)]) ∧ i.bytes = 40 := by
  have h : (Try.prog.info? 27).map (fun i => (i.zero, i.size, i.bytes)) = some (some (.agg #[(.int .i64 0), (.int .i64 0), (.slice none 0 0)]), 3, 40) := by kernel_rfl
  obtain ⟨i, h1, h2⟩ := Option.map_eq_some_iff.1 h
  simp only [Prod.mk.injEq] at h2
  exact ⟨i, h1, h2.2.1, h2.1, h2.2.2⟩
instance tz27 : TZ Try.prog 27 := ⟨(.agg #[(.int .i64 0), (.int .i64 0), (.slice none 0 0)]), by obtain ⟨i, h1, _, h2, _⟩ := inf27; exact ⟨i, h1, h2⟩⟩
instance tagg27 : TAgg Try.prog 27 := ⟨3, by decide, by obtain ⟨i, h1, h2, _⟩ := inf27; exact ⟨_, i, Try.underlying27, rfl, h1, h2⟩⟩
instance tf27_0 : TF Try.prog 27 0 := ⟨0, by obtain ⟨i, h1, h2, _⟩ := inf3; exact ⟨_, _, i, Try.underlying27, rfl, rfl, h1, by rw [h2]; decide⟩⟩
instance tf27_1 : TF Try.prog 27 1 := ⟨1, by obtain ⟨i, h1, h2, _⟩ := inf3; exact ⟨_, _, i, Try.underlying27, rfl, rfl, h1, by rw [h2]; decide⟩⟩
instance tf27_2 : TF Try.prog 27 2 := ⟨2, by obtain ⟨i, h1, h2, _⟩ := inf26; exact ⟨_, _, i, Try.underlying27, rfl, rfl, h1, by rw [h2]; decide⟩⟩
instance tz28 : TZ Try.prog 28 := ⟨(.agg #[(.int .i64 0), (.int .i64 0), (.slice none 0 0)]), by obtain ⟨i, h1, _, h2, _⟩ := inf28; exact ⟨i, h1, h2⟩⟩
instance tagg28 : TAgg Try.prog 28 := ⟨3, by decide, by obtain ⟨i, h1, h2, _⟩ := inf28; exact ⟨_, i, Try.underlying28, rfl, h1, h2⟩⟩
instance tf28_0 : TF Try.prog 28 0 := ⟨0, by obtain ⟨i, h1, h2, _⟩ := inf3; exact ⟨_, _, i, Try.underlying28, rfl, rfl, h1, by rw [h2]; decide⟩⟩
instance tf28_1 : TF Try.prog 28 1 := ⟨1, by obtain ⟨i, h1, h2, _⟩ := inf3; exact ⟨_, _, i, Try.underlying28, rfl, rfl, h1, by rw [h2]; decide⟩⟩
instance tf28_2 : TF Try.prog 28 2 := ⟨2, by obtain ⟨i, h1, h2, _⟩ := inf26; exact ⟨_, _, i, Try.underlying28, rfl, rfl, h1, by rw [h2]; decide⟩⟩
theorem inf29 : ∃ i, Try.prog.info? 29 = some i ∧ i.size = 1 ∧ i.zero = some .nilFunc ∧ i.bytes = 8 := by
  have h : (Try.prog.info? 29).map (fun i => (i.zero, i.size, i.bytes)) = some (some .nilFunc, 1, 8) := by kernel_rfl
  obtain ⟨i, h1, h2⟩ := Option.map_eq_some_iff.1 h
  simp only [Prod.mk.injEq] at h2
  exact ⟨i, h1, h2.2.1, h2.1, h2.2.2⟩
instance tz29 : TZ Try.prog 29 := ⟨.nilFunc, by obtain ⟨i, h1, _, h2, _⟩ := inf29; exact ⟨i, h1, h2⟩⟩
instance t1_29 : T1 Try.prog 29 := ⟨⟨_, Try.underlying29, rfl⟩, by obtain ⟨i, h1, h2, _⟩ := inf29; exact ⟨i, h1, h2⟩⟩
theorem inf30 : ∃ i, Try.prog.info? 30 = some i ∧ i.size = 1 ∧ i.zero = some .nilFunc ∧ i.bytes = 8 := by
  have h : (Try.prog.info? 30).map (fun i => (i.zero, i.size, i.bytes)) = some (some .nilFunc, 1, 8) := by kernel_rfl
  obtain ⟨i, h1, h2⟩ := Option.map_eq_some_iff.1 h
  simp only [Prod.mk.injEq] at h2
  exact ⟨i, h1, h2.2.1, h2.1, h2.2.2⟩
instance tz30 : TZ Try.prog 30 := ⟨.nilFunc, by obtain ⟨i, h1, _, h2, _⟩ := inf30; exact ⟨i, h1, h2⟩⟩
instance t1_30 : T1 Try.prog 30 := ⟨⟨_, Try.underlying30, rfl⟩, by obtain ⟨i, h1, h2, _⟩ := inf30; exact ⟨i, h1, h2⟩⟩
theorem inf31 : ∃ i, Try.prog.info? 31 = some i ∧ i.size = 1 ∧ i.zero = some (.int .i64 0) ∧ i.bytes = 8 := by
  have h : (Try.prog.info? 31).map (fun i => (i.zero, i.size, i.bytes)) = some (some (.int .i64 0), 1, 8) := by kernel_rfl
  obtain ⟨i, h1, h2⟩ := Option.map_eq_some_iff.1 h
  simp only [Prod.mk.injEq] at h2
  exact ⟨i, h1, h2.2.1, h2.1, h2.2.2⟩
instance tz31 : TZ Try.prog 31 := ⟨(.int .i64 0), by obtain ⟨i, h1, _, h2, _⟩ := inf31; exact ⟨i, h1, h2⟩⟩
instance t1_31 : T1 Try.prog 31 := ⟨⟨_, Try.underlying31, rfl⟩, by obtain ⟨i, h1, h2, _⟩ := inf31; exact ⟨i, h1, h2⟩⟩
theorem inf33 : ∃ i, Try.prog.info? 33 = some i ∧ i.size = 1 ∧ i.zero = some .nilFunc ∧ i.bytes = 8 := by
  have h : (Try.prog.info? 33).map (fun i => (i.zero, i.size, i.bytes)) = some (some .nilFunc, 1, 8) := by kernel_rfl
  obtain ⟨i, h1, h2⟩ := Option.map_eq_some_iff.1 h
  simp only [Prod.mk.injEq] at h2
  exact ⟨i, h1, h2.2.1, h2.1, h2.2.2⟩
instance tz33 : TZ Try.prog 33 := ⟨.nilFunc, by obtain ⟨i, h1, _, h2, _⟩ := inf33; exact ⟨i, h1, h2⟩⟩
instance t1_33 : T1 Try.prog 33 := ⟨⟨_, Try.underlying33, rfl⟩, by obtain ⟨i, h1, h2, _⟩ := inf33; exact ⟨i, h1, h2⟩⟩
theorem inf34 : ∃ i, Try.prog.info? 34 = some i ∧ i.size = 1 ∧ i.zero = some .nilFunc ∧ i.bytes = 8 := by
  have h : (Try.prog.info? 34).map (fun i => (i.zero, i.size, i.bytes)) = some (some .nilFunc, 1, 8) := by kernel_rfl
  obtain ⟨i, h1, h2⟩ := Option.map_eq_some_iff.1 h
  simp only [Prod.mk.injEq] at h2
  exact ⟨i, h1, h2.2.1, h2.1, h2.2.2⟩
instance tz34 : TZ Try.prog 34 := ⟨.nilFunc, by obtain ⟨i, h1, _, h2, _⟩ := inf34; exact ⟨i, h1, h2⟩⟩
instance t1_34 : T1 Try.prog 34 := ⟨⟨_, Try.underlying34, rfl⟩, by obtain ⟨i, h1, h2, _⟩ := inf34; exact ⟨i, h1, h2⟩⟩
theorem inf35 : ∃ i, Try.prog.info? 35 = some i ∧ i.size = 1 ∧ i.zero = some .nilFunc ∧ i.bytes = 8 := by
  have h : (Try.prog.info? 35).map (fun i => (i.zero, i.size, i.bytes)) = some (some .nilFunc, 1, 8) := by kernel_rfl
  obtain ⟨i, h1, h2⟩ := Option.map_eq_some_iff.1 h
  simp only [Prod.mk.injEq] at h2
  exact ⟨i, h1, h2.2.1, h2.1, h2.2.2⟩
instance tz35 : TZ Try.prog 35 := ⟨.nilFunc, by obtain ⟨i, h1, _, h2, _⟩ := inf35; exact ⟨i, h1, h2⟩⟩
instance t1_35 : T1 Try.prog 35 := ⟨⟨_, Try.underlying35, rfl⟩, by obtain ⟨i, h1, h2, _⟩ := inf35; exact ⟨i, h1, h2⟩⟩
theorem inf36 : ∃ i, Try.prog.info? 36 = some i ∧ i.size = 1 ∧ i.zero = some .nilFunc ∧ i.bytes = 8 := by
  have h : (Try.prog.info? 36).map (fun i => (i.zero, i.size, i.bytes)) = some (some .nilFunc, 1, 8) := by kernel_rfl
  obtain ⟨i, h1, h2⟩ := Option.map_eq_some_iff.1 h
  simp only [Prod.mk.injEq] at h2
  exact ⟨i, h1, h2.2.1, h2.1, h2.2.2⟩
instance tz36 : TZ Try.prog 36 := ⟨.nilFunc, by obtain ⟨i, h1, _, h2, _⟩ := inf36; exact ⟨i, h1, h2⟩⟩
instance t1_36 : T1 Try.prog 36 := ⟨⟨_, Try.underlying36, rfl⟩, by obtain ⟨i, h1, h2, _⟩ := inf36; exact ⟨i, h1, h2⟩⟩
theorem inf37 : ∃ i, Try.prog.info? 37 = some i ∧ i.size = 1 ∧ i.zero = some .nilFunc ∧ i.bytes = 8 := by
  have h : (Try.prog.info? 37).map (fun i => (i.zero, i.size, i.bytes)) = some (some .nilFunc, 1, 8) := by kernel_rfl
  obtain ⟨i, h1, h2⟩ := Option.map_eq_some_iff.1 h
  simp only [Prod.mk.injEq] at h2
  exact ⟨i, h1, h2.2.1, h2.1, h2.2.2⟩
instance tz37 : TZ Try.prog 37 := ⟨.nilFunc, by obtain ⟨i, h1, _, h2, _⟩ := inf37; exact ⟨i, h1, h2⟩⟩
instance t1_37 : T1 Try.prog 37 := ⟨⟨_, Try.underlying37, rfl⟩, by obtain ⟨i, h1, h2, _⟩ := inf37; exact ⟨i, h1, h2⟩⟩
theorem inf39 : ∃ i, Try.prog.info? 39 = some i ∧ i.size = 1 ∧ i.zero = some .nilFunc ∧ i.bytes = 8 := by
  have h : (Try.prog.info? 39).map (fun i => (i.zero, i.size, i.bytes)) = some (some .nilFunc, 1, 8) := by kernel_rfl
  obtain ⟨i, h1, h2⟩ := Option.map_eq_some_iff.1 h
  simp only [Prod.mk.injEq] at h2
  exact ⟨i, h1, h2.2.1, h2.1, h2.2.2⟩
instance tz39 : TZ Try.prog 39 := ⟨.nilFunc, by obtain ⟨i, h1, _, h2, _⟩ := inf39; exact ⟨i, h1, h2⟩⟩
instance t1_39 : T1 Try.prog 39 := ⟨⟨_, Try.underlying39, rfl⟩, by obtain ⟨i, h1, h2, _⟩ := inf39; exact ⟨i, h1, h2⟩⟩
theorem inf40 : ∃ i, Try.prog.info? 40 = some i ∧ i.size = 1 ∧ i.zero = some .nilFunc ∧ i.bytes = 8 := by
  have h : (Try.prog.info? 40).map (fun i => (i.zero, i.size, i.bytes)) = some (some .nilFunc, 1, 8) := by kernel_rfl
  obtain ⟨i, h1, h2⟩ := Option.map_eq_some_iff.1 h
  simp only [Prod.mk.injEq] at h2
  exact ⟨i, h1, h2.2.1, h2.1, h2.2.2⟩
instance tz40 : TZ Try.prog 40 := ⟨.nilFunc, by obtain ⟨i, h1, _, h2, _⟩ := inf40; exact ⟨i, h1, h2⟩⟩
instance t1_40 : T1 Try.prog 40 := ⟨⟨_, Try.underlying40, rfl⟩, by obtain ⟨i, h1, h2, _⟩ := inf40; exact ⟨i, h1, h2⟩⟩
theorem inf41 : ∃ i, Try.prog.info? 41 = some i ∧ i.size = 1 ∧ i.zero = some .nilFunc ∧ i.bytes = 8 := by
  have h : (Try.prog.info? 41).map (fun i => (i.zero, i.size, i.bytes)) = some (some .nilFunc, 1, 8) := by kernel_rfl
  obtain ⟨i, h1, h2⟩ := Option.map_eq_some_iff.1 h
  simp only [Prod.mk.injEq] at h2
  exact ⟨i, h1, h2.2.1, h2.1, h2.2.2⟩
instance tz41 : TZ Try.prog 41 := ⟨.nilFunc, by obtain ⟨i, h1, _, h2, _⟩ := inf41; exact ⟨i, h1, h2⟩⟩
instance t1_41 : T1 Try.prog 41 := ⟨⟨_, Try.underlying41, rfl⟩, by obtain ⟨i, h1, h2, _⟩ := inf41; exact ⟨i, h1, h2⟩⟩
theorem inf42 : ∃ i, Try.prog.info? 42 = some i ∧ i.size = 1 ∧ i.zero = some (.int .u64 0) ∧ i.bytes = 8 := by
  have h : (Try.prog.info? 42).map (fun i => (i.zero, i.size, i.bytes)) = some (some (.int .u64 0), 1, 8) := by kernel_rfl
  obtain ⟨i, h1, h2⟩ := Option.map_eq_some_iff.1 h
  simp only [Prod.mk.injEq] at h2
  exact ⟨i, h1, h2.2.1, h2.1, h2.2.2⟩
instance tz42 : TZ Try.prog 42 := ⟨(.int .u64 0), by obtain ⟨i, h1, _, h2, _⟩ := inf42; exact ⟨i, h1, h2⟩⟩
instance t1_42 : T1 Try.prog 42 := ⟨⟨_, Try.underlying42, rfl⟩, by obtain ⟨i, h1, h2, _⟩ := inf42; exact ⟨i, h1, h2⟩⟩
theorem inf43 : ∃ i, Try.prog.info? 43 = some i ∧ i.size = 1 ∧ i.zero = some .nilFunc ∧ i.bytes = 8 := by
  have h : (Try.prog.info? 43).map (fun i => (i.zero, i.size, i.bytes)) = some (some .nilFunc, 1, 8) := by kernel_rfl
  obtain ⟨i, h1, h2⟩ := Option.map_eq_some_iff.1 h
  simp only [Prod.mk.injEq] at h2
  exact ⟨i, h1, h2.2.1, h2.1, h2.2.2⟩
instance tz43 : TZ Try.prog 43 := ⟨.nilFunc, by obtain ⟨i, h1, _, h2, _⟩ := inf43; exact ⟨i, h1, h2⟩⟩
instance t1_43 : T1 Try.prog 43 := ⟨⟨_, Try.underlying43, rfl⟩, by obtain ⟨i, h1, h2, _⟩ := inf43; exact ⟨i, h1, h2⟩⟩
theorem inf44 : ∃ i, Try.prog.info? 44 = some i ∧ i.size = 1 ∧ i.zero = some .nilFunc ∧ i.bytes = 8 := by
  have h : (Try.prog.info? 44).map (fun i => (i.zero, i.size, i.bytes)) = some (some .nilFunc, 1, 8) := by kernel_rfl
  obtain ⟨i, h1, h2⟩ := Option.map_eq_some_iff.1 h
  simp only [Prod.mk.injEq] at h2
  exact ⟨i, h1, h2.2.1, h2.1, h2.2.2⟩
instance tz44 : TZ Try.prog 44 := ⟨.nilFunc, by obtain ⟨i, h1, _, h2, _⟩ := inf44; exact ⟨i, h1, h2⟩⟩
instance t1_44 : T1 Try.prog 44 := ⟨⟨_, Try.underlying44, rfl⟩, by obtain ⟨i, h1, h2, _⟩ := inf44; exact ⟨i, h1, h2⟩⟩
theorem inf45 : ∃ i, Try.prog.info? 45 = some i ∧ i.size = 1 ∧ i.zero = some (.slice none 0 0) ∧ i.bytes = 24 := by
  have h : (Try.prog.info? 45).map (fun i => (i.zero, i.size, i.bytes)) = some (some (.slice none 0 0), 1, 24) := by kernel_rfl
  obtain ⟨i, h1, h2⟩ := Option.map_eq_some_iff.1 h
  simp only [Prod.mk.injEq] at h2
  exact ⟨i, h1, h2.2.1, h2.1, h2.2.2⟩
instance tz45 : TZ Try.prog 45 := ⟨(.slice none 0 0), by obtain ⟨i, h1, _, h2, _⟩ := inf45; exact ⟨i, h1, h2⟩⟩
instance t1_45 : T1 Try.prog 45 := ⟨⟨_, Try.underlying45, rfl⟩, by obtain ⟨i, h1, h2, _⟩ := inf45; exact ⟨i, h1, h2⟩⟩
instance ts45 : TS Try.prog 45 := ⟨3, 1, (.int .i64 0), 8, Try.underlying45, inf3⟩
theorem inf46 : ∃ i, Try.prog.info? 46 = some i ∧ i.size = 1 ∧ i.zero = some .nilFunc ∧ i.bytes = 8 := by
  have h : (Try.prog.info? 46).map (fun i => (i.zero, i.size, i.bytes)) = some (some .nilFunc, 1, 8) := by kernel_rfl
  obtain ⟨i, h1, h2⟩ := Option.map_eq_some_iff.1 h
  simp only [Prod.mk.injEq] at h2
  exact ⟨i, h1, h2.2.1, h2.1, h2.2.2⟩
instance tz46 : TZ Try.prog 46 := ⟨.nilFunc, by obtain ⟨i, h1, _, h2, _⟩ := inf46; exact ⟨i, h1, h2⟩⟩
instance t1_46 : T1 Try.prog 46 := ⟨⟨_, Try.underlying46, rfl⟩, by obtain ⟨i, h1, h2, _⟩ := inf46; exact ⟨i, h1, h2⟩⟩
theorem inf47 : ∃ i, Try.prog.info? 47 = some i ∧ i.size = 1 ∧ i.zero = some .nilFunc ∧ i.bytes = 8 := by
  have h : (Try.prog.info? 47).map (fun i => (i.zero, i.size, i.bytes)) = some (some .nilFunc, 1, 8) := by kernel_rfl
  obtain ⟨i, h1, h2⟩ := Option.map_eq_some_iff.1 h
  simp only [Prod.mk.injEq] at h2
  exact ⟨i, h1, h2.2.1, h2.1, h2.2.2⟩
instance tz47 : TZ Try.prog 47 := ⟨.nilFunc, by obtain ⟨i, h1, _, h2, _⟩ := inf47; exact ⟨i, h1, h2⟩⟩
instance t1_47 : T1 Try.prog 47 := ⟨⟨_, Try.underlying47, rfl⟩, by obtain ⟨i, h1, h2, _⟩ := inf47; exact ⟨i, h1, h2⟩⟩
theorem inf48 : ∃ i, Try.prog.info? 48 = some i ∧ i.size = 1 ∧ i.zero = some (.slice none 0 0) ∧ i.bytes = 24 := by
  have h : (Try.prog.info? 48).map (fun i => (i.zero, i.size, i.bytes)) = some (some (.slice none 0 0), 1, 24) := by kernel_rfl
  obtain ⟨i, h1, h2⟩ := Option.map_eq_some_iff.1 h
  simp only [Prod.mk.injEq] at h2
  exact ⟨i, h1, h2.2.1, h2.1, h2.2.2⟩
instance tz48 : TZ Try.prog 48 := ⟨(.slice none 0 0), by obtain ⟨i, h1, _, h2, _⟩ := inf48; exact ⟨i, h1, h2⟩⟩
instance t1_48 : T1 Try.prog 48 := ⟨⟨_, Try.underlying48, rfl⟩, by obtain ⟨i, h1, h2, _⟩ := inf48; exact ⟨i, h1, h2⟩⟩
theorem inf52 : ∃ i, Try.prog.info? 52 = some i ∧ i.size = 5 ∧ i.zero = some (.agg #[(.int .u8 0), (.int .u8 0), (.int .u8 0), (.int .u8 0), (.int .u8 0)]) ∧ i.bytes = 5 := by
  have h : (Try.prog.info? 52).map (fun i => (i.zero, i.size, i.bytes)) = some (some (.agg #[(.int .u8 0), (.int .u8 0), (.int .u8 0), (.int .u8 0), (.int .u8 0)]), 5, 5) := by kernel_rfl
  obtain ⟨i, h1, h2⟩ := Option.map_eq_some_iff.1 h
  simp only [Prod.mk.injEq] at h2
  exact ⟨i, h1, h2.2.1, h2.1, h2.2.2⟩
instance ts48 : TS Try.prog 48 := ⟨52, 5, (.agg #[(.int .u8 0), (.int .u8 0), (.int .u8 0), (.int .u8 0), (.int .u8 0)]), 5, Try.underlying48, inf52⟩
theorem inf50 : ∃ i, Try.prog.info? 50 = some i ∧ i.size = 1 ∧ i.zero = some .nilFunc ∧ i.bytes = 8 := by
  have h : (Try.prog.info? 50).map (fun i => (i.zero, i.size, i.bytes)) = some (some .nilFunc, 1, 8) := by kernel_rfl
  obtain ⟨i, h1, h2⟩ := Option.map_eq_some_iff.1 h
  simp only [Prod.mk.injEq] at h2
  exact ⟨i, h1, h2.2.1, h2.1, h2.2.2⟩
instance tz50 : TZ Try.prog 50 := ⟨.nilFunc, by obtain ⟨i, h1, _, h2, _⟩ := inf50; exact ⟨i, h1, h2⟩⟩
instance t1_50 : T1 Try.prog 50 := ⟨⟨_, Try.underlying50, rfl⟩, by obtain ⟨i, h1, h2, _⟩ := inf50; exact ⟨i, h1, h2⟩⟩
theorem inf51 : ∃ i, Try.prog.info? 51 = some i ∧ i.size = 5 ∧ i.zero = some (.agg #[(.int .u8 0), (.int .u8 0), (.int .u8 0), (.int .u8 0), (.int .u8 0)]) ∧ i.bytes = 5 := by
  have h : (Try.prog.info? 51).map (fun i => (i.zero, i.size, i.bytes)) = some (some (.agg #[(.int .u8 0), (.int .u8 0), (.int .u8 0), (.int .u8 0), (.int .u8 0)]), 5, 5) := by kernel_rfl
  obtain ⟨i, h1, h2⟩ := Option.map_eq_some_iff.1 h
  simp only [Prod.mk.injEq] at h2
  exact ⟨i, h1, h2.2.1, h2.1, h2.2.2⟩
instance tz51 : TZ Try.prog 51 := ⟨(.agg #[(.int .u8 0), (.int .u8 0), (.int .u8 0), (.int .u8 0), (.int .u8 0)]), by obtain ⟨i, h1, _, h2, _⟩ := inf51; exact ⟨i, h1, h2⟩⟩
instance tagg51 : TAgg Try.prog 51 := ⟨5, by decide, by obtain ⟨i, h1, h2, _⟩ := inf51; exact ⟨_, i, Try.underlying51, rfl, h1, h2⟩⟩
instance tf51_0 : TF Try.prog 51 0 := ⟨0, by obtain ⟨i, h1, h2, _⟩ := inf5; exact ⟨_, _, i, Try.underlying51, rfl, rfl, h1, by rw [h2]; decide⟩⟩
instance tf51_1 : TF Try.prog 51 1 := ⟨1, by obtain ⟨i, h1, h2, _⟩ := inf5; exact ⟨_, _, i, Try.underlying51, rfl, rfl, h1, by rw [h2]; decide⟩⟩
instance tf51_2 : TF Try.prog 51 2 := ⟨2, by obtain ⟨i, h1, h2, _⟩ := inf5; exact ⟨_, _, i, Try.underlying51, rfl, rfl, h1, by rw [h2]; decide⟩⟩
instance tf51_3 : TF Try.prog 51 3 := ⟨3, by obtain ⟨i, h1, h2, _⟩ := inf5; exact ⟨_, _, i, Try.underlying51, rfl, rfl, h1, by rw [h2]; decide⟩⟩
instance tf51_4 : TF Try.prog 51 4 := ⟨4, by obtain ⟨i, h1, h2, _⟩ := inf5; exact ⟨_, _, i, Try.underlying51, rfl, rfl, h1, by rw [h2]; decide⟩⟩
instance tz52 : TZ Try.prog 52 := ⟨(.agg #[(.int .u8 0), (.int .u8 0), (.int .u8 0), (.int .u8 0), (.int .u8 0)]), by obtain ⟨i, h1, _, h2, _⟩ := inf52; exact ⟨i, h1, h2⟩⟩
instance tagg52 : TAgg Try.prog 52 := ⟨5, by decide, by obtain ⟨i, h1, h2, _⟩ := inf52; exact ⟨_, i, Try.underlying52, rfl, h1, h2⟩⟩
instance tf52_0 : TF Try.prog 52 0 := ⟨0, by obtain ⟨i, h1, h2, _⟩ := inf5; exact ⟨_, _, i, Try.underlying52, rfl, rfl, h1, by rw [h2]; decide⟩⟩
instance tf52_1 : TF Try.prog 52 1 := ⟨1, by obtain ⟨i, h1, h2, _⟩ := inf5; exact ⟨_, _, i, Try.underlying52, rfl, rfl, h1, by rw [h2]; decide⟩⟩
instance tf52_2 : TF Try.prog 52 2 := ⟨2, by obtain ⟨i, h1, h2, _⟩ := inf5; exact ⟨_, _, i, Try.underlying52, rfl, rfl, h1, by rw [h2]; decide⟩⟩
instance tf52_3 : TF Try.prog 52 3 := ⟨3, by obtain ⟨i, h1, h2, _⟩ := inf5; exact ⟨_, _, i, Try.underlying52, rfl, rfl, h1, by rw [h2]; decide⟩⟩
instance tf52_4 : TF Try.prog 52 4 := ⟨4, by obtain ⟨i, h1, h2, _⟩ := inf5; exact ⟨_, _, i, Try.underlying52, rfl, rfl, h1, by rw [h2]; decide⟩⟩
theorem inf53 : ∃ i, Try.prog.info? 53 = some i ∧ i.size = 1 ∧ i.zero = some .nilFunc ∧ i.bytes = 8 := by
  have h : (Try.prog.info? 53).map (fun i => (i.zero, i.size, i.bytes)) = some (some .nilFunc, 1, 8) := by kernel_rfl
  obtain ⟨i, h1, h2⟩ := Option.map_eq_some_iff.1 h
  simp only [Prod.mk.injEq] at h2
  exact ⟨i, h1, h2.2.1, h2.1, h2.2.2⟩
instance tz53 : TZ Try.prog 53 := ⟨.nilFunc, by obtain ⟨i, h1, _, h2, _⟩ := inf53; exact ⟨i, h1, h2⟩⟩
instance t1_53 : T1 Try.prog 53 := ⟨⟨_, Try.underlying53, rfl⟩, by obtain ⟨i, h1, h2, _⟩ := inf53; exact ⟨i, h1, h2⟩⟩
theorem inf54 : ∃ i, Try.prog.info? 54 = some i ∧ i.size = 1 ∧ i.zero = some .nilFunc ∧ i.bytes = 8 := by
  have h : (Try.prog.info? 54).map (fun i => (i.zero, i.size, i.bytes)) = some (some .nilFunc, 1, 8) := by kernel_rfl
  obtain ⟨i, h1, h2⟩ := Option.map_eq_some_iff.1 h
  simp only [Prod.mk.injEq] at h2
  exact ⟨i, h1, h2.2.1, h2.1, h2.2.2⟩
instance tz54 : TZ Try.prog 54 := ⟨.nilFunc, by obtain ⟨i, h1, _, h2, _⟩ := inf54; exact ⟨i, h1, h2⟩⟩
instance t1_54 : T1 Try.prog 54 := ⟨⟨_, Try.underlying54, rfl⟩, by obtain ⟨i, h1, h2, _⟩ := inf54; exact ⟨i, h1, h2⟩⟩
instance tz55 : TZ Try.prog 55 := ⟨(.agg #[(.int .i64 0), (.int .i64 0)]), by obtain ⟨i, h1, _, h2, _⟩ := inf55; exact ⟨i, h1, h2⟩⟩
instance tagg55 : TAgg Try.prog 55 := ⟨2, by decide, by obtain ⟨i, h1, h2, _⟩ := inf55; exact ⟨_, i, Try.underlying55, rfl, h1, h2⟩⟩
instance tarr55 : TArr Try.prog 55 := ⟨2, 3, 1, Try.underlying55, by decide, by obtain ⟨i, h1, h2, _⟩ := inf3; exact ⟨i, h1, h2⟩⟩
theorem inf56 : ∃ i, Try.prog.info? 56 = some i ∧ i.size = 1 ∧ i.zero = some .nilFunc ∧ i.bytes = 8 := by
  have h : (Try.prog.info? 56).map (fun i => (i.zero, i.size, i.bytes)) = some (some .nilFunc, 1, 8) := by kernel_rfl
  obtain ⟨i, h1, h2⟩ := Option.map_eq_some_iff.1 h
  simp only [Prod.mk.injEq] at h2
  exact ⟨i, h1, h2.2.1, h2.1, h2.2.2⟩
instance tz56 : TZ Try.prog 56 := ⟨.nilFunc, by obtain ⟨i, h1, _, h2, _⟩ := inf56; exact ⟨i, h1, h2⟩⟩
instance t1_56 : T1 Try.prog 56 := ⟨⟨_, Try.underlying56, rfl⟩, by obtain ⟨i, h1, h2, _⟩ := inf56; exact ⟨i, h1, h2⟩⟩
theorem inf57 : ∃ i, Try.prog.info? 57 = some i ∧ i.size = 1 ∧ i.zero = some .nilFunc ∧ i.bytes = 8 := by
  have h : (Try.prog.info? 57).map (fun i => (i.zero, i.size, i.bytes)) = some (some .nilFunc, 1, 8) := by kernel_rfl
  obtain ⟨i, h1, h2⟩ := Option.map_eq_some_iff.1 h
  simp only [Prod.mk.injEq] at h2
  exact ⟨i, h1, h2.2.1, h2.1, h2.2.2⟩
instance tz57 : TZ Try.prog 57 := ⟨.nilFunc, by obtain ⟨i, h1, _, h2, _⟩ := inf57; exact ⟨i, h1, h2⟩⟩
instance t1_57 : T1 Try.prog 57 := ⟨⟨_, Try.underlying57, rfl⟩, by obtain ⟨i, h1, h2, _⟩ := inf57; exact ⟨i, h1, h2⟩⟩
theorem inf58 : ∃ i, Try.prog.info? 58 = some i ∧ i.size = 2 ∧ i.zero = some (.agg #[(.int .i64 0), (.int .i64 0)]) ∧ i.bytes = 16 := by
  have h : (Try.prog.info? 58).map (fun i => (i.zero, i.size, i.bytes)) = some (some (.agg #[(.int .i64 0), (.int .i64 0)]), 2, 16) := by kernel_rfl
  obtain ⟨i, h1, h2⟩ := Option.map_eq_some_iff.1 h
  simp only [Prod.mk.injEq] at h2
  exact ⟨i, h1, h2.2.1, h2.1, h2.2.2⟩
instance tz58 : TZ Try.prog 58 := ⟨(.agg #[(.int .i64 0), (.int .i64 0)]), by obtain ⟨i, h1, _, h2, _⟩ := inf58; exact ⟨i, h1, h2⟩⟩
instance tagg58 : TAgg Try.prog 58 := ⟨2, by decide, by obtain ⟨i, h1, h2, _⟩ := inf58; exact ⟨_, i, Try.underlying58, rfl, h1, h2⟩⟩
instance tarr58 : TArr Try.prog 58 := ⟨2, 3, 1, Try.underlying58, by decide, by obtain ⟨i, h1, h2, _⟩ := inf3; exact ⟨i, h1, h2⟩⟩
theorem inf59 : ∃ i, Try.prog.info? 59 = some i ∧ i.size = 1 ∧ i.zero = some .nilFunc ∧ i.bytes = 8 := by
  have h : (Try.prog.info? 59).map (fun i => (i.zero, i.size, i.bytes)) = some (some .nilFunc, 1, 8) := by kernel_rfl
  obtain ⟨i, h1, h2⟩ := Option.map_eq_some_iff.1 h
  simp only [Prod.mk.injEq] at h2
  exact ⟨i, h1, h2.2.1, h2.1, h2.2.2⟩
instance tz59 : TZ Try.prog 59 := ⟨.nilFunc, by obtain ⟨i, h1, _, h2, _⟩ := inf59; exact ⟨i, h1, h2⟩⟩
instance t1_59 : T1 Try.prog 59 := ⟨⟨_, Try.underlying59, rfl⟩, by obtain ⟨i, h1, h2, _⟩ := inf59; exact ⟨i, h1, h2⟩⟩
theorem inf60 : ∃ i, Try.prog.info? 60 = some i ∧ i.size = 1 ∧ i.zero = some .nilFunc ∧ i.bytes = 8 := by
  have h : (Try.prog.info? 60).map (fun i => (i.zero, i.size, i.bytes)) = some (some .nilFunc, 1, 8) := by kernel_rfl
  obtain ⟨i, h1, h2⟩ := Option.map_eq_some_iff.1 h
  simp only [Prod.mk.injEq] at h2
  exact ⟨i, h1, h2.2.1, h2.1, h2.2.2⟩
instance tz60 : TZ Try.prog 60 := ⟨.nilFunc, by obtain ⟨i, h1, _, h2, _⟩ := inf60; exact ⟨i, h1, h2⟩⟩
instance t1_60 : T1 Try.prog 60 := ⟨⟨_, Try.underlying60, rfl⟩, by obtain ⟨i, h1, h2, _⟩ := inf60; exact ⟨i, h1, h2⟩⟩
theorem inf62 : ∃ i, Try.prog.info? 62 = some i ∧ i.size = 1 ∧ i.zero = some .nilFunc ∧ i.bytes = 8 := by
  have h : (Try.prog.info? 62).map (fun i => (i.zero, i.size, i.bytes)) = some (some .nilFunc, 1, 8) := by kernel_rfl
  obtain ⟨i, h1, h2⟩ := Option.map_eq_some_iff.1 h
  simp only [Prod.mk.injEq] at h2
  exact ⟨i, h1, h2.2.1, h2.1, h2.2.2⟩
instance tz62 : TZ Try.prog 62 := ⟨.nilFunc, by obtain ⟨i, h1, _, h2, _⟩ := inf62; exact ⟨i, h1, h2⟩⟩
instance t1_62 : T1 Try.prog 62 := ⟨⟨_, Try.underlying62, rfl⟩, by obtain ⟨i, h1, h2, _⟩ := inf62; exact ⟨i, h1, h2⟩⟩
theorem inf63 : ∃ i, Try.prog.info? 63 = some i ∧ i.size = 1 ∧ i.zero = some .nilFunc ∧ i.bytes = 8 := by
  have h : (Try.prog.info? 63).map (fun i => (i.zero, i.size, i.bytes)) = some (some .nilFunc, 1, 8) := by kernel_rfl
  obtain ⟨i, h1, h2⟩ := Option.map_eq_some_iff.1 h
  simp only [Prod.mk.injEq] at h2
  exact ⟨i, h1, h2.2.1, h2.1, h2.2.2⟩
instance tz63 : TZ Try.prog 63 := ⟨.nilFunc, by obtain ⟨i, h1, _, h2, _⟩ := inf63; exact ⟨i, h1, h2⟩⟩
instance t1_63 : T1 Try.prog 63 := ⟨⟨_, Try.underlying63, rfl⟩, by obtain ⟨i, h1, h2, _⟩ := inf63; exact ⟨i, h1, h2⟩⟩
theorem inf64 : ∃ i, Try.prog.info? 64 = some i ∧ i.size = 1 ∧ i.zero = some .nilFunc ∧ i.bytes = 8 := by
  have h : (Try.prog.info? 64).map (fun i => (i.zero, i.size, i.bytes)) = some (some .nilFunc, 1, 8) := by kernel_rfl
  obtain ⟨i, h1, h2⟩ := Option.map_eq_some_iff.1 h
  simp only [Prod.mk.injEq] at h2
  exact ⟨i, h1, h2.2.1, h2.1, h2.2.2⟩
instance tz64 : TZ Try.prog 64 := ⟨.nilFunc, by obtain ⟨i, h1, _, h2, _⟩ := inf64; exact ⟨i, h1, h2⟩⟩
instance t1_64 : T1 Try.prog 64 := ⟨⟨_, Try.underlying64, rfl⟩, by obtain ⟨i, h1, h2, _⟩ := inf64; exact ⟨i, h1, h2⟩⟩
theorem inf65 : ∃ i, Try.prog.info? 65 = some i ∧ i.size = 1 ∧ i.zero = some .nilFunc ∧ i.bytes = 8 := by
  have h : (Try.prog.info? 65).map (fun i => (i.zero, i.size, i.bytes)) = some (some .nilFunc, 1, 8) := by kernel_rfl
  obtain ⟨i, h1, h2⟩ := Option.map_eq_some_iff.1 h
  simp only [Prod.mk.injEq] at h2
  exact ⟨i, h1, h2.2.1, h2.1, h2.2.2⟩
instance tz65 : TZ Try.prog 65 := ⟨.nilFunc, by obtain ⟨i, h1, _, h2, _⟩ := inf65; exact ⟨i, h1, h2⟩⟩
instance t1_65 : T1 Try.prog 65 := ⟨⟨_, Try.underlying65, rfl⟩, by obtain ⟨i, h1, h2, _⟩ := inf65; exact ⟨i, h1, h2⟩⟩
theorem inf66 : ∃ i, Try.prog.info? 66 = some i ∧ i.size = 1 ∧ i.zero = some .nilFunc ∧ i.bytes = 8 := by
  have h : (Try.prog.info? 66).map (fun i => (i.zero, i.size, i.bytes)) = some (some .nilFunc, 1, 8) := by kernel_rfl
  obtain ⟨i, h1, h2⟩ := Option.map_eq_some_iff.1 h
  simp only [Prod.mk.injEq] at h2
  exact ⟨i, h1, h2.2.1, h2.1, h2.2.2⟩
instance tz66 : TZ Try.prog 66 := ⟨.nilFunc, by obtain ⟨i, h1, _, h2, _⟩ := inf66; exact ⟨i, h1, h2⟩⟩
instance t1_66 : T1 Try.prog 66 := ⟨⟨_, Try.underlying66, rfl⟩, by obtain ⟨i, h1, h2, _⟩ := inf66; exact ⟨i, h1, h2⟩⟩
theorem inf67 : ∃ i, Try.prog.info? 67 = some i ∧ i.size = 1 ∧ i.zero = some .nilFunc ∧ i.bytes = 8 := by
  have h : (Try.prog.info? 67).map (fun i => (i.zero, i.size, i.bytes)) = some (some .nilFunc, 1, 8) := by kernel_rfl
  obtain ⟨i, h1, h2⟩ := Option.map_eq_some_iff.1 h
  simp only [Prod.mk.injEq] at h2
  exact ⟨i, h1, h2.2.1, h2.1, h2.2.2⟩
instance tz67 : TZ Try.prog 67 := ⟨.nilFunc, by obtain ⟨i, h1, _, h2, _⟩ := inf67; exact ⟨i, h1, h2⟩⟩
instance t1_67 : T1 Try.prog 67 := ⟨⟨_, Try.underlying67, rfl⟩, by obtain ⟨i, h1, h2, _⟩ := inf67; exact ⟨i, h1, h2⟩⟩
theorem inf68 : ∃ i, Try.prog.info? 68 = some i ∧ i.size = 1 ∧ i.zero = some .nilFunc ∧ i.bytes = 8 := by
  have h : (Try.prog.info? 68).map (fun i => (i.zero, i.size, i.bytes)) = some (some .nilFunc, 1, 8) := by kernel_rfl
  obtain ⟨i, h1, h2⟩ := Option.map_eq_some_iff.1 h
  simp only [Prod.mk.injEq] at h2
  exact ⟨i, h1, h2.2.1, h2.1, h2.2.2⟩
instance tz68 : TZ Try.prog 68 := ⟨.nilFunc, by obtain ⟨i, h1, _, h2, _⟩ := inf68; exact ⟨i, h1, h2⟩⟩
instance t1_68 : T1 Try.prog 68 := ⟨⟨_, Try.underlying68, rfl⟩, by obtain ⟨i, h1, h2, _⟩ := inf68; exact ⟨i, h1, h2⟩⟩
theorem inf69 : ∃ i, Try.prog.info? 69 = some i ∧ i.size = 1 ∧ i.zero = some .nilFunc ∧ i.bytes = 8 := by
  have h : (Try.prog.info? 69).map (fun i => (i.zero, i.size, i.bytes)) = some (some .nilFunc, 1, 8) := by kernel_rfl
  obtain ⟨i, h1, h2⟩ := Option.map_eq_some_iff.1 h
  simp only [Prod.mk.injEq] at h2
  exact ⟨i, h1, h2.2.1, h2.1, h2.2.2⟩
instance tz69 : TZ Try.prog 69 := ⟨.nilFunc, by obtain ⟨i, h1, _, h2, _⟩ := inf69; exact ⟨i, h1, h2⟩⟩
instance t1_69 : T1 Try.prog 69 := ⟨⟨_, Try.underlying69, rfl⟩, by obtain ⟨i, h1, h2, _⟩ := inf69; exact ⟨i, h1, h2⟩⟩
theorem inf70 : ∃ i, Try.prog.info? 70 = some i ∧ i.size = 1 ∧ i.zero = some .nilFunc ∧ i.bytes = 8 := by
  have h : (Try.prog.info? 70).map (fun i => (i.zero, i.size, i.bytes)) = some (some .nilFunc, 1, 8) := by kernel_rfl
  obtain ⟨i, h1, h2⟩ := Option.map_eq_some_iff.1 h
  simp only [Prod.mk.injEq] at h2
  exact ⟨i, h1, h2.2.1, h2.1, h2.2.2⟩
instance tz70 : TZ Try.prog 70 := ⟨.nilFunc, by obtain ⟨i, h1, _, h2, _⟩ := inf70; exact ⟨i, h1, h2⟩⟩
instance t1_70 : T1 Try.prog 70 := ⟨⟨_, Try.underlying70, rfl⟩, by obtain ⟨i, h1, h2, _⟩ := inf70; exact ⟨i, h1, h2⟩⟩
theorem inf71 : ∃ i, Try.prog.info? 71 = some i ∧ i.size = 1 ∧ i.zero = some .nilFunc ∧ i.bytes = 8 := by
  have h : (Try.prog.info? 71).map (fun i => (i.zero, i.size, i.bytes)) = some (some .nilFunc, 1, 8) := by kernel_rfl
  obtain ⟨i, h1, h2⟩ := Option.map_eq_some_iff.1 h
  simp only [Prod.mk.injEq] at h2
  exact ⟨i, h1, h2.2.1, h2.1, h2.2.2⟩
instance tz71 : TZ Try.prog 71 := ⟨.nilFunc, by obtain ⟨i, h1, _, h2, _⟩ := inf71; exact ⟨i, h1, h2⟩⟩
instance t1_71 : T1 Try.prog 71 := ⟨⟨_, Try.underlying71, rfl⟩, by obtain ⟨i, h1, h2, _⟩ := inf71; exact ⟨i, h1, h2⟩⟩
theorem inf72 : ∃ i, Try.prog.info? 72 = some i ∧ i.size = 1 ∧ i.zero = some .nilFunc ∧ i.bytes = 8 := by
  have h : (Try.prog.info? 72).map (fun i => (i.zero, i.size, i.bytes)) = some (some .nilFunc, 1, 8) := by kernel_rfl
  obtain ⟨i, h1, h2⟩ := Option.map_eq_some_iff.1 h
  simp only [Prod.mk.injEq] at h2
  exact ⟨i, h1, h2.2.1, h2.1, h2.2.2⟩
instance tz72 : TZ Try.prog 72 := ⟨.nilFunc, by obtain ⟨i, h1, _, h2, _⟩ := inf72; exact ⟨i, h1, h2⟩⟩
instance t1_72 : T1 Try.prog 72 := ⟨⟨_, Try.underlying72, rfl⟩, by obtain ⟨i, h1, h2, _⟩ := inf72; exact ⟨i, h1, h2⟩⟩
theorem inf73 : ∃ i, Try.prog.info? 73 = some i ∧ i.size = 1 ∧ i.zero = some .nilFunc ∧ i.bytes = 8 := by
  have h : (Try.prog.info? 73).map (fun i => (i.zero, i.size, i.bytes)) = some (some .nilFunc, 1, 8) := by kernel_rfl
  obtain ⟨i, h1, h2⟩ := Option.map_eq_some_iff.1 h
  simp only [Prod.mk.injEq] at h2
  exact ⟨i, h1, h2.2.1, h2.1, h2.2.2⟩
instance tz73 : TZ Try.prog 73 := ⟨.nilFunc, by obtain ⟨i, h1, _, h2, _⟩ := inf73; exact ⟨i, h1, h2⟩⟩
instance t1_73 : T1 Try.prog 73 := ⟨⟨_, Try.underlying73, rfl⟩, by obtain ⟨i, h1, h2, _⟩ := inf73; exact ⟨i, h1, h2⟩⟩
theorem inf74 : ∃ i, Try.prog.info? 74 = some i ∧ i.size = 1 ∧ i.zero = some .nilFunc ∧ i.bytes = 8 := by
  have h : (Try.prog.info? 74).map (fun i => (i.zero, i.size, i.bytes)) = some (some .nilFunc, 1, 8) := by kernel_rfl
  obtain ⟨i, h1, h2⟩ := Option.map_eq_some_iff.1 h
  simp only [Prod.mk.injEq] at h2
  exact ⟨i, h1, h2.2.1, h2.1, h2.2.2⟩
instance tz74 : TZ Try.prog 74 := ⟨.nilFunc, by obtain ⟨i, h1, _, h2, _⟩ := inf74; exact ⟨i, h1, h2⟩⟩
instance t1_74 : T1 Try.prog 74 := ⟨⟨_, Try.underlying74, rfl⟩, by obtain ⟨i, h1, h2, _⟩ := inf74; exact ⟨i, h1, h2⟩⟩
theorem inf75 : ∃ i, Try.prog.info? 75 = some i ∧ i.size = 1 ∧ i.zero = some .nilFunc ∧ i.bytes = 8 := by
  have h : (Try.prog.info? 75).map (fun i => (i.zero, i.size, i.bytes)) = some (some .nilFunc, 1, 8) := by kernel_rfl
  obtain ⟨i, h1, h2⟩ := Option.map_eq_some_iff.1 h
  simp only [Prod.mk.injEq] at h2
  exact ⟨i, h1, h2.2.1, h2.1, h2.2.2⟩
instance tz75 : TZ Try.prog 75 := ⟨.nilFunc, by obtain ⟨i, h1, _, h2, _⟩ := inf75; exact ⟨i, h1, h2⟩⟩
instance t1_75 : T1 Try.prog 75 := ⟨⟨_, Try.underlying75, rfl⟩, by obtain ⟨i, h1, h2, _⟩ := inf75; exact ⟨i, h1, h2⟩⟩
theorem inf76 : ∃ i, Try.prog.info? 76 = some i ∧ i.size = 4 ∧ i.zero = some (.agg #[(.pointer none), (.pointer none), (.pointer none), (.string ByteArray.empty)]) ∧ i.bytes = 40 := by
  have h : (Try.prog.info? 76).map (fun i => (i.zero, i.size, i.bytes)) = some (some (.agg #[(.pointer none), (.pointer none), (.pointer none), (.string ByteArray.empty)]), 4, 40) := by kernel_rfl
  obtain ⟨i, h1, h2⟩ := Option.map_eq_some_iff.1 h
  simp only [Prod.mk.injEq] at h2
  exact ⟨i, h1, h2.2.1, h2.1, h2.2.2⟩
instance tz76 : TZ Try.prog 76 := ⟨(.agg #[(.pointer none), (.pointer none), (.pointer none), (.string ByteArray.empty)]), by obtain ⟨i, h1, _, h2, _⟩ := inf76; exact ⟨i, h1, h2⟩⟩
instance tagg76 : TAgg Try.prog 76 := ⟨4, by decide, by obtain ⟨i, h1, h2, _⟩ := inf76; exact ⟨_, i, Try.underlying76, rfl, h1, h2⟩⟩
instance tf76_0 : TF Try.prog 76 0 := ⟨0, by obtain ⟨i, h1, h2, _⟩ := inf17; exact ⟨_, _, i, Try.underlying76, rfl, rfl, h1, by rw [h2]; decide⟩⟩
instance tf76_1 : TF Try.prog 76 1 := ⟨1, by obtain ⟨i, h1, h2, _⟩ := inf17; exact ⟨_, _, i, Try.underlying76, rfl, rfl, h1, by rw [h2]; decide⟩⟩
instance tf76_2 : TF Try.prog 76 2 := ⟨2, by obtain ⟨i, h1, h2, _⟩ := inf17; exact ⟨_, _, i, Try.underlying76, rfl, rfl, h1, by rw [h2]; decide⟩⟩
instance tf76_3 : TF Try.prog 76 3 := ⟨3, by obtain ⟨i, h1, h2, _⟩ := inf9; exact ⟨_, _, i, Try.underlying76, rfl, rfl, h1, by rw [h2]; decide⟩⟩
theorem inf77 : ∃ i, Try.prog.info? 77 = some i ∧ i.size = 4 ∧ i.zero = some (.agg #[(.pointer none), (.pointer none), (.pointer none), (.string ByteArray.empty)]) ∧ i.bytes = 40 := by
  have h : (Try.prog.info? 77).map (fun i => (i.zero, i.size, i.bytes)) = some (some (.agg #[(.pointer none), (.pointer none), (.pointer none), (.string ByteArray.empty)]), 4, 40) := by kernel_rfl
  obtain ⟨i, h1, h2⟩ := Option.map_eq_some_iff.1 h
  simp only [Prod.mk.injEq] at h2
  exact ⟨i, h1, h2.2.1, h2.1, h2.2.2⟩
instance tz77 : TZ Try.prog 77 := ⟨(.agg #[(.pointer none), (.pointer none), (.pointer none), (.string ByteArray.empty)]), by obtain ⟨i, h1, _, h2, _⟩ := inf77; exact ⟨i, h1, h2⟩⟩
instance tagg77 : TAgg Try.prog 77 := ⟨4, by decide, by obtain ⟨i, h1, h2, _⟩ := inf77; exact ⟨_, i, Try.underlying77, rfl, h1, h2⟩⟩
instance tf77_0 : TF Try.prog 77 0 := ⟨0, by obtain ⟨i, h1, h2, _⟩ := inf17; exact ⟨_, _, i, Try.underlying77, rfl, rfl, h1, by rw [h2]; decide⟩⟩
instance tf77_1 : TF Try.prog 77 1 := ⟨1, by obtain ⟨i, h1, h2, _⟩ := inf17; exact ⟨_, _, i, Try.underlying77, rfl, rfl, h1, by rw [h2]; decide⟩⟩
instance tf77_2 : TF Try.prog 77 2 := ⟨2, by obtain ⟨i, h1, h2, _⟩ := inf17; exact ⟨_, _, i, Try.underlying77, rfl, rfl, h1, by rw [h2]; decide⟩⟩
instance tf77_3 : TF Try.prog 77 3 := ⟨3, by obtain ⟨i, h1, h2, _⟩ := inf9; exact ⟨_, _, i, Try.underlying77, rfl, rfl, h1, by rw [h2]; decide⟩⟩
theorem inf78 : ∃ i, Try.prog.info? 78 = some i ∧ i.size = 0 ∧ i.zero = some (.agg #[]) ∧ i.bytes = 0 := by
  have h : (Try.prog.info? 78).map (fun i => (i.zero, i.size, i.bytes)) = some (some (.agg #[]), 0, 0) := by kernel_rfl
  obtain ⟨i, h1, h2⟩ := Option.map_eq_some_iff.1 h
  simp only [Prod.mk.injEq] at h2
  exact ⟨i, h1, h2.2.1, h2.1, h2.2.2⟩
instance tz78 : TZ Try.prog 78 := ⟨(.agg #[]), by obtain ⟨i, h1, _, h2, _⟩ := inf78; exact ⟨i, h1, h2⟩⟩
instance tarr78 : TArr Try.prog 78 := ⟨0, 16, 1, Try.underlying78, by decide, by obtain ⟨i, h1, h2, _⟩ := inf16; exact ⟨i, h1, h2⟩⟩
theorem inf79 : ∃ i, Try.prog.info? 79 = some i ∧ i.size = 0 ∧ i.zero = some (.agg #[]) ∧ i.bytes = 0 := by
  have h : (Try.prog.info? 79).map (fun i => (i.zero, i.size, i.bytes)) = some (some (.agg #[]), 0, 0) := by kernel_rfl
  obtain ⟨i, h1, h2⟩ := Option.map_eq_some_iff.1 h
  simp only [Prod.mk.injEq] at h2
  exact ⟨i, h1, h2.2.1, h2.1, h2.2.2⟩
instance tz79 : TZ Try.prog 79 := ⟨(.agg #[]), by obtain ⟨i, h1, _, h2, _⟩ := inf79; exact ⟨i, h1, h2⟩⟩
theorem inf80 : ∃ i, Try.prog.info? 80 = some i ∧ i.size = 0 ∧ i.zero = some (.agg #[]) ∧ i.bytes = 0 := by
  have h : (Try.prog.info? 80).map (fun i => (i.zero, i.size, i.bytes)) = some (some (.agg #[]), 0, 0) := by kernel_rfl
  obtain ⟨i, h1, h2⟩ := Option.map_eq_some_iff.1 h
  simp only [Prod.mk.injEq] at h2
  exact ⟨i, h1, h2.2.1, h2.1, h2.2.2⟩
instance tz80 : TZ Try.prog 80 := ⟨(.agg #[]), by obtain ⟨i, h1, _, h2, _⟩ := inf80; exact ⟨i, h1, h2⟩⟩
theorem inf81 : ∃ i, Try.prog.info? 81 = some i ∧ i.size = 1 ∧ i.zero = some .nilFunc ∧ i.bytes = 8 := by
  have h : (Try.prog.info? 81).map (fun i => (i.zero, i.size, i.bytes)) = some (some .nilFunc, 1, 8) := by kernel_rfl
  obtain ⟨i, h1, h2⟩ := Option.map_eq_some_iff.1 h
  simp only [Prod.mk.injEq] at h2
  exact ⟨i, h1, h2.2.1, h2.1, h2.2.2⟩
instance tz81 : TZ Try.prog 81 := ⟨.nilFunc, by obtain ⟨i, h1, _, h2, _⟩ := inf81; exact ⟨i, h1, h2⟩⟩
instance t1_81 : T1 Try.prog 81 := ⟨⟨_, Try.underlying81, rfl⟩, by obtain ⟨i, h1, h2, _⟩ := inf81; exact ⟨i, h1, h2⟩⟩
theorem inf82 : ∃ i, Try.prog.info? 82 = some i ∧ i.size = 1 ∧ i.zero = some (.int .u32 0) ∧ i.bytes = 4 := by
  have h : (Try.prog.info? 82).map (fun i => (i.zero, i.size, i.bytes)) = some (some (.int .u32 0), 1, 4) := by kernel_rfl
  obtain ⟨i, h1, h2⟩ := Option.map_eq_some_iff.1 h
  simp only [Prod.mk.injEq] at h2
  exact ⟨i, h1, h2.2.1, h2.1, h2.2.2⟩
instance tz82 : TZ Try.prog 82 := ⟨(.int .u32 0), by obtain ⟨i, h1, _, h2, _⟩ := inf82; exact ⟨i, h1, h2⟩⟩
instance t1_82 : T1 Try.prog 82 := ⟨⟨_, Try.underlying82, rfl⟩, by obtain ⟨i, h1, h2, _⟩ := inf82; exact ⟨i, h1, h2⟩⟩
theorem inf83 : ∃ i, Try.prog.info? 83 = some i ∧ i.size = 1 ∧ i.zero = some (.int .u8 0) ∧ i.bytes = 1 := by
  have h : (Try.prog.info? 83).map (fun i => (i.zero, i.size, i.bytes)) = some (some (.int .u8 0), 1, 1) := by kernel_rfl
  obtain ⟨i, h1, h2⟩ := Option.map_eq_some_iff.1 h
  simp only [Prod.mk.injEq] at h2
  exact ⟨i, h1, h2.2.1, h2.1, h2.2.2⟩
instance tz83 : TZ Try.prog 83 := ⟨(.int .u8 0), by obtain ⟨i, h1, _, h2, _⟩ := inf83; exact ⟨i, h1, h2⟩⟩
instance t1_83 : T1 Try.prog 83 := ⟨⟨_, Try.underlying83, rfl⟩, by obtain ⟨i, h1, h2, _⟩ := inf83; exact ⟨i, h1, h2⟩⟩
theorem inf84 : ∃ i, Try.prog.info? 84 = some i ∧ i.size = 1 ∧ i.zero = some (.int .u8 0) ∧ i.bytes = 1 := by
  have h : (Try.prog.info? 84).map (fun i => (i.zero, i.size, i.bytes)) = some (some (.int .u8 0), 1, 1) := by kernel_rfl
  obtain ⟨i, h1, h2⟩ := Option.map_eq_some_iff.1 h
  simp only [Prod.mk.injEq] at h2
  exact ⟨i, h1, h2.2.1, h2.1, h2.2.2⟩
instance tz84 : TZ Try.prog 84 := ⟨(.int .u8 0), by obtain ⟨i, h1, _, h2, _⟩ := inf84; exact ⟨i, h1, h2⟩⟩
instance t1_84 : T1 Try.prog 84 := ⟨⟨_, Try.underlying84, rfl⟩, by obtain ⟨i, h1, h2, _⟩ := inf84; exact ⟨i, h1, h2⟩⟩
theorem inf85 : ∃ i, Try.prog.info? 85 = some i ∧ i.size = 1 ∧ i.zero = some .nilFunc ∧ i.bytes = 8 := by
  have h : (Try.prog.info? 85).map (fun i => (i.zero, i.size, i.bytes)) = some (some .nilFunc, 1, 8) := by kernel_rfl
  obtain ⟨i, h1, h2⟩ := Option.map_eq_some_iff.1 h
  simp only [Prod.mk.injEq] at h2
  exact ⟨i, h1, h2.2.1, h2.1, h2.2.2⟩
instance tz85 : TZ Try.prog 85 := ⟨.nilFunc, by obtain ⟨i, h1, _, h2, _⟩ := inf85; exact ⟨i, h1, h2⟩⟩
instance t1_85 : T1 Try.prog 85 := ⟨⟨_, Try.underlying85, rfl⟩, by obtain ⟨i, h1, h2, _⟩ := inf85; exact ⟨i, h1, h2⟩⟩
theorem inf86 : ∃ i, Try.prog.info? 86 = some i ∧ i.size = 1 ∧ i.zero = some (.pointer none) ∧ i.bytes = 8 := by
  have h : (Try.prog.info? 86).map (fun i => (i.zero, i.size, i.bytes)) = some (some (.pointer none), 1, 8) := by kernel_rfl
  obtain ⟨i, h1, h2⟩ := Option.map_eq_some_iff.1 h
  simp only [Prod.mk.injEq] at h2
  exact ⟨i, h1, h2.2.1, h2.1, h2.2.2⟩
instance tz86 : TZ Try.prog 86 := ⟨(.pointer none), by obtain ⟨i, h1, _, h2, _⟩ := inf86; exact ⟨i, h1, h2⟩⟩
instance t1_86 : T1 Try.prog 86 := ⟨⟨_, Try.underlying86, rfl⟩, by obtain ⟨i, h1, h2, _⟩ := inf86; exact ⟨i, h1, h2⟩⟩
theorem inf87 : ∃ i, Try.prog.info? 87 = some i ∧ i.size = 1 ∧ i.zero = some (.int .i32 0) ∧ i.bytes = 4 := by
  have h : (Try.prog.info? 87).map (fun i => (i.zero, i.size, i.bytes)) = some (some (.int .i32 0), 1, 4) := by kernel_rfl
  obtain ⟨i, h1, h2⟩ := Option.map_eq_some_iff.1 h
  simp only [Prod.mk.injEq] at h2
  exact ⟨i, h1, h2.2.1, h2.1, h2.2.2⟩
instance tz87 : TZ Try.prog 87 := ⟨(.int .i32 0), by obtain ⟨i, h1, _, h2, _⟩ := inf87; exact ⟨i, h1, h2⟩⟩
instance t1_87 : T1 Try.prog 87 := ⟨⟨_, Try.underlying87, rfl⟩, by obtain ⟨i, h1, h2, _⟩ := inf87; exact ⟨i, h1, h2⟩⟩
theorem inf88 : ∃ i, Try.prog.info? 88 = some i ∧ i.size = 1 ∧ i.zero = some (.int .i32 0) ∧ i.bytes = 4 := by
  have h : (Try.prog.info? 88).map (fun i => (i.zero, i.size, i.bytes)) = some (some (.int .i32 0), 1, 4) := by kernel_rfl
  obtain ⟨i, h1, h2⟩ := Option.map_eq_some_iff.1 h
  simp only [Prod.mk.injEq] at h2
  exact ⟨i, h1, h2.2.1, h2.1, h2.2.2⟩
instance tz88 : TZ Try.prog 88 := ⟨(.int .i32 0), by obtain ⟨i, h1, _, h2, _⟩ := inf88; exact ⟨i, h1, h2⟩⟩
instance t1_88 : T1 Try.prog 88 := ⟨⟨_, Try.underlying88, rfl⟩, by obtain ⟨i, h1, h2, _⟩ := inf88; exact ⟨i, h1, h2⟩⟩
theorem inf89 : ∃ i, Try.prog.info? 89 = some i ∧ i.size = 11 ∧ i.zero = some (.agg #[(.int .u64 0), (.int .u64 0), (.int .u32 0), (.int .u8 0), (.int .u8 0), (.int .u8 0), (.int .u8 0), .nilFunc, (.pointer none), (.int .i32 0), (.int .i32 0)]) ∧ i.bytes = 48 := by
  have h : (Try.prog.info? 89).map (fun i => (i.zero, i.size, i.bytes)) = some (some (.agg #[(.int .u64 0), (.int .u64 0), (.int .u32 0), (.int .u8 0), (.int .u8 0), (.int .u8 0), (.int .u8 0), .nilFunc, (.pointer none), (.int .i32 0), (.int .i32 0)]), 11, 48) := by kernel_rfl
  obtain ⟨i, h1, h2⟩ := Option.map_eq_some_iff.1 h
  simp only [Prod.mk.injEq] at h2
  exact ⟨i, h1, h2.2.1, h2.1, h2.2.2⟩
instance tz89 : TZ Try.prog 89 := ⟨(.agg #[(.int .u64 0), (.int .u64 0), (.int .u32 0), (.int .u8 0), (.int .u8 0), (.int .u8 0), (.int .u8 0), .nilFunc, (.pointer none), (.int .i32 0), (.int .i32 0)]), by obtain ⟨i, h1, _, h2, _⟩ := inf89; exact ⟨i, h1, h2⟩⟩
instance tagg89 : TAgg Try.prog 89 := ⟨11, by decide, by obtain ⟨i, h1, h2, _⟩ := inf89; exact ⟨_, i, Try.underlying89, rfl, h1, h2⟩⟩
instance tf89_0 : TF Try.prog 89 0 := ⟨0, by obtain ⟨i, h1, h2, _⟩ := inf12; exact ⟨_, _, i, Try.underlying89, rfl, rfl, h1, by rw [h2]; decide⟩⟩
instance tf89_1 : TF Try.prog 89 1 := ⟨1, by obtain ⟨i, h1, h2, _⟩ := inf12; exact ⟨_, _, i, Try.underlying89, rfl, rfl, h1, by rw [h2]; decide⟩⟩
instance tf89_2 : TF Try.prog 89 2 := ⟨2, by obtain ⟨i, h1, h2, _⟩ := inf82; exact ⟨_, _, i, Try.underlying89, rfl, rfl, h1, by rw [h2]; decide⟩⟩
instance tf89_3 : TF Try.prog 89 3 := ⟨3, by obtain ⟨i, h1, h2, _⟩ := inf83; exact ⟨_, _, i, Try.underlying89, rfl, rfl, h1, by rw [h2]; decide⟩⟩
instance tf89_4 : TF Try.prog 89 4 := ⟨4, by obtain ⟨i, h1, h2, _⟩ := inf5; exact ⟨_, _, i, Try.underlying89, rfl, rfl, h1, by rw [h2]; decide⟩⟩
instance tf89_5 : TF Try.prog 89 5 := ⟨5, by obtain ⟨i, h1, h2, _⟩ := inf5; exact ⟨_, _, i, Try.underlying89, rfl, rfl, h1, by rw [h2]; decide⟩⟩
instance tf89_6 : TF Try.prog 89 6 := ⟨6, by obtain ⟨i, h1, h2, _⟩ := inf84; exact ⟨_, _, i, Try.underlying89, rfl, rfl, h1, by rw [h2]; decide⟩⟩
instance tf89_7 : TF Try.prog 89 7 := ⟨7, by obtain ⟨i, h1, h2, _⟩ := inf85; exact ⟨_, _, i, Try.underlying89, rfl, rfl, h1, by rw [h2]; decide⟩⟩
instance tf89_8 : TF Try.prog 89 8 := ⟨8, by obtain ⟨i, h1, h2, _⟩ := inf86; exact ⟨_, _, i, Try.underlying89, rfl, rfl, h1, by rw [h2]; decide⟩⟩
instance tf89_9 : TF Try.prog 89 9 := ⟨9, by obtain ⟨i, h1, h2, _⟩ := inf87; exact ⟨_, _, i, Try.underlying89, rfl, rfl, h1, by rw [h2]; decide⟩⟩
instance tf89_10 : TF Try.prog 89 10 := ⟨10, by obtain ⟨i, h1, h2, _⟩ := inf88; exact ⟨_, _, i, Try.underlying89, rfl, rfl, h1, by rw [h2]; decide⟩⟩
theorem inf90 : ∃ i, Try.prog.info? 90 = some i ∧ i.size = 11 ∧ i.zero = some (.agg #[(.int .u64 0), (.int .u64 0), (.int .u32 0), (.int .u8 0), (.int .u8 0), (.int .u8 0), (.int .u8 0), .nilFunc, (.pointer none), (.int .i32 0), (.int .i32 0)]) ∧ i.bytes = 48 := by
  have h : (Try.prog.info? 90).map (fun i => (i.zero, i.size, i.bytes)) = some (some (.agg #[(.int .u64 0), (.int .u64 0), (.int .u32 0), (.int .u8 0), (.int .u8 0), (.int .u8 0), (.int .u8 0), .nilFunc, (.pointer none), (.int .i32 0), (.int .i32 0)]), 11, 48) := by kernel_rfl
  obtain ⟨i, h1, h2⟩ := Option.map_eq_some_iff.1 h
  simp only [Prod.mk.injEq] at h2
  exact ⟨i, h1, h2.2.1, h2.1, h2.2.2⟩
instance tz90 : TZ Try.prog 90 := ⟨(.agg #[(.int .u64 0), (.int .u64 0), (.int .u32 0), (.int .u8 0), (.int .u8 0), (.int .u8 0), (.int .u8 0), .nilFunc, (.pointer none), (.int .i32 0), (.int .i32 0)]), by obtain ⟨i, h1, _, h2, _⟩ := inf90; exact ⟨i, h1, h2⟩⟩
instance tagg90 : TAgg Try.prog 90 := ⟨11, by decide, by obtain ⟨i, h1, h2, _⟩ := inf90; exact ⟨_, i, Try.underlying90, rfl, h1, h2⟩⟩
instance tf90_0 : TF Try.prog 90 0 := ⟨0, by obtain ⟨i, h1, h2, _⟩ := inf12; exact ⟨_, _, i, Try.underlying90, rfl, rfl, h1, by rw [h2]; decide⟩⟩
instance tf90_1 : TF Try.prog 90 1 := ⟨1, by obtain ⟨i, h1, h2, _⟩ := inf12; exact ⟨_, _, i, Try.underlying90, rfl, rfl, h1, by rw [h2]; decide⟩⟩
instance tf90_2 : TF Try.prog 90 2 := ⟨2, by obtain ⟨i, h1, h2, _⟩ := inf82; exact ⟨_, _, i, Try.underlying90, rfl, rfl, h1, by rw [h2]; decide⟩⟩
instance tf90_3 : TF Try.prog 90 3 := ⟨3, by obtain ⟨i, h1, h2, _⟩ := inf83; exact ⟨_, _, i, Try.underlying90, rfl, rfl, h1, by rw [h2]; decide⟩⟩
instance tf90_4 : TF Try.prog 90 4 := ⟨4, by obtain ⟨i, h1, h2, _⟩ := inf5; exact ⟨_, _, i, Try.underlying90, rfl, rfl, h1, by rw [h2]; decide⟩⟩
instance tf90_5 : TF Try.prog 90 5 := ⟨5, by obtain ⟨i, h1, h2, _⟩ := inf5; exact ⟨_, _, i, Try.underlying90, rfl, rfl, h1, by rw [h2]; decide⟩⟩
instance tf90_6 : TF Try.prog 90 6 := ⟨6, by obtain ⟨i, h1, h2, _⟩ := inf84; exact ⟨_, _, i, Try.underlying90, rfl, rfl, h1, by rw [h2]; decide⟩⟩
instance tf90_7 : TF Try.prog 90 7 := ⟨7, by obtain ⟨i, h1, h2, _⟩ := inf85; exact ⟨_, _, i, Try.underlying90, rfl, rfl, h1, by rw [h2]; decide⟩⟩
instance tf90_8 : TF Try.prog 90 8 := ⟨8, by obtain ⟨i, h1, h2, _⟩ := inf86; exact ⟨_, _, i, Try.underlying90, rfl, rfl, h1, by rw [h2]; decide⟩⟩
instance tf90_9 : TF Try.prog 90 9 := ⟨9, by obtain ⟨i, h1, h2, _⟩ := inf87; exact ⟨_, _, i, Try.underlying90, rfl, rfl, h1, by rw [h2]; decide⟩⟩
instance tf90_10 : TF Try.prog 90 10 := ⟨10, by obtain ⟨i, h1, h2, _⟩ := inf88; exact ⟨_, _, i, Try.underlying90, rfl, rfl, h1, by rw [h2]; decide⟩⟩
theorem inf91 : ∃ i, Try.prog.info? 91 = some i ∧ i.size = 1 ∧ i.zero = some (.pointer none) ∧ i.bytes = 8 := by
  have h : (Try.prog.info? 91).map (fun i => (i.zero, i.size, i.bytes)) = some (some (.pointer none), 1, 8) := by kernel_rfl
  obtain ⟨i, h1, h2⟩ := Option.map_eq_some_iff.1 h
  simp only [Prod.mk.injEq] at h2
  exact ⟨i, h1, h2.2.1, h2.1, h2.2.2⟩
instance tz91 : TZ Try.prog 91 := ⟨(.pointer none), by obtain ⟨i, h1, _, h2, _⟩ := inf91; exact ⟨i, h1, h2⟩⟩
instance t1_91 : T1 Try.prog 91 := ⟨⟨_, Try.underlying91, rfl⟩, by obtain ⟨i, h1, h2, _⟩ := inf91; exact ⟨i, h1, h2⟩⟩
end Go.Proofs.Ytmilnlcegcdolaa.P
