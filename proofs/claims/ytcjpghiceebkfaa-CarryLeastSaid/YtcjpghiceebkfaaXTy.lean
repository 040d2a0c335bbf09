/- What the seat's types are: printed by wip/tools/types.py out of the translation; Lean checks it. -/
import Derived.Test.YtcjpghiceebkfaaProg
import Derived.Test.YtcjpghiceebkfaaXA
namespace Go.Proofs.Ytcjpghiceebkfaa.P
open XW
theorem inf1 : ∃ i, Try.prog.info? 1 = some i ∧ i.size = 1 ∧ i.zero = some .nilFunc ∧ i.bytes = 8 := by
  have h : (Try.prog.info? 1).map (fun i => (i.zero, i.size, i.bytes)) = some (some .nilFunc, 1, 8) := by kernel_rfl
  obtain ⟨i, h1, h2⟩ := Option.map_eq_some_iff.1 h
  simp only [Prod.mk.injEq] at h2
  exact ⟨i, h1, h2.2.1, h2.1, h2.2.2⟩
instance tz1 : TZ Try.prog 1 := ⟨.nilFunc, by obtain ⟨i, h1, _, h2, _⟩ := inf1; exact ⟨i, h1, h2⟩⟩
instance t1_1 : T1 Try.prog 1 := ⟨⟨_, Try.underlying1, rfl⟩, by obtain ⟨i, h1, h2, _⟩ := inf1; exact ⟨i, h1, h2⟩⟩
theorem inf3 : ∃ i, Try.prog.info? 3 = some i ∧ i.size = 1 ∧ i.zero = some (.int .i64 0) ∧ i.bytes = 8 := by
  have h : (Try.prog.info? 3).map (fun i => (i.zero, i.size, i.bytes)) = some (some (.int .i64 0), 1, 8) := by kernel_rfl
  obtain ⟨i, h1, h2⟩ := Option.map_eq_some_iff.1 h
  simp only [Prod.mk.injEq] at h2
  exact ⟨i, h1, h2.2.1, h2.1, h2.2.2⟩
instance tz3 : TZ Try.prog 3 := ⟨(.int .i64 0), by obtain ⟨i, h1, _, h2, _⟩ := inf3; exact ⟨i, h1, h2⟩⟩
instance t1_3 : T1 Try.prog 3 := ⟨⟨_, Try.underlying3, rfl⟩, by obtain ⟨i, h1, h2, _⟩ := inf3; exact ⟨i, h1, h2⟩⟩
theorem inf4 : ∃ i, Try.prog.info? 4 = some i ∧ i.size = 1 ∧ i.zero = some (.bool false) ∧ i.bytes = 1 := by
  have h : (Try.prog.info? 4).map (fun i => (i.zero, i.size, i.bytes)) = some (some (.bool false), 1, 1) := by kernel_rfl
  obtain ⟨i, h1, h2⟩ := Option.map_eq_some_iff.1 h
  simp only [Prod.mk.injEq] at h2
  exact ⟨i, h1, h2.2.1, h2.1, h2.2.2⟩
instance tz4 : TZ Try.prog 4 := ⟨(.bool false), by obtain ⟨i, h1, _, h2, _⟩ := inf4; exact ⟨i, h1, h2⟩⟩
instance t1_4 : T1 Try.prog 4 := ⟨⟨_, Try.underlying4, rfl⟩, by obtain ⟨i, h1, h2, _⟩ := inf4; exact ⟨i, h1, h2⟩⟩
theorem inf5 : ∃ i, Try.prog.info? 5 = some i ∧ i.size = 1 ∧ i.zero = some (.int .u8 0) ∧ i.bytes = 1 := by
  have h : (Try.prog.info? 5).map (fun i => (i.zero, i.size, i.bytes)) = some (some (.int .u8 0), 1, 1) := by kernel_rfl
  obtain ⟨i, h1, h2⟩ := Option.map_eq_some_iff.1 h
  simp only [Prod.mk.injEq] at h2
  exact ⟨i, h1, h2.2.1, h2.1, h2.2.2⟩
instance tz5 : TZ Try.prog 5 := ⟨(.int .u8 0), by obtain ⟨i, h1, _, h2, _⟩ := inf5; exact ⟨i, h1, h2⟩⟩
instance t1_5 : T1 Try.prog 5 := ⟨⟨_, Try.underlying5, rfl⟩, by obtain ⟨i, h1, h2, _⟩ := inf5; exact ⟨i, h1, h2⟩⟩
theorem inf22 : ∃ i, Try.prog.info? 22 = some i ∧ i.size = 1 ∧ i.zero = some (.slice none 0 0) ∧ i.bytes = 24 := by
  have h : (Try.prog.info? 22).map (fun i => (i.zero, i.size, i.bytes)) = some (some (.slice none 0 0), 1, 24) := by kernel_rfl
  obtain ⟨i, h1, h2⟩ := Option.map_eq_some_iff.1 h
  simp only [Prod.mk.injEq] at h2
  exact ⟨i, h1, h2.2.1, h2.1, h2.2.2⟩
instance tz22 : TZ Try.prog 22 := ⟨(.slice none 0 0), by obtain ⟨i, h1, _, h2, _⟩ := inf22; exact ⟨i, h1, h2⟩⟩
instance t1_22 : T1 Try.prog 22 := ⟨⟨_, Try.underlying22, rfl⟩, by obtain ⟨i, h1, h2, _⟩ := inf22; exact ⟨i, h1, h2⟩⟩
theorem inf45 : ∃ i, Try.prog.info? 45 = some i ∧ i.size = 3 ∧ i.zero = some (.agg #[(.int .i64 0), (.int .i64 0), (.int .i64 0)]) ∧ i.bytes = 24 := by
  have h : (Try.prog.info? 45).map (fun i => (i.zero, i.size, i.bytes)) = some (some (.agg #[(.int .i64 0), (.int .i64 0), (.int .i64 0)]), 3, 24) := by kernel_rfl
  obtain ⟨i, h1, h2⟩ := Option.map_eq_some_iff.1 h
  simp only [Prod.mk.injEq] at h2
  exact ⟨i, h1, h2.2.1, h2.1, h2.2.2⟩
instance ts22 : TS Try.prog 22 := ⟨45, 3, (.agg #[(.int .i64 0), (.int .i64 0), (.int .i64 0)]), 24, Try.underlying22, inf45⟩
theorem inf25 : ∃ i, Try.prog.info? 25 = some i ∧ i.size = 1 ∧ i.zero = some (.slice none 0 0) ∧ i.bytes = 24 := by
  have h : (Try.prog.info? 25).map (fun i => (i.zero, i.size, i.bytes)) = some (some (.slice none 0 0), 1, 24) := by kernel_rfl
  obtain ⟨i, h1, h2⟩ := Option.map_eq_some_iff.1 h
  simp only [Prod.mk.injEq] at h2
  exact ⟨i, h1, h2.2.1, h2.1, h2.2.2⟩
instance tz25 : TZ Try.prog 25 := ⟨(.slice none 0 0), by obtain ⟨i, h1, _, h2, _⟩ := inf25; exact ⟨i, h1, h2⟩⟩
instance t1_25 : T1 Try.prog 25 := ⟨⟨_, Try.underlying25, rfl⟩, by obtain ⟨i, h1, h2, _⟩ := inf25; exact ⟨i, h1, h2⟩⟩
theorem inf33 : ∃ i, Try.prog.info? 33 = some i ∧ i.size = 1 ∧ i.zero = some (.slice none 0 0) ∧ i.bytes = 24 := by
  have h : (Try.prog.info? 33).map (fun i => (i.zero, i.size, i.bytes)) = some (some (.slice none 0 0), 1, 24) := by kernel_rfl
  obtain ⟨i, h1, h2⟩ := Option.map_eq_some_iff.1 h
  simp only [Prod.mk.injEq] at h2
  exact ⟨i, h1, h2.2.1, h2.1, h2.2.2⟩
instance ts25 : TS Try.prog 25 := ⟨33, 1, (.slice none 0 0), 24, Try.underlying25, inf33⟩
theorem inf26 : ∃ i, Try.prog.info? 26 = some i ∧ i.size = 1 ∧ i.zero = some (.int .i64 0) ∧ i.bytes = 8 := by
  have h : (Try.prog.info? 26).map (fun i => (i.zero, i.size, i.bytes)) = some (some (.int .i64 0), 1, 8) := by kernel_rfl
  obtain ⟨i, h1, h2⟩ := Option.map_eq_some_iff.1 h
  simp only [Prod.mk.injEq] at h2
  exact ⟨i, h1, h2.2.1, h2.1, h2.2.2⟩
instance tz26 : TZ Try.prog 26 := ⟨(.int .i64 0), by obtain ⟨i, h1, _, h2, _⟩ := inf26; exact ⟨i, h1, h2⟩⟩
instance t1_26 : T1 Try.prog 26 := ⟨⟨_, Try.underlying26, rfl⟩, by obtain ⟨i, h1, h2, _⟩ := inf26; exact ⟨i, h1, h2⟩⟩
theorem inf32 : ∃ i, Try.prog.info? 32 = some i ∧ i.size = 1 ∧ i.zero = some .nilFunc ∧ i.bytes = 8 := by
  have h : (Try.prog.info? 32).map (fun i => (i.zero, i.size, i.bytes)) = some (some .nilFunc, 1, 8) := by kernel_rfl
  obtain ⟨i, h1, h2⟩ := Option.map_eq_some_iff.1 h
  simp only [Prod.mk.injEq] at h2
  exact ⟨i, h1, h2.2.1, h2.1, h2.2.2⟩
instance tz32 : TZ Try.prog 32 := ⟨.nilFunc, by obtain ⟨i, h1, _, h2, _⟩ := inf32; exact ⟨i, h1, h2⟩⟩
instance t1_32 : T1 Try.prog 32 := ⟨⟨_, Try.underlying32, rfl⟩, by obtain ⟨i, h1, h2, _⟩ := inf32; exact ⟨i, h1, h2⟩⟩
instance tz33 : TZ Try.prog 33 := ⟨(.slice none 0 0), by obtain ⟨i, h1, _, h2, _⟩ := inf33; exact ⟨i, h1, h2⟩⟩
instance t1_33 : T1 Try.prog 33 := ⟨⟨_, Try.underlying33, rfl⟩, by obtain ⟨i, h1, h2, _⟩ := inf33; exact ⟨i, h1, h2⟩⟩
instance ts33 : TS Try.prog 33 := ⟨3, 1, (.int .i64 0), 8, Try.underlying33, inf3⟩
theorem inf40 : ∃ i, Try.prog.info? 40 = some i ∧ i.size = 1 ∧ i.zero = some (.slice none 0 0) ∧ i.bytes = 24 := by
  have h : (Try.prog.info? 40).map (fun i => (i.zero, i.size, i.bytes)) = some (some (.slice none 0 0), 1, 24) := by kernel_rfl
  obtain ⟨i, h1, h2⟩ := Option.map_eq_some_iff.1 h
  simp only [Prod.mk.injEq] at h2
  exact ⟨i, h1, h2.2.1, h2.1, h2.2.2⟩
instance tz40 : TZ Try.prog 40 := ⟨(.slice none 0 0), by obtain ⟨i, h1, _, h2, _⟩ := inf40; exact ⟨i, h1, h2⟩⟩
instance t1_40 : T1 Try.prog 40 := ⟨⟨_, Try.underlying40, rfl⟩, by obtain ⟨i, h1, h2, _⟩ := inf40; exact ⟨i, h1, h2⟩⟩
instance ts40 : TS Try.prog 40 := ⟨5, 1, (.int .u8 0), 1, Try.underlying40, inf5⟩
theorem inf41 : ∃ i, Try.prog.info? 41 = some i ∧ i.size = 1 ∧ i.zero = some (.slice none 0 0) ∧ i.bytes = 24 := by
  have h : (Try.prog.info? 41).map (fun i => (i.zero, i.size, i.bytes)) = some (some (.slice none 0 0), 1, 24) := by kernel_rfl
  obtain ⟨i, h1, h2⟩ := Option.map_eq_some_iff.1 h
  simp only [Prod.mk.injEq] at h2
  exact ⟨i, h1, h2.2.1, h2.1, h2.2.2⟩
instance tz41 : TZ Try.prog 41 := ⟨(.slice none 0 0), by obtain ⟨i, h1, _, h2, _⟩ := inf41; exact ⟨i, h1, h2⟩⟩
instance t1_41 : T1 Try.prog 41 := ⟨⟨_, Try.underlying41, rfl⟩, by obtain ⟨i, h1, h2, _⟩ := inf41; exact ⟨i, h1, h2⟩⟩
instance ts41 : TS Try.prog 41 := ⟨4, 1, (.bool false), 1, Try.underlying41, inf4⟩
instance tz45 : TZ Try.prog 45 := ⟨(.agg #[(.int .i64 0), (.int .i64 0), (.int .i64 0)]), by obtain ⟨i, h1, _, h2, _⟩ := inf45; exact ⟨i, h1, h2⟩⟩
instance tagg45 : TAgg Try.prog 45 := ⟨3, by decide, by obtain ⟨i, h1, h2, _⟩ := inf45; exact ⟨_, i, Try.underlying45, rfl, h1, h2⟩⟩
instance tf45_0 : TF Try.prog 45 0 := ⟨0, by obtain ⟨i, h1, h2, _⟩ := inf3; exact ⟨_, _, i, Try.underlying45, rfl, rfl, h1, by rw [h2]; decide⟩⟩
instance tf45_1 : TF Try.prog 45 1 := ⟨1, by obtain ⟨i, h1, h2, _⟩ := inf3; exact ⟨_, _, i, Try.underlying45, rfl, rfl, h1, by rw [h2]; decide⟩⟩
instance tf45_2 : TF Try.prog 45 2 := ⟨2, by obtain ⟨i, h1, h2, _⟩ := inf3; exact ⟨_, _, i, Try.underlying45, rfl, rfl, h1, by rw [h2]; decide⟩⟩
theorem inf51 : ∃ i, Try.prog.info? 51 = some i ∧ i.size = 1 ∧ i.zero = some (.slice none 0 0) ∧ i.bytes = 24 := by
  have h : (Try.prog.info? 51).map (fun i => (i.zero, i.size, i.bytes)) = some (some (.slice none 0 0), 1, 24) := by kernel_rfl
  obtain ⟨i, h1, h2⟩ := Option.map_eq_some_iff.1 h
  simp only [Prod.mk.injEq] at h2
  exact ⟨i, h1, h2.2.1, h2.1, h2.2.2⟩
instance tz51 : TZ Try.prog 51 := ⟨(.slice none 0 0), by obtain ⟨i, h1, _, h2, _⟩ := inf51; exact ⟨i, h1, h2⟩⟩
instance t1_51 : T1 Try.prog 51 := ⟨⟨_, Try.underlying51, rfl⟩, by obtain ⟨i, h1, h2, _⟩ := inf51; exact ⟨i, h1, h2⟩⟩
instance ts51 : TS Try.prog 51 := ⟨22, 1, (.slice none 0 0), 24, Try.underlying51, inf22⟩
theorem inf54 : ∃ i, Try.prog.info? 54 = some i ∧ i.size = 1 ∧ i.zero = some (.map none) ∧ i.bytes = 8 := by
  have h : (Try.prog.info? 54).map (fun i => (i.zero, i.size, i.bytes)) = some (some (.map none), 1, 8) := by kernel_rfl
  obtain ⟨i, h1, h2⟩ := Option.map_eq_some_iff.1 h
  simp only [Prod.mk.injEq] at h2
  exact ⟨i, h1, h2.2.1, h2.1, h2.2.2⟩
instance tz54 : TZ Try.prog 54 := ⟨(.map none), by obtain ⟨i, h1, _, h2, _⟩ := inf54; exact ⟨i, h1, h2⟩⟩
instance t1_54 : T1 Try.prog 54 := ⟨⟨_, Try.underlying54, rfl⟩, by obtain ⟨i, h1, h2, _⟩ := inf54; exact ⟨i, h1, h2⟩⟩
instance tm54 : TM Try.prog 54 := ⟨80, 3, (.int .i64 0), Try.underlying54, by obtain ⟨i, h1, _, h2, _⟩ := inf3; exact ⟨i, h1, h2⟩⟩
theorem inf58 : ∃ i, Try.prog.info? 58 = some i ∧ i.size = 1 ∧ i.zero = some .nilFunc ∧ i.bytes = 8 := by
  have h : (Try.prog.info? 58).map (fun i => (i.zero, i.size, i.bytes)) = some (some .nilFunc, 1, 8) := by kernel_rfl
  obtain ⟨i, h1, h2⟩ := Option.map_eq_some_iff.1 h
  simp only [Prod.mk.injEq] at h2
  exact ⟨i, h1, h2.2.1, h2.1, h2.2.2⟩
instance tz58 : TZ Try.prog 58 := ⟨.nilFunc, by obtain ⟨i, h1, _, h2, _⟩ := inf58; exact ⟨i, h1, h2⟩⟩
instance t1_58 : T1 Try.prog 58 := ⟨⟨_, Try.underlying58, rfl⟩, by obtain ⟨i, h1, h2, _⟩ := inf58; exact ⟨i, h1, h2⟩⟩
theorem inf61 : ∃ i, Try.prog.info? 61 = some i ∧ i.size = 1 ∧ i.zero = some .nilFunc ∧ i.bytes = 8 := by
  have h : (Try.prog.info? 61).map (fun i => (i.zero, i.size, i.bytes)) = some (some .nilFunc, 1, 8) := by kernel_rfl
  obtain ⟨i, h1, h2⟩ := Option.map_eq_some_iff.1 h
  simp only [Prod.mk.injEq] at h2
  exact ⟨i, h1, h2.2.1, h2.1, h2.2.2⟩
instance tz61 : TZ Try.prog 61 := ⟨.nilFunc, by obtain ⟨i, h1, _, h2, _⟩ := inf61; exact ⟨i, h1, h2⟩⟩
instance t1_61 : T1 Try.prog 61 := ⟨⟨_, Try.underlying61, rfl⟩, by obtain ⟨i, h1, h2, _⟩ := inf61; exact ⟨i, h1, h2⟩⟩
theorem inf64 : ∃ i, Try.prog.info? 64 = some i ∧ i.size = 2 ∧ i.zero = some (.agg #[(.int .i64 0), (.int .i64 0)]) ∧ i.bytes = 16 := by
  have h : (Try.prog.info? 64).map (fun i => (i.zero, i.size, i.bytes)) = some (some (.agg #[(.int .i64 0), (.int .i64 0)]), 2, 16) := by kernel_rfl
  obtain ⟨i, h1, h2⟩ := Option.map_eq_some_iff.1 h
  simp only [Prod.mk.injEq] at h2
  exact ⟨i, h1, h2.2.1, h2.1, h2.2.2⟩
instance tz64 : TZ Try.prog 64 := ⟨(.agg #[(.int .i64 0), (.int .i64 0)]), by obtain ⟨i, h1, _, h2, _⟩ := inf64; exact ⟨i, h1, h2⟩⟩
instance tagg64 : TAgg Try.prog 64 := ⟨2, by decide, by obtain ⟨i, h1, h2, _⟩ := inf64; exact ⟨_, i, Try.underlying64, rfl, h1, h2⟩⟩
instance tf64_0 : TF Try.prog 64 0 := ⟨0, by obtain ⟨i, h1, h2, _⟩ := inf3; exact ⟨_, _, i, Try.underlying64, rfl, rfl, h1, by rw [h2]; decide⟩⟩
instance tf64_1 : TF Try.prog 64 1 := ⟨1, by obtain ⟨i, h1, h2, _⟩ := inf3; exact ⟨_, _, i, Try.underlying64, rfl, rfl, h1, by rw [h2]; decide⟩⟩
theorem inf68 : ∃ i, Try.prog.info? 68 = some i ∧ i.size = 1 ∧ i.zero = some .nilFunc ∧ i.bytes = 8 := by
  have h : (Try.prog.info? 68).map (fun i => (i.zero, i.size, i.bytes)) = some (some .nilFunc, 1, 8) := by kernel_rfl
  obtain ⟨i, h1, h2⟩ := Option.map_eq_some_iff.1 h
  simp only [Prod.mk.injEq] at h2
  exact ⟨i, h1, h2.2.1, h2.1, h2.2.2⟩
instance tz68 : TZ Try.prog 68 := ⟨.nilFunc, by obtain ⟨i, h1, _, h2, _⟩ := inf68; exact ⟨i, h1, h2⟩⟩
instance t1_68 : T1 Try.prog 68 := ⟨⟨_, Try.underlying68, rfl⟩, by obtain ⟨i, h1, h2, _⟩ := inf68; exact ⟨i, h1, h2⟩⟩
theorem inf74 : ∃ i, Try.prog.info? 74 = some i ∧ i.size = 1 ∧ i.zero = some .nilFunc ∧ i.bytes = 8 := by
  have h : (Try.prog.info? 74).map (fun i => (i.zero, i.size, i.bytes)) = some (some .nilFunc, 1, 8) := by kernel_rfl
  obtain ⟨i, h1, h2⟩ := Option.map_eq_some_iff.1 h
  simp only [Prod.mk.injEq] at h2
  exact ⟨i, h1, h2.2.1, h2.1, h2.2.2⟩
instance tz74 : TZ Try.prog 74 := ⟨.nilFunc, by obtain ⟨i, h1, _, h2, _⟩ := inf74; exact ⟨i, h1, h2⟩⟩
instance t1_74 : T1 Try.prog 74 := ⟨⟨_, Try.underlying74, rfl⟩, by obtain ⟨i, h1, h2, _⟩ := inf74; exact ⟨i, h1, h2⟩⟩
theorem inf76 : ∃ i, Try.prog.info? 76 = some i ∧ i.size = 1 ∧ i.zero = some (.map none) ∧ i.bytes = 8 := by
  have h : (Try.prog.info? 76).map (fun i => (i.zero, i.size, i.bytes)) = some (some (.map none), 1, 8) := by kernel_rfl
  obtain ⟨i, h1, h2⟩ := Option.map_eq_some_iff.1 h
  simp only [Prod.mk.injEq] at h2
  exact ⟨i, h1, h2.2.1, h2.1, h2.2.2⟩
instance tz76 : TZ Try.prog 76 := ⟨(.map none), by obtain ⟨i, h1, _, h2, _⟩ := inf76; exact ⟨i, h1, h2⟩⟩
instance t1_76 : T1 Try.prog 76 := ⟨⟨_, Try.underlying76, rfl⟩, by obtain ⟨i, h1, h2, _⟩ := inf76; exact ⟨i, h1, h2⟩⟩
instance tm76 : TM Try.prog 76 := ⟨77, 4, (.bool false), Try.underlying76, by obtain ⟨i, h1, _, h2, _⟩ := inf4; exact ⟨i, h1, h2⟩⟩
theorem inf77 : ∃ i, Try.prog.info? 77 = some i ∧ i.size = 2 ∧ i.zero = some (.agg #[(.int .i64 0), (.int .i64 0)]) ∧ i.bytes = 16 := by
  have h : (Try.prog.info? 77).map (fun i => (i.zero, i.size, i.bytes)) = some (some (.agg #[(.int .i64 0), (.int .i64 0)]), 2, 16) := by kernel_rfl
  obtain ⟨i, h1, h2⟩ := Option.map_eq_some_iff.1 h
  simp only [Prod.mk.injEq] at h2
  exact ⟨i, h1, h2.2.1, h2.1, h2.2.2⟩
instance tz77 : TZ Try.prog 77 := ⟨(.agg #[(.int .i64 0), (.int .i64 0)]), by obtain ⟨i, h1, _, h2, _⟩ := inf77; exact ⟨i, h1, h2⟩⟩
instance tagg77 : TAgg Try.prog 77 := ⟨2, by decide, by obtain ⟨i, h1, h2, _⟩ := inf77; exact ⟨_, i, Try.underlying77, rfl, h1, h2⟩⟩
instance tarr77 : TArr Try.prog 77 := ⟨2, 3, 1, Try.underlying77, by decide, by obtain ⟨i, h1, h2, _⟩ := inf3; exact ⟨i, h1, h2⟩⟩
theorem inf79 : ∃ i, Try.prog.info? 79 = some i ∧ i.size = 1 ∧ i.zero = some (.slice none 0 0) ∧ i.bytes = 24 := by
  have h : (Try.prog.info? 79).map (fun i => (i.zero, i.size, i.bytes)) = some (some (.slice none 0 0), 1, 24) := by kernel_rfl
  obtain ⟨i, h1, h2⟩ := Option.map_eq_some_iff.1 h
  simp only [Prod.mk.injEq] at h2
  exact ⟨i, h1, h2.2.1, h2.1, h2.2.2⟩
instance tz79 : TZ Try.prog 79 := ⟨(.slice none 0 0), by obtain ⟨i, h1, _, h2, _⟩ := inf79; exact ⟨i, h1, h2⟩⟩
instance t1_79 : T1 Try.prog 79 := ⟨⟨_, Try.underlying79, rfl⟩, by obtain ⟨i, h1, h2, _⟩ := inf79; exact ⟨i, h1, h2⟩⟩
instance ts79 : TS Try.prog 79 := ⟨77, 2, (.agg #[(.int .i64 0), (.int .i64 0)]), 16, Try.underlying79, inf77⟩
theorem inf80 : ∃ i, Try.prog.info? 80 = some i ∧ i.size = 2 ∧ i.zero = some (.agg #[(.int .i64 0), (.int .i64 0)]) ∧ i.bytes = 16 := by
  have h : (Try.prog.info? 80).map (fun i => (i.zero, i.size, i.bytes)) = some (some (.agg #[(.int .i64 0), (.int .i64 0)]), 2, 16) := by kernel_rfl
  obtain ⟨i, h1, h2⟩ := Option.map_eq_some_iff.1 h
  simp only [Prod.mk.injEq] at h2
  exact ⟨i, h1, h2.2.1, h2.1, h2.2.2⟩
instance tz80 : TZ Try.prog 80 := ⟨(.agg #[(.int .i64 0), (.int .i64 0)]), by obtain ⟨i, h1, _, h2, _⟩ := inf80; exact ⟨i, h1, h2⟩⟩
instance tagg80 : TAgg Try.prog 80 := ⟨2, by decide, by obtain ⟨i, h1, h2, _⟩ := inf80; exact ⟨_, i, Try.underlying80, rfl, h1, h2⟩⟩
instance tarr80 : TArr Try.prog 80 := ⟨2, 3, 1, Try.underlying80, by decide, by obtain ⟨i, h1, h2, _⟩ := inf3; exact ⟨i, h1, h2⟩⟩
theorem inf82 : ∃ i, Try.prog.info? 82 = some i ∧ i.size = 1 ∧ i.zero = some .nilFunc ∧ i.bytes = 8 := by
  have h : (Try.prog.info? 82).map (fun i => (i.zero, i.size, i.bytes)) = some (some .nilFunc, 1, 8) := by kernel_rfl
  obtain ⟨i, h1, h2⟩ := Option.map_eq_some_iff.1 h
  simp only [Prod.mk.injEq] at h2
  exact ⟨i, h1, h2.2.1, h2.1, h2.2.2⟩
instance tz82 : TZ Try.prog 82 := ⟨.nilFunc, by obtain ⟨i, h1, _, h2, _⟩ := inf82; exact ⟨i, h1, h2⟩⟩
instance t1_82 : T1 Try.prog 82 := ⟨⟨_, Try.underlying82, rfl⟩, by obtain ⟨i, h1, h2, _⟩ := inf82; exact ⟨i, h1, h2⟩⟩
theorem inf87 : ∃ i, Try.prog.info? 87 = some i ∧ i.size = 1 ∧ i.zero = some .nilFunc ∧ i.bytes = 8 := by
  have h : (Try.prog.info? 87).map (fun i => (i.zero, i.size, i.bytes)) = some (some .nilFunc, 1, 8) := by kernel_rfl
  obtain ⟨i, h1, h2⟩ := Option.map_eq_some_iff.1 h
  simp only [Prod.mk.injEq] at h2
  exact ⟨i, h1, h2.2.1, h2.1, h2.2.2⟩
instance tz87 : TZ Try.prog 87 := ⟨.nilFunc, by obtain ⟨i, h1, _, h2, _⟩ := inf87; exact ⟨i, h1, h2⟩⟩
instance t1_87 : T1 Try.prog 87 := ⟨⟨_, Try.underlying87, rfl⟩, by obtain ⟨i, h1, h2, _⟩ := inf87; exact ⟨i, h1, h2⟩⟩
theorem inf93 : ∃ i, Try.prog.info? 93 = some i ∧ i.size = 1 ∧ i.zero = some .nilFunc ∧ i.bytes = 8 := by
  have h : (Try.prog.info? 93).map (fun i => (i.zero, i.size, i.bytes)) = some (some .nilFunc, 1, 8) := by kernel_rfl
  obtain ⟨i, h1, h2⟩ := Option.map_eq_some_iff.1 h
  simp only [Prod.mk.injEq] at h2
  exact ⟨i, h1, h2.2.1, h2.1, h2.2.2⟩
instance tz93 : TZ Try.prog 93 := ⟨.nilFunc, by obtain ⟨i, h1, _, h2, _⟩ := inf93; exact ⟨i, h1, h2⟩⟩
instance t1_93 : T1 Try.prog 93 := ⟨⟨_, Try.underlying93, rfl⟩, by obtain ⟨i, h1, h2, _⟩ := inf93; exact ⟨i, h1, h2⟩⟩
theorem inf97 : ∃ i, Try.prog.info? 97 = some i ∧ i.size = 1 ∧ i.zero = some (.int .u64 0) ∧ i.bytes = 8 := by
  have h : (Try.prog.info? 97).map (fun i => (i.zero, i.size, i.bytes)) = some (some (.int .u64 0), 1, 8) := by kernel_rfl
  obtain ⟨i, h1, h2⟩ := Option.map_eq_some_iff.1 h
  simp only [Prod.mk.injEq] at h2
  exact ⟨i, h1, h2.2.1, h2.1, h2.2.2⟩
instance tz97 : TZ Try.prog 97 := ⟨(.int .u64 0), by obtain ⟨i, h1, _, h2, _⟩ := inf97; exact ⟨i, h1, h2⟩⟩
instance t1_97 : T1 Try.prog 97 := ⟨⟨_, Try.underlying97, rfl⟩, by obtain ⟨i, h1, h2, _⟩ := inf97; exact ⟨i, h1, h2⟩⟩
theorem inf99 : ∃ i, Try.prog.info? 99 = some i ∧ i.size = 1 ∧ i.zero = some (.int .i64 0) ∧ i.bytes = 8 := by
  have h : (Try.prog.info? 99).map (fun i => (i.zero, i.size, i.bytes)) = some (some (.int .i64 0), 1, 8) := by kernel_rfl
  obtain ⟨i, h1, h2⟩ := Option.map_eq_some_iff.1 h
  simp only [Prod.mk.injEq] at h2
  exact ⟨i, h1, h2.2.1, h2.1, h2.2.2⟩
instance tz99 : TZ Try.prog 99 := ⟨(.int .i64 0), by obtain ⟨i, h1, _, h2, _⟩ := inf99; exact ⟨i, h1, h2⟩⟩
instance t1_99 : T1 Try.prog 99 := ⟨⟨_, Try.underlying99, rfl⟩, by obtain ⟨i, h1, h2, _⟩ := inf99; exact ⟨i, h1, h2⟩⟩
theorem inf106 : ∃ i, Try.prog.info? 106 = some i ∧ i.size = 1 ∧ i.zero = some (.int .u32 0) ∧ i.bytes = 4 := by
  have h : (Try.prog.info? 106).map (fun i => (i.zero, i.size, i.bytes)) = some (some (.int .u32 0), 1, 4) := by kernel_rfl
  obtain ⟨i, h1, h2⟩ := Option.map_eq_some_iff.1 h
  simp only [Prod.mk.injEq] at h2
  exact ⟨i, h1, h2.2.1, h2.1, h2.2.2⟩
instance tz106 : TZ Try.prog 106 := ⟨(.int .u32 0), by obtain ⟨i, h1, _, h2, _⟩ := inf106; exact ⟨i, h1, h2⟩⟩
instance t1_106 : T1 Try.prog 106 := ⟨⟨_, Try.underlying106, rfl⟩, by obtain ⟨i, h1, h2, _⟩ := inf106; exact ⟨i, h1, h2⟩⟩
theorem inf108 : ∃ i, Try.prog.info? 108 = some i ∧ i.size = 1 ∧ i.zero = some (.int .u64 0) ∧ i.bytes = 8 := by
  have h : (Try.prog.info? 108).map (fun i => (i.zero, i.size, i.bytes)) = some (some (.int .u64 0), 1, 8) := by kernel_rfl
  obtain ⟨i, h1, h2⟩ := Option.map_eq_some_iff.1 h
  simp only [Prod.mk.injEq] at h2
  exact ⟨i, h1, h2.2.1, h2.1, h2.2.2⟩
instance tz108 : TZ Try.prog 108 := ⟨(.int .u64 0), by obtain ⟨i, h1, _, h2, _⟩ := inf108; exact ⟨i, h1, h2⟩⟩
instance t1_108 : T1 Try.prog 108 := ⟨⟨_, Try.underlying108, rfl⟩, by obtain ⟨i, h1, h2, _⟩ := inf108; exact ⟨i, h1, h2⟩⟩
theorem inf109 : ∃ i, Try.prog.info? 109 = some i ∧ i.size = 1 ∧ i.zero = some (.int .u64 0) ∧ i.bytes = 8 := by
  have h : (Try.prog.info? 109).map (fun i => (i.zero, i.size, i.bytes)) = some (some (.int .u64 0), 1, 8) := by kernel_rfl
  obtain ⟨i, h1, h2⟩ := Option.map_eq_some_iff.1 h
  simp only [Prod.mk.injEq] at h2
  exact ⟨i, h1, h2.2.1, h2.1, h2.2.2⟩
instance tz109 : TZ Try.prog 109 := ⟨(.int .u64 0), by obtain ⟨i, h1, _, h2, _⟩ := inf109; exact ⟨i, h1, h2⟩⟩
instance t1_109 : T1 Try.prog 109 := ⟨⟨_, Try.underlying109, rfl⟩, by obtain ⟨i, h1, h2, _⟩ := inf109; exact ⟨i, h1, h2⟩⟩
theorem inf113 : ∃ i, Try.prog.info? 113 = some i ∧ i.size = 1 ∧ i.zero = some (.pointer none) ∧ i.bytes = 8 := by
  have h : (Try.prog.info? 113).map (fun i => (i.zero, i.size, i.bytes)) = some (some (.pointer none), 1, 8) := by kernel_rfl
  obtain ⟨i, h1, h2⟩ := Option.map_eq_some_iff.1 h
  simp only [Prod.mk.injEq] at h2
  exact ⟨i, h1, h2.2.1, h2.1, h2.2.2⟩
instance tz113 : TZ Try.prog 113 := ⟨(.pointer none), by obtain ⟨i, h1, _, h2, _⟩ := inf113; exact ⟨i, h1, h2⟩⟩
instance t1_113 : T1 Try.prog 113 := ⟨⟨_, Try.underlying113, rfl⟩, by obtain ⟨i, h1, h2, _⟩ := inf113; exact ⟨i, h1, h2⟩⟩
theorem inf115 : ∃ i, Try.prog.info? 115 = some i ∧ i.size = 1 ∧ i.zero = some (.pointer none) ∧ i.bytes = 8 := by
  have h : (Try.prog.info? 115).map (fun i => (i.zero, i.size, i.bytes)) = some (some (.pointer none), 1, 8) := by kernel_rfl
  obtain ⟨i, h1, h2⟩ := Option.map_eq_some_iff.1 h
  simp only [Prod.mk.injEq] at h2
  exact ⟨i, h1, h2.2.1, h2.1, h2.2.2⟩
instance tz115 : TZ Try.prog 115 := ⟨(.pointer none), by obtain ⟨i, h1, _, h2, _⟩ := inf115; exact ⟨i, h1, h2⟩⟩
instance t1_115 : T1 Try.prog 115 := ⟨⟨_, Try.underlying115, rfl⟩, by obtain ⟨i, h1, h2, _⟩ := inf115; exact ⟨i, h1, h2⟩⟩
end Go.Proofs.Ytcjpghiceebkfaa.P
