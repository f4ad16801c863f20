/- Closed facts on the program's types and functions. -/
import Derived.Test.YtiimjkpcljelpaaProg
import Derived.Test.YtiimjkpcljelpaaEng
set_option maxRecDepth 10000
open Go.RowKit Go.Eng
namespace Go.Proofs.Ytiimjkpcljelpaa
theorem ty_parts {P : Program} {t : TypeId} {z : Value} {sz by' : Nat} (h : (P.info? t).map (fun i => (i.zero, i.size, i.bytes)) = some (some z, sz, by')) : ∃ i, P.info? t = some i ∧ i.zero = some z ∧ i.size = sz ∧ i.bytes = by' := by
  cases hi : P.info? t with
  | none => rw [hi] at h; cases h
  | some i =>
    rw [hi] at h
    simp only [Option.map_some, Option.some.injEq, Prod.mk.injEq] at h
    exact ⟨i, rfl, h.1, h.2.1, h.2.2⟩
theorem hmix : Try.prog.follows .mixedOrders = true := by kernel_rfl
theorem in3 : (Try.prog.info? 3).map (fun i => (i.zero, i.size, i.bytes)) = some (some (iv 0), 1, 8) := by kernel_rfl
theorem sz3 : SizeOf Try.prog 3 1 := by obtain ⟨i, h1, _, h3, _⟩ := ty_parts in3; exact ⟨i, h1, h3⟩
theorem zo3 : ZeroOf Try.prog 3 ([iv 0]) := by obtain ⟨i, h1, h2, _, _⟩ := ty_parts in3; exact ⟨i, _, h1, h2, rfl⟩
theorem el3 : ElemOf Try.prog 3 1 8 ([iv 0]) := by obtain ⟨i, h1, h2, h3, h4⟩ := ty_parts in3; exact ⟨i, _, h1, h2, rfl, h3, h4, rfl⟩
theorem na3 : NoAgg Try.prog 3 := ⟨_, Try.underlying3, fun _ h => (by cases h), fun _ _ h => (by cases h)⟩
theorem in4 : (Try.prog.info? 4).map (fun i => (i.zero, i.size, i.bytes)) = some (some (bv false), 1, 1) := by kernel_rfl
theorem sz4 : SizeOf Try.prog 4 1 := by obtain ⟨i, h1, _, h3, _⟩ := ty_parts in4; exact ⟨i, h1, h3⟩
theorem zo4 : ZeroOf Try.prog 4 ([bv false]) := by obtain ⟨i, h1, h2, _, _⟩ := ty_parts in4; exact ⟨i, _, h1, h2, rfl⟩
theorem el4 : ElemOf Try.prog 4 1 1 ([bv false]) := by obtain ⟨i, h1, h2, h3, h4⟩ := ty_parts in4; exact ⟨i, _, h1, h2, rfl, h3, h4, rfl⟩
theorem na4 : NoAgg Try.prog 4 := ⟨_, Try.underlying4, fun _ h => (by cases h), fun _ _ h => (by cases h)⟩
theorem in5 : (Try.prog.info? 5).map (fun i => (i.zero, i.size, i.bytes)) = some (some (u8 0#8), 1, 1) := by kernel_rfl
theorem sz5 : SizeOf Try.prog 5 1 := by obtain ⟨i, h1, _, h3, _⟩ := ty_parts in5; exact ⟨i, h1, h3⟩
theorem zo5 : ZeroOf Try.prog 5 ([u8 0#8]) := by obtain ⟨i, h1, h2, _, _⟩ := ty_parts in5; exact ⟨i, _, h1, h2, rfl⟩
theorem el5 : ElemOf Try.prog 5 1 1 ([u8 0#8]) := by obtain ⟨i, h1, h2, h3, h4⟩ := ty_parts in5; exact ⟨i, _, h1, h2, rfl, h3, h4, rfl⟩
theorem na5 : NoAgg Try.prog 5 := ⟨_, Try.underlying5, fun _ h => (by cases h), fun _ _ h => (by cases h)⟩
theorem in9 : (Try.prog.info? 9).map (fun i => (i.zero, i.size, i.bytes)) = some (some (.string ByteArray.empty), 1, 16) := by kernel_rfl
theorem sz9 : SizeOf Try.prog 9 1 := by obtain ⟨i, h1, _, h3, _⟩ := ty_parts in9; exact ⟨i, h1, h3⟩
theorem zo9 : ZeroOf Try.prog 9 ([.string ByteArray.empty]) := by obtain ⟨i, h1, h2, _, _⟩ := ty_parts in9; exact ⟨i, _, h1, h2, rfl⟩
theorem el9 : ElemOf Try.prog 9 1 16 ([.string ByteArray.empty]) := by obtain ⟨i, h1, h2, h3, h4⟩ := ty_parts in9; exact ⟨i, _, h1, h2, rfl, h3, h4, rfl⟩
theorem na9 : NoAgg Try.prog 9 := ⟨_, Try.underlying9, fun _ h => (by cases h), fun _ _ h => (by cases h)⟩
theorem in22 : (Try.prog.info? 22).map (fun i => (i.zero, i.size, i.bytes)) = some (some (.agg ((List.replicate 32 0#8).map u8).toArray), 32, 32) := by kernel_rfl
theorem sz22 : SizeOf Try.prog 22 32 := by obtain ⟨i, h1, _, h3, _⟩ := ty_parts in22; exact ⟨i, h1, h3⟩
theorem zo22 : ZeroOf Try.prog 22 ((List.replicate 32 0#8).map u8) := by obtain ⟨i, h1, h2, _, _⟩ := ty_parts in22; exact ⟨i, _, h1, h2, rfl⟩
theorem el22 : ElemOf Try.prog 22 32 32 ((List.replicate 32 0#8).map u8) := by obtain ⟨i, h1, h2, h3, h4⟩ := ty_parts in22; exact ⟨i, _, h1, h2, rfl, h3, h4, by simp⟩
theorem ag22 : AggOf Try.prog 22 32 := ⟨⟨_, Try.underlying22, .inr ⟨_, _, rfl⟩⟩, sz22⟩
theorem in23 : (Try.prog.info? 23).map (fun i => (i.zero, i.size, i.bytes)) = some (some (.slice none 0 0), 1, 24) := by kernel_rfl
theorem sz23 : SizeOf Try.prog 23 1 := by obtain ⟨i, h1, _, h3, _⟩ := ty_parts in23; exact ⟨i, h1, h3⟩
theorem zo23 : ZeroOf Try.prog 23 ([.slice none 0 0]) := by obtain ⟨i, h1, h2, _, _⟩ := ty_parts in23; exact ⟨i, _, h1, h2, rfl⟩
theorem el23 : ElemOf Try.prog 23 1 24 ([.slice none 0 0]) := by obtain ⟨i, h1, h2, h3, h4⟩ := ty_parts in23; exact ⟨i, _, h1, h2, rfl, h3, h4, rfl⟩
theorem na23 : NoAgg Try.prog 23 := ⟨_, Try.underlying23, fun _ h => (by cases h), fun _ _ h => (by cases h)⟩
theorem in25 : (Try.prog.info? 25).map (fun i => (i.zero, i.size, i.bytes)) = some (some (.agg ([u8 0#8, u8 0#8, u8 0#8, u8 0#8, u8 0#8, u8 0#8, u8 0#8, u8 0#8, u8 0#8, u8 0#8, u8 0#8, u8 0#8, u8 0#8, u8 0#8, u8 0#8, u8 0#8, u8 0#8, u8 0#8, u8 0#8, u8 0#8, u8 0#8, u8 0#8, u8 0#8, u8 0#8, u8 0#8, u8 0#8, u8 0#8, u8 0#8, u8 0#8, u8 0#8, u8 0#8, u8 0#8, bv false, .slice none 0 0, .slice none 0 0]).toArray), 35, 88) := by kernel_rfl
theorem sz25 : SizeOf Try.prog 25 35 := by obtain ⟨i, h1, _, h3, _⟩ := ty_parts in25; exact ⟨i, h1, h3⟩
theorem zo25 : ZeroOf Try.prog 25 ([u8 0#8, u8 0#8, u8 0#8, u8 0#8, u8 0#8, u8 0#8, u8 0#8, u8 0#8, u8 0#8, u8 0#8, u8 0#8, u8 0#8, u8 0#8, u8 0#8, u8 0#8, u8 0#8, u8 0#8, u8 0#8, u8 0#8, u8 0#8, u8 0#8, u8 0#8, u8 0#8, u8 0#8, u8 0#8, u8 0#8, u8 0#8, u8 0#8, u8 0#8, u8 0#8, u8 0#8, u8 0#8, bv false, .slice none 0 0, .slice none 0 0]) := by obtain ⟨i, h1, h2, _, _⟩ := ty_parts in25; exact ⟨i, _, h1, h2, rfl⟩
theorem el25 : ElemOf Try.prog 25 35 88 ([u8 0#8, u8 0#8, u8 0#8, u8 0#8, u8 0#8, u8 0#8, u8 0#8, u8 0#8, u8 0#8, u8 0#8, u8 0#8, u8 0#8, u8 0#8, u8 0#8, u8 0#8, u8 0#8, u8 0#8, u8 0#8, u8 0#8, u8 0#8, u8 0#8, u8 0#8, u8 0#8, u8 0#8, u8 0#8, u8 0#8, u8 0#8, u8 0#8, u8 0#8, u8 0#8, u8 0#8, u8 0#8, bv false, .slice none 0 0, .slice none 0 0]) := by obtain ⟨i, h1, h2, h3, h4⟩ := ty_parts in25; exact ⟨i, _, h1, h2, rfl, h3, h4, rfl⟩
theorem ag25 : AggOf Try.prog 25 35 := ⟨⟨_, Try.underlying25, .inl ⟨_, rfl⟩⟩, sz25⟩
theorem fo25_0 : FieldOf Try.prog 25 0 0 := ⟨_, _, Try.underlying25, rfl, rfl, _, sz22, by decide⟩
theorem fo25_1 : FieldOf Try.prog 25 1 32 := ⟨_, _, Try.underlying25, rfl, rfl, _, sz4, by decide⟩
theorem fo25_2 : FieldOf Try.prog 25 2 33 := ⟨_, _, Try.underlying25, rfl, rfl, _, sz23, by decide⟩
theorem fo25_3 : FieldOf Try.prog 25 3 34 := ⟨_, _, Try.underlying25, rfl, rfl, _, sz23, by decide⟩
theorem pl25 : Places Try.prog 25 [(0, 32), (32, 1), (33, 1), (34, 1)] := ⟨_, Try.underlying25, fun w => by kernel_rfl⟩
theorem in26 : (Try.prog.info? 26).map (fun i => (i.zero, i.size, i.bytes)) = some (some (u16 0#16), 1, 2) := by kernel_rfl
theorem sz26 : SizeOf Try.prog 26 1 := by obtain ⟨i, h1, _, h3, _⟩ := ty_parts in26; exact ⟨i, h1, h3⟩
theorem zo26 : ZeroOf Try.prog 26 ([u16 0#16]) := by obtain ⟨i, h1, h2, _, _⟩ := ty_parts in26; exact ⟨i, _, h1, h2, rfl⟩
theorem el26 : ElemOf Try.prog 26 1 2 ([u16 0#16]) := by obtain ⟨i, h1, h2, h3, h4⟩ := ty_parts in26; exact ⟨i, _, h1, h2, rfl, h3, h4, rfl⟩
theorem na26 : NoAgg Try.prog 26 := ⟨_, Try.underlying26, fun _ h => (by cases h), fun _ _ h => (by cases h)⟩
theorem in28 : (Try.prog.info? 28).map (fun i => (i.zero, i.size, i.bytes)) = some (some (.agg ([u8 0#8, u8 0#8, u8 0#8, u8 0#8, u8 0#8, u8 0#8, u8 0#8, u8 0#8, u8 0#8, u8 0#8, u8 0#8, u8 0#8, u8 0#8, u8 0#8, u8 0#8, u8 0#8, u8 0#8, u8 0#8, u8 0#8, u8 0#8, u8 0#8, u8 0#8, u8 0#8, u8 0#8, u8 0#8, u8 0#8, u8 0#8, u8 0#8, u8 0#8, u8 0#8, u8 0#8, u8 0#8, bv false, .slice none 0 0, .slice none 0 0, .slice none 0 0, u16 0#16, bv false]).toArray), 38, 120) := by kernel_rfl
theorem sz28 : SizeOf Try.prog 28 38 := by obtain ⟨i, h1, _, h3, _⟩ := ty_parts in28; exact ⟨i, h1, h3⟩
theorem zo28 : ZeroOf Try.prog 28 ([u8 0#8, u8 0#8, u8 0#8, u8 0#8, u8 0#8, u8 0#8, u8 0#8, u8 0#8, u8 0#8, u8 0#8, u8 0#8, u8 0#8, u8 0#8, u8 0#8, u8 0#8, u8 0#8, u8 0#8, u8 0#8, u8 0#8, u8 0#8, u8 0#8, u8 0#8, u8 0#8, u8 0#8, u8 0#8, u8 0#8, u8 0#8, u8 0#8, u8 0#8, u8 0#8, u8 0#8, u8 0#8, bv false, .slice none 0 0, .slice none 0 0, .slice none 0 0, u16 0#16, bv false]) := by obtain ⟨i, h1, h2, _, _⟩ := ty_parts in28; exact ⟨i, _, h1, h2, rfl⟩
theorem el28 : ElemOf Try.prog 28 38 120 ([u8 0#8, u8 0#8, u8 0#8, u8 0#8, u8 0#8, u8 0#8, u8 0#8, u8 0#8, u8 0#8, u8 0#8, u8 0#8, u8 0#8, u8 0#8, u8 0#8, u8 0#8, u8 0#8, u8 0#8, u8 0#8, u8 0#8, u8 0#8, u8 0#8, u8 0#8, u8 0#8, u8 0#8, u8 0#8, u8 0#8, u8 0#8, u8 0#8, u8 0#8, u8 0#8, u8 0#8, u8 0#8, bv false, .slice none 0 0, .slice none 0 0, .slice none 0 0, u16 0#16, bv false]) := by obtain ⟨i, h1, h2, h3, h4⟩ := ty_parts in28; exact ⟨i, _, h1, h2, rfl, h3, h4, rfl⟩
theorem ag28 : AggOf Try.prog 28 38 := ⟨⟨_, Try.underlying28, .inl ⟨_, rfl⟩⟩, sz28⟩
theorem fo28_0 : FieldOf Try.prog 28 0 0 := ⟨_, _, Try.underlying28, rfl, rfl, _, sz25, by decide⟩
theorem fo28_1 : FieldOf Try.prog 28 1 35 := ⟨_, _, Try.underlying28, rfl, rfl, _, sz23, by decide⟩
theorem fo28_2 : FieldOf Try.prog 28 2 36 := ⟨_, _, Try.underlying28, rfl, rfl, _, sz26, by decide⟩
theorem fo28_3 : FieldOf Try.prog 28 3 37 := ⟨_, _, Try.underlying28, rfl, rfl, _, sz4, by decide⟩
theorem pl28 : Places Try.prog 28 [(0, 35), (35, 1), (36, 1), (37, 1)] := ⟨_, Try.underlying28, fun w => by kernel_rfl⟩
theorem in30 : (Try.prog.info? 30).map (fun i => (i.zero, i.size, i.bytes)) = some (some (.pointer none), 1, 8) := by kernel_rfl
theorem sz30 : SizeOf Try.prog 30 1 := by obtain ⟨i, h1, _, h3, _⟩ := ty_parts in30; exact ⟨i, h1, h3⟩
theorem zo30 : ZeroOf Try.prog 30 ([.pointer none]) := by obtain ⟨i, h1, h2, _, _⟩ := ty_parts in30; exact ⟨i, _, h1, h2, rfl⟩
theorem el30 : ElemOf Try.prog 30 1 8 ([.pointer none]) := by obtain ⟨i, h1, h2, h3, h4⟩ := ty_parts in30; exact ⟨i, _, h1, h2, rfl, h3, h4, rfl⟩
theorem na30 : NoAgg Try.prog 30 := ⟨_, Try.underlying30, fun _ h => (by cases h), fun _ _ h => (by cases h)⟩
theorem in33 : (Try.prog.info? 33).map (fun i => (i.zero, i.size, i.bytes)) = some (some (.agg ((List.replicate 16 0#8).map u8).toArray), 16, 16) := by kernel_rfl
theorem sz33 : SizeOf Try.prog 33 16 := by obtain ⟨i, h1, _, h3, _⟩ := ty_parts in33; exact ⟨i, h1, h3⟩
theorem zo33 : ZeroOf Try.prog 33 ((List.replicate 16 0#8).map u8) := by obtain ⟨i, h1, h2, _, _⟩ := ty_parts in33; exact ⟨i, _, h1, h2, rfl⟩
theorem el33 : ElemOf Try.prog 33 16 16 ((List.replicate 16 0#8).map u8) := by obtain ⟨i, h1, h2, h3, h4⟩ := ty_parts in33; exact ⟨i, _, h1, h2, rfl, h3, h4, by simp⟩
theorem ag33 : AggOf Try.prog 33 16 := ⟨⟨_, Try.underlying33, .inr ⟨_, _, rfl⟩⟩, sz33⟩
theorem in35 : (Try.prog.info? 35).map (fun i => (i.zero, i.size, i.bytes)) = some (some (iv 0), 1, 8) := by kernel_rfl
theorem sz35 : SizeOf Try.prog 35 1 := by obtain ⟨i, h1, _, h3, _⟩ := ty_parts in35; exact ⟨i, h1, h3⟩
theorem zo35 : ZeroOf Try.prog 35 ([iv 0]) := by obtain ⟨i, h1, h2, _, _⟩ := ty_parts in35; exact ⟨i, _, h1, h2, rfl⟩
theorem el35 : ElemOf Try.prog 35 1 8 ([iv 0]) := by obtain ⟨i, h1, h2, h3, h4⟩ := ty_parts in35; exact ⟨i, _, h1, h2, rfl, h3, h4, rfl⟩
theorem na35 : NoAgg Try.prog 35 := ⟨_, Try.underlying35, fun _ h => (by cases h), fun _ _ h => (by cases h)⟩
theorem in45 : (Try.prog.info? 45).map (fun i => (i.zero, i.size, i.bytes)) = some (some (.pointer none), 1, 8) := by kernel_rfl
theorem sz45 : SizeOf Try.prog 45 1 := by obtain ⟨i, h1, _, h3, _⟩ := ty_parts in45; exact ⟨i, h1, h3⟩
theorem zo45 : ZeroOf Try.prog 45 ([.pointer none]) := by obtain ⟨i, h1, h2, _, _⟩ := ty_parts in45; exact ⟨i, _, h1, h2, rfl⟩
theorem el45 : ElemOf Try.prog 45 1 8 ([.pointer none]) := by obtain ⟨i, h1, h2, h3, h4⟩ := ty_parts in45; exact ⟨i, _, h1, h2, rfl, h3, h4, rfl⟩
theorem na45 : NoAgg Try.prog 45 := ⟨_, Try.underlying45, fun _ h => (by cases h), fun _ _ h => (by cases h)⟩
theorem in52 : (Try.prog.info? 52).map (fun i => (i.zero, i.size, i.bytes)) = some (some (.nilFunc), 1, 8) := by kernel_rfl
theorem sz52 : SizeOf Try.prog 52 1 := by obtain ⟨i, h1, _, h3, _⟩ := ty_parts in52; exact ⟨i, h1, h3⟩
theorem zo52 : ZeroOf Try.prog 52 ([.nilFunc]) := by obtain ⟨i, h1, h2, _, _⟩ := ty_parts in52; exact ⟨i, _, h1, h2, rfl⟩
theorem el52 : ElemOf Try.prog 52 1 8 ([.nilFunc]) := by obtain ⟨i, h1, h2, h3, h4⟩ := ty_parts in52; exact ⟨i, _, h1, h2, rfl, h3, h4, rfl⟩
theorem na52 : NoAgg Try.prog 52 := ⟨_, Try.underlying52, fun _ h => (by cases h), fun _ _ h => (by cases h)⟩
theorem in54 : (Try.prog.info? 54).map (fun i => (i.zero, i.size, i.bytes)) = some (some (.pointer none), 1, 8) := by kernel_rfl
theorem sz54 : SizeOf Try.prog 54 1 := by obtain ⟨i, h1, _, h3, _⟩ := ty_parts in54; exact ⟨i, h1, h3⟩
theorem zo54 : ZeroOf Try.prog 54 ([.pointer none]) := by obtain ⟨i, h1, h2, _, _⟩ := ty_parts in54; exact ⟨i, _, h1, h2, rfl⟩
theorem el54 : ElemOf Try.prog 54 1 8 ([.pointer none]) := by obtain ⟨i, h1, h2, h3, h4⟩ := ty_parts in54; exact ⟨i, _, h1, h2, rfl, h3, h4, rfl⟩
theorem na54 : NoAgg Try.prog 54 := ⟨_, Try.underlying54, fun _ h => (by cases h), fun _ _ h => (by cases h)⟩
theorem in56 : (Try.prog.info? 56).map (fun i => (i.zero, i.size, i.bytes)) = some (some (.slice none 0 0), 1, 24) := by kernel_rfl
theorem sz56 : SizeOf Try.prog 56 1 := by obtain ⟨i, h1, _, h3, _⟩ := ty_parts in56; exact ⟨i, h1, h3⟩
theorem zo56 : ZeroOf Try.prog 56 ([.slice none 0 0]) := by obtain ⟨i, h1, h2, _, _⟩ := ty_parts in56; exact ⟨i, _, h1, h2, rfl⟩
theorem el56 : ElemOf Try.prog 56 1 24 ([.slice none 0 0]) := by obtain ⟨i, h1, h2, h3, h4⟩ := ty_parts in56; exact ⟨i, _, h1, h2, rfl, h3, h4, rfl⟩
theorem na56 : NoAgg Try.prog 56 := ⟨_, Try.underlying56, fun _ h => (by cases h), fun _ _ h => (by cases h)⟩
theorem in58 : (Try.prog.info? 58).map (fun i => (i.zero, i.size, i.bytes)) = some (some (.agg ([.pointer none, .slice none 0 0]).toArray), 2, 32) := by kernel_rfl
theorem sz58 : SizeOf Try.prog 58 2 := by obtain ⟨i, h1, _, h3, _⟩ := ty_parts in58; exact ⟨i, h1, h3⟩
theorem zo58 : ZeroOf Try.prog 58 ([.pointer none, .slice none 0 0]) := by obtain ⟨i, h1, h2, _, _⟩ := ty_parts in58; exact ⟨i, _, h1, h2, rfl⟩
theorem el58 : ElemOf Try.prog 58 2 32 ([.pointer none, .slice none 0 0]) := by obtain ⟨i, h1, h2, h3, h4⟩ := ty_parts in58; exact ⟨i, _, h1, h2, rfl, h3, h4, rfl⟩
theorem ag58 : AggOf Try.prog 58 2 := ⟨⟨_, Try.underlying58, .inl ⟨_, rfl⟩⟩, sz58⟩
theorem fo58_0 : FieldOf Try.prog 58 0 0 := ⟨_, _, Try.underlying58, rfl, rfl, _, sz54, by decide⟩
theorem fo58_1 : FieldOf Try.prog 58 1 1 := ⟨_, _, Try.underlying58, rfl, rfl, _, sz56, by decide⟩
theorem pl58 : Places Try.prog 58 [(0, 1), (1, 1)] := ⟨_, Try.underlying58, fun w => by kernel_rfl⟩
theorem in59 : (Try.prog.info? 59).map (fun i => (i.zero, i.size, i.bytes)) = some (some (.agg ((List.replicate 4 0#8).map u8).toArray), 4, 4) := by kernel_rfl
theorem sz59 : SizeOf Try.prog 59 4 := by obtain ⟨i, h1, _, h3, _⟩ := ty_parts in59; exact ⟨i, h1, h3⟩
theorem zo59 : ZeroOf Try.prog 59 ((List.replicate 4 0#8).map u8) := by obtain ⟨i, h1, h2, _, _⟩ := ty_parts in59; exact ⟨i, _, h1, h2, rfl⟩
theorem el59 : ElemOf Try.prog 59 4 4 ((List.replicate 4 0#8).map u8) := by obtain ⟨i, h1, h2, h3, h4⟩ := ty_parts in59; exact ⟨i, _, h1, h2, rfl, h3, h4, by simp⟩
theorem ag59 : AggOf Try.prog 59 4 := ⟨⟨_, Try.underlying59, .inr ⟨_, _, rfl⟩⟩, sz59⟩
theorem in61 : (Try.prog.info? 61).map (fun i => (i.zero, i.size, i.bytes)) = some (some (.agg ((List.replicate 256 0#8).map u8).toArray), 256, 256) := by kernel_rfl
theorem sz61 : SizeOf Try.prog 61 256 := by obtain ⟨i, h1, _, h3, _⟩ := ty_parts in61; exact ⟨i, h1, h3⟩
theorem zo61 : ZeroOf Try.prog 61 ((List.replicate 256 0#8).map u8) := by obtain ⟨i, h1, h2, _, _⟩ := ty_parts in61; exact ⟨i, _, h1, h2, rfl⟩
theorem el61 : ElemOf Try.prog 61 256 256 ((List.replicate 256 0#8).map u8) := by obtain ⟨i, h1, h2, h3, h4⟩ := ty_parts in61; exact ⟨i, _, h1, h2, rfl, h3, h4, by simp⟩
theorem ag61 : AggOf Try.prog 61 256 := ⟨⟨_, Try.underlying61, .inr ⟨_, _, rfl⟩⟩, sz61⟩
theorem in63 : (Try.prog.info? 63).map (fun i => (i.zero, i.size, i.bytes)) = some (some (.agg ((List.replicate 512 0#8).map u8).toArray), 512, 512) := by kernel_rfl
theorem sz63 : SizeOf Try.prog 63 512 := by obtain ⟨i, h1, _, h3, _⟩ := ty_parts in63; exact ⟨i, h1, h3⟩
theorem zo63 : ZeroOf Try.prog 63 ((List.replicate 512 0#8).map u8) := by obtain ⟨i, h1, h2, _, _⟩ := ty_parts in63; exact ⟨i, _, h1, h2, rfl⟩
theorem el63 : ElemOf Try.prog 63 512 512 ((List.replicate 512 0#8).map u8) := by obtain ⟨i, h1, h2, h3, h4⟩ := ty_parts in63; exact ⟨i, _, h1, h2, rfl, h3, h4, by simp⟩
theorem ag63 : AggOf Try.prog 63 512 := ⟨⟨_, Try.underlying63, .inl ⟨_, rfl⟩⟩, sz63⟩
theorem fo63_0 : FieldOf Try.prog 63 0 0 := ⟨_, _, Try.underlying63, rfl, rfl, _, sz61, by decide⟩
theorem fo63_1 : FieldOf Try.prog 63 1 256 := ⟨_, _, Try.underlying63, rfl, rfl, _, sz61, by decide⟩
theorem pl63 : Places Try.prog 63 [(0, 256), (256, 256)] := ⟨_, Try.underlying63, fun w => by kernel_rfl⟩
theorem in68 : (Try.prog.info? 68).map (fun i => (i.zero, i.size, i.bytes)) = some (some (.nilFunc), 1, 8) := by kernel_rfl
theorem sz68 : SizeOf Try.prog 68 1 := by obtain ⟨i, h1, _, h3, _⟩ := ty_parts in68; exact ⟨i, h1, h3⟩
theorem zo68 : ZeroOf Try.prog 68 ([.nilFunc]) := by obtain ⟨i, h1, h2, _, _⟩ := ty_parts in68; exact ⟨i, _, h1, h2, rfl⟩
theorem el68 : ElemOf Try.prog 68 1 8 ([.nilFunc]) := by obtain ⟨i, h1, h2, h3, h4⟩ := ty_parts in68; exact ⟨i, _, h1, h2, rfl, h3, h4, rfl⟩
theorem na68 : NoAgg Try.prog 68 := ⟨_, Try.underlying68, fun _ h => (by cases h), fun _ _ h => (by cases h)⟩
theorem in69 : (Try.prog.info? 69).map (fun i => (i.zero, i.size, i.bytes)) = some (some (u32 0#32), 1, 4) := by kernel_rfl
theorem sz69 : SizeOf Try.prog 69 1 := by obtain ⟨i, h1, _, h3, _⟩ := ty_parts in69; exact ⟨i, h1, h3⟩
theorem zo69 : ZeroOf Try.prog 69 ([u32 0#32]) := by obtain ⟨i, h1, h2, _, _⟩ := ty_parts in69; exact ⟨i, _, h1, h2, rfl⟩
theorem el69 : ElemOf Try.prog 69 1 4 ([u32 0#32]) := by obtain ⟨i, h1, h2, h3, h4⟩ := ty_parts in69; exact ⟨i, _, h1, h2, rfl, h3, h4, rfl⟩
theorem na69 : NoAgg Try.prog 69 := ⟨_, Try.underlying69, fun _ h => (by cases h), fun _ _ h => (by cases h)⟩
theorem in70 : (Try.prog.info? 70).map (fun i => (i.zero, i.size, i.bytes)) = some (some (u64 0#64), 1, 8) := by kernel_rfl
theorem sz70 : SizeOf Try.prog 70 1 := by obtain ⟨i, h1, _, h3, _⟩ := ty_parts in70; exact ⟨i, h1, h3⟩
theorem zo70 : ZeroOf Try.prog 70 ([u64 0#64]) := by obtain ⟨i, h1, h2, _, _⟩ := ty_parts in70; exact ⟨i, _, h1, h2, rfl⟩
theorem el70 : ElemOf Try.prog 70 1 8 ([u64 0#64]) := by obtain ⟨i, h1, h2, h3, h4⟩ := ty_parts in70; exact ⟨i, _, h1, h2, rfl, h3, h4, rfl⟩
theorem na70 : NoAgg Try.prog 70 := ⟨_, Try.underlying70, fun _ h => (by cases h), fun _ _ h => (by cases h)⟩
theorem in76 : (Try.prog.info? 76).map (fun i => (i.zero, i.size, i.bytes)) = some (some (.slice none 0 0), 1, 24) := by kernel_rfl
theorem sz76 : SizeOf Try.prog 76 1 := by obtain ⟨i, h1, _, h3, _⟩ := ty_parts in76; exact ⟨i, h1, h3⟩
theorem zo76 : ZeroOf Try.prog 76 ([.slice none 0 0]) := by obtain ⟨i, h1, h2, _, _⟩ := ty_parts in76; exact ⟨i, _, h1, h2, rfl⟩
theorem el76 : ElemOf Try.prog 76 1 24 ([.slice none 0 0]) := by obtain ⟨i, h1, h2, h3, h4⟩ := ty_parts in76; exact ⟨i, _, h1, h2, rfl, h3, h4, rfl⟩
theorem na76 : NoAgg Try.prog 76 := ⟨_, Try.underlying76, fun _ h => (by cases h), fun _ _ h => (by cases h)⟩
theorem in83 : (Try.prog.info? 83).map (fun i => (i.zero, i.size, i.bytes)) = some (some (.agg ([u64 0#64, u64 0#64]).toArray), 2, 16) := by kernel_rfl
theorem sz83 : SizeOf Try.prog 83 2 := by obtain ⟨i, h1, _, h3, _⟩ := ty_parts in83; exact ⟨i, h1, h3⟩
theorem zo83 : ZeroOf Try.prog 83 ([u64 0#64, u64 0#64]) := by obtain ⟨i, h1, h2, _, _⟩ := ty_parts in83; exact ⟨i, _, h1, h2, rfl⟩
theorem el83 : ElemOf Try.prog 83 2 16 ([u64 0#64, u64 0#64]) := by obtain ⟨i, h1, h2, h3, h4⟩ := ty_parts in83; exact ⟨i, _, h1, h2, rfl, h3, h4, rfl⟩
theorem ag83 : AggOf Try.prog 83 2 := ⟨⟨_, Try.underlying83, .inl ⟨_, rfl⟩⟩, sz83⟩
theorem fo83_0 : FieldOf Try.prog 83 0 0 := ⟨_, _, Try.underlying83, rfl, rfl, _, sz70, by decide⟩
theorem fo83_1 : FieldOf Try.prog 83 1 1 := ⟨_, _, Try.underlying83, rfl, rfl, _, sz70, by decide⟩
theorem pl83 : Places Try.prog 83 [(0, 1), (1, 1)] := ⟨_, Try.underlying83, fun w => by kernel_rfl⟩
theorem bd2 : Body Try.prog 2 := ⟨_, Try.func2, rfl, by decide⟩
theorem bd3 : Body Try.prog 3 := ⟨_, Try.func3, rfl, by decide⟩
theorem bd4 : Body Try.prog 4 := ⟨_, Try.func4, rfl, by decide⟩
theorem bd5 : Body Try.prog 5 := ⟨_, Try.func5, rfl, by decide⟩
theorem bd6 : Body Try.prog 6 := ⟨_, Try.func6, rfl, by decide⟩
theorem bd7 : Body Try.prog 7 := ⟨_, Try.func7, rfl, by decide⟩
theorem bd8 : Body Try.prog 8 := ⟨_, Try.func8, rfl, by decide⟩
theorem bd9 : Body Try.prog 9 := ⟨_, Try.func9, rfl, by decide⟩
theorem bd10 : Body Try.prog 10 := ⟨_, Try.func10, rfl, by decide⟩
theorem bd11 : Body Try.prog 11 := ⟨_, Try.func11, rfl, by decide⟩
theorem bd12 : Body Try.prog 12 := ⟨_, Try.func12, rfl, by decide⟩
theorem bd13 : Body Try.prog 13 := ⟨_, Try.func13, rfl, by decide⟩
theorem bd14 : Body Try.prog 14 := ⟨_, Try.func14, rfl, by decide⟩
theorem bd15 : Body Try.prog 15 := ⟨_, Try.func15, rfl, by decide⟩
theorem bd16 : Body Try.prog 16 := ⟨_, Try.func16, rfl, by decide⟩
theorem bd17 : Body Try.prog 17 := ⟨_, Try.func17, rfl, by decide⟩
theorem bd18 : Body Try.prog 18 := ⟨_, Try.func18, rfl, by decide⟩
theorem bd19 : Body Try.prog 19 := ⟨_, Try.func19, rfl, by decide⟩
theorem bd20 : Body Try.prog 20 := ⟨_, Try.func20, rfl, by decide⟩
theorem bd21 : Body Try.prog 21 := ⟨_, Try.func21, rfl, by decide⟩
theorem bd22 : Body Try.prog 22 := ⟨_, Try.func22, rfl, by decide⟩
theorem bd23 : Body Try.prog 23 := ⟨_, Try.func23, rfl, by decide⟩
theorem bd24 : Body Try.prog 24 := ⟨_, Try.func24, rfl, by decide⟩
theorem bd25 : Body Try.prog 25 := ⟨_, Try.func25, rfl, by decide⟩
theorem bd26 : Body Try.prog 26 := ⟨_, Try.func26, rfl, by decide⟩
theorem bd27 : Body Try.prog 27 := ⟨_, Try.func27, rfl, by decide⟩
theorem bd28 : Body Try.prog 28 := ⟨_, Try.func28, rfl, by decide⟩
theorem bd29 : Body Try.prog 29 := ⟨_, Try.func29, rfl, by decide⟩
theorem bd30 : Body Try.prog 30 := ⟨_, Try.func30, rfl, by decide⟩
theorem bd31 : Body Try.prog 31 := ⟨_, Try.func31, rfl, by decide⟩
theorem bd32 : Body Try.prog 32 := ⟨_, Try.func32, rfl, by decide⟩
theorem bd33 : Body Try.prog 33 := ⟨_, Try.func33, rfl, by decide⟩
theorem bd34 : Body Try.prog 34 := ⟨_, Try.func34, rfl, by decide⟩
theorem bd35 : Body Try.prog 35 := ⟨_, Try.func35, rfl, by decide⟩
theorem bd36 : Body Try.prog 36 := ⟨_, Try.func36, rfl, by decide⟩
theorem bd37 : Body Try.prog 37 := ⟨_, Try.func37, rfl, by decide⟩
theorem bd38 : Body Try.prog 38 := ⟨_, Try.func38, rfl, by decide⟩
theorem bd39 : Body Try.prog 39 := ⟨_, Try.func39, rfl, by decide⟩
theorem bd40 : Body Try.prog 40 := ⟨_, Try.func40, rfl, by decide⟩
theorem bd41 : Body Try.prog 41 := ⟨_, Try.func41, rfl, by decide⟩
theorem bd42 : Body Try.prog 42 := ⟨_, Try.func42, rfl, by decide⟩
theorem bd43 : Body Try.prog 43 := ⟨_, Try.func43, rfl, by decide⟩
theorem bd44 : Body Try.prog 44 := ⟨_, Try.func44, rfl, by decide⟩
theorem bd45 : Body Try.prog 45 := ⟨_, Try.func45, rfl, by decide⟩
theorem bd46 : Body Try.prog 46 := ⟨_, Try.func46, rfl, by decide⟩
theorem bd47 : Body Try.prog 47 := ⟨_, Try.func47, rfl, by decide⟩
theorem bd48 : Body Try.prog 48 := ⟨_, Try.func48, rfl, by decide⟩
end Go.Proofs.Ytiimjkpcljelpaa
