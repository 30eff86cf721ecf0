/- The map of known states: what a look-up finds, what an update leaves; arrays of prices compared. -/
import Derived.Test.YtfiacjdkdjkiiaaGWb
import Derived.Test.YtfiacjdkdjkiiaaWh
import Derived.Laws.StructEq
import Derived.ChangeKeysEq
namespace Go.Proofs.Ytfiacjdkdjkiiaa
open Go.RowKit
set_option linter.unusedVariables false
set_option linter.unusedSimpArgs false

/-- what is known is so -/
def Known (f : Nat → Nat → St) (es : Array MapEntry) : Prop := ∀ e ∈ es.toList, ∃ i n : Nat, e.key = keyV i n ∧ e.val = stV (f i n)
def MapAt (w : World) (B : Nat) (f : Nat → Nat → St) : Prop := ∃ es clock, w.heap[B]? = some (.map es clock) ∧ Known f es

theorem find_st (f : Nat → Nat → St) (i n : Nat) : ∀ (es : List MapEntry) (j : Nat), (∀ e ∈ es, ∃ i n : Nat, e.key = keyV i n ∧ e.val = stV (f i n)) →
    (∀ w, (Instr.findAsking 120 (keyV i n) es j).run Try.prog w = .ok none w) ∨ (∃ k e, es[k]? = some e ∧ e.key = keyV i n ∧ ∀ w, (Instr.findAsking 120 (keyV i n) es j).run Try.prog w = .ok (some (j + k, stV (f i n))) w) := by
  intro es
  induction es with
  | nil => intro j _; left; simp [Instr.findAsking]
  | cons e es ih =>
    intro j h
    obtain ⟨i', n', hk, hv⟩ := h e (by simp)
    have he := fun w => eq_spot i n i' n' w
    have he' : ∀ w, (Op.equal 120 (keyV i n) e.key).run Try.prog w = .ok (((i : Int) == (i' : Int)) && ((n : Int) == (n' : Int))) w := by rw [hk]; exact he
    by_cases hh : i = i' ∧ n = n'
    · obtain ⟨rfl, rfl⟩ := hh
      right
      refine ⟨0, e, rfl, hk, ?_⟩
      simp [Instr.findAsking, he', hv]
    · have hb : (((i : Int) == (i' : Int)) && ((n : Int) == (n' : Int))) = false := by
        cases h1 : (((i : Int) == (i' : Int)) && ((n : Int) == (n' : Int)))
        · rfl
        · simp only [Bool.and_eq_true, beq_iff_eq] at h1; exact absurd ⟨by omega, by omega⟩ hh
      rcases ih (j + 1) (fun e' he' => h e' (by simp [he'])) with h1 | ⟨k, e', h1, h2, h3⟩
      · left
        simp [Instr.findAsking, he', hb, h1]
      · right
        refine ⟨k + 1, e', by simpa using h1, h2, ?_⟩
        have e4 : j + (k + 1) = j + 1 + k := by omega
        rw [e4]
        simp [Instr.findAsking, he', hb, h3]
theorem findKey_st (f : Nat → Nat → St) (i n : Nat) (es : List MapEntry) (h : ∀ e ∈ es, ∃ i n : Nat, e.key = keyV i n ∧ e.val = stV (f i n)) :
    (∀ w, (Instr.findKey 120 (keyV i n) es).run Try.prog w = .ok none w) ∨ (∃ k e, es[k]? = some e ∧ e.key = keyV i n ∧ ∀ w, (Instr.findKey 120 (keyV i n) es).run Try.prog w = .ok (some (k, stV (f i n))) w) := by
  cases es with
  | nil => left; simp [Instr.findKey, run_underlying Try.underlying120, Instr.findNow]
  | cons e es =>
    have := find_st f i n (e :: es) 0 h
    obtain ⟨i', n', hk, hv⟩ := h e (by simp)
    have hn : ∀ fs, Instr.findNow (.struct fs) (keyV i n) (e :: es) 0 = none := fun fs => by simp [Instr.findNow, Instr.sameNow, keyV, hk]
    simpa [Instr.findKey, run_underlying Try.underlying120, hn] using this

/-- a look-up, wherever the map is as it was: nothing is known, or what is so -/
theorem look_st {w : World} {B : Nat} {f : Nat → Nat → St} (h : MapAt w B f) (i n : Nat) :
    (∀ w' : World, w'.heap[B]? = w.heap[B]? → (Instr.lookup 147 (.map (some B)) (.agg #[.int .i64 i, .int .i64 n]) true).run Try.prog w' = .ok (.tuple #[.agg #[.int .i64 0, .int .i64 0, .int .i64 0], .bool false]) w') ∨
    (∀ w' : World, w'.heap[B]? = w.heap[B]? → (Instr.lookup 147 (.map (some B)) (.agg #[.int .i64 i, .int .i64 n]) true).run Try.prog w' = .ok (.tuple #[.agg #[.int .i64 (f i n).before, .int .i64 (f i n).value, .int .i64 (f i n).call], .bool true]) w') := by
  obtain ⟨es, clock, hb, hk⟩ := h
  have hc := fun e w => key_ok e i n w
  have hz := fun w => zero_st w
  rcases findKey_st f i n es.toList hk with h1 | ⟨k, e, h1, h2, h3⟩
  · left
    intro w' hw'
    rw [hb] at hw'
    have h1' : ∀ w, (Instr.findKey 120 (.agg #[.int .i64 i, .int .i64 n]) es.toList).run Try.prog w = .ok none w := h1
    simp [Instr.lookup, run_underlying Try.underlying147, MapKept.run_getObj_map hw', hc, h1', hz, Result.andThen]
  · right
    intro w' hw'
    rw [hb] at hw'
    have h3' : ∀ w, (Instr.findKey 120 (.agg #[.int .i64 i, .int .i64 n]) es.toList).run Try.prog w = .ok (some (k, .agg #[.int .i64 (f i n).before, .int .i64 (f i n).value, .int .i64 (f i n).call])) w := h3
    simp [Instr.lookup, run_underlying Try.underlying147, MapKept.run_getObj_map hw', hc, h3', Result.andThen]
theorem sameBits_key (i n : Nat) : Instr.sameBits 10000 (keyV i n) (keyV i n) = true := by simp [Instr.sameBits, keyV]
theorem put_st {w : World} {B : Nat} {f : Nat → Nat → St} (h : MapAt w B f) (i n : Nat) :
    ∃ w', (Instr.mapUpdate 147 (.map (some B)) (keyV i n) (stV (f i n))).run Try.prog w = .ok () w' ∧ MapAt w' B f ∧ w.grownBy w' (some B) ∧ w'.heap.size = w.heap.size := by
  obtain ⟨es, clock, hb, hk⟩ := h
  have hlt := heap_lt hb
  have hc := fun e => key_ok e i n w
  have key : ∀ o : Obj, (∃ es' clock', o = .map es' clock' ∧ Known f es') → MapAt { w with heap := w.heap.setIfInBounds B o } B f ∧ w.grownBy { w with heap := w.heap.setIfInBounds B o } (some B) ∧ ({ w with heap := w.heap.setIfInBounds B o } : World).heap.size = w.heap.size := by
    rintro o ⟨es', clock', rfl, hk'⟩
    refine ⟨⟨es', clock', by simp [hlt], hk'⟩, ⟨rfl, rfl, rfl, by simp, fun k hk hne => ?_⟩, by simp⟩
    show (w.heap.setIfInBounds B _)[k]? = _
    rw [Array.getElem?_setIfInBounds_ne (fun e => hne (by rw [e]))]
  rcases findKey_st f i n es.toList hk with h1 | ⟨k, e, h1, h2, h3⟩
  · refine ⟨_, by simp [Instr.mapUpdate, run_underlying Try.underlying147, MapKept.run_getObj_map hb, show ∀ e, (Instr.checkKey e 10000 120 (keyV i n)).run Try.prog w = .ok () w from hc, h1, MapKept.run_setObj_map _ hb, Result.andThen]; rfl, key _ ⟨_, _, rfl, ?_⟩⟩
    intro e he
    simp only [Array.toList_push, List.mem_append, List.mem_singleton] at he
    rcases he with he | rfl
    · exact hk e he
    · exact ⟨i, n, rfl, rfl⟩
  · have h1' : es[k]? = some e := by simpa using h1
    refine ⟨_, by simp [Instr.mapUpdate, run_underlying Try.underlying147, MapKept.run_getObj_map hb, show ∀ e, (Instr.checkKey e 10000 120 (keyV i n)).run Try.prog w = .ok () w from hc, h3, h1', h2, Instr.keyThatStays, sameBits_key, MapKept.run_setObj_map _ hb, Result.andThen]; rfl, key _ ⟨_, _, rfl, ?_⟩⟩
    intro e' he'
    simp only [Array.toList_modify] at he'
    obtain ⟨j, hj, rfl⟩ := List.getElem_of_mem he'
    rw [List.getElem_modify]
    split
    · exact ⟨i, n, rfl, rfl⟩
    · exact hk _ (List.getElem_mem _)
end Go.Proofs.Ytfiacjdkdjkiiaa
