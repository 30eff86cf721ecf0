/- Blocks of memory that stay: helpers. -/
import Derived.Test.YtfiacjdkdjkiiaaOwn
import Derived.Deep.DrawnRows
import Derived.Test.YtfiacjdkdjkiiaaGPl
import Derived.Test.YtfiacjdkdjkiiaaGWb
import Derived.Test.YtfiacjdkdjkiiaaGWa
namespace Go.Proofs.Ytfiacjdkdjkiiaa
open Go.RowKit
set_option linter.unusedVariables false
set_option linter.unusedSimpArgs false
theorem heap_of_below {w w' : World} {b : Nat} {o : Obj} (hb : Below w.heap.size w w') (h : w.heap[b]? = some o) : w'.heap[b]? = some o := by
  have hlt : b < w.heap.size := by
    rcases Nat.lt_or_ge b w.heap.size with h' | h'
    · exact h'
    · rw [Array.getElem?_eq_none h'] at h; cases h
  exact (hb.block b hlt).trans h
theorem cell_of_heap {w : World} {b k : Nat} {cs : Array Value} {T : TypeId} {fr : Nat × Nat} (h : w.heap[b]? = some (.cells cs T fr)) : w.cell? ⟨b, k, none⟩ = cs[k]? := by
  simp [World.cell?, h]
theorem frozen_of_heap {w : World} {b k : Nat} {cs : Array Value} {T : TypeId} (h : w.heap[b]? = some (.cells cs T (0, 0))) : w.frozen? ⟨b, k, none⟩ = false := by
  simp [World.frozen?, h]
theorem heap_lt {w : World} {b : Nat} {o : Obj} (h : w.heap[b]? = some o) : b < w.heap.size := by
  rcases Nat.lt_or_ge b w.heap.size with h' | h'
  · exact h'
  · rw [Array.getElem?_eq_none h'] at h; cases h

theorem below_undrew {w w' : World} (h : Below w.drew.heap.size w.drew w') : Below w.heap.size w w' := ⟨h.os, h.tape, h.output, h.size, h.block⟩
theorem below_app {wo wq w3 : World} {B : Nat} {o : Obj} {row : Option Nat} {p : Addr} {u : Value} (h : Below B wo wq) (hB : B ≤ wq.heap.size) (hg : (wq.drew.alloc o).grownBy w3 row) (hr : ∀ g, row = some g → B ≤ g) (hp : B ≤ p.block) : Below B wo (w3.setCell p u) :=
  (((h.drew.alloc hB o).grown hg (by simp; omega) hr).setCell hp u)
theorem below_app' {wo wq w3 : World} {B : Nat} {o : Obj} {row : Option Nat} {p : Addr} {u : Value} (h : Below B wo wq) (hB : B ≤ wq.heap.size) (hg : (wq.alloc o).grownBy w3 row) (hr : ∀ g, row = some g → B ≤ g) (hp : B ≤ p.block) : Below B wo (w3.setCell p u) :=
  (((h.alloc hB o).grown hg (by simp; omega) hr).setCell hp u)
theorem heap_app {wq w3 : World} {B : Nat} {o : Obj} {row : Option Nat} {x : Option Obj} (hg : (wq.alloc o).grownBy w3 row) (h : wq.heap[B]? = x) (hlt : B < wq.heap.size) (hne : some B ≠ row) : w3.heap[B]? = x := by
  rw [hg.block B (by simp; omega) hne, Below.heap_alloc _ _ _ hlt]; exact h
theorem heap_app_drew {wq w3 : World} {B : Nat} {o : Obj} {row : Option Nat} {x : Option Obj} (hg : (wq.drew.alloc o).grownBy w3 row) (h : wq.heap[B]? = x) (hlt : B < wq.heap.size) (hne : some B ≠ row) : w3.heap[B]? = x :=
  heap_app (wq := wq.drew) hg h hlt hne

theorem OwnL.cap_le {α : Type} {K : Kd α} {w : World} {base n c : Nat} {a : Option Addr} {xs : List α} (h : OwnL K w base (.slice a n c) xs) : xs.length ≤ c := by
  obtain ⟨css, hl, ho, hk⟩ := h
  rcases ho.2 with ⟨e, h0⟩ | ⟨g, cap, cur, e, _, _, hn, _⟩
  · omega
  · simp only [Value.slice.injEq] at e
    omega
end Go.Proofs.Ytfiacjdkdjkiiaa
