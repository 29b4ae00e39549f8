/- What the list of operations is, and what the deferred recover does in a frame that panics and in one that returns; for every world. -/
import Derived.Test.YthaihlhikjidhaaRows
import Derived.WalkKit
import Derived.WalkLawsBesides
import Derived.Defers
import Derived.Recover
namespace Go.Proofs.Ythaihlhikjidhaa
open Go.RowKit (wrap32 wrap64)

def opsCells : Array Value := #[.int .i64 3, .func (.func 22) #[] #[], .int .i64 4, .func (.func 23) #[] #[], .int .i64 5, .func (.func 24) #[] #[],
  .int .i64 6, .func (.func 25) #[] #[], .int .i64 7, .func (.func 26) #[] #[], .int .i64 8, .func (.func 27) #[] #[], .int .i64 9, .func (.func 28) #[] #[],
  .int .i64 10, .func (.func 29) #[] #[], .int .i64 11, .func (.func 30) #[] #[], .int .i64 12, .func (.func 31) #[] #[], .int .i64 13, .func (.func 32) #[] #[],
  .int .i64 14, .func (.func 34) #[] #[], .int .i64 15, .func (.func 36) #[] #[]]

theorem ops_any (w : World) : Calls Try.prog 16 #[] w fun e w' => e = .returned (.slice (some ⟨w.heap.size, 0, none⟩) 13 13) ∧ w.alloc (.cells opsCells 39) = w' := by
  go_enter Try.func16, Try.ntmps16
  go_wp2
  go_ret
  exact ⟨rfl, rfl⟩

theorem addr_ne {b c o p : Nat} (h : b ≠ c) : (⟨b, o, none⟩ : Addr) ≠ ⟨c, p, none⟩ := fun e => h (by injection e)

/-- the deferred closure, in a frame that panics -/
theorem catch_panicking (b1 b2 b3 : Nat) (n1 n2 : Int) (x3 : Bool) (u : TypeId) (pv : Value) (older : List PanicEntry) (w : World)
    (h12 : b1 ≠ b2) (h13 : b1 ≠ b3) (h23 : b2 ≠ b3)
    (hc1 : w.cell? ⟨b1, 0, none⟩ = some (.int .u32 n1)) (hz1 : w.frozen? ⟨b1, 0, none⟩ = false)
    (hc2 : w.cell? ⟨b2, 0, none⟩ = some (.int .i64 n2)) (hz2 : w.frozen? ⟨b2, 0, none⟩ = false)
    (hc3 : w.cell? ⟨b3, 0, none⟩ = some (.bool x3)) (hz3 : w.frozen? ⟨b3, 0, none⟩ = false) :
    CallsD Try.prog 17 #[.pointer (some ⟨b1, 0, none⟩), .pointer (some ⟨b2, 0, none⟩), .pointer (some ⟨b3, 0, none⟩)] (.panicking ({ v := .iface u pv, recovered := false } :: older)) w fun e u' w' =>
      e = .returned (.tuple #[]) ∧ u' = .panicking ({ v := .iface u pv, recovered := true } :: older) ∧
      w' = ((w.setCell ⟨b1, 0, none⟩ (.int .u32 0)).setCell ⟨b2, 0, none⟩ (.int .i64 7)).setCell ⟨b3, 0, none⟩ (.bool true) := by
  have e2 : ∀ v, (w.setCell ⟨b1, 0, none⟩ v).cell? ⟨b2, 0, none⟩ = some (.int .i64 n2) := fun v => by rw [World.cell?_setCell_other _ _ _ _ (addr_ne h12), hc2]
  have e3 : ∀ v u, ((w.setCell ⟨b1, 0, none⟩ v).setCell ⟨b2, 0, none⟩ u).cell? ⟨b3, 0, none⟩ = some (.bool x3) := fun v u => by rw [World.cell?_setCell_other _ _ _ _ (addr_ne h23), World.cell?_setCell_other _ _ _ _ (addr_ne h13), hc3]
  refine callsD_of_wpS Try.func17 rfl fun c₀ cs hu => ?_
  apply wpS_seq
  apply wpS_region
  simp [wpOpsS, go_sem, recoverD, hu, Try.ntmps17, Exit.thenS]
  refine wpS_cond (t := true) (by simp [Act.eval, Array.replicate]) ?_
  simp only [if_true]
  apply wpS_region
  simp [wpOpsS, go_sem, hc1, hz1, e2, hz2, e3, hz3, bodyPostS, results, Try.results17]

theorem catch_idle (p q r : Addr) (w : World) :
    CallsD Try.prog 17 #[.pointer (some p), .pointer (some q), .pointer (some r)] .returning w fun e u' w' => e = .returned (.tuple #[]) ∧ u' = .returning ∧ w' = w := by
  refine callsD_of_wpS Try.func17 rfl fun c₀ cs hu => ?_
  apply wpS_seq
  apply wpS_region
  simp [wpOpsS, go_sem, recoverD, hu, Try.ntmps17, Exit.thenS]
  refine wpS_cond (t := false) (by simp [Act.eval, Array.replicate]) ?_
  simp only [Bool.false_eq_true, if_false]
  refine wpS_of_wp (wp_skip ?_)
  cases c₀
  simp_all [bodyPostS, results, Try.results17]
end Go.Proofs.Ythaihlhikjidhaa
