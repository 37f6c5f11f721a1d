/- formed: first, not, and what a rule answers. -/
import Derived.Test.YtpkggopaigledaaDoorAtom
import Derived.Test.YtpkggopaigledaaDoorRow
namespace Go.Proofs.YtpkggopaigledaaDoor
open Go.RowKit

/-- A rule: a function value that answers e in every world since W0. -/
def Rule (W0 : World) (v : Value) (e : Int) : Prop := ∃ i cap, v = .func (.func i) #[] cap ∧ (∀ W, (callFunc i cap).run Tryd.prog W = .ok (.enter i cap) W) ∧ ∀ W, Since W0 W → Calls Tryd.prog i cap W fun x w' => x = .returned (.int .i64 e) ∧ Since W w'
theorem Rule.next {W W' : World} {v : Value} {e : Int} (h : Rule W v e) (hs : Since W W') : Rule W' v e := by
  obtain ⟨i, cap, h1, hr, h2⟩ := h
  exact ⟨i, cap, h1, hr, fun X hX => h2 X (hs.trans hX)⟩
def firstE : List Int → Int
  | [] => 0
  | e :: r => if e = 0 then firstE r else e
/-- What not makes. -/
def NotV (W : World) (v : Value) (b : Bool) (e : Int) : Prop := ∃ g, v = .func (.func 73) #[] #[.pointer (some ⟨g, 0, none⟩), .pointer (some ⟨g + 1, 0, none⟩)] ∧ W.cell? ⟨g, 0, none⟩ = some (.bool b) ∧ W.cell? ⟨g + 1, 0, none⟩ = some (.int .i64 e)

set_option maxHeartbeats 400000 in
theorem not1_any (g : Nat) (b : Bool) (e : Int) (w : World) (h1 : w.cell? ⟨g, 0, none⟩ = some (.bool b)) (h2 : w.cell? ⟨g + 1, 0, none⟩ = some (.int .i64 e)) :
    Calls Tryd.prog 73 #[.pointer (some ⟨g, 0, none⟩), .pointer (some ⟨g + 1, 0, none⟩)] w fun x w' => x = .returned (.int .i64 (if b then e else 0)) ∧ Since w w' := by
  cases b <;>
  · go_enter Tryd.func73, Tryd.ntmps73
    go_wp2
    go_ret
    exact ⟨rfl, Since.refl _⟩
set_option maxRecDepth 100000 in
theorem run_not1 (cap : Array Value) (W : World) : (callFunc 73 cap).run Tryd.prog W = .ok (.enter 73 cap) W := by kernel_rfl
theorem NotV.rule {W : World} {v : Value} {b : Bool} {e : Int} (h : NotV W v b e) : Rule W v (if b then e else 0) := by
  obtain ⟨g, h1, h2, h3⟩ := h
  exact ⟨_, _, h1, run_not1 _, fun X hX => not1_any g b e X (hX.cell h2) (hX.cell h3)⟩
set_option maxHeartbeats 400000 in
theorem not_any (b : Bool) (e : Int) (w : World) :
    Calls Tryd.prog 45 #[.bool b, .int .i64 e] w fun x w' => ∃ v, x = .returned v ∧ NotV w' v b e ∧ Since w w' := by
  have hmf : ∀ (fn : Fn) (first cap : Array Value) (w : World), (Instr.makeFunc fn first cap).run Tryd.prog w = .ok (.func fn first cap) w := fun _ _ _ _ => rfl
  go_enter Tryd.func45, Tryd.ntmps45
  go_wp2
  go_ret
  refine ⟨_, rfl, ⟨w.heap.size, rfl, ?_, ?_⟩, ((Since.refl _).alloc _).alloc _⟩
  · simp
  · simp
set_option maxHeartbeats 1000000 in
set_option maxRecDepth 100000 in
theorem first_any (b o c n : Nat) (vs : List Value) (es : List Int) (w : World) (hn : vs.length = n) (he : es.length = n) (hc : n ≤ 100)
    (hv : ∀ k, (h : k < vs.length) → w.cell? ⟨b, o + k, none⟩ = some vs[k]) (hr : ∀ k, (h : k < vs.length) → (h' : k < es.length) → Rule w vs[k] es[k]) :
    Calls Tryd.prog 42 #[.slice (some ⟨b, o, none⟩) n c] w fun x w' => x = .returned (.int .i64 (firstE es)) ∧ Since w w' := by
  go_enter Tryd.func42, Tryd.ntmps42
  go_wp2_with fail
  go_loopw [8] (fun m wr => ∃ k : Nat, k ≤ n ∧ m = .int .i64 (k : Int) ∧ firstE es = firstE (es.drop k) ∧ Since w wr) (fun m _ => n - (intOf m).toNat)
  case atStart => exact ⟨0, by omega, rfl, rfl, Since.refl _⟩
  case round =>
    obtain ⟨k, hk, rfl, hE, hS⟩ := hrel
    by_cases hlt : k < n
    · have hlt2 : (k : Int) < (n : Int) := by omega
      have d := hS.cell (hv k (by omega))
      obtain ⟨i, cap, hvk, hrun, hcall⟩ := hr k (by omega) (by omega)
      rw [hvk] at d
      rw [List.drop_eq_getElem_cons (by omega)] at hE
      have hcall2 := Lib.hid (hcall wr hS)
      clear hcall
      go_wp2_with fail
      refine hcall2.out.mono ?_
      rintro e w2 ⟨rfl, hb⟩
      have hS2 := hS.trans hb
      clear hcall2 hb
      by_cases he0 : es[k] = 0
      · go_wp2_with fail
        go_roundw
        case rel => exact ⟨k + 1, by omega, by go_num, by rw [hE, firstE, if_pos he0], hS2⟩
        case measure => simp [intOf]; omega
      · go_wp2_with fail
        go_ret
        exact ⟨by rw [hE, firstE, if_neg he0]; rfl, hS2⟩
    · have hlt2 : ¬ (k : Int) < (n : Int) := by omega
      have hkn : k = n := by omega
      go_wp2_with fail
      go_ret
      refine ⟨?_, hS⟩
      rw [List.drop_eq_nil_of_le (by omega)]; rfl
end Go.Proofs.YtpkggopaigledaaDoor
