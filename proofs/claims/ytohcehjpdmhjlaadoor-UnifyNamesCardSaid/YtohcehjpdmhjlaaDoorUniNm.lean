/- The contracts of what UnifyNames calls, at its literals. -/
import Derived.Test.YtohcehjpdmhjlaaDoorUniLv
import Derived.Test.YtohcehjpdmhjlaaDoorUniMe
import Derived.Test.YtohcehjpdmhjlaaDoorMkN
import Derived.Test.YtohcehjpdmhjlaaDoorUniN2
namespace Go.Proofs.YtohcehjpdmhjlaaDoor
open Go.RowKit

theorem nm_c1 : checkA (([97, 108, 105, 99, 101], [112], 2, (true, [65]), (true, [66]), (false, []), (false, [])) : Atm) = 0 := by kernel_rfl
theorem nm_c2 : checkA (([97, 108, 105, 99, 101], [112], 2, (true, [66]), (true, [67]), (false, []), (false, [])) : Atm) = 0 := by kernel_rfl
theorem nm_c3 : checkA (([97, 108, 105, 99, 101], [112], 2, (true, [88]), (true, [88]), (false, []), (false, [])) : Atm) = 0 := by kernel_rfl
theorem nm_c4 : checkA (([97, 108, 105, 99, 101], [112], 2, (false, [97]), (false, [98]), (false, []), (false, [])) : Atm) = 0 := by kernel_rfl
theorem nm_c5 : checkA (([97, 108, 105, 99, 101], [112], 3, (true, [88]), (false, [98]), (true, [89]), (false, [])) : Atm) = 0 := by kernel_rfl
theorem nm_u1 : uniA (([97, 108, 105, 99, 101], [112], 2, (true, [65]), (true, [66]), (false, []), (false, [])) : Atm) (([97, 108, 105, 99, 101], [112], 2, (true, [66]), (true, [67]), (false, []), (false, [])) : Atm) = some [([66], (true, [65])), ([67], (true, [65]))] := by decide +kernel
theorem nm_u2 : uniA (([97, 108, 105, 99, 101], [112], 2, (true, [88]), (true, [88]), (false, []), (false, [])) : Atm) (([97, 108, 105, 99, 101], [112], 2, (false, [97]), (false, [98]), (false, []), (false, [])) : Atm) = none := by decide +kernel
set_option maxHeartbeats 1000000 in
theorem nm_un1 (w : World) : Calls Tryd.prog 16 #[.agg #[.string ⟨#[97, 108, 105, 99, 101]⟩, .string ⟨#[112]⟩, .int .i64 2, .bool true, .string ⟨#[65]⟩, .bool true, .string ⟨#[66]⟩, .bool false, .string ⟨#[]⟩, .bool false, .string ⟨#[]⟩], .agg #[.string ⟨#[97, 108, 105, 99, 101]⟩, .string ⟨#[112]⟩, .int .i64 2, .bool true, .string ⟨#[66]⟩, .bool true, .string ⟨#[67]⟩, .bool false, .string ⟨#[]⟩, .bool false, .string ⟨#[]⟩]] w fun e w' => ∃ v, e = .returned (.tuple #[v, .bool true]) ∧ RowS w' v [([66], (true, [65])), ([67], (true, [65]))] ∧ Since w w' :=
  unify_some [97, 108, 105, 99, 101] [112] 2 true true false false [65] [66] [] [] [97, 108, 105, 99, 101] [112] 2 true true false false [66] [67] [] [] nm_c1 nm_c2 nm_u1 w
set_option maxHeartbeats 1000000 in
theorem nm_un2 (w : World) : Calls Tryd.prog 16 #[.agg #[.string ⟨#[97, 108, 105, 99, 101]⟩, .string ⟨#[112]⟩, .int .i64 2, .bool true, .string ⟨#[88]⟩, .bool true, .string ⟨#[88]⟩, .bool false, .string ⟨#[]⟩, .bool false, .string ⟨#[]⟩], .agg #[.string ⟨#[97, 108, 105, 99, 101]⟩, .string ⟨#[112]⟩, .int .i64 2, .bool false, .string ⟨#[97]⟩, .bool false, .string ⟨#[98]⟩, .bool false, .string ⟨#[]⟩, .bool false, .string ⟨#[]⟩]] w fun e w' => e = .returned (.tuple #[.slice none 0 0, .bool false]) ∧ Since w w' :=
  unify_none [97, 108, 105, 99, 101] [112] 2 true true false false [88] [88] [] [] [97, 108, 105, 99, 101] [112] 2 false false false false [97] [98] [] [] nm_c3 nm_c4 nm_u2 w
set_option maxHeartbeats 1000000 in
theorem nm_un3 (w : World) : Calls Tryd.prog 16 #[.agg #[.string ⟨#[97, 108, 105, 99, 101]⟩, .string ⟨#[112]⟩, .int .i64 1, .bool true, .string ⟨#[88]⟩, .bool false, .string ⟨#[]⟩, .bool false, .string ⟨#[]⟩, .bool false, .string ⟨#[]⟩], .agg #[.string ⟨#[97, 108, 105, 99, 101]⟩, .string ⟨#[113]⟩, .int .i64 1, .bool true, .string ⟨#[88]⟩, .bool false, .string ⟨#[]⟩, .bool false, .string ⟨#[]⟩, .bool false, .string ⟨#[]⟩]] w fun e w' => e = .returned (.tuple #[.slice none 0 0, .bool false]) ∧ Since w w' :=
  unify_ne [97, 108, 105, 99, 101] [112] 1 true false false false [88] [] [] [] [97, 108, 105, 99, 101] [113] 1 true false false false [88] [] [] [] (fun h => absurd h.2.1 (by decide)) w
theorem nm_two (v : Value) (w w0 : World) (hv : RowOf 3 bndC w0 v [([66], (true, [65])), ([67], (true, [65]))]) (hs : Since w0 w) :
    Calls Tryd.prog 19 #[v, .slice (some ⟨w.heap.size, 0, none⟩) 2 2] (w.alloc (.cells #[.string ⟨#[66]⟩, .bool true, .string ⟨#[65]⟩, .string ⟨#[67]⟩, .bool true, .string ⟨#[65]⟩] 49)) fun e w' => e = .returned (.bool true) ∧ Since w w' := by
  have h := same_bnd v (.slice (some ⟨w.heap.size, 0, none⟩) 2 2) [([66], (true, [65])), ([67], (true, [65]))] (w.alloc (.cells #[.string ⟨#[66]⟩, .bool true, .string ⟨#[65]⟩, .string ⟨#[67]⟩, .bool true, .string ⟨#[65]⟩] 49)) (hv.next (hs.alloc _)) (bnd_two w ([66], (true, [65])) ([67], (true, [65])) w.heap.size rfl) (by decide)
  refine h.mono ?_
  rintro e w' ⟨rfl, hb⟩
  exact ⟨rfl, ((Since.refl w).alloc _).trans hb⟩
theorem nm_two2 (v : Value) (w : World) (hv : RowOf 3 bndC (w.alloc (.cells #[.string ⟨#[66]⟩, .bool true, .string ⟨#[65]⟩, .string ⟨#[67]⟩, .bool true, .string ⟨#[65]⟩] 49)) v [([66], (true, [65])), ([67], (true, [65]))]) :
    Calls Tryd.prog 19 #[v, .slice (some ⟨w.heap.size, 0, none⟩) 2 2] (w.alloc (.cells #[.string ⟨#[66]⟩, .bool true, .string ⟨#[65]⟩, .string ⟨#[67]⟩, .bool true, .string ⟨#[65]⟩] 49)) fun e w' => e = .returned (.bool true) ∧ Since (w.alloc (.cells #[.string ⟨#[66]⟩, .bool true, .string ⟨#[65]⟩, .string ⟨#[67]⟩, .bool true, .string ⟨#[65]⟩] 49)) w' :=
  same_bnd v (.slice (some ⟨w.heap.size, 0, none⟩) 2 2) [([66], (true, [65])), ([67], (true, [65]))] (w.alloc (.cells #[.string ⟨#[66]⟩, .bool true, .string ⟨#[65]⟩, .string ⟨#[67]⟩, .bool true, .string ⟨#[65]⟩] 49)) hv (bnd_two w ([66], (true, [65])) ([67], (true, [65])) w.heap.size rfl) (by decide)
theorem kA_sel (n : Nat) (x : Value) (b c : Nat) (w : World) (h : (n = 2 ∧ x = .agg #[.string ⟨#[97, 108, 105, 99, 101]⟩, .string ⟨#[112]⟩, .int .i64 2, .bool false, .string ⟨#[97]⟩, .bool false, .string ⟨#[98]⟩, .bool false, .string ⟨#[]⟩, .bool false, .string ⟨#[]⟩] ∧ w.cell? ⟨b, 0, none⟩ = some (.string ⟨#[97]⟩) ∧ w.cell? ⟨b, 0 + 1, none⟩ = some (.string ⟨#[98]⟩)) ∨ (n = 3 ∧ x = .agg #[.string ⟨#[97, 108, 105, 99, 101]⟩, .string ⟨#[112]⟩, .int .i64 3, .bool true, .string ⟨#[88, 35, 49, 50]⟩, .bool false, .string ⟨#[98]⟩, .bool true, .string ⟨#[89, 35, 49, 50]⟩, .bool false, .string ⟨#[]⟩] ∧ w.cell? ⟨b, 0, none⟩ = some (.string ⟨#[88, 35, 49, 50]⟩) ∧ w.cell? ⟨b, 0 + 1, none⟩ = some (.string ⟨#[98]⟩) ∧ w.cell? ⟨b, 0 + 2, none⟩ = some (.string ⟨#[89, 35, 49, 50]⟩))) :
    Calls Tryd.prog 18 #[.string ⟨#[97, 108, 105, 99, 101]⟩, .string ⟨#[112]⟩, .slice (some ⟨b, 0, none⟩) n c] w fun e w' => e = .returned x ∧ Since w w' := by
  rcases h with ⟨rfl, rfl, h0, h1⟩ | ⟨rfl, rfl, h0, h1, h2⟩
  · exact kA_a_b [97, 108, 105, 99, 101] [112] b 0 c w h0 h1
  · exact kA_Xz3512_b_Yz3512 [97, 108, 105, 99, 101] [112] b 0 c w h0 h1 h2
theorem nm_inv : InvB [([88], (false, [97])), ([89], (false, [98]))] := by
  refine ⟨⟨by decide, trivial⟩, fun b hb => ?_⟩
  simp only [List.mem_cons, List.not_mem_nil, or_false] at hb
  rcases hb with rfl | rfl <;> exact ⟨by decide, by decide, by decide⟩
set_option maxHeartbeats 1000000 in
theorem nm_meet (w : World) : Calls Tryd.prog 9 #[.agg #[.string ⟨#[97, 108, 105, 99, 101]⟩, .string ⟨#[112]⟩, .int .i64 2, .bool true, .string ⟨#[88]⟩, .bool false, .string ⟨#[98]⟩, .bool false, .string ⟨#[]⟩, .bool false, .string ⟨#[]⟩], .agg #[.string ⟨#[97, 108, 105, 99, 101]⟩, .string ⟨#[112]⟩, .int .i64 2, .bool false, .string ⟨#[97]⟩, .bool true, .string ⟨#[89]⟩, .bool false, .string ⟨#[]⟩, .bool false, .string ⟨#[]⟩]] w fun e w' => e = .returned (.tuple #[.agg #[.string ⟨#[97, 108, 105, 99, 101]⟩, .string ⟨#[112]⟩, .int .i64 2, .bool false, .string ⟨#[97]⟩, .bool false, .string ⟨#[98]⟩, .bool false, .string ⟨#[]⟩, .bool false, .string ⟨#[]⟩], .bool true]) ∧ Since w w' :=
  meet_some [97, 108, 105, 99, 101] [112] 2 true false false false [88] [98] [] [] [97, 108, 105, 99, 101] [112] 2 false true false false [97] [89] [] [] (nam_of lv_c1) (nam_of lv_c2) lv_u1 nm_inv (by decide) [97, 108, 105, 99, 101] [112] 2 false false false false [97] [98] [] [] (by kernel_rfl) w
set_option maxHeartbeats 1000000 in
theorem nm_ren (w : World) (hE : EnvP w) : Calls Tryd.prog 10 #[.agg #[.string ⟨#[97, 108, 105, 99, 101]⟩, .string ⟨#[112]⟩, .int .i64 3, .bool true, .string ⟨#[88]⟩, .bool false, .string ⟨#[98]⟩, .bool true, .string ⟨#[89]⟩, .bool false, .string ⟨#[]⟩], .int .i64 12] w fun e w' => e = .returned (.agg #[.string ⟨#[97, 108, 105, 99, 101]⟩, .string ⟨#[112]⟩, .int .i64 3, .bool true, .string ⟨#[88, 35, 49, 50]⟩, .bool false, .string ⟨#[98]⟩, .bool true, .string ⟨#[89, 35, 49, 50]⟩, .bool false, .string ⟨#[]⟩]) ∧ Since w w' := by
  have h := rename_nat [97, 108, 105, 99, 101] [112] 3 true false true false [88] [98] [89] [] nm_c5 (by decide +kernel) 12 (by decide) w hE
  rw [show atmC (markA (35 :: Lib.decDigits 12) (([97, 108, 105, 99, 101], [112], 3, (true, [88]), (false, [98]), (true, [89]), (false, [])) : Atm)) = #[.string ⟨#[97, 108, 105, 99, 101]⟩, .string ⟨#[112]⟩, .int .i64 3, .bool true, .string ⟨#[88, 35, 49, 50]⟩, .bool false, .string ⟨#[98]⟩, .bool true, .string ⟨#[89, 35, 49, 50]⟩, .bool false, .string ⟨#[]⟩] by rw [show Lib.decDigits 12 = [49, 50] by decide +kernel]; rfl] at h
  exact h
theorem nm_neg (w : World) : Calls Tryd.prog 10 #[.agg #[.string ⟨#[97, 108, 105, 99, 101]⟩, .string ⟨#[112]⟩, .int .i64 3, .bool true, .string ⟨#[88, 35, 49, 50]⟩, .bool false, .string ⟨#[98]⟩, .bool true, .string ⟨#[89, 35, 49, 50]⟩, .bool false, .string ⟨#[]⟩], .int .i64 (-1)] w fun e w' => e = .returned (.agg #[.string ⟨#[97, 108, 105, 99, 101]⟩, .string ⟨#[112]⟩, .int .i64 3, .bool true, .string ⟨#[88, 35, 49, 50]⟩, .bool false, .string ⟨#[98]⟩, .bool true, .string ⟨#[89, 35, 49, 50]⟩, .bool false, .string ⟨#[]⟩]) ∧ Since w w' :=
  rename_neg [97, 108, 105, 99, 101] [112] 3 true false true false [88, 35, 49, 50] [98] [89, 35, 49, 50] [] w
theorem nm_m1 (w : World) (hE : EnvP w) : Calls Tryd.prog 15 #[.string ⟨#[88, 35, 49, 50]⟩] w fun e w' => e = .returned (.tuple #[.string ⟨#[88]⟩, .int .i64 12, .bool true]) ∧ Since w w' := by
  have h := marked_ok [88] (by decide) (by decide) 12 (by decide) w (fun W hW => itoa_any 12 (by decide) W (hE.next hW))
  rw [show Lib.decDigits 12 = [49, 50] by decide +kernel] at h
  exact h
theorem nm_m5 (w : World) (hE : EnvP w) : Calls Tryd.prog 15 #[.string ⟨#[88, 35, 49, 35, 48]⟩] w fun e w' => e = .returned (.tuple #[.string ⟨#[88, 35, 49]⟩, .int .i64 0, .bool true]) ∧ Since w w' := by
  have h := marked_ok [88, 35, 49] (by decide) (by decide) 0 (by decide) w (fun W hW => itoa_any 0 (by decide) W (hE.next hW))
  rw [show Lib.decDigits 0 = [48] by decide +kernel] at h
  exact h
end Go.Proofs.YtohcehjpdmhjlaaDoor
