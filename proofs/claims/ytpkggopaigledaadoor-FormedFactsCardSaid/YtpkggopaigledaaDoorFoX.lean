/- vouchsafelaw12.lives. -/
import Derived.Test.YtpkggopaigledaaDoorFoW
import Derived.Test.YtpkggopaigledaaDoorFoN
namespace Go.Proofs.YtpkggopaigledaaDoor
open Go.RowKit

def emptyP : Pol := ⟨[], [], [], 0, 0, [], []⟩
def loneP : Pol := ⟨[[97]], [([112], 1)], [], 0, 1, [((([97], [112], 1, (true, [88]), (false, []), (false, []), (false, [])) : Atm), [])], []⟩
theorem empty_at (W : World) : PolAt W none none none none none 0 0 0 0 0 0 0 0 0 0 0 0 emptyP := ⟨KRow.nil _ _, KRow.nil _ _, KRow.nil _ _, rfl, rfl, KRow.nil _ _, KRow.nil _ _⟩
theorem fits_lit {a : Atm} (h : (decide (a.1.length ≤ 100) && (decide (a.2.1.length ≤ 100) && (argsL a).all fun t => decide (t.2.length ≤ 100))) = true) : FitsA a := by
  simp only [Bool.and_eq_true, decide_eq_true_eq, List.all_eq_true] at h
  unfold FitsA maxLen
  exact ⟨by omega, by omega, fun t ht => by have := h.2.2 t ht; omega⟩
/-- Sizes of a literal policy. -/
def litB (P : Pol) : Bool := P.pr.all (fun x => decide (x.length ≤ 100)) && (decide (P.pr.length ≤ 100) && (P.pd.all (fun x => decide (x.1.length ≤ 100)) && (decide (P.pd.length ≤ 100) && (P.cl.all (fun x => decide (x.1.length ≤ 100) && decide (x.2.length ≤ 100)) && (decide (P.cl.length ≤ 100) &&
  (P.ru.all (fun x => atB x.1 && (x.2.all atB && decide (x.2.length ≤ 100))) && (P.gr.all (fun x => atB x.2.1 && (x.2.2.all atB && decide (x.2.2.length ≤ 100))) && (decide (P.ru.length ≤ 100) && decide (P.gr.length ≤ 100)))))))))
where atB (a : Atm) : Bool := decide (a.1.length ≤ 100) && (decide (a.2.1.length ≤ 100) && (argsL a).all fun t => decide (t.2.length ≤ 100))
theorem lit_fits {P : Pol} (h : litB P = true) : PolFits P := by
  simp only [litB, Bool.and_eq_true, List.all_eq_true, decide_eq_true_eq] at h
  obtain ⟨h1, h2, h3, h4, h5, h6, h7, h8, h9, h10⟩ := h
  have hA : ∀ a : Atm, litB.atB a = true → FitsA a := fun a ha => fits_lit ha
  refine ⟨fun x hx => by have := h1 x hx; unfold maxLen; omega, by omega, fun x hx => by have := h3 x hx; unfold maxLen; omega, by omega, fun x hx => ⟨by have := h5 x hx; unfold maxLen; omega, by have := h5 x hx; omega⟩, by omega, fun x hx => ⟨hA _ (h7 x hx).1, fun a ha => hA a ((h7 x hx).2.1 a ha), by have := (h7 x hx).2.2; omega⟩, fun x hx => ⟨hA _ (h8 x hx).1, fun a ha => hA a ((h8 x hx).2.1 a ha), by have := (h8 x hx).2.2; omega⟩, by omega, by omega⟩
theorem empty_chk : checkE emptyP = 4 := by kernel_rfl
theorem lone_chk : checkE loneP = 9 := by kernel_rfl
theorem small_chk : checkE smallP = 0 := by kernel_rfl
set_option maxHeartbeats 0 in
set_option maxRecDepth 100000 in
theorem lives12_any (w : World) (hE : Env w) :
    Calls Tryd.prog 9 #[] w fun e w' => e = .returned (.bool true) ∧ Since w w' := by
  have HE := Lib.hid hE
  clear hE
  have hw0 := Since.refl w
  go_enter Tryd.func9, Tryd.ntmps9
  go_wp2_with fail
  refine (kA_X [97] [112] _ 0 _ _ (cel_at (l := [_, _, _]) (Since.refl _) 2 rfl |>.cell 0)).mono ?_
  rintro e w1 ⟨rfl, hb⟩
  have c1 := cel_at (l := [.cells #[.string ⟨#[97]⟩] 9, .cells #[.string ⟨#[112]⟩, .int .i64 1] 47, .cells #[.string ⟨#[88]⟩] 9]) hb 0 rfl
  have c2 := cel_at (l := [.cells #[.string ⟨#[97]⟩] 9, .cells #[.string ⟨#[112]⟩, .int .i64 1] 47, .cells #[.string ⟨#[88]⟩] 9]) hb 1 rfl
  replace hw0 := hw0.trans ((((hw0.alloc _).alloc _).alloc _).trans hb)
  clear hb
  have hs : Since w1 ((w1.alloc (.cells #[.string ⟨#[97]⟩, .string ⟨#[112]⟩, .int .i64 1, .bool true, .string ⟨#[88]⟩, .bool false, .string ⟨#[]⟩, .bool false, .string ⟨#[]⟩, .bool false, .string ⟨#[]⟩, .slice none 0 0] 42)).alloc (.cells #[.slice (some ⟨w.heap.size, 0, none⟩) 1 1, .slice (some ⟨w.heap.size + 1, 0, none⟩) 1 1, .slice none 0 0, .int .i64 0, .int .i64 1, .slice (some ⟨w1.heap.size, 0, none⟩) 1 1, .slice none 0 0] 28)) := ((Since.refl _).alloc _).alloc _
  replace c1 := c1.next hs
  replace c2 := c2.next hs
  have c3 : Cel ((w1.alloc (.cells #[.string ⟨#[97]⟩, .string ⟨#[112]⟩, .int .i64 1, .bool true, .string ⟨#[88]⟩, .bool false, .string ⟨#[]⟩, .bool false, .string ⟨#[]⟩, .bool false, .string ⟨#[]⟩, .slice none 0 0] 42)).alloc (.cells #[.slice (some ⟨w.heap.size, 0, none⟩) 1 1, .slice (some ⟨w.heap.size + 1, 0, none⟩) 1 1, .slice none 0 0, .int .i64 0, .int .i64 1, .slice (some ⟨w1.heap.size, 0, none⟩) 1 1, .slice none 0 0] 28)) w1.heap.size #[.string ⟨#[97]⟩, .string ⟨#[112]⟩, .int .i64 1, .bool true, .string ⟨#[88]⟩, .bool false, .string ⟨#[]⟩, .bool false, .string ⟨#[]⟩, .bool false, .string ⟨#[]⟩, .slice none 0 0] 42 := cel_at (l := [_, _]) (Since.refl _) 0 rfl
  have c4 : Cel ((w1.alloc (.cells #[.string ⟨#[97]⟩, .string ⟨#[112]⟩, .int .i64 1, .bool true, .string ⟨#[88]⟩, .bool false, .string ⟨#[]⟩, .bool false, .string ⟨#[]⟩, .bool false, .string ⟨#[]⟩, .slice none 0 0] 42)).alloc (.cells #[.slice (some ⟨w.heap.size, 0, none⟩) 1 1, .slice (some ⟨w.heap.size + 1, 0, none⟩) 1 1, .slice none 0 0, .int .i64 0, .int .i64 1, .slice (some ⟨w1.heap.size, 0, none⟩) 1 1, .slice none 0 0] 28)) (w1.heap.size + 1) #[.slice (some ⟨w.heap.size, 0, none⟩) 1 1, .slice (some ⟨w.heap.size + 1, 0, none⟩) 1 1, .slice none 0 0, .int .i64 0, .int .i64 1, .slice (some ⟨w1.heap.size, 0, none⟩) 1 1, .slice none 0 0] 28 := cel_at (l := [_, _]) (Since.refl _) 1 rfl
  have hp : PolAt ((w1.alloc (.cells #[.string ⟨#[97]⟩, .string ⟨#[112]⟩, .int .i64 1, .bool true, .string ⟨#[88]⟩, .bool false, .string ⟨#[]⟩, .bool false, .string ⟨#[]⟩, .bool false, .string ⟨#[]⟩, .slice none 0 0] 42)).alloc (.cells #[.slice (some ⟨w.heap.size, 0, none⟩) 1 1, .slice (some ⟨w.heap.size + 1, 0, none⟩) 1 1, .slice none 0 0, .int .i64 0, .int .i64 1, .slice (some ⟨w1.heap.size, 0, none⟩) 1 1, .slice none 0 0] 28)) (some ⟨w.heap.size, 0, none⟩) (some ⟨w.heap.size + 1, 0, none⟩) none (some ⟨w1.heap.size, 0, none⟩) none 1 1 1 1 0 0 1 1 0 0 0 1 loneP := ⟨krow_one (c1.cell 0), krow_one ⟨c2.cell 0, c2.cell 1⟩, KRow.nil _ _, rfl, rfl, krow_one ⟨c3.atm (sub11 rfl rfl rfl rfl rfl rfl rfl rfl rfl rfl rfl rfl), _, c3.cell 11, KRow.nil _ _⟩, KRow.nil _ _⟩
  obtain ⟨e0, e1, e2, e3, e4, e5, e6⟩ : PBox ((w1.alloc (.cells #[.string ⟨#[97]⟩, .string ⟨#[112]⟩, .int .i64 1, .bool true, .string ⟨#[88]⟩, .bool false, .string ⟨#[]⟩, .bool false, .string ⟨#[]⟩, .bool false, .string ⟨#[]⟩, .slice none 0 0] 42)).alloc (.cells #[.slice (some ⟨w.heap.size, 0, none⟩) 1 1, .slice (some ⟨w.heap.size + 1, 0, none⟩) 1 1, .slice none 0 0, .int .i64 0, .int .i64 1, .slice (some ⟨w1.heap.size, 0, none⟩) 1 1, .slice none 0 0] 28)) (w1.heap.size + 1) (some ⟨w.heap.size, 0, none⟩) (some ⟨w.heap.size + 1, 0, none⟩) none (some ⟨w1.heap.size, 0, none⟩) none 1 1 1 1 0 0 1 1 0 0 0 1 := ⟨c4.cell 0, c4.cell 1, c4.cell 2, c4.cell 3, c4.cell 4, c4.cell 5, c4.cell 6⟩
  replace hw0 := hw0.trans hs
  have HP := Lib.hid hp
  clear c1 c2 c3 c4 hs hp
  go_wp2_with fail
  generalize ((w1.alloc (.cells #[.string ⟨#[97]⟩, .string ⟨#[112]⟩, .int .i64 1, .bool true, .string ⟨#[88]⟩, .bool false, .string ⟨#[]⟩, .bool false, .string ⟨#[]⟩, .bool false, .string ⟨#[]⟩, .slice none 0 0] 42)).alloc (.cells #[.slice (some ⟨w.heap.size, 0, none⟩) 1 1, .slice (some ⟨w.heap.size + 1, 0, none⟩) 1 1, .slice none 0 0, .int .i64 0, .int .i64 1, .slice (some ⟨w1.heap.size, 0, none⟩) 1 1, .slice none 0 0] 28)) = w2 at *
  refine (fcheck_any none none none none none 0 0 0 0 0 0 0 0 0 0 0 0 emptyP w2 (empty_at _) (lit_fits (by kernel_rfl)) (HE.out.next hw0)).mono ?_
  rintro e w3 ⟨rfl, hb⟩
  rw [empty_chk]
  replace hw0 := hw0.trans hb
  replace HP := Lib.hid (HP.out.next hb)
  replace e0 := hb.cell e0; replace e1 := hb.cell e1; replace e2 := hb.cell e2; replace e3 := hb.cell e3; replace e4 := hb.cell e4; replace e5 := hb.cell e5; replace e6 := hb.cell e6
  clear hb
  go_wp2_with fail
  refine (fcheck_any (some ⟨w.heap.size, 0, none⟩) (some ⟨w.heap.size + 1, 0, none⟩) none (some ⟨w1.heap.size, 0, none⟩) none 1 1 1 1 0 0 1 1 0 0 0 1 loneP w3 HP.out (lit_fits (by kernel_rfl)) (HE.out.next hw0)).mono ?_
  rintro e w4 ⟨rfl, hb⟩
  rw [lone_chk]
  replace hw0 := hw0.trans hb
  clear hb HP
  go_wp2_with fail
  refine (ksmall_any w4).mono ?_
  rintro e w5 ⟨ap, ad, ac, ar, ag, rfl, hp, hb⟩
  replace hw0 := hw0.trans hb
  have HP := Lib.hid hp
  clear hb hp
  go_wp2_with fail
  refine (fcheck_any ap ad ac ar ag 3 3 3 3 1 1 1 1 1 1 3 100 smallP w5 HP.out (lit_fits (by kernel_rfl)) (HE.out.next hw0)).mono ?_
  rintro e w6 ⟨rfl, hb⟩
  rw [small_chk]
  replace hw0 := hw0.trans hb
  clear hb HP
  go_wp2_with fail
  go_ret
  exact ⟨rfl, hw0⟩
end Go.Proofs.YtpkggopaigledaaDoor
