/- check: Sound. -/
import Derived.Test.YtdlnmkdbjgbimaaGreatDoorCkE
import Derived.Defers
namespace Go.Proofs.YtdlnmkdbjgbimaaGreatDoor
open Go.RowKit

/-- The first step that does not stand. -/
def scanS (L : List Cls) (F : List Atm) (T : List Stp) : List Stp → Nat → Int × Int
  | [], _ => (0, 0)
  | s :: r, i => if stepB L F T i s then scanS L F T r (i + 1) else ((i : Int), 15)
/-- What Sound answers. -/
def soundS (L : List Cls) (F : List Atm) (T : List Stp) : Int × Int := if mayC L F then scanS L F T T 0 else (0, 2)
set_option maxHeartbeats 1000000 in
theorem sound1_no (ob ab eb sb : Nat) (x y : Int) (u : FrameMode) (w : World) (ho : Cel w ob #[.bool false] 4) (ha : Cel w ab #[.int .i64 x] 3) (he : Cel w eb #[.int .i64 y] 35) (hne : ab ≠ eb) :
    CallsD Tryz.prog 21 #[.pointer (some ⟨ob, 0, none⟩), .pointer (some ⟨ab, 0, none⟩), .pointer (some ⟨eb, 0, none⟩), .pointer (some ⟨sb, 0, none⟩)] u w fun e u' w' => u' = u ∧ (e = .returned (.tuple #[]) ∧ w' = (w.setCell ⟨ab, 0, none⟩ (.int .i64 0)).setCell ⟨eb, 0, none⟩ (.int .i64 2)) := by
  have h1 : w.cell? ⟨ob, 0, none⟩ = some (.bool false) := ho.cell 0
  have h2 : w.cell? ⟨ab, 0, none⟩ = some (.int .i64 x) := ha.cell 0
  have h3 : w.frozen? ⟨ab, 0, none⟩ = false := ha.free 0
  have he' := he.far (p := ⟨ab, 0, none⟩) (fun e => hne e.symm) (.int .i64 0)
  have h4 : (w.setCell ⟨ab, 0, none⟩ (.int .i64 0)).cell? ⟨eb, 0, none⟩ = some (.int .i64 y) := he'.cell 0
  have h5 : (w.setCell ⟨ab, 0, none⟩ (.int .i64 0)).frozen? ⟨eb, 0, none⟩ = false := he'.free 0
  clear ho ha he he'
  go_enter_d Tryz.func21, Tryz.ntmps21
  go_wp2_with fail
  go_end0
  exact ⟨rfl, rfl⟩
set_option maxHeartbeats 1000000 in
theorem sound1_yes (ob ab eb sb : Nat) (a : Option Addr) (n c : Nat) (u : FrameMode) (w : World) (ho : Cel w ob #[.bool true] 4) (hs : w.cell? ⟨sb, 0, none⟩ = some (.slice a n c)) (hn : n ≤ 1000000) :
    CallsD Tryz.prog 21 #[.pointer (some ⟨ob, 0, none⟩), .pointer (some ⟨ab, 0, none⟩), .pointer (some ⟨eb, 0, none⟩), .pointer (some ⟨sb, 0, none⟩)] u w fun e u' w' => u' = u ∧ (e = .returned (.tuple #[]) ∧ w' = w) := by
  have h1 : w.cell? ⟨ob, 0, none⟩ = some (.bool true) := ho.cell 0
  have hlong : ¬ (1048576 : Int) < (n : Int) := by omega
  clear ho
  go_enter_d Tryz.func21, Tryz.ntmps21
  go_wp2_with fail
  go_end0
  exact ⟨rfl, rfl⟩
theorem sound_res (tmps : Array Value) (ab eb : Nat) (x y : Int) (D : World) (ha : Cel D ab #[.int .i64 x] 3) (he : Cel D eb #[.int .i64 y] 35) (t6 : tmps[6]?.getD undef = .pointer (some ⟨ab, 0, none⟩)) (t7 : tmps[7]?.getD undef = .pointer (some ⟨eb, 0, none⟩)) :
    (results Tryz.f11 tmps).run Tryz.prog D = .ok (.tuple #[.int .i64 x, .int .i64 y]) D := by
  have h1 : D.cell? ⟨ab, 0, none⟩ = some (.int .i64 x) := ha.cell 0
  have h2 : D.cell? ⟨eb, 0, none⟩ = some (.int .i64 y) := he.cell 0
  simp [results, Tryz.results11, go_sem, t6, t7, h1, h2]
theorem door_no (tmps : Array Value) (ob ab eb sb : Nat) (x y : Int) (Q : Ending → World → Prop) (D : World) (ho : Cel D ob #[.bool false] 4) (ha : Cel D ab #[.int .i64 x] 3) (he : Cel D eb #[.int .i64 y] 35) (hne : ab ≠ eb)
    (t6 : tmps[6]?.getD undef = .pointer (some ⟨ab, 0, none⟩)) (t7 : tmps[7]?.getD undef = .pointer (some ⟨eb, 0, none⟩)) (hQ : Q (.returned (.tuple #[.int .i64 0, .int .i64 2])) ((D.setCell ⟨ab, 0, none⟩ (.int .i64 0)).setCell ⟨eb, 0, none⟩ (.int .i64 2))) :
    bodyPostD Tryz.prog Tryz.f11 Q Exit.ret ⟨tmps, [⟨.fn (.func 21) #[.pointer (some ⟨ob, 0, none⟩), .pointer (some ⟨ab, 0, none⟩), .pointer (some ⟨eb, 0, none⟩), .pointer (some ⟨sb, 0, none⟩)], #[]⟩]⟩ D := by
  refine leaves_cons (f := 21) (args := #[.pointer (some ⟨ob, 0, none⟩), .pointer (some ⟨ab, 0, none⟩), .pointer (some ⟨eb, 0, none⟩), .pointer (some ⟨sb, 0, none⟩)]) (by simp) (by simp [go_sem]) ?_
  refine (sound1_no ob ab eb sb x y .returning D ho ha he hne).mono ?_
  rintro e u' w'' ⟨rfl, rfl, rfl⟩
  have ha2 := (ha.set (j := 0) (u := .int .i64 0) rfl).far (p := ⟨eb, 0, none⟩) hne (.int .i64 2)
  have he2 := (he.far (p := ⟨ab, 0, none⟩) (fun e => hne e.symm) (.int .i64 0)).set (j := 0) (u := .int .i64 2) rfl
  exact ⟨_, sound_res tmps ab eb 0 2 _ ha2 he2 t6 t7, hQ⟩
theorem door_yes (tmps : Array Value) (ob ab eb sb : Nat) (a : Option Addr) (n c : Nat) (x y : Int) (Q : Ending → World → Prop) (D : World) (ho : Cel D ob #[.bool true] 4) (hs : Cel D sb #[.slice a n c] 24) (hn : n ≤ 1000000) (ha : Cel D ab #[.int .i64 x] 3) (he : Cel D eb #[.int .i64 y] 35)
    (t6 : tmps[6]?.getD undef = .pointer (some ⟨ab, 0, none⟩)) (t7 : tmps[7]?.getD undef = .pointer (some ⟨eb, 0, none⟩)) (hQ : Q (.returned (.tuple #[.int .i64 x, .int .i64 y])) D) :
    bodyPostD Tryz.prog Tryz.f11 Q Exit.ret ⟨tmps, [⟨.fn (.func 21) #[.pointer (some ⟨ob, 0, none⟩), .pointer (some ⟨ab, 0, none⟩), .pointer (some ⟨eb, 0, none⟩), .pointer (some ⟨sb, 0, none⟩)], #[]⟩]⟩ D := by
  refine leaves_cons (f := 21) (args := #[.pointer (some ⟨ob, 0, none⟩), .pointer (some ⟨ab, 0, none⟩), .pointer (some ⟨eb, 0, none⟩), .pointer (some ⟨sb, 0, none⟩)]) (by simp) (by simp [go_sem]) ?_
  refine (sound1_yes ob ab eb sb a n c .returning D ho (hs.cell 0) hn).mono ?_
  rintro e u' w'' ⟨rfl, rfl, rfl⟩
  exact ⟨_, sound_res tmps ab eb x y _ ha he t6 t7, hQ⟩
set_option maxHeartbeats 8000000 in
set_option maxRecDepth 100000 in
theorem ksound_main (va : Option Addr) (lc : Nat) (L : List Cls) (vf : Option Addr) (fc : Nat) (G : List Atm) (vs : Option Addr) (tc : Nat) (T : List Stp) (w : World)
    (hv : RRow w (.slice va L.length lc) L) (hg : ARow w (.slice vf G.length fc) G) (ht : SRow w (.slice vs T.length tc) T) (hkb : L.length ≤ 100000) (hmg : G.length ≤ 100000) (htb : T.length ≤ 1000000)
    (hb9 : ∀ c ∈ L, c.2.length ≤ 100) (hF : ∀ c ∈ L, FitsC c) (hG : ∀ a ∈ G, FitsN a) (hfT : ∀ t ∈ T, FitsN t.1 ∧ t.2.2.length ≤ 100000) (hE : Env w) :
    Calls Tryz.prog 11 #[.slice va L.length lc, .slice vf G.length fc, .slice vs T.length tc] w fun e w' => e = .returned (.tuple #[.int .i64 (soundS L G T).1, .int .i64 (soundS L G T).2]) ∧ Since w w' := by
  have hS0 : Since w (((w.alloc (.cells #[.slice vs T.length tc] 24)).alloc (.cells #[.int .i64 0] 3)).alloc (.cells #[.int .i64 0] 35)) := (((Since.refl w).alloc _).alloc _).alloc _
  have g5 : Cel (((w.alloc (.cells #[.slice vs T.length tc] 24)).alloc (.cells #[.int .i64 0] 3)).alloc (.cells #[.int .i64 0] 35)) w.heap.size #[.slice vs T.length tc] 24 := ((Cel.next (heap_alloc_new w _) ((Since.refl _).alloc _)).next ((Since.refl _).alloc _))
  have g6 : Cel (((w.alloc (.cells #[.slice vs T.length tc] 24)).alloc (.cells #[.int .i64 0] 3)).alloc (.cells #[.int .i64 0] 35)) (w.heap.size + 1) #[.int .i64 0] 3 := by
    have h : Cel ((w.alloc (.cells #[.slice vs T.length tc] 24)).alloc (.cells #[.int .i64 0] 3)) _ #[.int .i64 0] 3 := heap_alloc_new _ _
    rw [World.size_alloc] at h
    exact h.next ((Since.refl _).alloc _)
  have g7 : Cel (((w.alloc (.cells #[.slice vs T.length tc] 24)).alloc (.cells #[.int .i64 0] 3)).alloc (.cells #[.int .i64 0] 35)) (w.heap.size + 1 + 1) #[.int .i64 0] 35 := by
    have h : Cel (((w.alloc (.cells #[.slice vs T.length tc] 24)).alloc (.cells #[.int .i64 0] 3)).alloc (.cells #[.int .i64 0] 35)) _ #[.int .i64 0] 35 := heap_alloc_new _ _
    rw [World.size_alloc, World.size_alloc] at h
    exact h
  have hmf : ∀ (fn : Fn) (first cap : Array Value) (w : World), (Instr.makeFunc fn first cap).run Tryz.prog w = .ok (.func fn first cap) w := fun _ _ _ _ => rfl
  have HV := Lib.hid hv
  have HG := Lib.hid hg
  have HT := Lib.hid ht
  have HE := Lib.hid hE
  have HB9 := Lib.hid hb9
  have HF := Lib.hid hF
  have HFG := Lib.hid hG
  have HFT := Lib.hid hfT
  have HKB := Lib.hid hkb
  have HMG := Lib.hid hmg
  have HTB := Lib.hid htb
  obtain ⟨R, hR⟩ : ∃ R, Hid (R = soundS L G T) := ⟨_, rfl⟩
  rw [← hR.out]
  have hR0 : Hid (R = if mayC L G then scanS L G T T 0 else (0, 2)) := hR
  have hs1 : (((w.alloc (.cells #[.slice vs T.length tc] 24)).alloc (.cells #[.int .i64 0] 3)).alloc (.cells #[.int .i64 0] 35)).heap.size = w.heap.size + 3 := by simp
  clear hv hg ht hE hb9 hF hG hfT hkb hmg htb hR
  go_enter_defers Tryz.func11, Tryz.ntmps11
  go_upto_region 1 with (fail)
  generalize hw1 : (((w.alloc (.cells #[.slice vs T.length tc] 24)).alloc (.cells #[.int .i64 0] 3)).alloc (.cells #[.int .i64 0] 35)) = w1 at *
  clear hw1
  have c5 : w1.cell? ⟨w.heap.size, 0, none⟩ = some (.slice vs T.length tc) := g5.cell 0
  have HM := Lib.hid (kmade_any va L.length lc L vf G.length fc G vs T.length tc w1 (rnext HV.out hS0) (anext HG.out hS0) HKB.out HMG.out (fun c h => by have := HB9.out c h; omega) HF.out HFG.out (HE.out.next hS0))
  obtain ⟨MB, hMB⟩ : ∃ B, Hid (B = mayC L G) := ⟨_, rfl⟩
  rw [← hMB.out] at HM hR0
  go_wp2_with fail
  refine HM.out.mono ?_
  clear HM
  rintro e w2 hpost
  cases MB
  · obtain ⟨rfl, hb⟩ := hpost
    have hRf : R = (0, 2) := hR0.out
    subst hRf
    have hSa : Since w1 (w2.alloc (.cells #[.bool false] 4)) := hb.alloc _
    have g9 : Cel (w2.alloc (.cells #[.bool false] 4)) w2.heap.size #[.bool false] 4 := heap_alloc_new _ _
    have hw2 : w1.heap.size ≤ w2.heap.size := hb.size
    go_upto_region 2 with (fail)
    generalize hw3 : w2.alloc (.cells #[.bool false] 4) = w3 at *
    generalize hnb : w2.heap.size = nb at *
    clear hw3 c5
    have c9 : w3.cell? ⟨nb, 0, none⟩ = some (.bool false) := g9.cell 0
    have g6' := g6.next hSa
    have g7' := g7.next hSa
    have c6 : w3.cell? ⟨w.heap.size + 1, 0, none⟩ = some (.int .i64 0) := g6'.cell 0
    have f6 : w3.frozen? ⟨w.heap.size + 1, 0, none⟩ = false := g6'.free 0
    have g76 := g7'.far (p := ⟨w.heap.size + 1, 0, none⟩) (by simp) (.int .i64 0)
    have c7 : (w3.setCell ⟨w.heap.size + 1, 0, none⟩ (.int .i64 0)).cell? ⟨w.heap.size + 1 + 1, 0, none⟩ = some (.int .i64 0) := g76.cell 0
    have f7 : (w3.setCell ⟨w.heap.size + 1, 0, none⟩ (.int .i64 0)).frozen? ⟨w.heap.size + 1 + 1, 0, none⟩ = false := g76.free 0
    go_wp2_with fail
    have g90 := g9.far (p := ⟨w.heap.size + 1, 0, none⟩) (by simp only; omega) (.int .i64 0)
    have g91 := g90.far (p := ⟨w.heap.size + 1 + 1, 0, none⟩) (by simp only; omega) (.int .i64 0)
    have g61 := (g6'.set (j := 0) (u := .int .i64 0) rfl).far (p := ⟨w.heap.size + 1 + 1, 0, none⟩) (by simp) (.int .i64 0)
    have g71 := g76.set (j := 0) (u := .int .i64 0) rfl
    refine door_no _ nb (w.heap.size + 1) (w.heap.size + 1 + 1) w.heap.size 0 0 _ _ g91 g61 g71 (by omega) rfl rfl ⟨rfl, ?_⟩
    exact ((((hS0.trans hSa).setCell (by simp only; omega) _).setCell (by simp only; omega) _).setCell (by simp only; omega) _).setCell (by simp only; omega) _
  · obtain ⟨g, mf, mm, rfl, hl, n1, n2, n3, n4, n5, n6, hb⟩ := hpost
    have hR1 : Hid (R = scanS L G T T 0) := hR0.out
    clear hR0
    have hSa : Since w1 (w2.alloc (.cells #[.bool true] 4)) := hb.alloc _
    have g9 : Cel (w2.alloc (.cells #[.bool true] 4)) w2.heap.size #[.bool true] 4 := heap_alloc_new _ _
    have hw2 : w1.heap.size ≤ w2.heap.size := hb.size
    have hmm2 : mm < w2.heap.size := by obtain ⟨-, -, n, -, h⟩ := hl; exact h.lt
    have hl2 := hl.next ((Since.refl w2).alloc (.cells #[.bool true] 4))
    clear hl hb
    go_upto_region 2 with (fail)
    generalize hw3 : w2.alloc (.cells #[.bool true] 4) = w3 at *
    generalize hnb : w2.heap.size = nb at *
    clear hw3 c5
    have c9 : w3.cell? ⟨nb, 0, none⟩ = some (.bool true) := g9.cell 0
    have hlong : ¬ (1048576 : Int) < (T.length : Int) := by have := HTB.out; omega
    have c5 : w3.cell? ⟨w.heap.size, 0, none⟩ = some (.slice vs T.length tc) := (g5.next hSa).cell 0
    go_wp2_with fail
    clear c5 c9
    go_loopw [28] (fun i wr => ∃ k : Nat, k ≤ T.length ∧ i = .int .i64 (k : Int) ∧ Since w1 wr ∧ LkAt wr g mf mm (.slice va L.length lc) (.slice vs T.length tc) G ((T.take k).map (fun t => t.1)) ∧ Cel wr nb #[.bool true] 4 ∧ Hid (R = scanS L G T (T.drop k) k) ∧ Hid (∀ j (h : j < T.length), j < k → factB (T[j]).1 = true)) (fun i _ => T.length - (intOf i).toNat)
    case atStart => exact ⟨0, by omega, rfl, hSa, hl2, g9, hR1, fun j _ h => absurd h (Nat.not_lt_zero j)⟩
    case round =>
      clear hl2 g9 hSa hR1
      obtain ⟨k, hk, rfl, hS, hl, g9, hres, hpre⟩ := hrel
      have hklong := HTB.out
      by_cases hlt : k < T.length
      · have hki : (k : Int) < (T.length : Int) := by omega
        have hclall : ∀ c ∈ L, clauseB c = true ∧ c.2.length ≤ 100 := by
          intro c hc
          have h1 : mayC L G = true := hMB.out.symm
          unfold mayC at h1
          rw [Bool.and_eq_true] at h1
          exact ⟨List.all_eq_true.1 h1.1 c hc, HB9.out c hc⟩
        have hst := kstep_any k g mf mm va lc L vs tc T G w1 wr hlt hS hl (rnext HV.out hS0) (snext HT.out hS0) n2 n3 n6 HKB.out (by omega) hclall HFG.out HFT.out (fun j h hj => hpre.out j h hj) (HE.out.next hS0)
        obtain ⟨B, hB⟩ : ∃ B, Hid (B = stepB L G T k T[k]) := ⟨stepB L G T k T[k], rfl⟩
        rw [← hB.out] at hst
        have HST := Lib.hid hst
        rw [List.drop_eq_getElem_cons hlt] at hres
        have hres2 : R = if B then scanS L G T (T.drop (k + 1)) (k + 1) else ((k : Int), 15) := by rw [hB.out]; exact hres.out
        have hpre2 : Hid (B = true → ∀ j (h : j < T.length), j < k + 1 → factB (T[j]).1 = true) := by
          intro hb1 j hj hjk
          by_cases hjk2 : j < k
          · exact hpre.out j hj hjk2
          · have he : j = k := by omega
            subst he
            have h2 := hB.out.symm.trans hb1
            unfold stepB at h2
            simp only [Bool.and_eq_true] at h2
            exact h2.2.1
        clear hst hres hclall hl hpre hB
        cases B
        · have hRf : R = ((k : Int), 15) := hres2
          subst hRf
          clear hres2 hpre2
          go_wp2_with fail
          refine HST.out.mono ?_
          rintro e w5 ⟨rfl, hG, hS5, -⟩
          have g95 := g9.grown hG (fun e => by injection e with e; omega)
          have g55 := g5.next hS5
          have g65 := g6.next hS5
          have g75 := g7.next hS5
          have c6 : w5.cell? ⟨w.heap.size + 1, 0, none⟩ = some (.int .i64 0) := g65.cell 0
          have f6 : w5.frozen? ⟨w.heap.size + 1, 0, none⟩ = false := g65.free 0
          have g76 := g75.far (p := ⟨w.heap.size + 1, 0, none⟩) (by simp) (.int .i64 (k : Int))
          have c7 : (w5.setCell ⟨w.heap.size + 1, 0, none⟩ (.int .i64 (k : Int))).cell? ⟨w.heap.size + 1 + 1, 0, none⟩ = some (.int .i64 0) := g76.cell 0
          have f7 : (w5.setCell ⟨w.heap.size + 1, 0, none⟩ (.int .i64 (k : Int))).frozen? ⟨w.heap.size + 1 + 1, 0, none⟩ = false := g76.free 0
          go_wp2_with fail
          have g90 := g95.far (p := ⟨w.heap.size + 1, 0, none⟩) (by simp only; omega) (.int .i64 (k : Int))
          have g91 := g90.far (p := ⟨w.heap.size + 1 + 1, 0, none⟩) (by simp only; omega) (.int .i64 15)
          have g50 := (g55.far (p := ⟨w.heap.size + 1, 0, none⟩) (by simp only; omega) (.int .i64 (k : Int))).far (p := ⟨w.heap.size + 1 + 1, 0, none⟩) (by simp only; omega) (.int .i64 15)
          have g61 := (g65.set (j := 0) (u := .int .i64 (k : Int)) rfl).far (p := ⟨w.heap.size + 1 + 1, 0, none⟩) (by simp) (.int .i64 15)
          have g71 := g76.set (j := 0) (u := .int .i64 15) rfl
          refine door_yes _ nb (w.heap.size + 1) (w.heap.size + 1 + 1) w.heap.size vs T.length tc (k : Int) 15 _ _ g91 g50 HTB.out g61 g71 rfl rfl ⟨rfl, ?_⟩
          exact ((hS0.trans hS5).setCell (by simp only; omega) _).setCell (by simp only; omega) _
        · have hres3 : Hid (R = scanS L G T (T.drop (k + 1)) (k + 1)) := hres2
          have hpre3 := Lib.hid (hpre2.out rfl)
          clear hres2 hpre2
          go_wp2_with fail
          refine HST.out.mono ?_
          rintro e w5 ⟨rfl, hG, hS5, hl5⟩
          have g95 := g9.grown hG (fun e => by injection e with e; omega)
          go_wp2_with fail
          go_roundw
          case rel => exact ⟨k + 1, by omega, by go_num, hS5, hl5, g95, hres3, hpre3⟩
          case measure => simp [intOf]; omega
      · have hki : ¬ (k : Int) < (T.length : Int) := by omega
        have hRf : R = (0, 0) := by rw [hres.out, List.drop_eq_nil_of_le (by omega)]; rfl
        subst hRf
        have g65 := g6.next hS
        have g75 := g7.next hS
        have g55 := g5.next hS
        have c6 : wr.cell? ⟨w.heap.size + 1, 0, none⟩ = some (.int .i64 0) := g65.cell 0
        have f6 : wr.frozen? ⟨w.heap.size + 1, 0, none⟩ = false := g65.free 0
        have g76 := g75.far (p := ⟨w.heap.size + 1, 0, none⟩) (by simp) (.int .i64 0)
        have c7 : (wr.setCell ⟨w.heap.size + 1, 0, none⟩ (.int .i64 0)).cell? ⟨w.heap.size + 1 + 1, 0, none⟩ = some (.int .i64 0) := g76.cell 0
        have f7 : (wr.setCell ⟨w.heap.size + 1, 0, none⟩ (.int .i64 0)).frozen? ⟨w.heap.size + 1 + 1, 0, none⟩ = false := g76.free 0
        clear hres hpre hl
        go_wp2_with fail
        have g90 := g9.far (p := ⟨w.heap.size + 1, 0, none⟩) (by simp only; omega) (.int .i64 0)
        have g91 := g90.far (p := ⟨w.heap.size + 1 + 1, 0, none⟩) (by simp only; omega) (.int .i64 0)
        have g50 := (g55.far (p := ⟨w.heap.size + 1, 0, none⟩) (by simp only; omega) (.int .i64 0)).far (p := ⟨w.heap.size + 1 + 1, 0, none⟩) (by simp only; omega) (.int .i64 0)
        have g61 := (g65.set (j := 0) (u := .int .i64 0) rfl).far (p := ⟨w.heap.size + 1 + 1, 0, none⟩) (by simp) (.int .i64 0)
        have g71 := g76.set (j := 0) (u := .int .i64 0) rfl
        refine door_yes _ nb (w.heap.size + 1) (w.heap.size + 1 + 1) w.heap.size vs T.length tc 0 0 _ _ g91 g50 HTB.out g61 g71 rfl rfl ⟨rfl, ?_⟩
        exact ((hS0.trans hS).setCell (by simp only; omega) _).setCell (by simp only; omega) _

end Go.Proofs.YtdlnmkdbjgbimaaGreatDoor
