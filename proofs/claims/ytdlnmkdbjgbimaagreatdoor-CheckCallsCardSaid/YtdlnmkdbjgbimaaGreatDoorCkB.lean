/- check.made: the looker, where clauses and facts may be. -/
import Derived.Test.YtdlnmkdbjgbimaaGreatDoorCkA
import Derived.Test.YtdlnmkdbjgbimaaGreatDoorHeldM
namespace Go.Proofs.YtdlnmkdbjgbimaaGreatDoor
open Go.RowKit

/-- May clauses and facts be? -/
def mayC (C : List Cls) (F : List Atm) : Bool := C.all clauseB && F.all factB
/-- A looker in memory: its clauses, the set of its facts, its steps, the set of what was met. -/
def LkAt (W : World) (g mf mm : Nat) (vc vs : Value) (F M : List Atm) : Prop :=
  At W g 0 #[vc, .map (some mf), vs, .map (some mm)] ∧ (∃ n, n ≤ F.length ∧ ASet W mf n F) ∧ ∃ n, n ≤ M.length ∧ ASet W mm n M
theorem LkAt.next {W W' : World} {g mf mm : Nat} {vc vs : Value} {F M : List Atm} (h : LkAt W g mf mm vc vs F M) (hs : Since W W') : LkAt W' g mf mm vc vs F M := by
  obtain ⟨h1, ⟨n, h2, h3⟩, m, h4, h5⟩ := h
  exact ⟨h1.next hs, ⟨n, h2, h3.next hs⟩, m, h4, h5.next hs⟩
/-- What made answers. -/
def MadePost (b : Bool) (vc vs : Value) (F : List Atm) (w : World) (e : Ending) (w' : World) : Prop :=
  if b then ∃ g mf mm, e = .returned (.tuple #[.pointer (some ⟨g, 0, none⟩), .bool true]) ∧ LkAt w' g mf mm vc vs F [] ∧ g ≠ mf ∧ g ≠ mm ∧ mf ≠ mm ∧ w.heap.size ≤ g ∧ w.heap.size ≤ mf ∧ w.heap.size ≤ mm ∧ Since w w'
  else e = .returned (.tuple #[.pointer none, .bool false]) ∧ Since w w'
set_option maxHeartbeats 8000000 in
set_option maxRecDepth 100000 in
theorem kmade_any (va : Option Addr) (na ca : Nat) (L : List Cls) (vf : Option Addr) (nf cf : Nat) (G : List Atm) (vs : Option Addr) (ns cs : Nat) (w : World) (hv : RRow w (.slice va na ca) L) (hg : ARow w (.slice vf nf cf) G) (hm : L.length ≤ 100000) (hmg : G.length ≤ 100000) (hb9 : ∀ c ∈ L, c.2.length ≤ 100000) (hF : ∀ c ∈ L, FitsC c) (hG : ∀ a ∈ G, FitsN a) (hE : Env w) :
    Calls Tryz.prog 20 #[.slice va na ca, .slice vf nf cf, .slice vs ns cs] w (MadePost (mayC L G) (.slice va na ca) (.slice vs ns cs) G w) := by
  have hn := hv.form
  subst hn
  have hn := hg.form
  subst hn
  have hS0 : Since w (((w.alloc (.map #[] 0)).alloc (.map #[] 0)).alloc (.cells #[.slice va L.length ca, .map (some w.heap.size), .slice vs ns cs, .map (some (w.heap.size + 1))] 67)) := (((Since.refl _).alloc _).alloc _).alloc _
  have hf0 : ASet (((w.alloc (.map #[] 0)).alloc (.map #[] 0)).alloc (.cells #[.slice va L.length ca, .map (some w.heap.size), .slice vs ns cs, .map (some (w.heap.size + 1))] 67)) w.heap.size 0 [] := (aset_made w).next (((Since.refl _).alloc _).alloc _)
  have hm0 : ASet (((w.alloc (.map #[] 0)).alloc (.map #[] 0)).alloc (.cells #[.slice va L.length ca, .map (some w.heap.size), .slice vs ns cs, .map (some (w.heap.size + 1))] 67)) (w.heap.size + 1) 0 [] := by
    have h := aset_made (w.alloc (.map #[] 0))
    rw [World.size_alloc] at h
    exact h.next ((Since.refl _).alloc _)
  have hc0 : Cel (((w.alloc (.map #[] 0)).alloc (.map #[] 0)).alloc (.cells #[.slice va L.length ca, .map (some w.heap.size), .slice vs ns cs, .map (some (w.heap.size + 1))] 67)) (w.heap.size + 1 + 1) #[.slice va L.length ca, .map (some w.heap.size), .slice vs ns cs, .map (some (w.heap.size + 1))] 67 := by
    have h := heap_alloc_new ((w.alloc (.map #[] 0)).alloc (.map #[] 0)) (.cells #[.slice va L.length ca, .map (some w.heap.size), .slice vs ns cs, .map (some (w.heap.size + 1))] 67)
    rw [World.size_alloc, World.size_alloc] at h
    exact h
  have hl0 := hc0.at
  have HV := Lib.hid hv
  have HG := Lib.hid hg
  have HE := Lib.hid hE
  have HF := Lib.hid hF
  have HGF := Lib.hid hG
  have HB9 := Lib.hid hb9
  obtain ⟨R, hR⟩ : ∃ R, Hid (R = mayC L G) := ⟨_, rfl⟩
  have hR0 : Hid (R = (L.all clauseB && G.all factB)) := hR
  rw [← hR.out]
  have HPN : Hid (R = false → ∀ W, Since w W → MadePost R (.slice va L.length ca) (.slice vs ns cs) G w (.returned (.tuple #[.pointer none, .bool false])) W) := by
    intro h W hW
    subst h
    exact ⟨rfl, hW⟩
  have HPY : Hid (R = true → ∀ W, LkAt W (w.heap.size + 1 + 1) w.heap.size (w.heap.size + 1) (.slice va L.length ca) (.slice vs ns cs) G [] → Since w W → MadePost R (.slice va L.length ca) (.slice vs ns cs) G w (.returned (.tuple #[.pointer (some ⟨w.heap.size + 1 + 1, 0, none⟩), .bool true])) W) := by
    intro h W h1 hW
    subst h
    exact ⟨_, _, _, rfl, h1, by omega, by omega, by omega, by omega, by omega, by omega, hW⟩
  clear hv hg hE hF hG hR hb9 hc0
  have hmk := @run_makeMap Tryz.prog
  go_enter Tryz.func20, Tryz.ntmps20
  go_wp2_with fail
  obtain ⟨w1, hw1⟩ : ∃ w1, Hid (((w.alloc (.map #[] 0)).alloc (.map #[] 0)).alloc (.cells #[.slice va L.length ca, .map (some w.heap.size), .slice vs ns cs, .map (some (w.heap.size + 1))] 67) = w1) := ⟨_, rfl⟩
  rw [hw1.out] at hS0 hf0 hm0 hl0
  try rw [hw1.out]
  clear hw1 hmk
  go_loopw [22] (fun i wr => ∃ k : Nat, k ≤ L.length ∧ i = .int .i64 (k : Int) ∧ Since w1 wr ∧ Hid ((L.take k).all clauseB = true)) (fun i _ => L.length - (intOf i).toNat)
  case atStart => exact ⟨0, by omega, rfl, Since.refl _, by show _ = _; simp⟩
  case round =>
    obtain ⟨k, hk, rfl, hS, hres⟩ := hrel
    by_cases hlt : k < L.length
    · have hki : (k : Int) < (L.length : Int) := by omega
      obtain ⟨b, ob, rfl, hc, hat⟩ := (rnext HV.out (hS0.trans hS)).get (by omega)
      obtain ⟨d1, u, d2, d3⟩ := hat k hlt
      have hfx := HF.out _ (List.getElem_mem hlt)
      have hlx := HB9.out _ (List.getElem_mem hlt)
      have htk : L.take (k + 1) = L.take k ++ [L[k]] := List.take_succ_eq_append_getElem hlt
      have hall : clauseB L[k] = false → L.all clauseB = false := fun h => by
        cases hh : L.all clauseB
        · rfl
        · rw [List.all_eq_true.1 hh _ (List.getElem_mem hlt)] at h; cases h
      have HTK := Lib.hid htk
      have HALL := Lib.hid hall
      clear hat htk hall
      obtain ⟨x, hx⟩ : ∃ x, Hid (x = L[k]) := ⟨L[k], rfl⟩
      rw [← hx.out] at d1 d3 hfx hlx HTK HALL
      obtain ⟨⟨x_s, x_p, x_n, ⟨x_v0, x_l0⟩, ⟨x_v1, x_l1⟩, ⟨x_v2, x_l2⟩, ⟨x_v3, x_l3⟩⟩, Bx⟩ := x
      obtain ⟨ax, cx, rfl⟩ := d3.slice
      simp only at d1 d3 hfx hlx
      obtain ⟨x_c0, x_c1, x_c2, x_c3, x_c4, x_c5, x_c6, x_c7, x_c8, x_c9, x_c10⟩ := d1.all
      have hS9 := (hS0.trans hS)
      have HKS := Lib.hid (fun W (h : Since wr W) => ksound_any x_s x_p x_n x_v0 x_v1 x_v2 x_v3 x_l0 x_l1 x_l2 x_l3 ax Bx.length cx Bx W (anext d3 h) hlx hfx.1.1 (fun y hy => (hfx.2 y hy).1) (HE.out.next (hS9.trans h)))
      obtain ⟨CB, hCB⟩ : ∃ B, Hid (B = clauseB (((x_s, x_p, x_n, (x_v0, x_l0), (x_v1, x_l1), (x_v2, x_l2), (x_v3, x_l3)) : Atm), Bx)) := ⟨_, rfl⟩
      rw [← hCB.out] at HKS HALL
      clear d1 d3 hfx hlx
      cases CB
      · have hRf := HPN.out (by rw [hR0.out, HALL.out rfl, Bool.false_and])
        clear hR0 hres HTK HALL hCB hx HPN HPY
        go_wp2_with fail
        refine (HKS.out _ ((Since.refl _).alloc _)).mono ?_
        rintro e w5 ⟨rfl, hb⟩
        go_wp2_with fail
        go_ret2
        exact hRf _ ((hS9.alloc _).trans hb)
      · have hres2 : Hid ((L.take (k + 1)).all clauseB = true) := by
          show _ = _
          rw [HTK.out, List.all_append, hres.out]
          simp [← hCB.out]
        clear hres HTK HALL hCB hx
        go_wp2_with fail
        refine (HKS.out _ ((Since.refl _).alloc _)).mono ?_
        rintro e w5 ⟨rfl, hb⟩
        go_wp2_with fail
        go_roundw
        case rel => exact ⟨k + 1, by omega, by go_num, (hS.alloc _).trans hb, hres2.out⟩
        case measure => simp [intOf]; omega
    · have hki : ¬ (k : Int) < (L.length : Int) := by omega
      have hcall : L.all clauseB = true := by
        have h := hres.out
        rw [List.take_of_length_le (by omega)] at h
        exact h
      have hR1 : Hid (R = G.all factB) := by show _ = _; rw [hR0.out, hcall, Bool.true_and]
      have hf1 := hf0.next hS
      have hm1 := hm0.next hS
      have hl1 := hl0.next hS
      have hS1 := hS0.trans hS
      clear hR0 hcall hres hf0 hm0 hl0
      go_wp2_with fail
      go_loopw [32] (fun i wr => ∃ k : Nat, k ≤ G.length ∧ i = .int .i64 (k : Int) ∧ Since w wr ∧ At wr (w.heap.size + 1 + 1) 0 #[.slice va L.length ca, .map (some w.heap.size), .slice vs ns cs, .map (some (w.heap.size + 1))] ∧ ASet wr w.heap.size k (G.take k) ∧ ASet wr (w.heap.size + 1) 0 [] ∧ Hid ((G.take k).all factB = true)) (fun i _ => G.length - (intOf i).toNat)
      case atStart => exact ⟨0, by omega, rfl, hS1, hl1, by simpa using hf1, hm1, by show _ = _; simp⟩
      case round =>
        clear hf1 hm1 hl1 hS1 hS hS0
        obtain ⟨k, hk, rfl, hS, hl, hset, hmet, hres⟩ := hrel
        have hga := anext HG.out hS
        have hEw := HE.out.next hS
        by_cases hlt : k < G.length
        · have hki : (k : Int) < (G.length : Int) := by omega
          have hga0 := hga
          obtain ⟨b, ob, rfl, hc, hat⟩ := hga0.get (by omega)
          have d1 := hat k hlt
          have hfx := HGF.out _ (List.getElem_mem hlt)
          have htk : G.take (k + 1) = G.take k ++ [G[k]] := List.take_succ_eq_append_getElem hlt
          have hall : factB G[k] = false → G.all factB = false := fun h => by
            cases hh : G.all factB
            · rfl
            · rw [List.all_eq_true.1 hh _ (List.getElem_mem hlt)] at h; cases h
          have hGL : ∀ y ∈ G.take k, FitsN y := fun y hy => HGF.out y (List.mem_of_mem_take hy)
          have HTK := Lib.hid htk
          have HALL := Lib.hid hall
          have HGA := Lib.hid hga
          clear hat htk hall hga
          obtain ⟨x, hx⟩ : ∃ x, Hid (x = G[k]) := ⟨G[k], rfl⟩
          rw [← hx.out] at d1 hfx HTK HALL
          obtain ⟨x_s, x_p, x_n, ⟨x_v0, x_l0⟩, ⟨x_v1, x_l1⟩, ⟨x_v2, x_l2⟩, ⟨x_v3, x_l3⟩⟩ := x
          obtain ⟨x_c0, x_c1, x_c2, x_c3, x_c4, x_c5, x_c6, x_c7, x_c8, x_c9, x_c10⟩ := d1.all
          have hlb0 : wr.cell? ⟨w.heap.size + 1 + 1, 0, none⟩ = some (.slice va L.length ca) := hl 0 _ rfl
          have x_B : Box (wr.alloc (.cells #[.string ⟨x_s.toArray⟩, .string ⟨x_p.toArray⟩, .int .i64 x_n, .bool x_v0, .string ⟨x_l0.toArray⟩, .bool x_v1, .string ⟨x_l1.toArray⟩, .bool x_v2, .string ⟨x_l2.toArray⟩, .bool x_v3, .string ⟨x_l3.toArray⟩] 29)) wr.heap.size ((x_s, x_p, x_n, (x_v0, x_l0), (x_v1, x_l1), (x_v2, x_l2), (x_v3, x_l3)) : Atm) := box_new wr _ _
          have hSx : Since wr (wr.alloc (.cells #[.string ⟨x_s.toArray⟩, .string ⟨x_p.toArray⟩, .int .i64 x_n, .bool x_v0, .string ⟨x_l0.toArray⟩, .bool x_v1, .string ⟨x_l1.toArray⟩, .bool x_v2, .string ⟨x_l2.toArray⟩, .bool x_v3, .string ⟨x_l3.toArray⟩] 29)) := (Since.refl _).alloc _
          have HCK := Lib.hid (fun W hE => check_any x_s x_p x_n x_v0 x_v1 x_v2 x_v3 x_l0 x_l1 x_l2 x_l3 W hfx.1 hE)
          have HGR := Lib.hid (fun W hE => ground_any x_s x_p x_n x_v0 x_v1 x_v2 x_v3 x_l0 x_l1 x_l2 x_l3 W hfx.1 hE)
          have hfb : factB ((x_s, x_p, x_n, (x_v0, x_l0), (x_v1, x_l1), (x_v2, x_l2), (x_v3, x_l3)) : Atm) = (checkA ((x_s, x_p, x_n, (x_v0, x_l0), (x_v1, x_l1), (x_v2, x_l2), (x_v3, x_l3)) : Atm) == 0 && groundA ((x_s, x_p, x_n, (x_v0, x_l0), (x_v1, x_l1), (x_v2, x_l2), (x_v3, x_l3)) : Atm)) := rfl
          have HFB := Lib.hid hfb
          have hEx := hEw.next hSx
          have HFX := Lib.hid hfx
          obtain ⟨CK, hCK⟩ : ∃ B, Hid (B = checkA ((x_s, x_p, x_n, (x_v0, x_l0), (x_v1, x_l1), (x_v2, x_l2), (x_v3, x_l3)) : Atm)) := ⟨_, rfl⟩
          obtain ⟨GR, hGR⟩ : ∃ B, Hid (B = groundA ((x_s, x_p, x_n, (x_v0, x_l0), (x_v1, x_l1), (x_v2, x_l2), (x_v3, x_l3)) : Atm)) := ⟨_, rfl⟩
          rw [← hCK.out] at HCK HFB
          rw [← hGR.out] at HGR HFB
          clear d1 hfx hfb
          by_cases hck : CK = 0
          case neg =>
            have hRf := HPN.out (by rw [hR1.out]; exact HALL.out (by rw [HFB.out]; simp [hck]))
            have hq : (CK != 0) = true := by simpa using hck
            clear hR1 hres HTK HALL HFB hx HPN HPY hCK hGR
            go_wp2_with fail
            refine (HCK.out _ hEx).mono ?_
            rintro e w5 ⟨rfl, hb⟩
            go_wp2_with fail
            go_ret2
            exact hRf _ ((hS.trans hSx).trans hb)
          case pos =>
            subst hck
            cases GR
            case false =>
              have hRf := HPN.out (by rw [hR1.out]; exact HALL.out (by rw [HFB.out]; simp))
              clear hR1 hres HTK HALL HFB hx HPN HPY hCK hGR
              go_wp2_with fail
              refine (HCK.out _ hEx).mono ?_
              rintro e w5 ⟨rfl, hb⟩
              replace x_B := x_B.next hb
              clear x_c0 x_c1 x_c2 x_c3 x_c4 x_c5 x_c6 x_c7 x_c8 x_c9 x_c10
              obtain ⟨x_c0, x_c1, x_c2, x_c3, x_c4, x_c5, x_c6, x_c7, x_c8, x_c9, x_c10⟩ := x_B.all
              go_wp2_with fail
              refine (HGR.out _ (hEx.next hb)).mono ?_
              rintro e w6 ⟨rfl, hb2⟩
              clear x_c0 x_c1 x_c2 x_c3 x_c4 x_c5 x_c6 x_c7 x_c8 x_c9 x_c10
              go_wp2_with fail
              go_ret2
              exact hRf _ (((hS.trans hSx).trans hb).trans hb2)
            case true =>
              have hres2 : Hid ((G.take (k + 1)).all factB = true) := by
                show _ = _
                rw [HTK.out, List.all_append, hres.out]
                simp [HFB.out]
              clear hres HFB HALL hCK hGR
              go_wp2_with fail
              refine (HCK.out _ hEx).mono ?_
              rintro e w5 ⟨rfl, hb⟩
              replace x_B := x_B.next hb
              clear x_c0 x_c1 x_c2 x_c3 x_c4 x_c5 x_c6 x_c7 x_c8 x_c9 x_c10
              obtain ⟨x_c0, x_c1, x_c2, x_c3, x_c4, x_c5, x_c6, x_c7, x_c8, x_c9, x_c10⟩ := x_B.all
              go_wp2_with fail
              refine (HGR.out _ (hEx.next hb)).mono ?_
              rintro e w6 ⟨rfl, hb2⟩
              clear x_c0 x_c1 x_c2 x_c3 x_c4 x_c5 x_c6 x_c7 x_c8 x_c9 x_c10
              go_upto_region 13 with (fail)
              have hs6 := (hSx.trans hb).trans hb2
              have xA := at_box x_s x_p x_n x_v0 x_v1 x_v2 x_v3 x_l0 x_l1 x_l2 x_l3 (x_B.next hb2)
              replace hS := hS.trans hs6
              replace hl := hl.next hs6
              replace hset := hset.next hs6
              replace hmet := hmet.next hs6
              have hxb : w.heap.size + 1 + 1 < wr.heap.size := by have := World.block_lt_of_cell? wr _ hlb0; omega
              clear hb hb2 hs6 x_B hSx hEx HCK HGR
              replace hS := hS.trans ((Since.refl w6).drew)
              replace hl := hl.next ((Since.refl w6).drew)
              replace xA := xA.next ((Since.refl w6).drew)
              replace hmet := hmet.next ((Since.refl w6).drew)
              replace hset := hset.next ((Since.refl w6).drew)
              refine hx_begin (S := fun W => (Since w W) ∧ (At W (w.heap.size + 1 + 1) 0 #[.slice va L.length ca, .map (some w.heap.size), .slice vs ns cs, .map (some (w.heap.size + 1))]) ∧ (At W wr.heap.size 0 #[.string ⟨x_s.toArray⟩, .string ⟨x_p.toArray⟩, .int .i64 x_n, .bool x_v0, .string ⟨x_l0.toArray⟩, .bool x_v1, .string ⟨x_l1.toArray⟩, .bool x_v2, .string ⟨x_l2.toArray⟩, .bool x_v3, .string ⟨x_l3.toArray⟩]) ∧ (ASet W (w.heap.size + 1) 0 [])) (by kernel_rfl) ⟨hS, hl, xA, hmet⟩ (by kernel_rfl) (fun _ _ _ _ _ h => h) (fun hns hQ => ?_)
              refine hx_take (i := 0) (oi := _) (v := .pointer (some ⟨w.heap.size + 1 + 1, 0, none⟩)) rfl rfl hns (by kernel_rfl) (by kernel_rfl) hQ (by kernel_rfl) (fun _ _ => by kernel_rfl) ⟨hS, hl, xA, hmet⟩ ?_
              refine hx_take (i := 1) (oi := _) (v := .pointer (some ⟨w.heap.size + 1 + 1, 0, none⟩)) rfl rfl hns (by kernel_rfl) (by kernel_rfl) hQ (by kernel_rfl) (fun _ _ => by kernel_rfl) ⟨hS, hl, xA, hmet⟩ ?_
              refine hx_take (i := 2) (oi := _) (v := .pointer (some ⟨w.heap.size + 1 + 1, 0, none⟩)) rfl rfl hns (by kernel_rfl) (by kernel_rfl) hQ (by kernel_rfl) (fun _ _ => by kernel_rfl) ⟨hS, hl, xA, hmet⟩ ?_
              refine hx_take (i := 3) (oi := _) (v := .pointer (some ⟨w.heap.size + 1 + 1, 1, none⟩)) rfl rfl hns (by kernel_rfl) (by kernel_rfl) hQ (by kernel_rfl) (fun _ _ => by kernel_rfl) ⟨hS, hl, xA, hmet⟩ ?_
              refine hx_take (i := 4) (oi := _) (v := .map (some w.heap.size)) rfl rfl hns (by kernel_rfl) (by kernel_rfl) hQ (by kernel_rfl) (fun W hW => ld_one rfl (by kernel_rfl) (by kernel_rfl) W (hW.2.1 1 _ rfl)) ⟨hS, hl, xA, hmet⟩ ?_
              refine hx_take (i := 5) (oi := _) (v := .agg #[.string ⟨x_s.toArray⟩, .string ⟨x_p.toArray⟩, .int .i64 x_n, .bool x_v0, .string ⟨x_l0.toArray⟩, .bool x_v1, .string ⟨x_l1.toArray⟩, .bool x_v2, .string ⟨x_l2.toArray⟩, .bool x_v3, .string ⟨x_l3.toArray⟩]) rfl rfl hns (by kernel_rfl) (by kernel_rfl) hQ (by kernel_rfl) (fun W hW => ld_at rfl (by kernel_rfl) (by kernel_rfl) (by kernel_rfl) W (hW.2.2.1)) ⟨hS, hl, xA, hmet⟩ ?_
              refine hx_take (i := 6) (oi := _) (v := .agg #[]) rfl rfl hns (by kernel_rfl) (by kernel_rfl) hQ (by kernel_rfl) (fun _ _ => by kernel_rfl) ⟨hS, hl, xA, hmet⟩ ?_
              obtain ⟨wx61, hrun, hset, hgrow⟩ := aupd x_s x_p x_n x_v0 x_v1 x_v2 x_v3 x_l0 x_l1 x_l2 x_l3 hset (by unfold maxLen; omega) HFX.out
              replace hS := since_upd hS hgrow (Nat.le_refl _)
              replace hl := hl.far hgrow (fun e => by injection e with e; omega)
              replace xA := xA.far hgrow (fun e => by injection e with e; omega)
              replace hmet := hmet.far hgrow (fun e => by injection e with e; omega)
              refine hx_store (i := 7) (oi := _) wx61 rfl rfl (by kernel_rfl) (by kernel_rfl) (upd_run rfl (by kernel_rfl) (by kernel_rfl) (by kernel_rfl) hrun) ⟨hS, hl, xA, hmet⟩ ?_
              refine wpAnyH_done (by kernel_rfl) ?_ _
              clear hns hQ
              simp only [List.set_cons_zero, List.set_cons_succ]
              go_wp2_with fail
              go_roundw
              case rel => exact ⟨k + 1, by omega, by go_num, hS, hl, by rw [HTK.out]; exact hset, hmet, hres2.out⟩
              case measure => simp [intOf]; omega
        · have hki : ¬ (k : Int) < (G.length : Int) := by omega
          have hgall : G.all factB = true := by
            have h := hres.out
            rw [List.take_of_length_le (by omega)] at h
            exact h
          rw [List.take_of_length_le (by omega)] at hset
          have hRt := HPY.out (by rw [hR1.out, hgall]) wr ⟨hl, ⟨k, by omega, hset⟩, 0, Nat.le_refl _, hmet⟩ hS
          clear hR1 hgall hres HPN HPY hset hmet
          go_wp2_with fail
          go_ret2
          exact hRt
end Go.Proofs.YtdlnmkdbjgbimaaGreatDoor
