/- The reference's may . The reference's Bytes . -/
import Derived.Test.YtiadjmfdahendaaDoorCertI
import Derived.Test.YtiadjmfdahendaaDoorCurD
import Derived.Test.YtiadjmfdahendaaDoorRefFact
import Derived.Test.YtiadjmfdahendaaDoorRef23B
import Derived.Test.YtiadjmfdahendaaDoorCertH2
namespace Go.Proofs.YtiadjmfdahendaaDoor
open Go.RowKit

theorem sinfoM : (Tryd.prog.info? 39).map (·.size) = some 13 := by kernel_rfl
theorem BlkS.row {W : World} {B : Nat} {x : Stp} {v : Value} (h : BlkS W B x v) (x' : Stp) (v' : Value) : BlkS (W.setRow B (stpA x' v')) B x' v' := setRow_heap W B _ _ _ (0, 0) h
set_option maxHeartbeats 4000000 in
set_option maxRecDepth 100000 in
theorem rmay_any (v : Value) (L : List Stp) (w : World) (hv : StpRow w v L) (hn : L.length ≤ 10000) (hc : ∀ x ∈ L, x.2.2.length ≤ 20) (hF : FitsS L) :
    Calls Tryd.prog 39 #[v] w fun e w' => e = .returned (.bool (maysB L)) ∧ Since w w' := by
  obtain ⟨a, c, rfl⟩ := hv.form
  have HV := Lib.hid hv
  have HF := Lib.hid hF
  have HC := Lib.hid hc
  have hM0 : maysB L = maysF 0 (L.drop 0) := by rw [maysB, decide_eq_true (by omega)]; simp
  obtain ⟨M, hM⟩ : ∃ M, Hid (M = maysB L) := ⟨_, rfl⟩
  rw [← hM.out] at hM0 ⊢
  have HM0 := Lib.hid hM0
  clear hM hM0 hv hc hF
  go_enter Tryd.func39, Tryd.ntmps39
  go_wp2_with fail
  go_loopw [3] (fun i wr => ∃ k : Nat, k ≤ L.length ∧ i = .int .i64 k ∧ Since w wr ∧ Hid (M = maysF k (L.drop k))) (fun i _ => L.length - (intOf i).toNat)
  case atStart => exact ⟨0, by omega, rfl, Since.refl _, HM0.out⟩
  case round =>
    clear HM0
    obtain ⟨k, hk, rfl, hS, hres⟩ := hrel
    by_cases hlt : k < L.length
    · obtain ⟨b, o, he, hat⟩ := HV.out.get (by omega)
      cases he
      have hst := hat k hlt
      have hmr : M = (mayB k L[k] && maysF (k + 1) (L.drop (k + 1))) := by
        have := maysF_drop (i := 0) hlt
        rw [Nat.zero_add, Nat.zero_add] at this
        rw [hres.out, this]
      have hlx : L[k].2.2.length ≤ 20 := HC.out _ (List.getElem_mem hlt)
      have hfx : FitsA L[k].1 := HF.out _ (List.getElem_mem hlt)
      have HMR := Lib.hid hmr
      clear hat hmr hres
      generalize L[k] = x at *
      obtain ⟨⟨a_s, a_p, a_n, ⟨a_v0, a_l0⟩, ⟨a_v1, a_l1⟩, ⟨a_v2, a_l2⟩, ⟨a_v3, a_l3⟩⟩, cl, cs⟩ := x
      obtain ⟨a_c0, a_c1, a_c2, a_c3, a_c4, a_c5, a_c6, a_c7, a_c8, a_c9, a_c10⟩ := (hst.next hS).atom
      obtain ⟨_, k1, sa, sc, k2, hcs⟩ := hst
      have k1' : wr.cell? ⟨b, o + k * 13 + 11, none⟩ = some (.int .i64 cl) := hS.cell k1
      have k2' : wr.cell? ⟨b, o + k * 13 + 12, none⟩ = some (.slice sa cs.length sc) := hS.cell k2
      have hcw : Hid (CiteRow w (.slice sa cs.length sc) cs) := hcs
      clear k1 k2 hcs
      have hnew : Hid ((wr.alloc (.cells #[.string ⟨#[]⟩, .string ⟨#[]⟩, .int .i64 0, .bool false, .string ⟨#[]⟩, .bool false, .string ⟨#[]⟩, .bool false, .string ⟨#[]⟩, .bool false, .string ⟨#[]⟩, .int .i64 0, .slice none 0 0] 39)).heap[wr.heap.size]? = some (.cells #[.string ⟨#[]⟩, .string ⟨#[]⟩, .int .i64 0, .bool false, .string ⟨#[]⟩, .bool false, .string ⟨#[]⟩, .bool false, .string ⟨#[]⟩, .bool false, .string ⟨#[]⟩, .int .i64 0, .slice none 0 0] 39 (0, 0))) := heap_alloc_new wr _
      have hone : Hid ((#[.string ⟨a_s.toArray⟩, .string ⟨a_p.toArray⟩, .int .i64 a_n, .bool a_v0, .string ⟨a_l0.toArray⟩, .bool a_v1, .string ⟨a_l1.toArray⟩, .bool a_v2, .string ⟨a_l2.toArray⟩, .bool a_v3, .string ⟨a_l3.toArray⟩, .int .i64 cl, .slice sa cs.length sc] : Array Value).all (·.oneCell') = true) := by show _ = _; simp [Value.oneCell']
      have hBS : BlkS ((wr.alloc (.cells #[.string ⟨#[]⟩, .string ⟨#[]⟩, .int .i64 0, .bool false, .string ⟨#[]⟩, .bool false, .string ⟨#[]⟩, .bool false, .string ⟨#[]⟩, .bool false, .string ⟨#[]⟩, .int .i64 0, .slice none 0 0] 39)).setRow wr.heap.size #[.string ⟨a_s.toArray⟩, .string ⟨a_p.toArray⟩, .int .i64 a_n, .bool a_v0, .string ⟨a_l0.toArray⟩, .bool a_v1, .string ⟨a_l1.toArray⟩, .bool a_v2, .string ⟨a_l2.toArray⟩, .bool a_v3, .string ⟨a_l3.toArray⟩, .int .i64 cl, .slice sa cs.length sc]) wr.heap.size (((a_s, a_p, a_n, (a_v0, a_l0), (a_v1, a_l1), (a_v2, a_l2), (a_v3, a_l3)) : Atm), cl, cs) (.slice sa cs.length sc) := setRow_heap _ _ _ _ _ (0, 0) hnew.out
      have hS4 : Since w ((wr.alloc (.cells #[.string ⟨#[]⟩, .string ⟨#[]⟩, .int .i64 0, .bool false, .string ⟨#[]⟩, .bool false, .string ⟨#[]⟩, .bool false, .string ⟨#[]⟩, .bool false, .string ⟨#[]⟩, .int .i64 0, .slice none 0 0] 39)).setRow wr.heap.size #[.string ⟨a_s.toArray⟩, .string ⟨a_p.toArray⟩, .int .i64 a_n, .bool a_v0, .string ⟨a_l0.toArray⟩, .bool a_v1, .string ⟨a_l1.toArray⟩, .bool a_v2, .string ⟨a_l2.toArray⟩, .bool a_v3, .string ⟨a_l3.toArray⟩, .int .i64 cl, .slice sa cs.length sc]) := since_row (hS.alloc _) hS.size _
      have hcs4 : Hid (CiteRow ((wr.alloc (.cells #[.string ⟨#[]⟩, .string ⟨#[]⟩, .int .i64 0, .bool false, .string ⟨#[]⟩, .bool false, .string ⟨#[]⟩, .bool false, .string ⟨#[]⟩, .bool false, .string ⟨#[]⟩, .int .i64 0, .slice none 0 0] 39)).setRow wr.heap.size #[.string ⟨a_s.toArray⟩, .string ⟨a_p.toArray⟩, .int .i64 a_n, .bool a_v0, .string ⟨a_l0.toArray⟩, .bool a_v1, .string ⟨a_l1.toArray⟩, .bool a_v2, .string ⟨a_l2.toArray⟩, .bool a_v3, .string ⟨a_l3.toArray⟩, .int .i64 cl, .slice sa cs.length sc]) (.slice sa cs.length sc) cs) := hcw.out.next hS4
      have g0 : ((wr.alloc (.cells #[.string ⟨#[]⟩, .string ⟨#[]⟩, .int .i64 0, .bool false, .string ⟨#[]⟩, .bool false, .string ⟨#[]⟩, .bool false, .string ⟨#[]⟩, .bool false, .string ⟨#[]⟩, .int .i64 0, .slice none 0 0] 39)).setRow wr.heap.size #[.string ⟨a_s.toArray⟩, .string ⟨a_p.toArray⟩, .int .i64 a_n, .bool a_v0, .string ⟨a_l0.toArray⟩, .bool a_v1, .string ⟨a_l1.toArray⟩, .bool a_v2, .string ⟨a_l2.toArray⟩, .bool a_v3, .string ⟨a_l3.toArray⟩, .int .i64 cl, .slice sa cs.length sc]).cell? ⟨wr.heap.size, 0, none⟩ = some (.string ⟨a_s.toArray⟩) := (hBS.cell 0).trans rfl
      have g1 : ((wr.alloc (.cells #[.string ⟨#[]⟩, .string ⟨#[]⟩, .int .i64 0, .bool false, .string ⟨#[]⟩, .bool false, .string ⟨#[]⟩, .bool false, .string ⟨#[]⟩, .bool false, .string ⟨#[]⟩, .int .i64 0, .slice none 0 0] 39)).setRow wr.heap.size #[.string ⟨a_s.toArray⟩, .string ⟨a_p.toArray⟩, .int .i64 a_n, .bool a_v0, .string ⟨a_l0.toArray⟩, .bool a_v1, .string ⟨a_l1.toArray⟩, .bool a_v2, .string ⟨a_l2.toArray⟩, .bool a_v3, .string ⟨a_l3.toArray⟩, .int .i64 cl, .slice sa cs.length sc]).cell? ⟨wr.heap.size, 1, none⟩ = some (.string ⟨a_p.toArray⟩) := (hBS.cell 1).trans rfl
      have g2 : ((wr.alloc (.cells #[.string ⟨#[]⟩, .string ⟨#[]⟩, .int .i64 0, .bool false, .string ⟨#[]⟩, .bool false, .string ⟨#[]⟩, .bool false, .string ⟨#[]⟩, .bool false, .string ⟨#[]⟩, .int .i64 0, .slice none 0 0] 39)).setRow wr.heap.size #[.string ⟨a_s.toArray⟩, .string ⟨a_p.toArray⟩, .int .i64 a_n, .bool a_v0, .string ⟨a_l0.toArray⟩, .bool a_v1, .string ⟨a_l1.toArray⟩, .bool a_v2, .string ⟨a_l2.toArray⟩, .bool a_v3, .string ⟨a_l3.toArray⟩, .int .i64 cl, .slice sa cs.length sc]).cell? ⟨wr.heap.size, 2, none⟩ = some (.int .i64 a_n) := (hBS.cell 2).trans rfl
      have g3 : ((wr.alloc (.cells #[.string ⟨#[]⟩, .string ⟨#[]⟩, .int .i64 0, .bool false, .string ⟨#[]⟩, .bool false, .string ⟨#[]⟩, .bool false, .string ⟨#[]⟩, .bool false, .string ⟨#[]⟩, .int .i64 0, .slice none 0 0] 39)).setRow wr.heap.size #[.string ⟨a_s.toArray⟩, .string ⟨a_p.toArray⟩, .int .i64 a_n, .bool a_v0, .string ⟨a_l0.toArray⟩, .bool a_v1, .string ⟨a_l1.toArray⟩, .bool a_v2, .string ⟨a_l2.toArray⟩, .bool a_v3, .string ⟨a_l3.toArray⟩, .int .i64 cl, .slice sa cs.length sc]).cell? ⟨wr.heap.size, 3, none⟩ = some (.bool a_v0) := (hBS.cell 3).trans rfl
      have g4 : ((wr.alloc (.cells #[.string ⟨#[]⟩, .string ⟨#[]⟩, .int .i64 0, .bool false, .string ⟨#[]⟩, .bool false, .string ⟨#[]⟩, .bool false, .string ⟨#[]⟩, .bool false, .string ⟨#[]⟩, .int .i64 0, .slice none 0 0] 39)).setRow wr.heap.size #[.string ⟨a_s.toArray⟩, .string ⟨a_p.toArray⟩, .int .i64 a_n, .bool a_v0, .string ⟨a_l0.toArray⟩, .bool a_v1, .string ⟨a_l1.toArray⟩, .bool a_v2, .string ⟨a_l2.toArray⟩, .bool a_v3, .string ⟨a_l3.toArray⟩, .int .i64 cl, .slice sa cs.length sc]).cell? ⟨wr.heap.size, 4, none⟩ = some (.string ⟨a_l0.toArray⟩) := (hBS.cell 4).trans rfl
      have g5 : ((wr.alloc (.cells #[.string ⟨#[]⟩, .string ⟨#[]⟩, .int .i64 0, .bool false, .string ⟨#[]⟩, .bool false, .string ⟨#[]⟩, .bool false, .string ⟨#[]⟩, .bool false, .string ⟨#[]⟩, .int .i64 0, .slice none 0 0] 39)).setRow wr.heap.size #[.string ⟨a_s.toArray⟩, .string ⟨a_p.toArray⟩, .int .i64 a_n, .bool a_v0, .string ⟨a_l0.toArray⟩, .bool a_v1, .string ⟨a_l1.toArray⟩, .bool a_v2, .string ⟨a_l2.toArray⟩, .bool a_v3, .string ⟨a_l3.toArray⟩, .int .i64 cl, .slice sa cs.length sc]).cell? ⟨wr.heap.size, 5, none⟩ = some (.bool a_v1) := (hBS.cell 5).trans rfl
      have g6 : ((wr.alloc (.cells #[.string ⟨#[]⟩, .string ⟨#[]⟩, .int .i64 0, .bool false, .string ⟨#[]⟩, .bool false, .string ⟨#[]⟩, .bool false, .string ⟨#[]⟩, .bool false, .string ⟨#[]⟩, .int .i64 0, .slice none 0 0] 39)).setRow wr.heap.size #[.string ⟨a_s.toArray⟩, .string ⟨a_p.toArray⟩, .int .i64 a_n, .bool a_v0, .string ⟨a_l0.toArray⟩, .bool a_v1, .string ⟨a_l1.toArray⟩, .bool a_v2, .string ⟨a_l2.toArray⟩, .bool a_v3, .string ⟨a_l3.toArray⟩, .int .i64 cl, .slice sa cs.length sc]).cell? ⟨wr.heap.size, 6, none⟩ = some (.string ⟨a_l1.toArray⟩) := (hBS.cell 6).trans rfl
      have g7 : ((wr.alloc (.cells #[.string ⟨#[]⟩, .string ⟨#[]⟩, .int .i64 0, .bool false, .string ⟨#[]⟩, .bool false, .string ⟨#[]⟩, .bool false, .string ⟨#[]⟩, .bool false, .string ⟨#[]⟩, .int .i64 0, .slice none 0 0] 39)).setRow wr.heap.size #[.string ⟨a_s.toArray⟩, .string ⟨a_p.toArray⟩, .int .i64 a_n, .bool a_v0, .string ⟨a_l0.toArray⟩, .bool a_v1, .string ⟨a_l1.toArray⟩, .bool a_v2, .string ⟨a_l2.toArray⟩, .bool a_v3, .string ⟨a_l3.toArray⟩, .int .i64 cl, .slice sa cs.length sc]).cell? ⟨wr.heap.size, 7, none⟩ = some (.bool a_v2) := (hBS.cell 7).trans rfl
      have g8 : ((wr.alloc (.cells #[.string ⟨#[]⟩, .string ⟨#[]⟩, .int .i64 0, .bool false, .string ⟨#[]⟩, .bool false, .string ⟨#[]⟩, .bool false, .string ⟨#[]⟩, .bool false, .string ⟨#[]⟩, .int .i64 0, .slice none 0 0] 39)).setRow wr.heap.size #[.string ⟨a_s.toArray⟩, .string ⟨a_p.toArray⟩, .int .i64 a_n, .bool a_v0, .string ⟨a_l0.toArray⟩, .bool a_v1, .string ⟨a_l1.toArray⟩, .bool a_v2, .string ⟨a_l2.toArray⟩, .bool a_v3, .string ⟨a_l3.toArray⟩, .int .i64 cl, .slice sa cs.length sc]).cell? ⟨wr.heap.size, 8, none⟩ = some (.string ⟨a_l2.toArray⟩) := (hBS.cell 8).trans rfl
      have g9 : ((wr.alloc (.cells #[.string ⟨#[]⟩, .string ⟨#[]⟩, .int .i64 0, .bool false, .string ⟨#[]⟩, .bool false, .string ⟨#[]⟩, .bool false, .string ⟨#[]⟩, .bool false, .string ⟨#[]⟩, .int .i64 0, .slice none 0 0] 39)).setRow wr.heap.size #[.string ⟨a_s.toArray⟩, .string ⟨a_p.toArray⟩, .int .i64 a_n, .bool a_v0, .string ⟨a_l0.toArray⟩, .bool a_v1, .string ⟨a_l1.toArray⟩, .bool a_v2, .string ⟨a_l2.toArray⟩, .bool a_v3, .string ⟨a_l3.toArray⟩, .int .i64 cl, .slice sa cs.length sc]).cell? ⟨wr.heap.size, 9, none⟩ = some (.bool a_v3) := (hBS.cell 9).trans rfl
      have g10 : ((wr.alloc (.cells #[.string ⟨#[]⟩, .string ⟨#[]⟩, .int .i64 0, .bool false, .string ⟨#[]⟩, .bool false, .string ⟨#[]⟩, .bool false, .string ⟨#[]⟩, .bool false, .string ⟨#[]⟩, .int .i64 0, .slice none 0 0] 39)).setRow wr.heap.size #[.string ⟨a_s.toArray⟩, .string ⟨a_p.toArray⟩, .int .i64 a_n, .bool a_v0, .string ⟨a_l0.toArray⟩, .bool a_v1, .string ⟨a_l1.toArray⟩, .bool a_v2, .string ⟨a_l2.toArray⟩, .bool a_v3, .string ⟨a_l3.toArray⟩, .int .i64 cl, .slice sa cs.length sc]).cell? ⟨wr.heap.size, 10, none⟩ = some (.string ⟨a_l3.toArray⟩) := (hBS.cell 10).trans rfl
      have g11 : ((wr.alloc (.cells #[.string ⟨#[]⟩, .string ⟨#[]⟩, .int .i64 0, .bool false, .string ⟨#[]⟩, .bool false, .string ⟨#[]⟩, .bool false, .string ⟨#[]⟩, .bool false, .string ⟨#[]⟩, .int .i64 0, .slice none 0 0] 39)).setRow wr.heap.size #[.string ⟨a_s.toArray⟩, .string ⟨a_p.toArray⟩, .int .i64 a_n, .bool a_v0, .string ⟨a_l0.toArray⟩, .bool a_v1, .string ⟨a_l1.toArray⟩, .bool a_v2, .string ⟨a_l2.toArray⟩, .bool a_v3, .string ⟨a_l3.toArray⟩, .int .i64 cl, .slice sa cs.length sc]).cell? ⟨wr.heap.size, 11, none⟩ = some (.int .i64 cl) := (hBS.cell 11).trans rfl
      have g12 : ((wr.alloc (.cells #[.string ⟨#[]⟩, .string ⟨#[]⟩, .int .i64 0, .bool false, .string ⟨#[]⟩, .bool false, .string ⟨#[]⟩, .bool false, .string ⟨#[]⟩, .bool false, .string ⟨#[]⟩, .int .i64 0, .slice none 0 0] 39)).setRow wr.heap.size #[.string ⟨a_s.toArray⟩, .string ⟨a_p.toArray⟩, .int .i64 a_n, .bool a_v0, .string ⟨a_l0.toArray⟩, .bool a_v1, .string ⟨a_l1.toArray⟩, .bool a_v2, .string ⟨a_l2.toArray⟩, .bool a_v3, .string ⟨a_l3.toArray⟩, .int .i64 cl, .slice sa cs.length sc]).cell? ⟨wr.heap.size, 12, none⟩ = some (.slice sa cs.length sc) := (hBS.cell 12).trans rfl
      have HFA := Lib.hid (fun W => rfact_any a_s a_p a_n a_v0 a_v1 a_v2 a_v3 a_l0 a_l1 a_l2 a_l3 W hfx)
      have HBS := Lib.hid hBS
      clear hBS hfx
      go_wp2_with (refine wpList_store_row rfl 39 (.tmp 4) (.tmp 15) rfl wr.heap.size #[.string ⟨a_s.toArray⟩, .string ⟨a_p.toArray⟩, .int .i64 a_n, .bool a_v0, .string ⟨a_l0.toArray⟩, .bool a_v1, .string ⟨a_l1.toArray⟩, .bool a_v2, .string ⟨a_l2.toArray⟩, .bool a_v3, .string ⟨a_l3.toArray⟩, .int .i64 cl, .slice sa cs.length sc] rfl rfl 39 #[.string ⟨#[]⟩, .string ⟨#[]⟩, .int .i64 0, .bool false, .string ⟨#[]⟩, .bool false, .string ⟨#[]⟩, .bool false, .string ⟨#[]⟩, .bool false, .string ⟨#[]⟩, .int .i64 0, .slice none 0 0] hnew.out sinfoM rfl hone.out ?_)
      generalize ((wr.alloc (.cells #[.string ⟨#[]⟩, .string ⟨#[]⟩, .int .i64 0, .bool false, .string ⟨#[]⟩, .bool false, .string ⟨#[]⟩, .bool false, .string ⟨#[]⟩, .bool false, .string ⟨#[]⟩, .int .i64 0, .slice none 0 0] 39)).setRow wr.heap.size #[.string ⟨a_s.toArray⟩, .string ⟨a_p.toArray⟩, .int .i64 a_n, .bool a_v0, .string ⟨a_l0.toArray⟩, .bool a_v1, .string ⟨a_l1.toArray⟩, .bool a_v2, .string ⟨a_l2.toArray⟩, .bool a_v3, .string ⟨a_l3.toArray⟩, .int .i64 cl, .slice sa cs.length sc]) = w4 at *
      refine (HFA.out _).mono ?_
      rintro e w5 ⟨rfl, hb⟩
      replace g11 := hb.cell g11
      replace g12 := hb.cell g12
      have hS5 := hS4.trans hb
      have hmb : mayB k (((a_s, a_p, a_n, (a_v0, a_l0), (a_v1, a_l1), (a_v2, a_l2), (a_v3, a_l3)) : Atm), cl, cs) = ((checkA ((a_s, a_p, a_n, (a_v0, a_l0), (a_v1, a_l1), (a_v2, a_l2), (a_v3, a_l3)) : Atm) == 0 && groundA ((a_s, a_p, a_n, (a_v0, a_l0), (a_v1, a_l1), (a_v2, a_l2), (a_v3, a_l3)) : Atm)) && (!decide (cl < -1) && (!decide (65536 < cl) && (!decide ((16 : Int) < (cs.length : Int)) && cs.all (citeB k))))) := by
        rw [mayB]
        have e2 : decide (-1 ≤ cl) = !decide (cl < -1) := by rw [Bool.eq_iff_iff]; simp
        have e3 : decide (cl ≤ 65536) = !decide (65536 < cl) := by rw [Bool.eq_iff_iff]; simp
        have e4 : decide (cs.length ≤ 16) = !decide ((16 : Int) < (cs.length : Int)) := by rw [Bool.eq_iff_iff]; simp; omega
        rw [e2, e3, e4, Bool.and_assoc]
      have HMB := Lib.hid hmb
      clear hmb g0 g1 g2 g3 g4 g5 g6 g7 g8 g9 g10
      generalize (checkA ((a_s, a_p, a_n, (a_v0, a_l0), (a_v1, a_l1), (a_v2, a_l2), (a_v3, a_l3)) : Atm) == 0 && groundA ((a_s, a_p, a_n, (a_v0, a_l0), (a_v1, a_l1), (a_v2, a_l2), (a_v3, a_l3)) : Atm)) = ff at *
      cases ff <;> cases h3 : decide (cl < -1) <;> cases h4 : decide (65536 < cl) <;> cases h5 : decide ((16 : Int) < (cs.length : Int))
      case true.false.false.false =>
        have hR0 : Hid (M = ((cs.drop 0).all (citeB k) && maysF (k + 1) (L.drop (k + 1)))) := by
          show _ = _
          rw [HMR.out, HMB.out, h3, h4, h5, List.drop_zero]; simp
        have HCW := Lib.hid (hcw.out.next hS5)
        clear HMR HMB HBS hcs4 hS4 HFA
        go_wp2_with fail
        go_loop [5] (fun q => ∃ m : Nat, m ≤ cs.length ∧ q = .int .i64 m ∧ Hid (M = ((cs.drop m).all (citeB k) && maysF (k + 1) (L.drop (k + 1))))) (fun q => cs.length - (intOf q).toNat)
        case atStart => exact ⟨0, Nat.zero_le _, rfl, hR0⟩
        case round =>
          clear hR0
          obtain ⟨m, hm, rfl, hres⟩ := hrel
          by_cases hltm : m < cs.length
          · obtain ⟨b2, o2, c2', he2, hcc2, hcells⟩ := HCW.out.some (by omega)
            cases he2
            have d := hcells m (by simpa using hltm)
            simp only [List.getElem_map, intV] at d
            have hst2 : M = (citeB k cs[m] && ((cs.drop (m + 1)).all (citeB k) && maysF (k + 1) (L.drop (k + 1)))) := by
              rw [hres.out, List.drop_eq_getElem_cons hltm, List.all_cons, Bool.and_assoc]
            have HST := Lib.hid hst2
            clear hcells hst2 hres
            generalize cs[m] = cc at *
            have hcb : Hid (citeB k cc = (!decide (cc < 0) && !decide ((k : Int) ≤ cc))) := by
              show _ = _
              rw [citeB, Bool.eq_iff_iff]; simp
            cases g1 : decide (cc < 0) <;> cases g2 : decide ((k : Int) ≤ cc)
            case false.false =>
              have HN : Hid (M = ((cs.drop (m + 1)).all (citeB k) && maysF (k + 1) (L.drop (k + 1)))) := by show _ = _; rw [HST.out, hcb.out, g1, g2]; rfl
              go_wp2_with fail
              go_round
              case rel => exact ⟨m + 1, by omega, by go_num, HN⟩
              case measure => simp [intOf]; omega
            all_goals
              have HN : Hid (M = false) := by show _ = _; rw [HST.out, hcb.out, g1, g2]; simp
              go_wp2_with fail
              go_ret
              exact ⟨ret_bool HN.out.symm, hS5⟩
          · have HN : Hid (M = maysF (k + 1) (L.drop (k + 1))) := by
              show _ = _
              rw [hres.out, List.drop_eq_nil_of_le (by omega), List.all_nil, Bool.true_and]
            clear hres
            go_wp2_with fail
            go_roundw
            case rel => exact ⟨k + 1, by omega, by go_num, hS5, HN⟩
            case measure => simp [intOf]; omega
      all_goals
        have hMf : Hid (M = false) := by show _ = _; rw [HMR.out, HMB.out, h3, h4, h5]; simp
        go_wp2_with fail
        go_ret
        exact ⟨ret_bool hMf.out.symm, hS5⟩
    · have HN : Hid (M = true) := by
        show _ = _
        rw [hres.out, List.drop_eq_nil_of_le (by omega)]; rfl
      have hle : (L.length : Int) ≤ 1048576 := by omega
      clear hres
      go_wp2_with fail
      go_ret
      exact ⟨ret_bool HN.out.symm, hS⟩
end Go.Proofs.YtiadjmfdahendaaDoor

namespace Go.Proofs.YtiadjmfdahendaaDoor
open Go.RowKit

set_option maxHeartbeats 4000000 in
set_option maxRecDepth 100000 in
theorem rbytesS_any (v : Value) (L : List Stp) (w : World) (hv : StpRow w v L) (hn : L.length ≤ 10000) (hc : ∀ x ∈ L, x.2.2.length ≤ 20) (hF : FitsS L) (hlen : maysB L = true → (stepsB L).length ≤ 500000) :
    Calls Tryd.prog 24 #[v] w (CertBP L w) := by
  have HMay := Lib.hid (rmay_any v L w hv hn hc hF)
  obtain ⟨a, c, rfl⟩ := hv.form
  have HV := Lib.hid hv
  have HC := Lib.hid hc
  clear hv hc hF
  cases hm : maysB L
  · have HP2 : Hid (∀ W, Since w W → CertBP L w (.returned (.tuple #[.string ⟨#[]⟩, .int .i64 2])) W) := by
      intro W hs
      rw [CertBP, hm]; exact ⟨rfl, hs⟩
    rw [hm] at HMay
    go_enter Tryd.func24, Tryd.ntmps24
    go_wp2_with fail
    refine HMay.out.mono ?_
    rintro e w1 ⟨rfl, hb⟩
    go_wp2_with fail
    go_ret2
    exact HP2.out _ hb
  have hlen := hlen hm
  have hw1 : IntKind.u32.wrap (L.length : Int) = (L.length : Int) := u32_small (by omega) (by omega)
  obtain ⟨T, hT⟩ : ∃ T, Hid (T = stepsB L) := ⟨_, rfl⟩
  obtain ⟨X, hX⟩ : ∃ X, Hid (X = numL L.length) := ⟨_, rfl⟩
  have hT0 : T = X ++ (L.drop 0).flatMap stepB := by rw [hT.out, hX.out, List.drop_zero]; rfl
  have hM0 : maysF 0 (L.drop 0) = true := by rw [maysB, decide_eq_true (by omega)] at hm; simpa using hm
  have HP1 : Hid (∀ W, Since w W → CertBP L w (.returned (.tuple #[.string ⟨T.toArray⟩, .int .i64 0])) W) := by
    intro W hs
    rw [CertBP, hm, ← hT.out]; exact ⟨rfl, hs⟩
  rw [← hT.out] at hlen
  rw [hm] at HMay
  have HN := Lib.hid (fun W => rnumber_any L.length W (by omega))
  rw [← hX.out] at HN
  have HT0 := Lib.hid hT0
  have HM0 := Lib.hid hM0
  clear hT hX hT0 hM0 hm
  go_enter Tryd.func24, Tryd.ntmps24
  go_wp2_with fail
  refine HMay.out.mono ?_
  rintro e w1 ⟨rfl, hb⟩
  go_wp2_with fail
  refine (HN.out _).mono ?_
  rintro e w2 ⟨rfl, hb2⟩
  have hS := hb.trans hb2
  clear hb hb2 HN HMay hw1
  go_wp2_with fail
  go_loopw [4, 5] (fun u i wr => ∃ (k : Nat) (acc : List UInt8), k ≤ L.length ∧ i = .int .i64 k ∧ u = .string ⟨acc.toArray⟩ ∧ Since w wr ∧ Hid (T = acc ++ (L.drop k).flatMap stepB) ∧ Hid (maysF k (L.drop k) = true)) (fun _ i _ => L.length - (intOf i).toNat)
  case atStart => exact ⟨0, X, by omega, rfl, rfl, hS, HT0.out, HM0.out⟩
  case round =>
    clear hS HT0 HM0
    obtain ⟨k, acc, hk, rfl, rfl, hS, hres, hmay⟩ := hrel
    by_cases hlt : k < L.length
    · obtain ⟨b, o, he, hat⟩ := HV.out.get (by omega)
      cases he
      have hst := hat k hlt
      have hmr : mayB k L[k] = true ∧ maysF (k + 1) (L.drop (k + 1)) = true := by
        have := maysF_drop (i := 0) hlt
        rw [Nat.zero_add, Nat.zero_add] at this
        have h2 := hmay.out
        rw [this, Bool.and_eq_true] at h2
        exact h2
      have htr : T = (acc ++ stepB L[k]) ++ (L.drop (k + 1)).flatMap stepB := by
        rw [hres.out, List.drop_eq_getElem_cons hlt, List.flatMap_cons, List.append_assoc]
      have hbl : acc.length + (stepB L[k]).length ≤ 500000 := by
        have := congrArg List.length htr
        rw [List.length_append, List.length_append] at this
        omega
      obtain ⟨hm1, hm2⟩ := hmr
      have HM2 := Lib.hid hm2
      have HTR := Lib.hid htr
      clear hat hm2 htr hres hmay
      generalize L[k] = x at *
      obtain ⟨⟨a_s, a_p, a_n, ⟨a_v0, a_l0⟩, ⟨a_v1, a_l1⟩, ⟨a_v2, a_l2⟩, ⟨a_v3, a_l3⟩⟩, cl, cs⟩ := x
      obtain ⟨q1, q2, q3, q4, q5⟩ := may_cl hm1
      simp only at q1 q2 q3 q4 q5
      obtain ⟨a_c0, a_c1, a_c2, a_c3, a_c4, a_c5, a_c6, a_c7, a_c8, a_c9, a_c10⟩ := (hst.next hS).atom
      obtain ⟨_, k1, sa, sc, k2, hcs⟩ := hst
      have k1' : wr.cell? ⟨b, o + k * 13 + 11, none⟩ = some (.int .i64 cl) := hS.cell k1
      have k2' : wr.cell? ⟨b, o + k * 13 + 12, none⟩ = some (.slice sa cs.length sc) := hS.cell k2
      have hcw : Hid (CiteRow w (.slice sa cs.length sc) cs) := hcs
      have HK2 := Lib.hid k2
      clear k1 k2 hcs hm1
      obtain ⟨n0, n4, nc⟩ := checkA_range q1
      have HB := Lib.hid (fun W => rbytes_any a_s a_p a_n a_v0 a_v1 a_v2 a_v3 a_l0 a_l1 a_l2 a_l3 W (valid_light q1) (countA ((a_s, a_p, a_n, (a_v0, a_l0), (a_v1, a_l1), (a_v2, a_l2), (a_v3, a_l3)) : Atm)) (countA_le _) nc.symm)
      obtain ⟨N1, hN1⟩ : ∃ N, Hid (N = numL (cl + 1).toNat) := ⟨_, rfl⟩
      obtain ⟨N2, hN2⟩ : ∃ N, Hid (N = atomB ((a_s, a_p, a_n, (a_v0, a_l0), (a_v1, a_l1), (a_v2, a_l2), (a_v3, a_l3)) : Atm)) := ⟨_, rfl⟩
      obtain ⟨N3, hN3⟩ : ∃ N, Hid (N = numL cs.length) := ⟨_, rfl⟩
      have HX1 := Lib.hid (fun W => rnumber_any (cl + 1).toNat W (by omega))
      have HX3 := Lib.hid (fun W => rnumber_any cs.length W (by omega))
      rw [← hN1.out, Int.toNat_of_nonneg (by omega)] at HX1
      rw [← hN2.out] at HB
      rw [← hN3.out] at HX3
      have hstp : stepB (((a_s, a_p, a_n, (a_v0, a_l0), (a_v1, a_l1), (a_v2, a_l2), (a_v3, a_l3)) : Atm), cl, cs) = (N1 ++ (N2 ++ N3)) ++ citesB cs := by rw [hN1.out, hN2.out, hN3.out]; rfl
      rw [hstp] at hbl HTR
      simp only [List.length_append] at hbl
      have ew1 : IntKind.i64.wrap (cl + 1) = cl + 1 := IntWalk.i64_in _ (by omega)
      have ew2 : IntKind.u32.wrap (cl + 1) = cl + 1 := IntWalk.u32_in _ (by omega)
      have ew3 : IntKind.u32.wrap (cs.length : Int) = (cs.length : Int) := IntWalk.u32_in _ (by omega)
      obtain ⟨Y1, hY1⟩ : ∃ Y, Hid (Y = acc ++ N1) := ⟨acc ++ N1, rfl⟩
      obtain ⟨Y2, hY2⟩ : ∃ Y, Hid (Y = Y1 ++ N2) := ⟨Y1 ++ N2, rfl⟩
      obtain ⟨Y3, hY3⟩ : ∃ Y, Hid (Y = Y2 ++ N3) := ⟨Y2 ++ N3, rfl⟩
      have y1 : Y1.length = acc.length + N1.length := by rw [hY1.out, List.length_append]
      have y2 : Y2.length = Y1.length + N2.length := by rw [hY2.out, List.length_append]
      have y3 : Y3.length = Y2.length + N3.length := by rw [hY3.out, List.length_append]
      have ha1 := fun W => runcat (by rw [hY1.out]; exact cat_bytes acc N1 : ByteArray.mk acc.toArray ++ ByteArray.mk N1.toArray = ByteArray.mk Y1.toArray) (by show acc.length + N1.length ≤ 1000000; omega) W
      have ha2 := fun W => runcat (by rw [hY2.out]; exact cat_bytes Y1 N2 : ByteArray.mk Y1.toArray ++ ByteArray.mk N2.toArray = ByteArray.mk Y2.toArray) (by show Y1.length + N2.length ≤ 1000000; omega) W
      have ha3 := fun W => runcat (by rw [hY3.out]; exact cat_bytes Y2 N3 : ByteArray.mk Y2.toArray ++ ByteArray.mk N3.toArray = ByteArray.mk Y3.toArray) (by show Y2.length + N3.length ≤ 1000000; omega) W
      have HTR3 : Hid (T = (Y3 ++ citesB cs) ++ (L.drop (k + 1)).flatMap stepB) := by
        show _ = _
        rw [HTR.out, hY3.out, hY2.out, hY1.out]; simp only [List.append_assoc]
      clear HTR hstp nc n0 n4 q1 hN1 hN2 hN3 hY1 hY2 hY3 q2 q3
      have hci : (k : Int) < (L.length : Int) := by omega
      go_wp2_with fail
      go_region_held3 (fun W => W.cell? ⟨b, o + k * 13, none⟩ = some (.string ⟨a_s.toArray⟩) ∧ W.cell? ⟨b, o + k * 13 + 1, none⟩ = some (.string ⟨a_p.toArray⟩) ∧ W.cell? ⟨b, o + k * 13 + 2, none⟩ = some (.int .i64 a_n) ∧ W.cell? ⟨b, o + k * 13 + 3, none⟩ = some (.bool a_v0) ∧ W.cell? ⟨b, o + k * 13 + 4, none⟩ = some (.string ⟨a_l0.toArray⟩) ∧ W.cell? ⟨b, o + k * 13 + 5, none⟩ = some (.bool a_v1) ∧ W.cell? ⟨b, o + k * 13 + 6, none⟩ = some (.string ⟨a_l1.toArray⟩) ∧ W.cell? ⟨b, o + k * 13 + 7, none⟩ = some (.bool a_v2) ∧ W.cell? ⟨b, o + k * 13 + 8, none⟩ = some (.string ⟨a_l2.toArray⟩) ∧ W.cell? ⟨b, o + k * 13 + 9, none⟩ = some (.bool a_v3) ∧ W.cell? ⟨b, o + k * 13 + 10, none⟩ = some (.string ⟨a_l3.toArray⟩) ∧ W.cell? ⟨b, o + k * 13 + 11, none⟩ = some (.int .i64 cl) ∧ W.cell? ⟨b, o + k * 13 + 12, none⟩ = some (.slice sa cs.length sc) ∧ Since w W)
        ((go_split_ands; (refine ⟨?_, ?_, ?_, ?_, ?_, ?_, ?_, ?_, ?_, ?_, ?_, ?_, ?_, ?_⟩) <;> (first | assumption | (refine Since.drew ?_; assumption) | (refine hb2.cell ?_; assumption) | (refine Since.trans ?_ hb2; assumption))))
        (first
          | (go_at_call 37; ((with_reducible refine (HB.out _).mono ?_); rintro e w2 ⟨rfl, hb2⟩))
          | (go_at_call 26; first | ((with_reducible refine (HX1.out _).mono ?_); rintro e w2 ⟨rfl, hb2⟩) | ((with_reducible refine (HX3.out _).mono ?_); rintro e w2 ⟨rfl, hb2⟩)))
      go_split_ands
      rename_i hS7
      have hR7 : Hid (T = (Y3 ++ citesB (cs.drop 0)) ++ (L.drop (k + 1)).flatMap stepB) := HTR3
      have hY7 : Y3.length ≤ 500000 := by omega
      clear HB HX1 HX3 ha1 ha2 ha3 ew1 ew2 ew3 hS HTR3
      go_wp2_with fail
      go_loopw [4, 6] (fun u m wr => ∃ (q : Nat) (acc2 : List UInt8), q ≤ cs.length ∧ m = .int .i64 q ∧ u = .string ⟨acc2.toArray⟩ ∧ Since w wr ∧ Hid (T = (acc2 ++ citesB (cs.drop q)) ++ (L.drop (k + 1)).flatMap stepB)) (fun _ m _ => cs.length - (intOf m).toNat)
      case atStart => exact ⟨0, Y3, by omega, rfl, rfl, hS7, hR7.out⟩
      case round =>
        clear hS7 hR7
        obtain ⟨q, acc2, hq, rfl, rfl, hS8, hres8⟩ := hrel
        have k2' := hS8.cell HK2.out
        by_cases hltq : q < cs.length
        · have hltq2 : (q : Int) < (cs.length : Int) := by omega
          obtain ⟨b2, o2, c2', he2, hcc2, hcells⟩ := (hcw.out.next hS8).some (by omega)
          cases he2
          have d := hcells q (by simpa using hltq)
          simp only [List.getElem_map, intV] at d
          have hq5 := q5 _ (List.getElem_mem hltq)
          have hst2 : T = ((acc2 ++ numL cs[q].toNat) ++ citesB (cs.drop (q + 1))) ++ (L.drop (k + 1)).flatMap stepB := by
            rw [hres8.out, List.drop_eq_getElem_cons hltq, citesB, List.flatMap_cons, citesB]; simp only [List.append_assoc]
          have HST := Lib.hid hst2
          have hl9 := congrArg List.length hst2
          simp only [List.length_append] at hl9
          clear hcells hst2 hres8
          generalize cs[q] = cc at *
          have HX := Lib.hid (fun W => rnumber_any cc.toNat W (by omega))
          rw [Int.toNat_of_nonneg hq5.1] at HX
          generalize numL cc.toNat = N at *
          have ew2 : IntKind.u32.wrap cc = cc := IntWalk.u32_in _ (by omega)
          obtain ⟨Y, hY⟩ : ∃ Y, Hid (Y = acc2 ++ N) := ⟨acc2 ++ N, rfl⟩
          have ha := fun W => runcat (by rw [hY.out]; exact cat_bytes acc2 N : ByteArray.mk acc2.toArray ++ ByteArray.mk N.toArray = ByteArray.mk Y.toArray) (by show acc2.length + N.length ≤ 1000000; omega) W
          have HN9 : Hid (T = (Y ++ citesB (cs.drop (q + 1))) ++ (L.drop (k + 1)).flatMap stepB) := by
            show _ = _
            rw [hY.out]; exact HST.out
          clear HST hY hl9
          go_wp2_with fail
          refine (HX.out _).mono ?_
          rintro e w9 ⟨rfl, hb9⟩
          go_wp2_with fail
          go_roundw
          case rel => exact ⟨q + 1, Y, by omega, by go_num, rfl, hS8.trans hb9, HN9.out⟩
          case measure => simp [intOf]; omega
        · have hltq2 : ¬ (q : Int) < (cs.length : Int) := by omega
          have HN9 : Hid (T = acc2 ++ (L.drop (k + 1)).flatMap stepB) := by
            show _ = _
            rw [hres8.out, List.drop_eq_nil_of_le (by omega)]; simp [citesB]
          clear hres8
          go_wp2_with fail
          go_roundw
          case rel => exact ⟨k + 1, acc2, by omega, by go_num, rfl, hS8, HN9.out, HM2.out⟩
          case measure => simp [intOf]; omega
    · have HT9 : Hid (T = acc) := by
        show _ = _
        rw [hres.out, List.drop_eq_nil_of_le (by omega)]; simp
      have ht := HT9.out
      subst ht
      clear hres
      go_wp2_with fail
      go_ret2
      exact HP1.out _ hS
end Go.Proofs.YtiadjmfdahendaaDoor
