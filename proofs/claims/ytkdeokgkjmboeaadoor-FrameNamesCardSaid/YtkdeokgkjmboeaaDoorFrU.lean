/- FrameNames' single calls: each at its own arguments. -/
import Derived.Test.YtkdeokgkjmboeaaDoorFrT
namespace Go.Proofs.YtkdeokgkjmboeaaDoor
open Go.RowKit
def exA : Atm := ([97], [112], 0, (false, []), (false, []), (false, []), (false, []))
def exB : Atm := ([97], [112], 1, (false, [99]), (false, []), (false, []), (false, []))
def exX : Rsp := (0, false, [exB], [122, 122])
theorem n_rd1 : readRq [3, 1, 97, 1, 112, 0] = some (3, exA) := readRq_iff.2 ⟨by decide +kernel, by decide +kernel⟩
theorem n_rd2 : readRq [4, 1, 97, 1, 112, 0] = none := by decide +kernel
theorem n_rd3 : readRq [3, 1, 97, 1, 112, 0, 120] = none := by decide +kernel
theorem n_rd4 : readRq [] = none := by decide +kernel
theorem n_rq : mayRq 1 zeroAtm = false := by decide +kernel
theorem n_ok : mayRs exX = true := by decide +kernel
theorem n_no1 : mayRs (0, true, [], [122]) = false := by decide +kernel
theorem n_no2 : mayRs (6, true, [], []) = false := by decide +kernel
theorem n_no3 : mayRs (17, false, [], []) = false := by decide +kernel
theorem n_no4 : mayRs (12, false, [], []) = true := by decide +kernel
theorem n_rs1 : readRs [12, 0] = none := by decide +kernel
theorem n_rs2 : readRs [0, 2, 0, 0] = none := by decide +kernel
theorem n_rs3 : readRs [0, 1, 0, 0] = some (0, true, [], []) := by
  have h := readRs_rsB (x := (0, true, [], [])) (by decide +kernel) (by decide) (by decide)
  rwa [show rsB (0, true, [], []) = [0, 1, 0, 0] by decide +kernel] at h
theorem n_same1 : sameR exX exX = true := sameR_self _
theorem n_same2 : sameR exX (0, true, [], []) = false := by decide +kernel
theorem n_bytes : rsB exX = [0, 0, 1, 1, 97, 1, 112, 1, 0, 1, 99, 2, 122, 122] := by decide +kernel
theorem n_back : readRs [0, 0, 1, 1, 97, 1, 112, 1, 0, 1, 99, 2, 122, 122] = some exX := by
  have h := readRs_rsB n_ok (by decide) (by decide)
  rwa [n_bytes] at h
theorem n_err : rsB (12, false, [], []) = [12] := by decide +kernel
end Go.Proofs.YtkdeokgkjmboeaaDoor
