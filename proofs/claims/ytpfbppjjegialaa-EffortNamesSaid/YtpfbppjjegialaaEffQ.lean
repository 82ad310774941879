/- What a function that returns an effort and an error returns. -/
import Derived.Test.YtpfbppjjegialaaKPlain
import Derived.Test.YtpfbppjjegialaaEffP
namespace Go.Proofs.Ytpfbppjjegialaa
open Go.RowKit

def effV (s f n : Int) : Value := .agg #[.int .i64 s, .int .i64 f, .int .i64 n]
/-- What a function that returns an effort and an error returns. -/
def effRes (ad : List Int) : Value := .tuple #[effV (ofS ad) (ofF ad) (ofN ad), .int .i64 (ofErr ad)]
theorem effRes_err {ad : List Int} {e : Int} (h : ofErr ad = e) (h0 : e ≠ 0) : effRes ad = .tuple #[effV 0 0 0, .int .i64 e] := by
  simp [effRes, ofS, ofF, ofN, h, h0]
theorem effRes_ok {ad : List Int} (h : ofErr ad = 0) : effRes ad = .tuple #[effV (eStores ad) (eFlushes ad) (eFences ad), .int .i64 0] := by
  simp [effRes, ofS, ofF, ofN, h]

end Go.Proofs.Ytpfbppjjegialaa
