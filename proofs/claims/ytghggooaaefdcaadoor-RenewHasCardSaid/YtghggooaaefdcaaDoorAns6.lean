
/- The walk of layer 20: what is given of an entry, put together. -/
import Derived.Test.YtghggooaaefdcaaDoorAns4
import Derived.Test.YtghggooaaefdcaaDoorAns5
namespace Go.Dr
def ansN (met : Bool) (st : Int) : Int := if met = true then 304 else st
def ansB (met : Bool) (m body : Bytes) : Bytes := if met = true then [] else bodyF m body
end Go.Dr
namespace Go.Proofs.YtghggooaaefdcaaDoor
open Go.RowKit Go.Dr
def ansL (met : Bool) (st : Int) (lf : List F) (n age : Nat) (who : Bytes) : List F := (if met = true then lf.filter toldB else outF st lf n) ++ [ageFld age] ++ [viaF (viaT who)]

theorem Answer_any (r : Rq) (key body : Bytes) (vp vf : Value) (st asked came now : Int) (lr lf : List F) (who : Bytes)
    (w : World) (hr : Fs w.heap.size w r.v lr) (hf : Fs w.heap.size w vf lf) (hl : fsum lr ≤ 1099511627776) (hl2 : fsum lf ≤ 549755813888) (hb : body.length ≤ 1099511627776) (hw : who.length ≤ 1000) :
    Calls Tryd.prog 35 #[r.val, .agg #[S key, vp, .int .i64 st, vf, S body, .int .i64 asked, .int .i64 came], .int .i64 now, S who] w (RetAns w (ansN (metF r.m st lr lf came) st) (ansL (metF r.m st lr lf came) st lf body.length (ageF lf asked came now) who) (ansB (metF r.m st lr lf came) r.m body)) := by
  cases hM : metF r.m st lr lf came with
  | true => exact AnswerMet r key body vp vf st asked came now lr lf who hM w hr hf hl hl2 hb hw
  | false =>
    cases hx : hasB (without lf [ageT]) lenT with
    | true => exact AnswerHas r key body vp vf st asked came now lr lf who hM hx w hr hf hl hl2 hb hw
    | false =>
      by_cases hst : st = 204
      · exact Answer204 r key body vp vf st asked came now lr lf who hM hx hst w hr hf hl hl2 hb hw
      · exact AnswerLen r key body vp vf st asked came now lr lf who hM hx hst w hr hf hl hl2 hb hw
end Go.Proofs.YtghggooaaefdcaaDoor
