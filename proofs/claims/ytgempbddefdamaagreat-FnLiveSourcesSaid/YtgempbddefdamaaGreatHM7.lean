/- Helper of the proof (see the last text). -/
import Derived.Test.YtgempbddefdamaaGreatHM6
set_option linter.unusedVariables false
set_option linter.unusedSimpArgs false
namespace Go.LN
open Go.Proofs
set_option maxRecDepth 20000
def pV (nest:(List zI)) (p1:(List Int)) (t26:Int):Option (Out Unit (Bool)):=do
 if (decide (t26 < (nest.length:Int))) then
  let x←idx nest t26
  let l←slc p1 0 t26
  let (y3,y4)←qT x l
  let t52←(do
    let x1←idx p1 t26
    if (decide (x1 < y3)) then
     pure true
    else
     let x2←idx p1 t26
     pure (decide (x2 ≥ y4))
      : Option Bool)
  if t52 then
   pure (.ret false)
  else
   pV nest p1 (W (t26 + 1))
 else
  pure (.done ())
 partial_fixpoint
def jU (nest:(List zI)) (p1:(List Int)):Option (Bool):=do
 let t23←(do
   let y←qS nest
   if (!y) then
    pure true
   else
    let y1←oP p1
    if (!y1) then
     pure true
    else
     pure ((p1.length:Int) != (nest.length:Int))
     : Option Bool)
 if t23 then
  pure false
 else
  match←pV nest p1 0 with
  | .ret r0=>pure r0
  | .done _ =>
   pure true
end Go.LN
