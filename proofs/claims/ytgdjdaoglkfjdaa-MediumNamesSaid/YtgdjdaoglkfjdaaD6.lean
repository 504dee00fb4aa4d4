/- The other world of the chapter. -/
import Derived.Test.YtgdjdaoglkfjdaaD5
namespace Go.Proofs.Ytgdjdaoglkfjdaa
open Go Go.RowKit Go.Proofs.Ytgdjdaoglkfjdaa.Vc
def roA : Int → Nat → Int := setA (setA (setA (setA (setA (setA (setA (setA (setA (setA (setA (setA zA 0 0 (-10000)) 0 1 0) 0 2 300) 0 3 1) 1 0 0) 1 1 0) 1 2 300) 1 3 1) 2 0 10000) 2 1 0) 2 2 300) 2 3 1
end Go.Proofs.Ytgdjdaoglkfjdaa
