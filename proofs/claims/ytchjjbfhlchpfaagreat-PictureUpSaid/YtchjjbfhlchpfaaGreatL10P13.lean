/- DERIVED: THE SHELF's CONTRACTS AT THIS DUMP, IN PLAIN WORDS (tools/lay-plain.mjs out of 'ShSort0.lean', which tools/lay-shelf.mjs wrote): THE SAME DECLARATIONS UNDER THE SAME NAMES: 'import', 'namespace', 'open', 'def', 'theorem' AND NOTHING ELSE: no command of the shelf's: FOR A HAND-IN. Each laying: the table of numbers ('.._ren') and one theorem, a field a fact of the dump's own or the kernel's comparison; each contract: ONE APPLICATION. -/
import Derived.Shelf.SlGeneric
import Derived.Shelf.SortM.Plain
import Derived.Shelf.SortM.SortNone
import Derived.Ground.SlgmProg
import Derived.Test.YtchjjbfhlchpfaaGreatProg
import Derived.Test.YtchjjbfhlchpfaaGreatL10P12
set_option linter.unusedSimpArgs false
set_option linter.unusedVariables false
namespace Go.Proofs
open Go.Shelf
def Tryz.Ik:Go.Shelf.Ren:=⟨fun|5=>170|8=>100|7=>196|19=>157|20=>158|10=>203|11=>204|12=>205|13=>206|14=>207|15=>208|16=>209|17=>210|18=>211|30=>213|31=>187|32=>188|33=>214|34=>215|35=>103|40=>216|n=>n,fun|23=>31|25=>3|3=>3|32=>142|22=>31|0=>0|44=>199|46=>48|4=>4|36=>193|35=>192|41=>117|5=>5|9=>9|53=>218|57=>222|63=>230|64=>38|n=>n,fun|n=>n⟩
end Go.Proofs
