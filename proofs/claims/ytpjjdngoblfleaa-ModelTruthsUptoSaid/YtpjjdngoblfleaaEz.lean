/- What is told of the world where calls begin: nothing. -/
import Derived.Test.YtpjjdngoblfleaaZs
import Derived.Test.YtpjjdngoblfleaaVb
namespace Go.Proofs.Ytpjjdngoblfleaa
/-- What is told of the program's table. -/
def EZ : Env := fun _ _ _ => True
theorem EZ.up : Up EZ := ⟨fun _ _ _ _ _ h => h, fun _ _ _ _ _ h => h⟩
end Go.Proofs.Ytpjjdngoblfleaa
