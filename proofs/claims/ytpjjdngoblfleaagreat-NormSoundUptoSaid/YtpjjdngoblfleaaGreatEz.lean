/- What is told of the world where calls begin: nothing. -/
import Derived.Test.YtpjjdngoblfleaaGreatZs
import Derived.Test.YtpjjdngoblfleaaGreatVb
namespace Go.Proofs.YtpjjdngoblfleaaGreat
def EZ:Env:=fun _ _ _=>True
theorem EZ.up:Up EZ:=⟨fun _ _ _ _ _ h=>h,fun _ _ _ _ _ h=>h⟩
end Go.Proofs.YtpjjdngoblfleaaGreat
