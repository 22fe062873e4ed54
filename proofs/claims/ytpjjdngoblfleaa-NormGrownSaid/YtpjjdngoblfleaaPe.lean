/- The pure run: all of it. -/
import Derived.Test.YtpjjdngoblfleaaVb
