/- Part 9 of the proof: the plain law. It holds for every input, without conditions. -/
import Derived.Test.YtafniolcakiljaaDoorVtA
import Derived.Test.YtafniolcakiljaaDoorVtB
import Derived.Test.YtafniolcakiljaaDoorVtC
import Derived.Test.YtafniolcakiljaaDoorVtD
import Derived.Test.YtafniolcakiljaaDoorVtE
import Derived.Test.YtafniolcakiljaaDoorVtF
import Derived.Test.YtafniolcakiljaaDoorVtG
import Derived.Test.YtafniolcakiljaaDoorVtH

