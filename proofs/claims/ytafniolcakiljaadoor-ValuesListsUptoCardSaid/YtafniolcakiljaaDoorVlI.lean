/- Part 9 of the proof: the plain law. It holds for every input, without conditions. -/
import Derived.Test.YtafniolcakiljaaDoorVlA
import Derived.Test.YtafniolcakiljaaDoorVlB
import Derived.Test.YtafniolcakiljaaDoorVlC
import Derived.Test.YtafniolcakiljaaDoorVlD
import Derived.Test.YtafniolcakiljaaDoorVlE
import Derived.Test.YtafniolcakiljaaDoorVlF
import Derived.Test.YtafniolcakiljaaDoorVlG
import Derived.Test.YtafniolcakiljaaDoorVlH

