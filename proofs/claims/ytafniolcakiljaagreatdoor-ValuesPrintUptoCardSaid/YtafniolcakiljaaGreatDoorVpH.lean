/- Part 8 of the proof: the plain law. It holds for every input, without conditions. -/
import Derived.Test.YtafniolcakiljaaGreatDoorVpA
import Derived.Test.YtafniolcakiljaaGreatDoorVpB
import Derived.Test.YtafniolcakiljaaGreatDoorVpC
import Derived.Test.YtafniolcakiljaaGreatDoorVpD
import Derived.Test.YtafniolcakiljaaGreatDoorVpE
import Derived.Test.YtafniolcakiljaaGreatDoorVpF
import Derived.Test.YtafniolcakiljaaGreatDoorVpG

