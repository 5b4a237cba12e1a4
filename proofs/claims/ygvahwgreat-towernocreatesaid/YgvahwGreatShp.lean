import Derived.Test.YgvahwGreatBlk
