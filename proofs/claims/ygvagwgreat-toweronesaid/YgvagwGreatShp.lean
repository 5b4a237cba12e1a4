import Derived.Test.YgvagwGreatBlk
