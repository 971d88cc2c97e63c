-- All of these words.
import Derived.Test.YtbpkngahnmoocaaDoorV0
