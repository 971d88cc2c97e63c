-- All of these words.
import Derived.Test.YtjkeagcenmmknaaV0
